/- Texts that the row needs: words on memory and rows, the contracts of the functions it reaches, and the plain lemmas on what they compute. -/
import Derived.Shelf.GgSortFunc.Tiny
import Derived.Test.YtaofjgnhapnndaaXklaj
set_option maxHeartbeats 8000000
set_option maxRecDepth 100000
open Go.Proofs.YtaofjgnhapnndaaFkl
namespace Go.Proofs.Ytaofjgnhapnndaa.Q
open Go.RowKit Go.Proofs.YtaofjgnhapnndaaW.PrintWords Go.Proofs.YtaofjgnhapnndaaW.PrintLast Go.Proofs.YtaofjgnhapnndaaW.PrintMore
set_option linter.unusedVariables false
set_option linter.unusedSimpArgs false
open Go.Shelf Go.Lib Go.Sort
theorem vY {w : World} {os : Array Obj} {k : Nat} (h : k < w.heap.size) : (Sort.grow w os).heap[k]? = w.heap[k]? := by
 unfold Sort.grow
 simp only [Array.getElem?_append, if_pos h]
set_option maxHeartbeats 4000000 in
theorem Ez {w0 w : World} {g cap gb : Nat} {P : Nat → Prop} {v0 : Value} {xs : List S56} (h : Kd.S k56 56 w w0.heap.size P (.slice (some ⟨g, 0, none⟩) xs.length cap) xs)
    (hbk : w.heap[gb]? = some (.cells #[v0, .slice (some ⟨g, 0, none⟩) xs.length cap] 31 (0, 0))) (hne : gb ≠ g) (h2 : 2 ≤ xs.length) (h12 : xs.length ≤ 12) (hB : Go.RowKit.Below w0.heap.size w0 w) :
    Calls Try.prog 103 #[.iface 29 (.slice (some ⟨g, 0, none⟩) xs.length cap), .func (.func 104) #[] #[.pointer (some ⟨gb, 0, none⟩)]] w fun e w' => e = .returned (.tuple #[]) ∧
      ∃ xs' : List S56, xs'.Perm xs ∧ xs'.Pairwise (fun a b => Op.bytesLess b.f0.toList a.f0.toList = false) ∧ Kd.S k56 56 w' w0.heap.size P (.slice (some ⟨g, 0, none⟩) xs.length cap) xs' ∧ Go.RowKit.Below w0.heap.size w0 w' ∧ Kept w w' (fun k => k = g) := by
 obtain ⟨hP, hb, hn, hnc, hm, cur, Z, hh, hs, hx, ht, hpw, hZ⟩ := zi h
 clear h
 have hzl : Z.length = xs.length := by rw [← hx, List.length_map]
 have hds : ((Z.map EZ.c).toArray).size = xs.length := by simp [hzl]
 have hF : (flatK encE 3 (Z.map EZ.c).toArray).toList = cur.toList.take (xs.length * 3) := by
   rw [Iw, List.map_map, ht]; rfl
 have hFs : (flatK encE 3 (Z.map EZ.c).toArray).size = xs.length * 3 := by rw [size_flatK, hds]
 have hgl : g < w.heap.size := gL hh
 have hgb : gb < w.heap.size := gL hbk
 have hH : HoldsK encE 3 w g 0 (Z.map EZ.c).toArray := by
   intro j hj
   rw [hFs] at hj
   refine ⟨?_, eB hh _⟩
   rw [Nat.zero_add, bC hh j, getElem!_pos _ j (by rw [hFs]; exact hj)]
   have e : (cur.toList.take (xs.length * 3))[j]? = (flatK encE 3 (Z.map EZ.c).toArray).toList[j]? := by rw [hF]
   rw [List.getElem?_take, if_pos hj, Array.getElem?_toList, Array.getElem?_toList, Array.getElem?_eq_getElem (xs := flatK encE 3 (Z.map EZ.c).toArray) (by rw [hFs]; exact hj)] at e
   exact e
 have hless : LessReadsK Try.prog 104 #[.pointer (some ⟨gb, 0, none⟩)] encE 3 ltE g 0 (Z.map EZ.c).toArray.size w := by
   intro m os dk eh i j hi hj
   rw [hds] at eh hi hj
   have hgl2 : g < (Sort.ahead w m).heap.size := hgl
   have e : sortWorldK encE 3 w g 0 m dk os = putRowK encE 3 (Sort.grow (Sort.ahead w m) os) g 0 dk := by
     unfold sortWorldK; rw [putRowK_grow _ _ (Sort.ahead w m) _ g 0 _ hgl2]
   have hHg : HoldsK encE 3 (Sort.grow (Sort.ahead w m) os) g 0 (Z.map EZ.c).toArray := holdsK_grow _ _ _ _ g 0 _ hgl2 (holdsK_ahead _ _ _ _ _ _ _ hH)
   have hbox : (sortWorldK encE 3 w g 0 m dk os).heap[gb]? = some (.cells #[v0, .slice (some ⟨g, 0, none⟩) xs.length cap] 31 (0, 0)) := by
     unfold sortWorldK putRowK
     rw [vY (by rw [size_putRow]; exact hgb), EL hne]
     exact hbk
   refine Ew g cap gb xs.length v0 _ (fun t => dk[t]!.1) ((bC hbox 1).trans rfl) ((bC hbox 0).trans rfl) (fun t ht2 => ?_) i j hi hj (by omega)
   rw [e]
   exact ((holdsK_putRowK _ _ _ g 0 _ dk hHg (by rw [eh, hds])).cell (i := t) (c := 0) (by omega) (by omega)).1
 have hS := Any.sort_Slice_small_cells_sorted Cn 29 56 Iy KJ (by kernel_rfl) (by kernel_rfl) (by kernel_rfl) (by kernel_rfl) 25 (fun _ => by kernel_rfl) encE 3 (fun _ => rfl) (by kernel_rfl) (fun _ => by kernel_rfl)
   (fun x v hv => by simp [encE] at hv; rcases hv with rfl | rfl | rfl <;> rfl) ltE Yw 104 _
   (enters_of Try.func104 (by kernel_rfl) rfl) g 0 cap (Z.map EZ.c).toArray (by rw [hds]; exact h2) (by rw [hds]; exact h12) 141 (by rw [Xc _ (by rw [hds]; exact h2)]; kernel_rfl) false
   (fun args W => run_callFunc_extern Try.func141 (by kernel_rfl) (by kernel_rfl) (by kernel_rfl) (e := Extern.ReflectliteSwapper.swap false) (by kernel_rfl) args W) w hless hH hgl
 change Calls Try.prog 103 _ _ _ at hS
 rw [hds] at hS
 refine hS.mono ?_
 rintro e w' ⟨he, d', n, os, hPm, hSo, rfl⟩
 refine ⟨he, ?_⟩
 have hsz : d'.size = xs.length := hPm.1.trans hds
 have hperm : d'.toList.Perm (Z.map EZ.c) := by
   have := hPm.2.2
   rw [show d'.extract 0 xs.length = d' by rw [← hsz]; simp, show (Z.map EZ.c).toArray.extract 0 xs.length = (Z.map EZ.c).toArray by rw [← hds]; exact Array.extract_size] at this
   simpa using this
 obtain ⟨Z', hZp, hZm⟩ := WR EZ.c hperm.symm
 have hzl' : Z'.length = xs.length := hZp.length_eq.trans hzl
 refine ⟨Z'.map EZ.x, by rw [← hx]; exact hZp.map _, ?_, ?_, ?_, ?_⟩
 ·rw [List.pairwise_map, List.pairwise_iff_getElem]
  intro i j hi hj hij
  have q := hSo i j (Nat.zero_le _) hij (by omega)
  rw [getElem!_pos d' j (by omega), getElem!_pos d' i (by omega)] at q
  have ei : d'[i]'(by omega) = Z'[i].c := by
    have : d'.toList[i]'(by rw [Array.length_toList]; omega) = (Z'.map EZ.c)[i]'(by rw [List.length_map]; exact hi) := by congr 1; exact hZm.symm
    rw [List.getElem_map] at this; rw [← this]; rfl
  have ej : d'[j]'(by omega) = Z'[j].c := by
    have : d'.toList[j]'(by rw [Array.length_toList]; omega) = (Z'.map EZ.c)[j]'(by rw [List.length_map]; exact hj) := by congr 1; exact hZm.symm
    rw [List.getElem_map] at this; rw [← this]; rfl
  rw [ei, ej] at q
  have ni := (hZ Z'[i] (hZp.subset (List.getElem_mem hi))).1
  have nj := (hZ Z'[j] (hZp.subset (List.getElem_mem hj))).1
  rw [← ni, ← nj]
  exact q
 ·have hkp : Kept w (Sort.grow (putRowK encE 3 (Sort.ahead w n) g 0 d') os) (fun k => k = g) := by
    refine ⟨?_, fun k hk hne2 => ?_⟩
    · unfold Sort.grow putRowK; simp only [Array.size_append, size_putRow]; exact Nat.le_add_right _ _
    · unfold putRowK; rw [vY (by rw [size_putRow]; exact hk), EL hne2]; rfl
  have hF' : (flatK encE 3 d').size = xs.length * 3 := by rw [size_flatK, hsz]
  have hp2 := V3 (flatK encE 3 d') cur (by rw [hF', hs]; omega)
  refine zg (Z := Z') (w := w) (cur := putCells id 0 (flatK encE 3 d') cur) hP hb hzl'.symm hnc hm ?_ (hp2.2.trans hs) ?_ ((List.Perm.pairwise_iff (fun {a b} hab k h1 h2 => hab k h2 h1) hZp).2 hpw) (fun z hz => (hZ z (hZp.subset hz)).2) hkp
  ·unfold putRowK; rw [vY (by rw [size_putRow]; exact hgl)]
   exact Cu (w := Sort.ahead w n) hh
  rw [← hF', hp2.1]
  have e3 : d' = (Z'.map EZ.c).toArray := by rw [hZm]
  rw [e3, Iw, List.map_map]; rfl
 ·refine ⟨hB.os, hB.tape, hB.output, ?_, fun k hk => ?_⟩
  ·unfold Sort.grow putRowK; simp only [Array.size_append, size_putRow]; exact Nat.le_trans hB.size (Nat.le_add_right _ _)
  have hk2 : k < w.heap.size := Nat.lt_of_lt_of_le hk hB.size
  unfold putRowK; rw [vY (by rw [size_putRow]; exact hk2), EL (by omega)]
  exact hB.block k hk
 refine ⟨?_, fun k hk hne2 => ?_⟩
 ·unfold Sort.grow putRowK; simp only [Array.size_append, size_putRow]; exact Nat.le_add_right _ _
 unfold putRowK; rw [vY (by rw [size_putRow]; exact hk), EL hne2]; rfl
theorem below_grow (w : World) (os : Array Obj) : Go.RowKit.Below w.heap.size w (Sort.grow w os) :=
  ⟨rfl, rfl, rfl, by unfold Sort.grow; simp only [Array.size_append]; exact Nat.le_add_right _ _, fun k hk => vY hk⟩
theorem Rk : Lib.swapperK 1 KJ 25 = 2 := by simp [Lib.swapperK]
theorem TU {w0 w : World} {g cap gb : Nat} {P : Nat → Prop} {v0 : Value} {xs : List S56} (h : Kd.S k56 56 w w0.heap.size P (.slice (some ⟨g, 0, none⟩) xs.length cap) xs)
  (hbk : w.heap[gb]? = some (.cells #[v0, .slice (some ⟨g, 0, none⟩) xs.length cap] 31 (0, 0))) (hne : gb ≠ g) (h1 : 1 ≤ xs.length) (h12 : xs.length ≤ 12) (hB : Go.RowKit.Below w0.heap.size w0 w) :
  Calls Try.prog 103 #[.iface 29 (.slice (some ⟨g, 0, none⟩) xs.length cap), .func (.func 104) #[] #[.pointer (some ⟨gb, 0, none⟩)]] w fun e w' => e = .returned (.tuple #[]) ∧
   ∃ xs' : List S56, xs'.Perm xs ∧ xs'.Pairwise (fun a b => Op.bytesLess b.f0.toList a.f0.toList = false) ∧ Kd.S k56 56 w' w0.heap.size P (.slice (some ⟨g, 0, none⟩) xs.length cap) xs' ∧ Go.RowKit.Below w0.heap.size w0 w' ∧ Kept w w' (fun k => k = g) := by
 by_cases h2 : 2 ≤ xs.length
 ·exact Ez h hbk hne h2 h12 hB
 have e1 : xs.length = 1 := by omega
 have hS := Any.sort_Slice_tiny Cn 29 56 Iy KJ (by kernel_rfl) (by kernel_rfl) (by kernel_rfl) (by kernel_rfl) 25 (fun _ => by kernel_rfl) (some ⟨g, 0, none⟩) xs.length cap (by omega) 134 (by rw [e1, Rk]; kernel_rfl) (.func 104) #[] #[.pointer (some ⟨gb, 0, none⟩)] w
 change Calls Try.prog 103 _ _ _ at hS
 refine hS.mono ?_
 rintro e w' ⟨he, os, rfl⟩
 have hb := below_grow w os
 refine ⟨he, xs, List.Perm.refl _, ?_, Kd.GY h hb, jR hB hb, Kept.of_below hb _⟩
 exact List.pairwise_iff_getElem.2 (fun i j hi hj hij => absurd hij (by omega))
def insK (l : List S56) (n : ByteArray) : Nat := (l.takeWhile fun b => Op.bytesLess b.f0.toList n.toList).length
def insB (l : List S56) (x : S56) : List S56 := l.take (insK l x.f0) ++ x :: l.drop (insK l x.f0)
theorem Lt (l : List S56) (x : S56) : (insB l x).Perm (l ++ [x]) := by
 unfold insB
 refine List.perm_middle.trans ?_
 rw [List.take_append_drop]
 exact (List.perm_append_comm (l₁ := [x]) (l₂ := l))
def Asc (l : List S56) : Prop := l.Pairwise fun a b => Op.bytesLess a.f0.toList b.f0.toList = true
theorem RO {a b : List UInt8} (h : Op.bytesLess a b = true) : Op.bytesLess b a = false := by
 rw [bytesLess_eq, decide_eq_true_eq] at h
 rw [bytesLess_eq, decide_eq_false_iff_not]
 exact fun h2 => List.lt_irrefl _ (List.lt_trans h h2)
theorem Eb {l t : List S56} (hp : l.Perm t) (hl : l.Pairwise fun a b => Op.bytesLess b.f0.toList a.f0.toList = false) (ht : Asc t) : l = t := by
 have ht2 : t.Pairwise fun a b => Op.bytesLess b.f0.toList a.f0.toList = false := ht.imp fun h => RO h
 have hall : ∀ a ∈ t, ∀ b ∈ t, a = b ∨ Op.bytesLess a.f0.toList b.f0.toList = true ∨ Op.bytesLess b.f0.toList a.f0.toList = true := by
  intro a ha b hb
  obtain ⟨i, hi, rfl⟩ := List.getElem_of_mem ha
  obtain ⟨j, hj, rfl⟩ := List.getElem_of_mem hb
  have hpw := List.pairwise_iff_getElem.1 ht
  rcases Nat.lt_trichotomy i j with h | h | h
  ·exact Or.inr (Or.inl (hpw i j hi hj h))
  ·subst h; exact Or.inl rfl
  ·exact Or.inr (Or.inr (hpw j i hj hi h))
 refine List.Perm.eq_of_pairwise (le := fun a b => Op.bytesLess b.f0.toList a.f0.toList = false) (fun a b ha hb h1 h2 => ?_) hl ht2 hp
 rcases hall a (hp.subset ha) b hb with h | h | h
 ·exact h
 ·rw [h] at h2; cases h2
 rw [h] at h1; cases h1
theorem BkS.far {w0 W : World} {lo hi g j t : Nat} {v0 v1 u : Value} {l0 : List ByteArray} {l1 : List S56} {cs : Array Value} (h : BkS w0 W lo hi v0 v1 l0 l1) (hb : W.heap[g]? = some (.cells cs t (0, 0))) (ht : t ≠ 9 ∧ t ≠ 56) : BkS w0 (W.setCell ⟨g, j, none⟩ u) lo hi v0 v1 l0 l1 := by
 have hk : Kept W (W.setCell ⟨g, j, none⟩ u) (fun k => k = g) := Kept.setCell (p := ⟨g, j, none⟩) (Kept.refl W (fun k => k = g)) (Or.inl rfl) u
 refine ⟨Kd.aM (Kd.EY (Kd.qR h.1) hk (fun k hk2 e => ?_)) (fun k hk2 => hk2.1), Kd.nD (Kd.Pt (Kd.nP h.2) hk (fun k hk2 e => ?_)) (fun k hk2 => hk2.1)⟩
 ·obtain ⟨_, _, _, q, hq, cells, hc⟩ := hk2
  subst e
  rw [hb] at hc; injection hc with hc; injection hc with _ e _; subst e
  have hq2 : t ∈ [9] := hq
  exact ht.1 (by simpa using hq2)
 obtain ⟨_, _, _, q, hq, cells, hc⟩ := hk2
 subst e
 rw [hb] at hc; injection hc with hc; injection hc with _ e _; subst e
 have hq2 : t ∈ [56, 9, 9] := hq
 simp at hq2
 exact hq2.elim ht.2 ht.1
theorem BkS.appM {w0 W : World} {lo hi lo2 ee : Nat} {v0 v1 vn : Value} {l0 nd : List ByteArray} {l1 : List S56} (a1 : ByteArray) (h : BkS w0 W lo hi v0 v1 l0 l1) (hv : RwS w0 W lo2 ee vn nd) (hle : hi ≤ lo2) (hlo : lo ≤ hi) (hW : hi ≤ W.heap.size) :
  k56.M W w0.heap.size (fun k => some k = vn.ownBlock) (⟨a1, [], nd⟩ : S56) [.string a1, .slice none 0 0, vn] ∧ (∀ k, some k = vn.ownBlock → (lo ≤ k ∧ some k ≠ v0.ownBlock) ∧ some k ≠ v1.ownBlock) ∧ (∀ k, W.heap.size ≤ k → lo ≤ k ∧ some k ≠ v0.ownBlock) ∧
   Kd.S k56 56 W w0.heap.size (fun k => (lo ≤ k ∧ some k ≠ v0.ownBlock) ∧ ¬ some k = vn.ownBlock) v1 l1 := by
 refine ⟨BX _ _ _ ⟨a1, [], nd⟩ (Kd.uE _ _ _ _ _) (Kd.rT rfl hv), fun k e => ?_, fun k e => ⟨by omega, fun e2 => ?_⟩, Kd.nD h.2 (fun k e => ⟨⟨e.1.1, e.2⟩, fun e2 => ?_⟩)⟩
 ·have q := hv.1 k e.symm
  refine ⟨⟨by omega, fun e2 => ?_⟩, fun e2 => ?_⟩
  ·have := h.1.1 k e2.symm; omega
  have := ((Kd.S_R h.2).1 k e2.symm).1; omega
 ·have := h.1.1 k e2.symm; omega
 have := hv.1 k e2.symm; omega
theorem BkS.appB {w0 W W2 : World} {lo hi : Nat} {v0 v1 v2 : Value} {l0 : List ByteArray} {l1 l2 : List S56} (h : BkS w0 W lo hi v0 v1 l0 l1) (hs : Kd.S k56 56 W2 w0.heap.size (fun k => lo ≤ k ∧ some k ≠ v0.ownBlock) v2 l2) (hk : Kept W W2 (fun k => some k = v1.ownBlock)) (hW : hi ≤ W2.heap.size) : BkS w0 W2 lo W2.heap.size v0 v2 l0 l2 := by
 refine ⟨Kd.aM (Kd.EY (Kd.rT rfl h.1) hk (fun k e e2 => ((Kd.S_R h.2).1 k e2.symm).2 e)) (fun k e => ?_), Kd.nD (Kd.nP hs) (fun k e => ⟨⟨e.1.1, e.2.2.1⟩, e.1.2⟩)⟩
 have := h.1.1 k e.symm; omega
theorem BkS.sorted {w0 W W2 : World} {lo hi g n c : Nat} {v0 : Value} {l0 : List ByteArray} {l1 l2 : List S56} (h : BkS w0 W lo hi v0 (.slice (some ⟨g, 0, none⟩) n c) l0 l1) (hs : Kd.S k56 56 W2 w0.heap.size (fun k => (lo ≤ k ∧ k < hi) ∧ some k ≠ v0.ownBlock) (.slice (some ⟨g, 0, none⟩) n c) l2) (hk : Kept W W2 (fun k => k = g)) : BkS w0 W2 lo hi v0 (.slice (some ⟨g, 0, none⟩) n c) l0 l2 :=
 ⟨Kd.aM (Kd.EY (Kd.rT rfl h.1) hk (fun k e e2 => ((Kd.S_R h.2).1 g rfl).2 (by rw [← e2]; exact e))) (fun k e => h.1.1 k e.symm), hs⟩
open Classical in
noncomputable def oW.f (k : Nat) (l0 : List ByteArray) (l1 : List S56) (a1 : ByteArray) (l2 : List ByteArray) : Option (List ByteArray × List S56 × Int) :=
 (aQ.f k l0 l1).bind fun ok => if ok = true then (dP.f k l0 l1).bind fun c => (dI.f k a1).bind fun nm => if nm = true then (gY.f k l2 l0).bind fun q => if q = true then (iA.f l0 l1 a1).bind fun i => if 0 ≤ i then some (c.1, c.2, 3) else if l1.length = 5 then some (c.1, c.2, 4) else (dU.f l2).bind fun nd => if c.2.length ≤ 11 ∧ Asc (insB c.2 ⟨a1, [], nd⟩) then some (c.1, insB c.2 ⟨a1, [], nd⟩, 0) else none else some (c.1, c.2, 2) else some (c.1, c.2, 2) else some ([], [], 1)
theorem oW.calls (k : Nat) (eU : Option Addr) (eY : Nat) (l0 : List ByteArray) (fG : Option Addr) (eQ : Nat) (l1 : List S56) (a1 : ByteArray) (A2 : Option Addr) (c2 : Nat) (l2 : List ByteArray) (r1 : List ByteArray) (r2 : List S56) (r3 : Int) (w : World) (iG : Kd.C Kd.string w eU l0.length l0) (iD : l0.length ≤ eY) (iC : Kd.C k56 w fG l1.length l1) (iE : l1.length ≤ eQ) (U2 : Kd.C Kd.string w A2 l2.length l2) (PZ : l2.length ≤ c2) (h : oW.f k l0 l1 a1 l2 = some (r1, r2, r3)) :
  Calls Try.prog 60 #[.agg #[.slice eU l0.length eY, .slice fG l1.length eQ], .string a1, .slice A2 l2.length c2] w fun e w' => ∃ v0_ v1_ : Value, e = .returned (.tuple #[.agg #[v0_, v1_], .int .i64 r3]) ∧ Kd.R Kd.string 9 w' w.heap.size (fun _ => True) v0_ r1 ∧ Kd.S k56 56 w' w.heap.size (fun k_ => some k_ ≠ (v0_ : Value).ownBlock) v1_ r2 ∧ Below w.heap.size w w' := by
 have hu31 := Try.underlying31
 have hu56 := Try.underlying56
 obtain ⟨dY, dX⟩ := mZ2 iG iD
 obtain ⟨cU, f4⟩ := mZ2 iC iE
 obtain ⟨EE, zZ⟩ := mZ2 U2 PZ
 clear iG iD iC iE U2 PZ
 have HB := am (Below.refl w.heap.size w); have NN := am trivial
 unfold oW.f at h
 have H := h
 clear h
 obtain ⟨ok, D1, H⟩ := bd H
 by_cases c1 : ok = false
 ·subst c1
  rw [if_neg (by simp)] at H
  obtain ⟨rfl, rfl, rfl⟩ := sZ3 H
  repeat clear H
  go_enter Try.func60, Try.ntmps60
  go_wp2_with (first | ((with_reducible refine gD 3 ?_); refine bX 3 #[.slice eU l0.length eY, .slice fG l1.length eQ] 31 ?_; intro sH hg_ W1 hbox hb; have hk_ : Kept w W1 (fun _ => False) := Kept.noth hb; replace NN := nn NN (show w.heap.size ≤ W1.heap.size from hk_.1); have Vj := am (show w.heap.size ≤ sH from Nat.le_trans HB.1.size (Nat.le_of_eq hg_.symm)); replace NN := nn NN (show w.heap.size ≤ sH from Nat.le_of_eq hg_.symm); replace NN := nn NN (show sH < W1.heap.size from gL hbox); replace HB := bS HB.1 hb; have gO := am hbox; clear hb hbox hg_ hk_; (try clear Z3); have Z3 := cz2 gO) | ((with_reducible refine gD 6 ?_); refine bX 6 #[.slice none 0 0, .slice none 0 0] 31 ?_; intro lZ hg_ W2 hbox hb; have hk_ : Kept W1 W2 (fun _ => False) := Kept.noth hb; replace NN := nn NN (show W1.heap.size ≤ W2.heap.size from hk_.1); have EA := am (show w.heap.size ≤ lZ from Nat.le_trans HB.1.size (Nat.le_of_eq hg_.symm)); replace NN := nn NN (show W1.heap.size ≤ lZ from Nat.le_of_eq hg_.symm); replace NN := nn NN (show lZ < W2.heap.size from gL hbox); replace gO := kB gO hk_; replace HB := bS HB.1 hb; have hL := am hbox; clear hb hbox hg_ hk_; have nb6_3 : lZ ≠ sH := (by have := NN.1;  omega); have nb3_6 : sH ≠ lZ := (by have := NN.1;  omega); (try clear Z6); have Z6 := cz2 hL; (try clear Z3); have Z3 := cz2 gO) | ((with_reducible refine gC 24 ?_); refine cQ (some 10) Try.func24 (aQ.calls k _ _ l0 _ _ l1 false _ (Kd.aX dY.1 HB.1) dX.1 (Kd.aX cU.1 HB.1) f4.1 D1.1) ?_; rintro W3 hb; have HB0 := am (show w.heap.size ≤ W2.heap.size from HB.1.size); have hk_ : Kept W2 W3 (fun _ => False) := Kept.noth hb; replace NN := nn NN (show W2.heap.size ≤ W3.heap.size from hk_.1); replace gO := kB gO hk_; replace hL := kB hL hk_; replace HB := bS HB.1 hb; clear hb hk_; (try clear Z3); have Z3 := cz2 gO; (try clear Z6); have Z6 := cz2 hL; clear HB0))
  (try simp only [Exit.inBlock, Exit.then]); refine cT lZ 31 #[.slice none 0 0, .slice none 0 0] (bR (cs := #[.slice none 0 0, .slice none 0 0]) (bR (cs := #[.slice none 0 0, .slice none 0 0]) (hL.1) 0 _ rfl) 1 _ rfl) Try.underlying31 ?_
  exact ⟨_, _, rfl, Kd.uE _ _ _ _ _, Kd.yU _ _ _ _ _, aI (aI HB.1 EA.1) EA.1⟩
 have c1 : ok = true := by simpa using c1
 rw [if_pos c1] at H
 subst c1
 obtain ⟨⟨c1a, c1b⟩, D2, H⟩ := bd H
 obtain ⟨nm, D3, H⟩ := bd H
 dsimp only at H
 by_cases cn : nm = false
 ·subst cn
  rw [if_neg (by simp)] at H
  obtain ⟨rfl, rfl, rfl⟩ := sZ3 H
  repeat clear H
  go_enter Try.func60, Try.ntmps60
  go_wp2_with (first | ((with_reducible refine gD 3 ?_); refine bX 3 #[.slice eU l0.length eY, .slice fG l1.length eQ] 31 ?_; intro sH hg_ W1 hbox hb; have hk_ : Kept w W1 (fun _ => False) := Kept.noth hb; replace NN := nn NN (show w.heap.size ≤ W1.heap.size from hk_.1); have Vj := am (show w.heap.size ≤ sH from Nat.le_trans HB.1.size (Nat.le_of_eq hg_.symm)); replace NN := nn NN (show w.heap.size ≤ sH from Nat.le_of_eq hg_.symm); replace NN := nn NN (show sH < W1.heap.size from gL hbox); replace HB := bS HB.1 hb; have gO := am hbox; clear hb hbox hg_ hk_; (try clear Z3); have Z3 := cz2 gO) | ((with_reducible refine gD 6 ?_); refine bX 6 #[.slice none 0 0, .slice none 0 0] 31 ?_; intro lZ hg_ W2 hbox hb; have hk_ : Kept W1 W2 (fun _ => False) := Kept.noth hb; replace NN := nn NN (show W1.heap.size ≤ W2.heap.size from hk_.1); have EA := am (show w.heap.size ≤ lZ from Nat.le_trans HB.1.size (Nat.le_of_eq hg_.symm)); replace NN := nn NN (show W1.heap.size ≤ lZ from Nat.le_of_eq hg_.symm); replace NN := nn NN (show lZ < W2.heap.size from gL hbox); replace gO := kB gO hk_; replace HB := bS HB.1 hb; have hL := am hbox; clear hb hbox hg_ hk_; have nb6_3 : lZ ≠ sH := (by have := NN.1;  omega); have nb3_6 : sH ≠ lZ := (by have := NN.1;  omega); (try clear Z6); have Z6 := cz2 hL; (try clear Z3); have Z3 := cz2 gO) | ((with_reducible refine gC 24 ?_); refine cQ (some 10) Try.func24 (aQ.calls k _ _ l0 _ _ l1 true _ (Kd.aX dY.1 HB.1) dX.1 (Kd.aX cU.1 HB.1) f4.1 D1.1) ?_; rintro W3 hb; have HB0 := am (show w.heap.size ≤ W2.heap.size from HB.1.size); have hk_ : Kept W2 W3 (fun _ => False) := Kept.noth hb; replace NN := nn NN (show W2.heap.size ≤ W3.heap.size from hk_.1); replace gO := kB gO hk_; replace hL := kB hL hk_; replace HB := bS HB.1 hb; clear hb hk_; (try clear Z3); have Z3 := cz2 gO; (try clear Z6); have Z6 := cz2 hL; clear HB0) | ((with_reducible refine gC 90 ?_); refine cE (some 14) Try.func90 (dP.calls k _ _ l0 _ _ l1 c1a c1b _ (Kd.aX dY.1 HB.1) dX.1 (Kd.aX cU.1 HB.1) f4.1 D2.1) ?_; rintro e_ W4 ⟨_, _, rfl, f3, lL, hb⟩; refine ⟨_, rfl, ?_⟩; have HB0 := am (show w.heap.size ≤ W3.heap.size from HB.1.size); have hk_ : Kept W3 W4 (fun _ => False) := Kept.noth hb; replace NN := nn NN (show W3.heap.size ≤ W4.heap.size from hk_.1); replace gO := kB gO hk_; replace hL := kB hL hk_; replace HB := bS HB.1 hb; have KC := am (BkS.made (n := W3.heap.size) f3 lL (HB0.out) (Nat.le_refl _)); clear f3 lL; obtain ⟨Ac0, cc0, Ac1, cc1, e0_, e1_⟩ := KC.out.slices; subst e0_; subst e1_; clear hb hk_; (try clear Z3); have Z3 := cz2 gO; (try clear Z6); have Z6 := cz2 hL; clear HB0) | ((with_reducible refine gD 8 ?_); refine bX 8 #[.slice none 0 0, .slice none 0 0] 31 ?_; intro mG hg_ W5 hbox hb; have hk_ : Kept W4 W5 (fun _ => False) := Kept.noth hb; replace NN := nn NN (show W4.heap.size ≤ W5.heap.size from hk_.1); have IX := am (show w.heap.size ≤ mG from Nat.le_trans HB.1.size (Nat.le_of_eq hg_.symm)); replace NN := nn NN (show W4.heap.size ≤ mG from Nat.le_of_eq hg_.symm); replace NN := nn NN (show mG < W5.heap.size from gL hbox); replace KC := am (BkS.kept KC.out hk_ (fun _ _ _ h => h)); replace gO := kB gO hk_; replace hL := kB hL hk_; replace HB := bS HB.1 hb; have mX := am hbox; clear hb hbox hg_ hk_; have nb8_3 : mG ≠ sH := (by have := NN.1;  omega); have nb3_8 : sH ≠ mG := (by have := NN.1;  omega); have nb8_6 : mG ≠ lZ := (by have := NN.1;  omega); have nb6_8 : lZ ≠ mG := (by have := NN.1;  omega); (try clear Z8); have Z8 := cz2 mX; (try clear Z3); have Z3 := cz2 gO; (try clear Z6); have Z6 := cz2 hL) | ((with_reducible refine gC 77 ?_); refine cQ (some 17) Try.func77 (dI.calls k a1 false _ D3.1) ?_; rintro W6 hb; obtain ⟨nd_, hd_⟩ := hb; have hb : Below ((W5.setCell ⟨mG, 0, none⟩ (.slice Ac0 c1a.length cc0)).setCell ⟨mG, 1, none⟩ (.slice Ac1 c1b.length cc1)).heap.size ((W5.setCell ⟨mG, 0, none⟩ (.slice Ac0 c1a.length cc0)).setCell ⟨mG, 1, none⟩ (.slice Ac1 c1b.length cc1)) W6 := hd_ ▸ bA (Below.refl _ _) nd_; clear hd_ nd_; have HB0 := am (show w.heap.size ≤ W5.heap.size from HB.1.size); have hk_ : Kept W5 W6 (fun k => k = mG) := (Kept.two (w := W5) (g := mG) 0 1 (.slice Ac0 c1a.length cc0) (.slice Ac1 c1b.length cc1)).below hb; replace NN := nn NN (show W5.heap.size ≤ W6.heap.size from hk_.1); replace KC := am (BkS.kept KC.out hk_ (fun k_ h1_ h2_ e_ => by have := NN.1;  omega)); replace gO := am (eX gO.1 hk_ (fun e_ => by have := NN.1;  omega)); replace hL := am (eX hL.1 hk_ (fun e_ => by have := NN.1;  omega)); replace mX := am (bH (g := mG) (o := .cells #[.slice Ac0 c1a.length cc0, .slice Ac1 c1b.length cc1] 31 (0, 0)) (bR (cs := #[.slice Ac0 c1a.length cc0, .slice none 0 0]) (bR (cs := #[.slice none 0 0, .slice none 0 0]) mX.1 0 _ rfl) 1 _ rfl) hb); replace HB := am (jR (aI (aI HB.1 IX.1) IX.1) hb); clear hb hk_; (try clear Z8); have Z8 := cz2 mX; (try clear Z6); have Z6 := cz2 hL; clear HB0))
  (try simp only [Exit.inBlock, Exit.then]); refine cT lZ 31 #[.slice Ac0 c1a.length cc0, .slice Ac1 c1b.length cc1] (bR (cs := #[.slice Ac0 c1a.length cc0, .slice none 0 0]) (bR (cs := #[.slice none 0 0, .slice none 0 0]) (hL.1) 0 _ rfl) 1 _ rfl) Try.underlying31 ?_
  have hK_ := BkS.kept KC.out (Kept.two (w := W6) (g := lZ) 0 1 (.slice Ac0 c1a.length cc0) (.slice Ac1 c1b.length cc1)) (fun k_ h1_ h2_ e_ => by have := NN.1;  omega)
  exact ⟨_, _, rfl, Kd.aM hK_.1 (fun _ _ => trivial), Kd.nD hK_.2 (fun _ h_ => h_.2), aI (aI HB.1 EA.1) EA.1⟩
 have cn : nm = true := by simpa using cn
 rw [if_pos cn] at H
 subst cn
 obtain ⟨q, D4, H⟩ := bd H
 by_cases cq : q = false
 ·subst cq
  rw [if_neg (by simp)] at H
  obtain ⟨rfl, rfl, rfl⟩ := sZ3 H
  repeat clear H
  go_enter Try.func60, Try.ntmps60
  go_wp2_with (first | ((with_reducible refine gD 3 ?_); refine bX 3 #[.slice eU l0.length eY, .slice fG l1.length eQ] 31 ?_; intro sH hg_ W1 hbox hb; have hk_ : Kept w W1 (fun _ => False) := Kept.noth hb; replace NN := nn NN (show w.heap.size ≤ W1.heap.size from hk_.1); have Vj := am (show w.heap.size ≤ sH from Nat.le_trans HB.1.size (Nat.le_of_eq hg_.symm)); replace NN := nn NN (show w.heap.size ≤ sH from Nat.le_of_eq hg_.symm); replace NN := nn NN (show sH < W1.heap.size from gL hbox); replace HB := bS HB.1 hb; have gO := am hbox; clear hb hbox hg_ hk_; (try clear Z3); have Z3 := cz2 gO) | ((with_reducible refine gD 6 ?_); refine bX 6 #[.slice none 0 0, .slice none 0 0] 31 ?_; intro lZ hg_ W2 hbox hb; have hk_ : Kept W1 W2 (fun _ => False) := Kept.noth hb; replace NN := nn NN (show W1.heap.size ≤ W2.heap.size from hk_.1); have EA := am (show w.heap.size ≤ lZ from Nat.le_trans HB.1.size (Nat.le_of_eq hg_.symm)); replace NN := nn NN (show W1.heap.size ≤ lZ from Nat.le_of_eq hg_.symm); replace NN := nn NN (show lZ < W2.heap.size from gL hbox); replace gO := kB gO hk_; replace HB := bS HB.1 hb; have hL := am hbox; clear hb hbox hg_ hk_; have nb6_3 : lZ ≠ sH := (by have := NN.1;  omega); have nb3_6 : sH ≠ lZ := (by have := NN.1;  omega); (try clear Z6); have Z6 := cz2 hL; (try clear Z3); have Z3 := cz2 gO) | ((with_reducible refine gC 24 ?_); refine cQ (some 10) Try.func24 (aQ.calls k _ _ l0 _ _ l1 true _ (Kd.aX dY.1 HB.1) dX.1 (Kd.aX cU.1 HB.1) f4.1 D1.1) ?_; rintro W3 hb; have HB0 := am (show w.heap.size ≤ W2.heap.size from HB.1.size); have hk_ : Kept W2 W3 (fun _ => False) := Kept.noth hb; replace NN := nn NN (show W2.heap.size ≤ W3.heap.size from hk_.1); replace gO := kB gO hk_; replace hL := kB hL hk_; replace HB := bS HB.1 hb; clear hb hk_; (try clear Z3); have Z3 := cz2 gO; (try clear Z6); have Z6 := cz2 hL; clear HB0) | ((with_reducible refine gC 90 ?_); refine cE (some 14) Try.func90 (dP.calls k _ _ l0 _ _ l1 c1a c1b _ (Kd.aX dY.1 HB.1) dX.1 (Kd.aX cU.1 HB.1) f4.1 D2.1) ?_; rintro e_ W4 ⟨_, _, rfl, f3, lL, hb⟩; refine ⟨_, rfl, ?_⟩; have HB0 := am (show w.heap.size ≤ W3.heap.size from HB.1.size); have hk_ : Kept W3 W4 (fun _ => False) := Kept.noth hb; replace NN := nn NN (show W3.heap.size ≤ W4.heap.size from hk_.1); replace gO := kB gO hk_; replace hL := kB hL hk_; replace HB := bS HB.1 hb; have KC := am (BkS.made (n := W3.heap.size) f3 lL (HB0.out) (Nat.le_refl _)); clear f3 lL; obtain ⟨Ac0, cc0, Ac1, cc1, e0_, e1_⟩ := KC.out.slices; subst e0_; subst e1_; clear hb hk_; (try clear Z3); have Z3 := cz2 gO; (try clear Z6); have Z6 := cz2 hL; clear HB0) | ((with_reducible refine gD 8 ?_); refine bX 8 #[.slice none 0 0, .slice none 0 0] 31 ?_; intro mG hg_ W5 hbox hb; have hk_ : Kept W4 W5 (fun _ => False) := Kept.noth hb; replace NN := nn NN (show W4.heap.size ≤ W5.heap.size from hk_.1); have IX := am (show w.heap.size ≤ mG from Nat.le_trans HB.1.size (Nat.le_of_eq hg_.symm)); replace NN := nn NN (show W4.heap.size ≤ mG from Nat.le_of_eq hg_.symm); replace NN := nn NN (show mG < W5.heap.size from gL hbox); replace KC := am (BkS.kept KC.out hk_ (fun _ _ _ h => h)); replace gO := kB gO hk_; replace hL := kB hL hk_; replace HB := bS HB.1 hb; have mX := am hbox; clear hb hbox hg_ hk_; have nb8_3 : mG ≠ sH := (by have := NN.1;  omega); have nb3_8 : sH ≠ mG := (by have := NN.1;  omega); have nb8_6 : mG ≠ lZ := (by have := NN.1;  omega); have nb6_8 : lZ ≠ mG := (by have := NN.1;  omega); (try clear Z8); have Z8 := cz2 mX; (try clear Z3); have Z3 := cz2 gO; (try clear Z6); have Z6 := cz2 hL) | ((with_reducible refine gC 77 ?_); refine cQ (some 17) Try.func77 (dI.calls k a1 true _ D3.1) ?_; rintro W6 hb; obtain ⟨nd_, hd_⟩ := hb; have hb : Below ((W5.setCell ⟨mG, 0, none⟩ (.slice Ac0 c1a.length cc0)).setCell ⟨mG, 1, none⟩ (.slice Ac1 c1b.length cc1)).heap.size ((W5.setCell ⟨mG, 0, none⟩ (.slice Ac0 c1a.length cc0)).setCell ⟨mG, 1, none⟩ (.slice Ac1 c1b.length cc1)) W6 := hd_ ▸ bA (Below.refl _ _) nd_; clear hd_ nd_; have HB0 := am (show w.heap.size ≤ W5.heap.size from HB.1.size); have hk_ : Kept W5 W6 (fun k => k = mG) := (Kept.two (w := W5) (g := mG) 0 1 (.slice Ac0 c1a.length cc0) (.slice Ac1 c1b.length cc1)).below hb; replace NN := nn NN (show W5.heap.size ≤ W6.heap.size from hk_.1); replace KC := am (BkS.kept KC.out hk_ (fun k_ h1_ h2_ e_ => by have := NN.1;  omega)); replace gO := am (eX gO.1 hk_ (fun e_ => by have := NN.1;  omega)); replace hL := am (eX hL.1 hk_ (fun e_ => by have := NN.1;  omega)); replace mX := am (bH (g := mG) (o := .cells #[.slice Ac0 c1a.length cc0, .slice Ac1 c1b.length cc1] 31 (0, 0)) (bR (cs := #[.slice Ac0 c1a.length cc0, .slice none 0 0]) (bR (cs := #[.slice none 0 0, .slice none 0 0]) mX.1 0 _ rfl) 1 _ rfl) hb); replace HB := am (jR (aI (aI HB.1 IX.1) IX.1) hb); clear hb hk_; (try clear Z3); have Z3 := cz2 gO; (try clear Z8); have Z8 := cz2 mX; (try clear Z6); have Z6 := cz2 hL; clear HB0) | (go_at_call 74; refine cM (gY.calls k _ _ l2 _ _ l0 false _ (Kd.aX EE.1 HB.1) zZ.1 (Kd.aX dY.1 HB.1) dX.1 D4.1) ?_; rintro W7 hb; obtain ⟨nd_, hd_⟩ := hb; have hb : Below W6.heap.size W6 W7 := hd_ ▸ bA (Below.refl _ _) nd_; clear hd_ nd_; have HB0 := am (show w.heap.size ≤ W6.heap.size from HB.1.size); have hk_ : Kept W6 W7 (fun _ => False) := Kept.noth hb; replace NN := nn NN (show W6.heap.size ≤ W7.heap.size from hk_.1); replace KC := am (BkS.kept KC.out hk_ (fun _ _ _ h => h)); replace gO := kB gO hk_; replace hL := kB hL hk_; replace mX := kB mX hk_; replace HB := bS HB.1 hb; clear hb hk_; (try clear Z8); have Z8 := cz2 mX; (try clear Z6); have Z6 := cz2 hL; clear HB0))
  (try simp only [Exit.inBlock, Exit.then]); refine cT lZ 31 #[.slice Ac0 c1a.length cc0, .slice Ac1 c1b.length cc1] (bR (cs := #[.slice Ac0 c1a.length cc0, .slice none 0 0]) (bR (cs := #[.slice none 0 0, .slice none 0 0]) (hL.1) 0 _ rfl) 1 _ rfl) Try.underlying31 ?_
  have hK_ := BkS.kept KC.out (Kept.two (w := W7) (g := lZ) 0 1 (.slice Ac0 c1a.length cc0) (.slice Ac1 c1b.length cc1)) (fun k_ h1_ h2_ e_ => by have := NN.1;  omega)
  exact ⟨_, _, rfl, Kd.aM hK_.1 (fun _ _ => trivial), Kd.nD hK_.2 (fun _ h_ => h_.2), aI (aI HB.1 EA.1) EA.1⟩
 have cq : q = true := by simpa using cq
 rw [if_pos cq] at H
 subst cq
 obtain ⟨i, D5, H⟩ := bd H
 by_cases ci : 0 ≤ i
 ·rw [if_pos ci] at H
  have ci0 : decide (0 ≤ i) = true := decide_eq_true ci
  have ci1 : decide (i < 0) = false := decide_eq_false (by omega)
  obtain ⟨rfl, rfl, rfl⟩ := sZ3 H
  repeat clear H
  go_enter Try.func60, Try.ntmps60
  go_wp2_with (first | ((with_reducible refine gD 3 ?_); refine bX 3 #[.slice eU l0.length eY, .slice fG l1.length eQ] 31 ?_; intro sH hg_ W1 hbox hb; have hk_ : Kept w W1 (fun _ => False) := Kept.noth hb; replace NN := nn NN (show w.heap.size ≤ W1.heap.size from hk_.1); have Vj := am (show w.heap.size ≤ sH from Nat.le_trans HB.1.size (Nat.le_of_eq hg_.symm)); replace NN := nn NN (show w.heap.size ≤ sH from Nat.le_of_eq hg_.symm); replace NN := nn NN (show sH < W1.heap.size from gL hbox); replace HB := bS HB.1 hb; have gO := am hbox; clear hb hbox hg_ hk_; (try clear Z3); have Z3 := cz2 gO) | ((with_reducible refine gD 6 ?_); refine bX 6 #[.slice none 0 0, .slice none 0 0] 31 ?_; intro lZ hg_ W2 hbox hb; have hk_ : Kept W1 W2 (fun _ => False) := Kept.noth hb; replace NN := nn NN (show W1.heap.size ≤ W2.heap.size from hk_.1); have EA := am (show w.heap.size ≤ lZ from Nat.le_trans HB.1.size (Nat.le_of_eq hg_.symm)); replace NN := nn NN (show W1.heap.size ≤ lZ from Nat.le_of_eq hg_.symm); replace NN := nn NN (show lZ < W2.heap.size from gL hbox); replace gO := kB gO hk_; replace HB := bS HB.1 hb; have hL := am hbox; clear hb hbox hg_ hk_; have nb6_3 : lZ ≠ sH := (by have := NN.1;  omega); have nb3_6 : sH ≠ lZ := (by have := NN.1;  omega); (try clear Z6); have Z6 := cz2 hL; (try clear Z3); have Z3 := cz2 gO) | ((with_reducible refine gC 24 ?_); refine cQ (some 10) Try.func24 (aQ.calls k _ _ l0 _ _ l1 true _ (Kd.aX dY.1 HB.1) dX.1 (Kd.aX cU.1 HB.1) f4.1 D1.1) ?_; rintro W3 hb; have HB0 := am (show w.heap.size ≤ W2.heap.size from HB.1.size); have hk_ : Kept W2 W3 (fun _ => False) := Kept.noth hb; replace NN := nn NN (show W2.heap.size ≤ W3.heap.size from hk_.1); replace gO := kB gO hk_; replace hL := kB hL hk_; replace HB := bS HB.1 hb; clear hb hk_; (try clear Z3); have Z3 := cz2 gO; (try clear Z6); have Z6 := cz2 hL; clear HB0) | ((with_reducible refine gC 90 ?_); refine cE (some 14) Try.func90 (dP.calls k _ _ l0 _ _ l1 c1a c1b _ (Kd.aX dY.1 HB.1) dX.1 (Kd.aX cU.1 HB.1) f4.1 D2.1) ?_; rintro e_ W4 ⟨_, _, rfl, f3, lL, hb⟩; refine ⟨_, rfl, ?_⟩; have HB0 := am (show w.heap.size ≤ W3.heap.size from HB.1.size); have hk_ : Kept W3 W4 (fun _ => False) := Kept.noth hb; replace NN := nn NN (show W3.heap.size ≤ W4.heap.size from hk_.1); replace gO := kB gO hk_; replace hL := kB hL hk_; replace HB := bS HB.1 hb; have KC := am (BkS.made (n := W3.heap.size) f3 lL (HB0.out) (Nat.le_refl _)); clear f3 lL; obtain ⟨Ac0, cc0, Ac1, cc1, e0_, e1_⟩ := KC.out.slices; subst e0_; subst e1_; clear hb hk_; (try clear Z3); have Z3 := cz2 gO; (try clear Z6); have Z6 := cz2 hL; clear HB0) | ((with_reducible refine gD 8 ?_); refine bX 8 #[.slice none 0 0, .slice none 0 0] 31 ?_; intro mG hg_ W5 hbox hb; have hk_ : Kept W4 W5 (fun _ => False) := Kept.noth hb; replace NN := nn NN (show W4.heap.size ≤ W5.heap.size from hk_.1); have IX := am (show w.heap.size ≤ mG from Nat.le_trans HB.1.size (Nat.le_of_eq hg_.symm)); replace NN := nn NN (show W4.heap.size ≤ mG from Nat.le_of_eq hg_.symm); replace NN := nn NN (show mG < W5.heap.size from gL hbox); replace KC := am (BkS.kept KC.out hk_ (fun _ _ _ h => h)); replace gO := kB gO hk_; replace hL := kB hL hk_; replace HB := bS HB.1 hb; have mX := am hbox; clear hb hbox hg_ hk_; have nb8_3 : mG ≠ sH := (by have := NN.1;  omega); have nb3_8 : sH ≠ mG := (by have := NN.1;  omega); have nb8_6 : mG ≠ lZ := (by have := NN.1;  omega); have nb6_8 : lZ ≠ mG := (by have := NN.1;  omega); (try clear Z8); have Z8 := cz2 mX; (try clear Z3); have Z3 := cz2 gO; (try clear Z6); have Z6 := cz2 hL) | ((with_reducible refine gC 77 ?_); refine cQ (some 17) Try.func77 (dI.calls k a1 true _ D3.1) ?_; rintro W6 hb; obtain ⟨nd_, hd_⟩ := hb; have hb : Below ((W5.setCell ⟨mG, 0, none⟩ (.slice Ac0 c1a.length cc0)).setCell ⟨mG, 1, none⟩ (.slice Ac1 c1b.length cc1)).heap.size ((W5.setCell ⟨mG, 0, none⟩ (.slice Ac0 c1a.length cc0)).setCell ⟨mG, 1, none⟩ (.slice Ac1 c1b.length cc1)) W6 := hd_ ▸ bA (Below.refl _ _) nd_; clear hd_ nd_; have HB0 := am (show w.heap.size ≤ W5.heap.size from HB.1.size); have hk_ : Kept W5 W6 (fun k => k = mG) := (Kept.two (w := W5) (g := mG) 0 1 (.slice Ac0 c1a.length cc0) (.slice Ac1 c1b.length cc1)).below hb; replace NN := nn NN (show W5.heap.size ≤ W6.heap.size from hk_.1); replace KC := am (BkS.kept KC.out hk_ (fun k_ h1_ h2_ e_ => by have := NN.1;  omega)); replace gO := am (eX gO.1 hk_ (fun e_ => by have := NN.1;  omega)); replace hL := am (eX hL.1 hk_ (fun e_ => by have := NN.1;  omega)); replace mX := am (bH (g := mG) (o := .cells #[.slice Ac0 c1a.length cc0, .slice Ac1 c1b.length cc1] 31 (0, 0)) (bR (cs := #[.slice Ac0 c1a.length cc0, .slice none 0 0]) (bR (cs := #[.slice none 0 0, .slice none 0 0]) mX.1 0 _ rfl) 1 _ rfl) hb); replace HB := am (jR (aI (aI HB.1 IX.1) IX.1) hb); clear hb hk_; (try clear Z3); have Z3 := cz2 gO; (try clear Z8); have Z8 := cz2 mX; (try clear Z6); have Z6 := cz2 hL; clear HB0) | (go_at_call 74; refine cM (gY.calls k _ _ l2 _ _ l0 true _ (Kd.aX EE.1 HB.1) zZ.1 (Kd.aX dY.1 HB.1) dX.1 D4.1) ?_; rintro W7 hb; obtain ⟨nd_, hd_⟩ := hb; have hb : Below W6.heap.size W6 W7 := hd_ ▸ bA (Below.refl _ _) nd_; clear hd_ nd_; have HB0 := am (show w.heap.size ≤ W6.heap.size from HB.1.size); have hk_ : Kept W6 W7 (fun _ => False) := Kept.noth hb; replace NN := nn NN (show W6.heap.size ≤ W7.heap.size from hk_.1); replace KC := am (BkS.kept KC.out hk_ (fun _ _ _ h => h)); replace gO := kB gO hk_; replace hL := kB hL hk_; replace mX := kB mX hk_; replace HB := bS HB.1 hb; clear hb hk_; (try clear Z3); have Z3 := cz2 gO; (try clear Z8); have Z8 := cz2 mX; (try clear Z6); have Z6 := cz2 hL; clear HB0) | ((with_reducible refine gC 84 ?_); refine cQ (some 30) Try.func84 (iA.calls _ _ l0 _ _ l1 a1 i _ (Kd.aX dY.1 HB.1) dX.1 (Kd.aX cU.1 HB.1) f4.1 D5.1) ?_; rintro W8 hb; have HB0 := am (show w.heap.size ≤ W7.heap.size from HB.1.size); have hk_ : Kept W7 W8 (fun _ => False) := Kept.noth hb; replace NN := nn NN (show W7.heap.size ≤ W8.heap.size from hk_.1); replace KC := am (BkS.kept KC.out hk_ (fun _ _ _ h => h)); replace gO := kB gO hk_; replace hL := kB hL hk_; replace mX := kB mX hk_; replace HB := bS HB.1 hb; clear hb hk_; (try clear Z8); have Z8 := cz2 mX; (try clear Z6); have Z6 := cz2 hL; clear HB0))
  (try simp only [Exit.inBlock, Exit.then]); refine cT lZ 31 #[.slice Ac0 c1a.length cc0, .slice Ac1 c1b.length cc1] (bR (cs := #[.slice Ac0 c1a.length cc0, .slice none 0 0]) (bR (cs := #[.slice none 0 0, .slice none 0 0]) (hL.1) 0 _ rfl) 1 _ rfl) Try.underlying31 ?_
  have hK_ := BkS.kept KC.out (Kept.two (w := W8) (g := lZ) 0 1 (.slice Ac0 c1a.length cc0) (.slice Ac1 c1b.length cc1)) (fun k_ h1_ h2_ e_ => by have := NN.1;  omega)
  exact ⟨_, _, rfl, Kd.aM hK_.1 (fun _ _ => trivial), Kd.nD hK_.2 (fun _ h_ => h_.2), aI (aI HB.1 EA.1) EA.1⟩
 rw [if_neg ci] at H
 have ci0 : decide (0 ≤ i) = false := decide_eq_false ci
 have ci1 : decide (i < 0) = true := decide_eq_true (by omega)
 by_cases cl : l1.length = 5
 ·rw [if_pos cl] at H
  have cl0 : ((l1.length : Int) == 5) = true := beq_iff_eq.mpr (by omega)
  clear cl
  obtain ⟨rfl, rfl, rfl⟩ := sZ3 H
  repeat clear H
  go_enter Try.func60, Try.ntmps60
  go_wp2_with (first | ((with_reducible refine gD 3 ?_); refine bX 3 #[.slice eU l0.length eY, .slice fG l1.length eQ] 31 ?_; intro sH hg_ W1 hbox hb; have hk_ : Kept w W1 (fun _ => False) := Kept.noth hb; replace NN := nn NN (show w.heap.size ≤ W1.heap.size from hk_.1); have Vj := am (show w.heap.size ≤ sH from Nat.le_trans HB.1.size (Nat.le_of_eq hg_.symm)); replace NN := nn NN (show w.heap.size ≤ sH from Nat.le_of_eq hg_.symm); replace NN := nn NN (show sH < W1.heap.size from gL hbox); replace HB := bS HB.1 hb; have gO := am hbox; clear hb hbox hg_ hk_; (try clear Z3); have Z3 := cz2 gO) | ((with_reducible refine gD 6 ?_); refine bX 6 #[.slice none 0 0, .slice none 0 0] 31 ?_; intro lZ hg_ W2 hbox hb; have hk_ : Kept W1 W2 (fun _ => False) := Kept.noth hb; replace NN := nn NN (show W1.heap.size ≤ W2.heap.size from hk_.1); have EA := am (show w.heap.size ≤ lZ from Nat.le_trans HB.1.size (Nat.le_of_eq hg_.symm)); replace NN := nn NN (show W1.heap.size ≤ lZ from Nat.le_of_eq hg_.symm); replace NN := nn NN (show lZ < W2.heap.size from gL hbox); replace gO := kB gO hk_; replace HB := bS HB.1 hb; have hL := am hbox; clear hb hbox hg_ hk_; have nb6_3 : lZ ≠ sH := (by have := NN.1;  omega); have nb3_6 : sH ≠ lZ := (by have := NN.1;  omega); (try clear Z6); have Z6 := cz2 hL; (try clear Z3); have Z3 := cz2 gO) | ((with_reducible refine gC 24 ?_); refine cQ (some 10) Try.func24 (aQ.calls k _ _ l0 _ _ l1 true _ (Kd.aX dY.1 HB.1) dX.1 (Kd.aX cU.1 HB.1) f4.1 D1.1) ?_; rintro W3 hb; have HB0 := am (show w.heap.size ≤ W2.heap.size from HB.1.size); have hk_ : Kept W2 W3 (fun _ => False) := Kept.noth hb; replace NN := nn NN (show W2.heap.size ≤ W3.heap.size from hk_.1); replace gO := kB gO hk_; replace hL := kB hL hk_; replace HB := bS HB.1 hb; clear hb hk_; (try clear Z3); have Z3 := cz2 gO; (try clear Z6); have Z6 := cz2 hL; clear HB0) | ((with_reducible refine gC 90 ?_); refine cE (some 14) Try.func90 (dP.calls k _ _ l0 _ _ l1 c1a c1b _ (Kd.aX dY.1 HB.1) dX.1 (Kd.aX cU.1 HB.1) f4.1 D2.1) ?_; rintro e_ W4 ⟨_, _, rfl, f3, lL, hb⟩; refine ⟨_, rfl, ?_⟩; have HB0 := am (show w.heap.size ≤ W3.heap.size from HB.1.size); have hk_ : Kept W3 W4 (fun _ => False) := Kept.noth hb; replace NN := nn NN (show W3.heap.size ≤ W4.heap.size from hk_.1); replace gO := kB gO hk_; replace hL := kB hL hk_; replace HB := bS HB.1 hb; have KC := am (BkS.made (n := W3.heap.size) f3 lL (HB0.out) (Nat.le_refl _)); clear f3 lL; obtain ⟨Ac0, cc0, Ac1, cc1, e0_, e1_⟩ := KC.out.slices; subst e0_; subst e1_; clear hb hk_; (try clear Z3); have Z3 := cz2 gO; (try clear Z6); have Z6 := cz2 hL; clear HB0) | ((with_reducible refine gD 8 ?_); refine bX 8 #[.slice none 0 0, .slice none 0 0] 31 ?_; intro mG hg_ W5 hbox hb; have hk_ : Kept W4 W5 (fun _ => False) := Kept.noth hb; replace NN := nn NN (show W4.heap.size ≤ W5.heap.size from hk_.1); have IX := am (show w.heap.size ≤ mG from Nat.le_trans HB.1.size (Nat.le_of_eq hg_.symm)); replace NN := nn NN (show W4.heap.size ≤ mG from Nat.le_of_eq hg_.symm); replace NN := nn NN (show mG < W5.heap.size from gL hbox); replace KC := am (BkS.kept KC.out hk_ (fun _ _ _ h => h)); replace gO := kB gO hk_; replace hL := kB hL hk_; replace HB := bS HB.1 hb; have mX := am hbox; clear hb hbox hg_ hk_; have nb8_3 : mG ≠ sH := (by have := NN.1;  omega); have nb3_8 : sH ≠ mG := (by have := NN.1;  omega); have nb8_6 : mG ≠ lZ := (by have := NN.1;  omega); have nb6_8 : lZ ≠ mG := (by have := NN.1;  omega); (try clear Z8); have Z8 := cz2 mX; (try clear Z3); have Z3 := cz2 gO; (try clear Z6); have Z6 := cz2 hL) | ((with_reducible refine gC 77 ?_); refine cQ (some 17) Try.func77 (dI.calls k a1 true _ D3.1) ?_; rintro W6 hb; obtain ⟨nd_, hd_⟩ := hb; have hb : Below ((W5.setCell ⟨mG, 0, none⟩ (.slice Ac0 c1a.length cc0)).setCell ⟨mG, 1, none⟩ (.slice Ac1 c1b.length cc1)).heap.size ((W5.setCell ⟨mG, 0, none⟩ (.slice Ac0 c1a.length cc0)).setCell ⟨mG, 1, none⟩ (.slice Ac1 c1b.length cc1)) W6 := hd_ ▸ bA (Below.refl _ _) nd_; clear hd_ nd_; have HB0 := am (show w.heap.size ≤ W5.heap.size from HB.1.size); have hk_ : Kept W5 W6 (fun k => k = mG) := (Kept.two (w := W5) (g := mG) 0 1 (.slice Ac0 c1a.length cc0) (.slice Ac1 c1b.length cc1)).below hb; replace NN := nn NN (show W5.heap.size ≤ W6.heap.size from hk_.1); replace KC := am (BkS.kept KC.out hk_ (fun k_ h1_ h2_ e_ => by have := NN.1;  omega)); replace gO := am (eX gO.1 hk_ (fun e_ => by have := NN.1;  omega)); replace hL := am (eX hL.1 hk_ (fun e_ => by have := NN.1;  omega)); replace mX := am (bH (g := mG) (o := .cells #[.slice Ac0 c1a.length cc0, .slice Ac1 c1b.length cc1] 31 (0, 0)) (bR (cs := #[.slice Ac0 c1a.length cc0, .slice none 0 0]) (bR (cs := #[.slice none 0 0, .slice none 0 0]) mX.1 0 _ rfl) 1 _ rfl) hb); replace HB := am (jR (aI (aI HB.1 IX.1) IX.1) hb); clear hb hk_; (try clear Z3); have Z3 := cz2 gO; (try clear Z8); have Z8 := cz2 mX; (try clear Z6); have Z6 := cz2 hL; clear HB0) | (go_at_call 74; refine cM (gY.calls k _ _ l2 _ _ l0 true _ (Kd.aX EE.1 HB.1) zZ.1 (Kd.aX dY.1 HB.1) dX.1 D4.1) ?_; rintro W7 hb; obtain ⟨nd_, hd_⟩ := hb; have hb : Below W6.heap.size W6 W7 := hd_ ▸ bA (Below.refl _ _) nd_; clear hd_ nd_; have HB0 := am (show w.heap.size ≤ W6.heap.size from HB.1.size); have hk_ : Kept W6 W7 (fun _ => False) := Kept.noth hb; replace NN := nn NN (show W6.heap.size ≤ W7.heap.size from hk_.1); replace KC := am (BkS.kept KC.out hk_ (fun _ _ _ h => h)); replace gO := kB gO hk_; replace hL := kB hL hk_; replace mX := kB mX hk_; replace HB := bS HB.1 hb; clear hb hk_; (try clear Z3); have Z3 := cz2 gO; (try clear Z8); have Z8 := cz2 mX; (try clear Z6); have Z6 := cz2 hL; clear HB0) | ((with_reducible refine gC 84 ?_); refine cQ (some 30) Try.func84 (iA.calls _ _ l0 _ _ l1 a1 i _ (Kd.aX dY.1 HB.1) dX.1 (Kd.aX cU.1 HB.1) f4.1 D5.1) ?_; rintro W8 hb; have HB0 := am (show w.heap.size ≤ W7.heap.size from HB.1.size); have hk_ : Kept W7 W8 (fun _ => False) := Kept.noth hb; replace NN := nn NN (show W7.heap.size ≤ W8.heap.size from hk_.1); replace KC := am (BkS.kept KC.out hk_ (fun _ _ _ h => h)); replace gO := kB gO hk_; replace hL := kB hL hk_; replace mX := kB mX hk_; replace HB := bS HB.1 hb; clear hb hk_; (try clear Z3); have Z3 := cz2 gO; (try clear Z8); have Z8 := cz2 mX; (try clear Z6); have Z6 := cz2 hL; clear HB0))
  (try simp only [Exit.inBlock, Exit.then]); refine cT lZ 31 #[.slice Ac0 c1a.length cc0, .slice Ac1 c1b.length cc1] (bR (cs := #[.slice Ac0 c1a.length cc0, .slice none 0 0]) (bR (cs := #[.slice none 0 0, .slice none 0 0]) (hL.1) 0 _ rfl) 1 _ rfl) Try.underlying31 ?_
  have hK_ := BkS.kept KC.out (Kept.two (w := W8) (g := lZ) 0 1 (.slice Ac0 c1a.length cc0) (.slice Ac1 c1b.length cc1)) (fun k_ h1_ h2_ e_ => by have := NN.1;  omega)
  exact ⟨_, _, rfl, Kd.aM hK_.1 (fun _ _ => trivial), Kd.nD hK_.2 (fun _ h_ => h_.2), aI (aI HB.1 EA.1) EA.1⟩
 rw [if_neg cl] at H
 have cl0 : ((l1.length : Int) == 5) = false := beq_eq_false_iff_ne.mpr (by omega)
 clear cl
 obtain ⟨nd, D6, H⟩ := bd H
 by_cases hca : ¬ (c1b.length ≤ 11 ∧ Asc (insB c1b ⟨a1, [], nd⟩))
 ·rw [if_neg hca] at H
  cases H
 have hca := Classical.not_not.mp hca
 rw [if_pos hca] at H
 obtain ⟨cn11, cas⟩ := hca
 obtain ⟨rfl, rfl, rfl⟩ := sZ3 H
 repeat clear H
 have CAS := am cas
 clear cas
 have LEN := am cn11
 clear cn11
 go_enter Try.func60, Try.ntmps60
 try go_wp2_with (first | ((with_reducible refine gD 3 ?_); refine bX 3 #[.slice eU l0.length eY, .slice fG l1.length eQ] 31 ?_; intro sH hg_ W1 hbox hb; have hk_ : Kept w W1 (fun _ => False) := Kept.noth hb; replace NN := nn NN (show w.heap.size ≤ W1.heap.size from hk_.1); have Vj := am (show w.heap.size ≤ sH from Nat.le_trans HB.1.size (Nat.le_of_eq hg_.symm)); replace NN := nn NN (show w.heap.size ≤ sH from Nat.le_of_eq hg_.symm); replace NN := nn NN (show sH < W1.heap.size from gL hbox); replace HB := bS HB.1 hb; have gO := am hbox; clear hb hbox hg_ hk_; (try clear Z3); have Z3 := cz2 gO) | ((with_reducible refine gD 6 ?_); refine bX 6 #[.slice none 0 0, .slice none 0 0] 31 ?_; intro lZ hg_ W2 hbox hb; have hk_ : Kept W1 W2 (fun _ => False) := Kept.noth hb; replace NN := nn NN (show W1.heap.size ≤ W2.heap.size from hk_.1); have EA := am (show w.heap.size ≤ lZ from Nat.le_trans HB.1.size (Nat.le_of_eq hg_.symm)); replace NN := nn NN (show W1.heap.size ≤ lZ from Nat.le_of_eq hg_.symm); replace NN := nn NN (show lZ < W2.heap.size from gL hbox); replace gO := kB gO hk_; replace HB := bS HB.1 hb; have hL := am hbox; clear hb hbox hg_ hk_; have nb6_3 : lZ ≠ sH := (by have := NN.1;  omega); have nb3_6 : sH ≠ lZ := (by have := NN.1;  omega); (try clear Z6); have Z6 := cz2 hL; (try clear Z3); have Z3 := cz2 gO) | ((with_reducible refine gC 24 ?_); refine cQ (some 10) Try.func24 (aQ.calls k _ _ l0 _ _ l1 true _ (Kd.aX dY.1 HB.1) dX.1 (Kd.aX cU.1 HB.1) f4.1 D1.1) ?_; rintro W3 hb; have HB0 := am (show w.heap.size ≤ W2.heap.size from HB.1.size); have hk_ : Kept W2 W3 (fun _ => False) := Kept.noth hb; replace NN := nn NN (show W2.heap.size ≤ W3.heap.size from hk_.1); replace gO := kB gO hk_; replace hL := kB hL hk_; replace HB := bS HB.1 hb; clear hb hk_; (try clear Z3); have Z3 := cz2 gO; (try clear Z6); have Z6 := cz2 hL; clear HB0) | ((with_reducible refine gC 90 ?_); refine cE (some 14) Try.func90 (dP.calls k _ _ l0 _ _ l1 c1a c1b _ (Kd.aX dY.1 HB.1) dX.1 (Kd.aX cU.1 HB.1) f4.1 D2.1) ?_; rintro e_ W4 ⟨_, _, rfl, f3, lL, hb⟩; refine ⟨_, rfl, ?_⟩; have HB0 := am (show w.heap.size ≤ W3.heap.size from HB.1.size); have hk_ : Kept W3 W4 (fun _ => False) := Kept.noth hb; replace NN := nn NN (show W3.heap.size ≤ W4.heap.size from hk_.1); replace gO := kB gO hk_; replace hL := kB hL hk_; replace HB := bS HB.1 hb; have KC := am (BkS.made (n := W3.heap.size) f3 lL (HB0.out) (Nat.le_refl _)); clear f3 lL; obtain ⟨Ac0, cc0, Ac1, cc1, e0_, e1_⟩ := KC.out.slices; subst e0_; subst e1_; clear hb hk_; (try clear Z3); have Z3 := cz2 gO; (try clear Z6); have Z6 := cz2 hL; clear HB0) | ((with_reducible refine gD 8 ?_); refine bX 8 #[.slice none 0 0, .slice none 0 0] 31 ?_; intro mG hg_ W5 hbox hb; have hk_ : Kept W4 W5 (fun _ => False) := Kept.noth hb; replace NN := nn NN (show W4.heap.size ≤ W5.heap.size from hk_.1); have IX := am (show w.heap.size ≤ mG from Nat.le_trans HB.1.size (Nat.le_of_eq hg_.symm)); replace NN := nn NN (show W4.heap.size ≤ mG from Nat.le_of_eq hg_.symm); replace NN := nn NN (show mG < W5.heap.size from gL hbox); replace KC := am (BkS.kept KC.out hk_ (fun _ _ _ h => h)); replace gO := kB gO hk_; replace hL := kB hL hk_; replace HB := bS HB.1 hb; have mX := am hbox; clear hb hbox hg_ hk_; have nb8_3 : mG ≠ sH := (by have := NN.1;  omega); have nb3_8 : sH ≠ mG := (by have := NN.1;  omega); have nb8_6 : mG ≠ lZ := (by have := NN.1;  omega); have nb6_8 : lZ ≠ mG := (by have := NN.1;  omega); (try clear Z8); have Z8 := cz2 mX; (try clear Z3); have Z3 := cz2 gO; (try clear Z6); have Z6 := cz2 hL) | ((with_reducible refine gC 77 ?_); refine cQ (some 17) Try.func77 (dI.calls k a1 true _ D3.1) ?_; rintro W6 hb; obtain ⟨nd_, hd_⟩ := hb; have hb : Below ((W5.setCell ⟨mG, 0, none⟩ (.slice Ac0 c1a.length cc0)).setCell ⟨mG, 1, none⟩ (.slice Ac1 c1b.length cc1)).heap.size ((W5.setCell ⟨mG, 0, none⟩ (.slice Ac0 c1a.length cc0)).setCell ⟨mG, 1, none⟩ (.slice Ac1 c1b.length cc1)) W6 := hd_ ▸ bA (Below.refl _ _) nd_; clear hd_ nd_; have HB0 := am (show w.heap.size ≤ W5.heap.size from HB.1.size); have hk_ : Kept W5 W6 (fun k => k = mG) := (Kept.two (w := W5) (g := mG) 0 1 (.slice Ac0 c1a.length cc0) (.slice Ac1 c1b.length cc1)).below hb; replace NN := nn NN (show W5.heap.size ≤ W6.heap.size from hk_.1); replace KC := am (BkS.kept KC.out hk_ (fun k_ h1_ h2_ e_ => by have := NN.1;  omega)); replace gO := am (eX gO.1 hk_ (fun e_ => by have := NN.1;  omega)); replace hL := am (eX hL.1 hk_ (fun e_ => by have := NN.1;  omega)); replace mX := am (bH (g := mG) (o := .cells #[.slice Ac0 c1a.length cc0, .slice Ac1 c1b.length cc1] 31 (0, 0)) (bR (cs := #[.slice Ac0 c1a.length cc0, .slice none 0 0]) (bR (cs := #[.slice none 0 0, .slice none 0 0]) mX.1 0 _ rfl) 1 _ rfl) hb); replace HB := am (jR (aI (aI HB.1 IX.1) IX.1) hb); clear hb hk_; (try clear Z3); have Z3 := cz2 gO; (try clear Z8); have Z8 := cz2 mX; (try clear Z6); have Z6 := cz2 hL; clear HB0) | (go_at_call 74; refine cM (gY.calls k _ _ l2 _ _ l0 true _ (Kd.aX EE.1 HB.1) zZ.1 (Kd.aX dY.1 HB.1) dX.1 D4.1) ?_; rintro W7 hb; obtain ⟨nd_, hd_⟩ := hb; have hb : Below W6.heap.size W6 W7 := hd_ ▸ bA (Below.refl _ _) nd_; clear hd_ nd_; have HB0 := am (show w.heap.size ≤ W6.heap.size from HB.1.size); have hk_ : Kept W6 W7 (fun _ => False) := Kept.noth hb; replace NN := nn NN (show W6.heap.size ≤ W7.heap.size from hk_.1); replace KC := am (BkS.kept KC.out hk_ (fun _ _ _ h => h)); replace gO := kB gO hk_; replace hL := kB hL hk_; replace mX := kB mX hk_; replace HB := bS HB.1 hb; clear hb hk_; (try clear Z3); have Z3 := cz2 gO; (try clear Z8); have Z8 := cz2 mX; (try clear Z6); have Z6 := cz2 hL; clear HB0) | ((with_reducible refine gC 84 ?_); refine cQ (some 30) Try.func84 (iA.calls _ _ l0 _ _ l1 a1 i _ (Kd.aX dY.1 HB.1) dX.1 (Kd.aX cU.1 HB.1) f4.1 D5.1) ?_; rintro W8 hb; have HB0 := am (show w.heap.size ≤ W7.heap.size from HB.1.size); have hk_ : Kept W7 W8 (fun _ => False) := Kept.noth hb; replace NN := nn NN (show W7.heap.size ≤ W8.heap.size from hk_.1); replace KC := am (BkS.kept KC.out hk_ (fun _ _ _ h => h)); replace gO := kB gO hk_; replace hL := kB hL hk_; replace mX := kB mX hk_; replace HB := bS HB.1 hb; clear hb hk_; (try clear Z3); have Z3 := cz2 gO; (try clear Z8); have Z8 := cz2 mX; clear HB0))
 have n0_ := am (BkS.kept KC.out (w' := W8.drew) (Kept.noth (aV (Below.refl _ _))) (fun _ _ _ h => h))
 have n1_ := BD gO
 have n2_ := BD hL
 have n3_ := BD mX
 have n4_ := am (aV HB.1)
 have nle_ := am (show W8.heap.size ≤ W8.drew.heap.size from Nat.le_refl _)
 clear KC gO hL mX HB
 have KC := n0_
 have gO := n1_
 have hL := n2_
 have mX := n3_
 have HB := n4_
 clear n0_ n1_ n2_ n3_ n4_
 refine sT [9] 10 (uA2 mX) (fun hHeld => ?_)
 generalize W8.drew = W9 at KC gO hL mX HB nle_ hHeld ⊢
 have XI := nle_
 clear nle_
 refine pU0 0 (some 39) ?_
 refine pU0 2 (some 41) ?_
 refine pU0 3 (some 42) ?_
 refine tK2_ 1 (some 40) ?_
 refine oM 4 (some 43) fun K hK => ?_
 refine gE Try.func94 (dU.calls _ _ l2 nd _ (Kd.aX EE.1 HB.1) zZ.1 D6.1) ?_
 rintro e_ W10 ⟨_, rfl, f3, hb⟩
 refine ⟨_, rfl, ?_⟩
 have HB0 := am (show w.heap.size ≤ W9.heap.size from HB.1.size)
 have hk_ : Kept W9 W10 (fun _ => False) := Kept.noth hb
 have Hu := am (show W9.heap.size ≤ W10.heap.size from hk_.1); replace NN := nn NN Hu.1
 replace KC := am (BkS.kept KC.out hk_ (fun _ _ _ h => h))
 replace gO := kB gO hk_
 replace hL := kB hL hk_
 replace mX := kB mX hk_
 replace HB := bS HB.1 hb
 have KN := am (RwS.made (n := W9.heap.size) f3 (HB0.out) (Nat.le_refl _))
 clear f3
 obtain ⟨An0, cn0, e0_⟩ := KN.out.slices
 subst e0_
 clear hb hk_ HB0
 refine nK hK (uA2 mX).1 fun hHeld => ?_
 clear hK K
 refine pU0 5 (some 44) ?_
 refine oM 6 (some 45) fun K hK => ?_
 refine yQ (w1 := ?_) (v := ?_) (by rfl) rfl ?_ ?_
 rotate_left 2
 ·go_simp
  constructor
  ·rfl
  rfl
 refine hK.out _ _ ⟨(bC (bM mX.1 _) 0).trans rfl, (bC (bM mX.1 _) 1).trans rfl⟩ (fun hHeld => ?_)
 clear hK K
 refine nM ?_
 have hAP := am (BkS.appM a1 KC.out KN.out (by have := NN.1; have := XI.1; have := Hu.1;  omega) (by have := NN.1; have := XI.1; have := Hu.1;  omega) (by have := NN.1; have := XI.1; have := Hu.1;  omega))
 refine oM 7 (some 46) fun K hK => ?_
 refine Kd.zY k56 (w0 := w) w.heap.size (by rfl) (.tmp 40) (.tmp 45) 29 56 Ag0 64 rfl Try.underlying29 rC rfl (by decide) (by omega) (.slice Ac1 c1b.length cc1) c1b (⟨a1, [], nd⟩ : S56) [.string a1, .slice none 0 0, .slice An0 nd.length cn0] (fun k => W3.heap.size ≤ k ∧ some k ≠ (.slice Ac0 c1a.length cc0 : Value).ownBlock) (fun k => some k = (.slice An0 nd.length cn0 : Value).ownBlock) rfl rfl hAP.out.1 hAP.out.2.1 hAP.out.2.2.1 hAP.out.2.2.2 HB.1 HB.1.size (by have := LEN.out; omega) ?_
 intro v_ W11 ho_ hb_ hg_ hat_
 have hk_ : Kept W10 W11 (fun k => some k = (.slice Ac1 c1b.length cc1 : Value).ownBlock) := Kept.rZ hg_ (Kept.refl W10 _) (fun k e => Or.inl e.symm)
 replace NN := nn NN (show W10.heap.size ≤ W11.heap.size from hk_.1)
 have nk_ := am (BkS.appB KC.out ho_ hk_ (by have := NN.1; have := XI.1; have := NN.1;  omega))
 have nb3_ := am (eX gO.1 hk_ (fun e_ => Kd.S_ne KC.out.2 gO.1 (by decide) e_))
 have nb6_ := am (eX hL.1 hk_ (fun e_ => Kd.S_ne KC.out.2 hL.1 (by decide) e_))
 have nb8_ := am (eX mX.1 hk_ (fun e_ => Kd.S_ne KC.out.2 mX.1 (by decide) e_))
 clear KC KN HB hAP hat_ ho_ hg_ gO hL mX
 have KC := nk_
 have HB := am hb_
 have gO := nb3_
 have hL := nb6_
 have mX := nb8_
 clear nk_ hb_ hk_ nb3_ nb6_ nb8_
 generalize hyy : c1b ++ [(⟨a1, [], nd⟩ : S56)] = y at KC
 have HYY := am hyy
 clear hyy
 have HYL : aC (y.length = c1b.length + 1) := ⟨by rw [← HYY.out, List.length_append]; rfl⟩
 obtain ⟨ge, ce, ee_, _, _, _⟩ := Kd.TH KC.out.2 (by have := HYL.out; omega)
 subst ee_
 refine nK hK (uA2 mX).1 fun hHeld => ?_
 clear hK K
 refine pU0 8 (some 47) ?_
 refine Cm (i := 9) (N := none) (bz 10 1023) rfl rfl (by kernel_rfl) (by decide) (fun K hK => ?_)
 have hs8 : W11.cell? ⟨mG, 1, none⟩ = some (.slice Ac1 c1b.length cc1) := (bC mX.1 1).trans rfl
 have qo := eB mX.1 1
 refine uX (w1 := (W11.setCell ⟨mG, 1, none⟩ (.slice (some ⟨ge, 0, none⟩) y.length ce))) (by rfl) rfl ?_ ?_
 ·go_simp
  (try rfl)
 refine hK.out _ _ ?_
 clear hK K
 refine QY (by kernel_rfl) ?_
 clear hs8 qo
 have nk_ := am (BkS.far (g := mG) (j := 1) (u := .slice (some ⟨ge, 0, none⟩) y.length ce) KC.out mX.1 (by decide))
 have hk_ : Kept W11 (W11.setCell ⟨mG, 1, none⟩ (.slice (some ⟨ge, 0, none⟩) y.length ce)) (fun k => k = mG) := Kept.setCell (p := ⟨mG, 1, none⟩) (Kept.refl W11 (fun k => k = mG)) (Or.inl rfl) _
 have nb3_ := am (eX gO.1 hk_ (fun e_ => nb3_8 e_))
 have nb6_ := am (eX hL.1 hk_ (fun e_ => nb6_8 e_))
 have nb8_ := am (bR (cs := #[.slice Ac0 c1a.length cc0, .slice Ac1 c1b.length cc1]) mX.1 1 (.slice (some ⟨ge, 0, none⟩) y.length ce) rfl)
 have nB_ : aC (Below w.heap.size w (W11.setCell ⟨mG, 1, none⟩ (.slice (some ⟨ge, 0, none⟩) y.length ce))) := ⟨aI HB.1 IX.1⟩
 have nle_ := am (show W11.heap.size ≤ (W11.setCell ⟨mG, 1, none⟩ (.slice (some ⟨ge, 0, none⟩) y.length ce)).heap.size from hk_.1)
 clear KC HB hk_ gO hL mX
 have KC := nk_
 have HB := nB_
 have gO := nb3_
 have hL := nb6_
 have mX := nb8_
 clear nk_ nB_ nb3_ nb6_ nb8_
 change aC ((W11.setCell ⟨mG, 1, none⟩ (.slice (some ⟨ge, 0, none⟩) y.length ce)).heap[mG]? = some (.cells #[.slice Ac0 c1a.length cc0, .slice (some ⟨ge, 0, none⟩) y.length ce] 31 (0, 0))) at mX
 generalize (W11.setCell ⟨mG, 1, none⟩ (.slice (some ⟨ge, 0, none⟩) y.length ce)) = W12 at KC HB nle_ gO hL mX ⊢
 have aIE := nle_
 clear nle_
 (try clear Z8)
 have Z8 := cz2 mX
 go_wp2_with (first | ((with_reducible refine gC 103 ?_); refine cQ (some 52) Try.func103 (TU KC.out.2 mX.1 (fun e_ => by have h_ := Kd.S_ne KC.out.2 mX.1 (by decide); exact h_ (by rw [e_]; rfl)) (by have := HYL.out; omega) (by have := LEN.out; have := HYL.out; omega) HB.1) ?_; rintro W13 ⟨xs, hpm, hpw, hs_, hb_, hk_⟩; have hxs : xs = insB c1b ⟨a1, [], nd⟩ := Eb (hpm.trans (by rw [← HYY.out]; exact (Lt c1b ⟨a1, [], nd⟩).symm)) hpw CAS.out; replace NN := nn NN (show W12.heap.size ≤ W13.heap.size from hk_.1); have nk_ := am (BkS.sorted KC.out hs_ hk_); have nb3_ := am (eX gO.1 hk_ (fun e_ => by have h_ := Kd.S_ne KC.out.2 gO.1 (by decide); exact h_ (by rw [e_]; rfl))); have nb6_ := am (eX hL.1 hk_ (fun e_ => by have h_ := Kd.S_ne KC.out.2 hL.1 (by decide); exact h_ (by rw [e_]; rfl))); have nb8_ := am (eX mX.1 hk_ (fun e_ => by have h_ := Kd.S_ne KC.out.2 mX.1 (by decide); exact h_ (by rw [e_]; rfl))); clear KC HB hs_ hk_ hpm hpw gO hL mX; have KC := nk_; have HB := am hb_; clear nk_ hb_; have gO := nb3_; have hL := nb6_; have mX := nb8_; clear nb3_ nb6_ nb8_; (try clear Z8); have Z8 := cz2 mX; (try clear Z6); have Z6 := cz2 hL))
 (try simp only [Exit.inBlock, Exit.then]); refine cT lZ 31 #[.slice Ac0 c1a.length cc0, .slice (some ⟨ge, 0, none⟩) y.length ce] (bR (cs := #[.slice Ac0 c1a.length cc0, .slice none 0 0]) (bR (cs := #[.slice none 0 0, .slice none 0 0]) (hL.1) 0 _ rfl) 1 _ rfl) Try.underlying31 ?_
 have k1_ := am (BkS.far (g := lZ) (j := 0) (u := .slice Ac0 c1a.length cc0) KC.out hL.1 (by decide))
 have k2_ := BkS.far (g := lZ) (j := 1) (u := .slice (some ⟨ge, 0, none⟩) y.length ce) k1_.out (bR (cs := #[.slice none 0 0, .slice none 0 0]) hL.1 0 (.slice Ac0 c1a.length cc0) rfl) (by decide)
 rw [hxs] at k2_
 exact ⟨_, _, rfl, Kd.aM k2_.1 (fun _ _ => trivial), Kd.nD k2_.2 (fun _ h_ => h_.2), aI (aI HB.1 EA.1) EA.1⟩
def gN.l0 : Nat → List ByteArray → List ByteArray → Int → Option (Bool)
 | 0, _, _, _ => none
 | k + 1, b, c, a => if a < (b.length : Int) then (if 0 ≤ a then (if a < (c.length : Int) then (if (rdOf ByteArray.empty b a).toList = (rdOf ByteArray.empty c a).toList then (gN.l0 k b c (wrap64 (a + 1))) else (some false)) else (none)) else (none)) else (some true)
def gN.f (k : Nat) (l0 : List ByteArray) (l1 : List ByteArray) : Option (Bool) := if (l0.length : Int) = (l1.length : Int) then (gN.l0 k l0 l1 0) else (some false)
theorem gN.calls (k : Nat) (A0 : Option Addr) (c0 : Nat) (l0 : List ByteArray) (A1 : Option Addr) (c1 : Nat) (l1 : List ByteArray) (r : Bool) (w : World) (sJ : Kd.C Kd.string w A0 l0.length l0) (yR : l0.length ≤ c0) (FG : Kd.C Kd.string w A1 l1.length l1) (FF : l1.length ≤ c1) (h : gN.f k l0 l1 = some r) :
  Calls Try.prog 54 #[.slice A0 l0.length c0, .slice A1 l1.length c1] w fun e w' => e = .returned (.bool r) ∧ kY w w' := by
 obtain ⟨tO, QP⟩ := mZ2 sJ yR
 obtain ⟨IL, LA⟩ := mZ2 FG FF
 clear sJ yR FG FF
 unfold gN.f at h
 have H := h
 clear h
 by_cases c3 : (l0.length : Int) = (l1.length : Int)
 ·rw [if_pos c3] at H
  have IM : ((l0.length : Int) == (l1.length : Int)) = true := beq_iff_eq.mpr c3
  have Ld : ((l0.length : Int) != (l1.length : Int)) = false := bne_eq_false_iff_eq.mpr c3
  have a0M : (l0.length == l1.length) = true := by first | simpa using c3 | (simp at c3 ⊢; omega)
  clear c3
  have H' := am H
  repeat clear H
  go_enter Try.func54, Try.ntmps54
  go_wp2
  repeat (go_quiet (fail); try go_wp2)
  go_loopg [5] k (fun kq v5 w' => ∃ (dW : Int), v5 = .int .i64 dW ∧ aC (gN.l0 kq l0 l1 dW = some r) ∧ aC (kq ≤ k) ∧ kY w w')
  case atStart => exact ⟨(0), dM, H', ⟨Nat.le_refl _⟩, gR⟩
  clear H'
  try clear c1
  try clear c3
  try clear IM
  try clear Ld
  try clear a0M
  obtain ⟨dW, rfl, HA, HK1, ⟨m1, rfl⟩⟩ := hrel
  cases gk with
  | zero => exact absurd HA.out (by simp [gN.l0])
  | succ k1 =>
   have H := HA.out
   clear HA
   simp only [gN.l0] at H
   refine ic H ?_ ?_ <;> clear H <;> intro yF H
   ·obtain ⟨IP, H⟩ := cN H
    obtain ⟨RQ, H⟩ := cN H
    refine iq H ?_ ?_ <;> clear H <;> intro c7 XW aU4 H
    ·have H' := am H
     repeat clear H
     obtain ⟨kK, pN, lH, zO, zR⟩ := aS tO b0 dW
     cases pN
     obtain ⟨pF, uK, oR, F7, FB⟩ := aS IL b0 dW
     cases uK
     go_wp2
     repeat (go_quiet (fail); try go_wp2)
     go_roundg k1
     case measure => have := HK1.out; omega
     case rel => exact ⟨(wrap64 (dW + 1)), dM, H', ⟨by have := HK1.out; omega⟩, gR⟩
    ·obtain rfl := Option.some.inj H
     repeat clear H
     obtain ⟨kK, pN, lH, zO, zR⟩ := aS tO b0 dW
     cases pN
     obtain ⟨pF, uK, oR, F7, FB⟩ := aS IL b0 dW
     cases uK
     go_wp2
     repeat (go_quiet (fail); try go_wp2)
     go_ret
     exact ⟨by first | rfl | (simp; done) | (simp [*]; done), gR⟩
   ·obtain rfl := Option.some.inj H
    repeat clear H
    go_wp2
    repeat (go_quiet (fail); try go_wp2)
    go_ret
    exact ⟨by first | rfl | (simp; done) | (simp [*]; done), gR⟩
 rw [if_neg c3] at H
 have IM : ((l0.length : Int) == (l1.length : Int)) = false := beq_eq_false_iff_ne.mpr c3
 have Ld : ((l0.length : Int) != (l1.length : Int)) = true := bne_iff_ne.mpr c3
 have a0M : (l0.length == l1.length) = false := by first | simpa using c3 | (simp at c3 ⊢; omega)
 obtain rfl := Option.some.inj H
 repeat clear H
 go_enter Try.func54, Try.ntmps54
 go_wp2
 repeat (go_quiet (fail); try go_wp2)
 go_ret
 exact ⟨by first | rfl | (simp; done) | (simp [*]; done), gR⟩
mutual
def dK.j0 : Nat → Bool → List ByteArray → List (S56) → List ByteArray → List (S56) → Option (Bool)
 | 0, _, _, _, _, _ => none
 | k + 1, a, b, c, d, e => if a = true then (some false) else (dK.l0 k 0 b c d e)
def dK.l0 : Nat → Int → List ByteArray → List (S56) → List ByteArray → List (S56) → Option (Bool)
 | 0, _, _, _, _, _ => none
 | k + 1, a, d, b, e, c => if a < (b.length : Int) then (if 0 ≤ a then (if a < (c.length : Int) then (if ((aA b a).f0).toList = ((aA c a).f0).toList then ((gN.f k ((aA b a).f1) ((aA c a).f1)).bind fun g => (if g = true then ((gN.f k ((aA b a).f2) ((aA c a).f2)).bind fun h => (if h = true then (dK.l0 k (wrap64 (a + 1)) d b e c) else (some false))) else (some false))) else (some false)) else (none)) else (none)) else (some true)
end
def dK.f (k : Nat) (bF : List ByteArray) (aN : List (S56)) (fK : List ByteArray) (jJ : List (S56)) : Option (Bool) := (gN.f k bF fK).bind fun a => (if a = true then (dK.j0 k ((aN.length : Int) != (jJ.length : Int)) bF aN fK jJ) else (dK.j0 k true bF aN fK jJ))
def dK.T6 : Bool × List (List Nat × List Nat) := (true, [([], []), ([0], [0]), ([], []), ([1, 2], [1, 2]), ([3], [3]), ([4], [4]), ([], []), ([6], [6]), ([], []), ([7, 8], [7, 8]), ([9], [9]), ([10], [10]), ([5, 11], [5, 11]), ([12], [12]), ([13], [13]), ([14, 13], [13, 14]), ([13], [13]), ([15, 16, 13], [13, 15, 16]), ([17, 13], [13, 17]), ([18, 13], [13, 18]), ([13], [13]), ([20, 13], [13, 20]), ([13], [13]), ([21, 22, 13], [13, 21, 22]), ([23, 13], [13, 23]), ([24, 13], [13, 24]), ([19, 25, 13, 13], [13, 19, 25]), ([26, 13], [13, 26]), ([13, 27], [13, 27]), ([28, 26], [28]), ([29], [29]), ([30, 29], [29, 30]), ([29], [29]), ([31, 32, 29], [29, 31, 32]), ([33, 29], [29, 33]), ([34, 29], [29, 34]), ([29], [29]), ([36, 29], [29, 36]), ([29], [29]), ([37, 38, 29], [29, 37, 38]), ([39, 29], [29, 39]), ([40, 29], [29, 40]), ([35, 41, 29, 29], [29, 35, 41]), ([42, 29], [29, 42]), ([29, 43], [29, 43])])
def dK.B6 : List Nat := [0, 1, 0, 7, 15, 31, 0, 64, 0, 448, 960, 1984, 4095, 8191, 16383, 32767, 16383, 131071, 262143, 524287, 16383, 1064959, 16383, 7356415, 15745023, 32522239, 67108863, 134217727, 268435455, 536870911, 1073741823, 2147483647, 1073741823, 8589934591, 17179869183, 34359738367, 1073741823, 69793218559, 1073741823, 482110078975, 1031865892863, 2131377520639, 4398046511103, 8796093022207, 17592186044415]
theorem dK.tab6 : rtab .any (opsOf Try.f64 6) = dK.T6 := by kernel_rfl
theorem dK.AL : kP dK.T6.2 dK.B6 = true := by kernel_rfl
theorem dK.calls (k : Nat) (eU : Option Addr) (eY : Nat) (bF : List ByteArray) (fG : Option Addr) (eQ : Nat) (aN : List (S56)) (xC : Option Addr) (yE : Nat) (fK : List ByteArray) (wP : Option Addr) (wM : Nat) (jJ : List (S56)) (r : Bool) (w : World) (iG : Kd.C Kd.string w eU bF.length bF) (iD : bF.length ≤ eY) (iC : Kd.C k56 w fG aN.length aN) (iE : aN.length ≤ eQ) (R5 : Kd.C Kd.string w xC fK.length fK) (R4 : fK.length ≤ yE) (JO : Kd.C k56 w wP jJ.length jJ) (LL : jJ.length ≤ wM) (h : dK.f k bF aN fK jJ = some r) :
  Calls Try.prog 64 #[.agg #[.slice eU bF.length eY, .slice fG aN.length eQ], .agg #[.slice xC fK.length yE, .slice wP jJ.length wM]] w fun e w' => e = .returned (.bool r) ∧ Below w.heap.size w w' := by
 have hu31 := Try.underlying31
 obtain ⟨dY, dX⟩ := mZ2 iG iD
 obtain ⟨cU, f4⟩ := mZ2 iC iE
 obtain ⟨QS, QQ⟩ := mZ2 R5 R4
 obtain ⟨pS, Hc⟩ := mZ2 JO LL
 clear iG iD iC iE R5 R4 JO LL
 have HB := am (Below.refl w.heap.size w)
 unfold dK.f at h
 have H := h
 clear h
 have Od := am H
 clear H
 go_enter Try.func64, Try.ntmps64
 go_upto_region 1 with (first | ((with_reducible refine gD 2 ?_); (try (refine mD (by rfl) ?_; dsimp only)); refine bX 2 #[.slice eU bF.length eY, .slice fG aN.length eQ] 31 ?_; intro aT hg w4 hbox hb; have a6 := am hbox; have g5 := am (oS : w.heap.size ≤ aT); have iJ := g5; replace HB := bS eG hb; clear hb hbox hg) | ((with_reducible refine gD 3 ?_); (try (refine mD (by rfl) ?_; dsimp only)); refine bX 3 #[.slice xC fK.length yE, .slice wP jJ.length wM] 31 ?_; intro aZ hg w5 hbox hb; have aH := am hbox; have m4 := am (I1 : w.heap.size ≤ aZ); have nX := m4; replace HB := bS eE hb; have cO := nL aW hg; have cV := nG aW hg; replace a6 := bB aW hb; clear hb hbox hg))
 (try simp only [Act.put, List.setIfInBounds_toArray, List.set_cons_zero, List.set_cons_succ])
 go_cut [20] (fun v20 wc => ∃ (kq : Nat) (Uf : Bool), v20 = .bool Uf ∧ aC (dK.j0 kq Uf bF aN fK jJ = some r) ∧ aC (kq ≤ k) ∧ aC (wc.heap[aT]? = some (.cells #[(.slice eU bF.length eY), (.slice fG aN.length eQ)] 31 (0, 0))) ∧ aC (wc.heap[aZ]? = some (.cells #[(.slice xC fK.length yE), (.slice wP jJ.length wM)] 31 (0, 0))) ∧ aC (Below w.heap.size w wc))
 case first =>
  have H := Od.1
  clear Od
  obtain ⟨eF, A6, H⟩ := bd H
  refine tC H ?_ ?_ <;> clear H <;> intro c7 H <;> subst c7
  ·have H' := am H
   repeat clear H
   have Z8 := nZ1 cO cV
   have Z9 := cz2 a6
   have Z10 := cz2 aH
   go_wp2_with (first | ((with_reducible refine gC 54 ?_); refine cQ (some 10) Try.func54 (gN.calls k _ _ bF _ _ fK true _ (pB dY) dX.1 (pB QS) QQ.1 A6.out) ?_; rintro w' ⟨nd, rfl⟩))
   go_meet
   exact ⟨_, (((aN.length : Int) != (jJ.length : Int))), dM, H', ⟨by first | omega | exact Nat.le_refl _⟩, ⟨rB a6.1⟩, ⟨rB aH.1⟩, ⟨l6⟩⟩
  have H' := am H
  repeat clear H
  have Uq := nZ1 cO cV
  have bv := cz2 a6
  have La := cz2 aH
  go_wp2_with (first | ((with_reducible refine gC 54 ?_); refine cQ (some 10) Try.func54 (gN.calls k _ _ bF _ _ fK false _ (pB dY) dX.1 (pB QS) QQ.1 A6.out) ?_; rintro w' ⟨nd, rfl⟩))
  go_meet
  exact ⟨_, (true), dM, H', ⟨by first | omega | exact Nat.le_refl _⟩, ⟨rB a6.1⟩, ⟨rB aH.1⟩, ⟨l6⟩⟩
 clear Od
 obtain ⟨kq, Uf, rfl, HA, HJ2, a6, aH, HB⟩ := hcut
 cases kq with
 | zero => exact absurd HA.out (by simp [dK.j0])
 | succ kj2 =>
  have H := HA.out
  clear HA
  simp only [dK.j0] at H
  refine tC H ?_ ?_ <;> clear H <;> intro Mz H <;> subst Mz
  ·obtain rfl := Option.some.inj H
   repeat clear H
   go_wp2
   go_ret
   exact ⟨eR, l6⟩
  ·have H' := am H
   repeat clear H
   go_wp2
   go_loopg [5] kj2 (fun kq v5 w' => ∃ (wW : Int), v5 = .int .i64 wW ∧ aC (dK.l0 kq wW bF aN fK jJ = some r) ∧ aC (kq ≤ kj2) ∧ aC (w'.heap[aT]? = some (.cells #[(.slice eU bF.length eY), (.slice fG aN.length eQ)] 31 (0, 0))) ∧ aC (w'.heap[aZ]? = some (.cells #[(.slice xC fK.length yE), (.slice wP jJ.length wM)] 31 (0, 0))) ∧ aC (Below w.heap.size w w'))
   case atStart => exact ⟨(0), dM, H', ⟨Nat.le_refl _⟩, ⟨rB a6.1⟩, ⟨rB aH.1⟩, ⟨l6⟩⟩
   case round =>
    clear H'
    try clear Mz
    obtain ⟨wW, rfl, HA, HK2, a6, aH, HB⟩ := hrel
    cases gk with
    | zero => exact absurd HA.out (by simp [dK.l0])
    | succ k2 =>
     have H := HA.out
     clear HA
     simp only [dK.l0] at H
     refine ic H ?_ ?_ <;> clear H <;> intro WE H
     ·obtain ⟨JG, H⟩ := cN H
      obtain ⟨Qt, H⟩ := cN H
      refine iq H ?_ ?_ <;> clear H <;> intro Ei CS cd H
      ·obtain ⟨lJ, wd, H⟩ := bd H
       refine tC H ?_ ?_ <;> clear H <;> intro uq H <;> subst uq
       ·obtain ⟨dJ, Uy, H⟩ := bd H
        refine tC H ?_ ?_ <;> clear H <;> intro c22 H <;> subst c22
        ·have H' := am H
         repeat clear H
         have Z23 := nZ1 cO cV
         have Z24 := cz2 a6
         try go_wp2
         replace a6 := BD a6
         replace aH := BD aH
         replace HB := am (aV HB.1)
         obtain ⟨kD, r7, r9, r8, rA, tZ, x5, x6, x9, nE, nF, nH, mZ, pK, pL, tU, HZ, I2⟩ := qJ cU HB wW
         cases tZ
         obtain ⟨wH, ES, F0, ET, F1, F3, oO, oP, oQ, sQ, o8, o9, sO, zU, mQ, qN, UX, P4⟩ := qJ pS HB wW
         cases F3
         obtain ⟨xS, wK, wL, xB, xI, F4, nQ, nR, nS, qU, qV, qW, qO, wX, tW, BO, Q6, JT⟩ := qJ cU HB wW
         obtain rfl : kD = xS := (by injection F4)
         obtain ⟨ea_, ec_⟩ := eZ2 nF qV
         subst ea_
         subst ec_
         obtain ⟨ea_, ec_⟩ := eZ2 nH qW
         subst ea_
         subst ec_
         obtain ⟨CP, GM, H0, GN, H3, MI, kM, kN, kO, uR, pO, pP, qQ, y8, tX, EB, Fz, Gb⟩ := qJ pS HB wW
         obtain rfl : wH = CP := (by injection MI)
         obtain ⟨ea_, ec_⟩ := eZ2 o8 pO
         subst ea_
         subst ec_
         obtain ⟨ea_, ec_⟩ := eZ2 o9 pP
         subst ea_
         subst ec_
         obtain ⟨Px, fq, ln, fs, lp, np, HD, HE, HH, YX, OA, OB, XD, Vl, NC, X8, aG0, aGF⟩ := qJ cU HB wW
         obtain rfl : kD = Px := (by injection np)
         obtain ⟨ea_, ec_⟩ := eZ2 nF OA
         subst ea_
         subst ec_
         obtain ⟨ea_, ec_⟩ := eZ2 nH OB
         subst ea_
         subst ec_
         obtain ⟨Im, Nc, Qk, Nd, Ql, Rc, HJ, HM, HT, SQ, KS, KT, S7, Gy, K7, S3, a3O, a4A⟩ := qJ pS HB wW
         obtain rfl : wH = Im := (by injection Rc)
         obtain ⟨ea_, ec_⟩ := eZ2 o8 KS
         subst ea_
         subst ec_
         obtain ⟨ea_, ec_⟩ := eZ2 o9 KT
         subst ea_
         subst ec_
         refine sT [] 45 (uB2 a6 (uB2 aH (uBx HB x5 (uBx HB x6 (uBx HB x9 (uBx HB oO (uBx HB oP (uBx HB oQ (uBx HB nQ (uBx HB nR (uBx HB nS (uBx HB kM (uBx HB kN (uBx HB kO (uBx HB HD (uBx HB HE (uBx HB HH (uBx HB HJ (uBx HB HM (uAx HB HT)))))))))))))))))))) (fun hHeld => ?_)
         refine eO dK.tab6 dK.AL (fun HT_ HW_ => ?_)
         generalize wr.drew = vy at a6 aH HB mZ pL sO mQ qO tW qQ tX XD NC S7 K7 nE nF nH sQ o8 o9 qU qV qW uR pO pP YX OA OB SQ KS KT hHeld ⊢
         refine pU4 0 2 6 8 ?_
         refine tK22 1 (some 29) ?_
         refine pU2 3 4 ?_
         refine tK22 5 (some 33) ?_
         refine tK22 7 (some 35) ?_
         refine pU2 9 10 ?_
         refine tK22 11 (some 39) ?_
         refine pU6 12 13 14 16 20 22 ?_
         refine tK22 15 (some 43) ?_
         refine pU2 17 18 ?_
         refine tK22 19 (some 47) ?_
         refine tK22 21 (some 49) ?_
         refine pU2 23 24 ?_
         refine tK22 25 (some 53) ?_
         refine oN 26 (some 54) fun K hK => ?_
         refine gQ Try.func54 (gN.calls k2 _ _ ((aA aN wW).f1) _ _ ((aA jJ wW).f1) true _ (pB qO) wX.1 (pB qQ) y8.1 wd.out) ?_
         rintro w' ⟨nd, rfl⟩
         refine nK hK (uB2 a6 (uB2 aH (uBx HB x5 (uBx HB x6 (uBx HB x9 (uBx HB oO (uBx HB oP (uBx HB oQ (uBx HB nQ (uBx HB nR (uBx HB nS (uBx HB kM (uBx HB kN (uBx HB kO (uBx HB HD (uBx HB HE (uBx HB HH (uBx HB HJ (uBx HB HM (uAx HB HT)))))))))))))))))))).1 fun hHeld => ?_
         clear hK K
         refine pU7 27 28 29 30 32 36 38 ?_
         refine tK22 31 (some 59) ?_
         refine pU2 33 34 ?_
         refine tK22 35 (some 63) ?_
         refine tK22 37 (some 65) ?_
         refine pU2 39 40 ?_
         refine tK22 41 (some 69) ?_
         refine oN 42 (some 70) fun K hK => ?_
         refine gQ Try.func54 (gN.calls k2 _ _ ((aA aN wW).f2) _ _ ((aA jJ wW).f2) true _ (pC (Kd.aX NC.1 l6)) X8.1 (pC (Kd.aX K7.1 l6)) S3.1 Uy.out) ?_
         rintro w' ⟨nd, rfl⟩
         refine nK hK (uB2 a6 (uB2 aH (uBx HB x5 (uBx HB x6 (uBx HB x9 (uBx HB oO (uBx HB oP (uBx HB oQ (uBx HB nQ (uBx HB nR (uBx HB nS (uBx HB kM (uBx HB kN (uBx HB kO (uBx HB HD (uBx HB HE (uBx HB HH (uBx HB HJ (uBx HB HM (uAx HB HT)))))))))))))))))))).1 fun hHeld => ?_
         clear hK K
         refine pU2 43 44 ?_
         refine dN ?_
         try go_wp2
         go_roundg k2
         case measure => have := HJ2.out; have := HK2.out; omega
         case rel => exact ⟨(wrap64 (wW + 1)), dM, H', ⟨by have := HJ2.out; have := HK2.out; omega⟩, ⟨rB a6.1⟩, ⟨rB aH.1⟩, ⟨l6⟩⟩
        ·obtain rfl := Option.some.inj H
         repeat clear H
         have Z26 := nZ1 cO cV
         have Z27 := cz2 a6
         try go_wp2
         replace a6 := BD a6
         replace aH := BD aH
         replace HB := am (aV HB.1)
         obtain ⟨kD, r7, r9, r8, rA, tZ, x5, x6, x9, nE, nF, nH, mZ, pK, pL, tU, HZ, I2⟩ := qJ cU HB wW
         cases tZ
         obtain ⟨wH, ES, F0, ET, F1, F3, oO, oP, oQ, sQ, o8, o9, sO, zU, mQ, qN, UX, P4⟩ := qJ pS HB wW
         cases F3
         obtain ⟨xS, wK, wL, xB, xI, F4, nQ, nR, nS, qU, qV, qW, qO, wX, tW, BO, Q6, JT⟩ := qJ cU HB wW
         obtain rfl : kD = xS := (by injection F4)
         obtain ⟨ea_, ec_⟩ := eZ2 nF qV
         subst ea_
         subst ec_
         obtain ⟨ea_, ec_⟩ := eZ2 nH qW
         subst ea_
         subst ec_
         obtain ⟨CP, GM, H0, GN, H3, MI, kM, kN, kO, uR, pO, pP, qQ, y8, tX, EB, Fz, Gb⟩ := qJ pS HB wW
         obtain rfl : wH = CP := (by injection MI)
         obtain ⟨ea_, ec_⟩ := eZ2 o8 pO
         subst ea_
         subst ec_
         obtain ⟨ea_, ec_⟩ := eZ2 o9 pP
         subst ea_
         subst ec_
         obtain ⟨Px, fq, ln, fs, lp, np, HD, HE, HH, YX, OA, OB, XD, Vl, NC, X8, aG0, aGF⟩ := qJ cU HB wW
         obtain rfl : kD = Px := (by injection np)
         obtain ⟨ea_, ec_⟩ := eZ2 nF OA
         subst ea_
         subst ec_
         obtain ⟨ea_, ec_⟩ := eZ2 nH OB
         subst ea_
         subst ec_
         obtain ⟨Im, Nc, Qk, Nd, Ql, Rc, HJ, HM, HT, SQ, KS, KT, S7, Gy, K7, S3, a3O, a4A⟩ := qJ pS HB wW
         obtain rfl : wH = Im := (by injection Rc)
         obtain ⟨ea_, ec_⟩ := eZ2 o8 KS
         subst ea_
         subst ec_
         obtain ⟨ea_, ec_⟩ := eZ2 o9 KT
         subst ea_
         subst ec_
         refine sT [] 45 (uB2 a6 (uB2 aH (uBx HB x5 (uBx HB x6 (uBx HB x9 (uBx HB oO (uBx HB oP (uBx HB oQ (uBx HB nQ (uBx HB nR (uBx HB nS (uBx HB kM (uBx HB kN (uBx HB kO (uBx HB HD (uBx HB HE (uBx HB HH (uBx HB HJ (uBx HB HM (uAx HB HT)))))))))))))))))))) (fun hHeld => ?_)
         refine eO dK.tab6 dK.AL (fun HT_ HW_ => ?_)
         generalize wr.drew = w28 at a6 aH HB mZ pL sO mQ qO tW qQ tX XD NC S7 K7 nE nF nH sQ o8 o9 qU qV qW uR pO pP YX OA OB SQ KS KT hHeld ⊢
         refine pU4 0 2 6 8 ?_
         refine tK22 1 (some 29) ?_
         refine pU2 3 4 ?_
         refine tK22 5 (some 33) ?_
         refine tK22 7 (some 35) ?_
         refine pU2 9 10 ?_
         refine tK22 11 (some 39) ?_
         refine pU6 12 13 14 16 20 22 ?_
         refine tK22 15 (some 43) ?_
         refine pU2 17 18 ?_
         refine tK22 19 (some 47) ?_
         refine tK22 21 (some 49) ?_
         refine pU2 23 24 ?_
         refine tK22 25 (some 53) ?_
         refine oN 26 (some 54) fun K hK => ?_
         refine gQ Try.func54 (gN.calls k2 _ _ ((aA aN wW).f1) _ _ ((aA jJ wW).f1) true _ (pB qO) wX.1 (pB qQ) y8.1 wd.out) ?_
         rintro w' ⟨nd, rfl⟩
         refine nK hK (uB2 a6 (uB2 aH (uBx HB x5 (uBx HB x6 (uBx HB x9 (uBx HB oO (uBx HB oP (uBx HB oQ (uBx HB nQ (uBx HB nR (uBx HB nS (uBx HB kM (uBx HB kN (uBx HB kO (uBx HB HD (uBx HB HE (uBx HB HH (uBx HB HJ (uBx HB HM (uAx HB HT)))))))))))))))))))).1 fun hHeld => ?_
         clear hK K
         refine pU7 27 28 29 30 32 36 38 ?_
         refine tK22 31 (some 59) ?_
         refine pU2 33 34 ?_
         refine tK22 35 (some 63) ?_
         refine tK22 37 (some 65) ?_
         refine pU2 39 40 ?_
         refine tK22 41 (some 69) ?_
         refine oN 42 (some 70) fun K hK => ?_
         refine gQ Try.func54 (gN.calls k2 _ _ ((aA aN wW).f2) _ _ ((aA jJ wW).f2) false _ (pC (Kd.aX NC.1 l6)) X8.1 (pC (Kd.aX K7.1 l6)) S3.1 Uy.out) ?_
         rintro w' ⟨nd, rfl⟩
         refine nK hK (uB2 a6 (uB2 aH (uBx HB x5 (uBx HB x6 (uBx HB x9 (uBx HB oO (uBx HB oP (uBx HB oQ (uBx HB nQ (uBx HB nR (uBx HB nS (uBx HB kM (uBx HB kN (uBx HB kO (uBx HB HD (uBx HB HE (uBx HB HH (uBx HB HJ (uBx HB HM (uAx HB HT)))))))))))))))))))).1 fun hHeld => ?_
         clear hK K
         refine pU2 43 44 ?_
         refine dN ?_
         try go_wp2
         go_ret
         exact ⟨eR, l6⟩
       ·obtain rfl := Option.some.inj H
        repeat clear H
        have Z29 := nZ1 cO cV
        have Z30 := cz2 a6
        try go_wp2
        replace a6 := BD a6
        replace aH := BD aH
        replace HB := am (aV HB.1)
        obtain ⟨kD, r7, r9, r8, rA, tZ, x5, x6, x9, nE, nF, nH, mZ, pK, pL, tU, HZ, I2⟩ := qJ cU HB wW
        cases tZ
        obtain ⟨wH, ES, F0, ET, F1, F3, oO, oP, oQ, sQ, o8, o9, sO, zU, mQ, qN, UX, P4⟩ := qJ pS HB wW
        cases F3
        obtain ⟨xS, wK, wL, xB, xI, F4, nQ, nR, nS, qU, qV, qW, qO, wX, tW, BO, Q6, JT⟩ := qJ cU HB wW
        obtain rfl : kD = xS := (by injection F4)
        obtain ⟨ea_, ec_⟩ := eZ2 nF qV
        subst ea_
        subst ec_
        obtain ⟨ea_, ec_⟩ := eZ2 nH qW
        subst ea_
        subst ec_
        obtain ⟨CP, GM, H0, GN, H3, MI, kM, kN, kO, uR, pO, pP, qQ, y8, tX, EB, Fz, Gb⟩ := qJ pS HB wW
        obtain rfl : wH = CP := (by injection MI)
        obtain ⟨ea_, ec_⟩ := eZ2 o8 pO
        subst ea_
        subst ec_
        obtain ⟨ea_, ec_⟩ := eZ2 o9 pP
        subst ea_
        subst ec_
        refine sT [] 45 (uB2 a6 (uB2 aH (uBx HB x5 (uBx HB x6 (uBx HB x9 (uBx HB oO (uBx HB oP (uBx HB oQ (uBx HB nQ (uBx HB nR (uBx HB nS (uBx HB kM (uBx HB kN (uAx HB kO)))))))))))))) (fun hHeld => ?_)
        refine eO dK.tab6 dK.AL (fun HT_ HW_ => ?_)
        generalize wr.drew = vz at a6 aH HB mZ pL sO mQ qO tW qQ tX nE nF nH sQ o8 o9 qU qV qW uR pO pP hHeld ⊢
        refine pU4 0 2 6 8 ?_
        refine tK16 1 (some 29) ?_
        refine pU2 3 4 ?_
        refine tK16 5 (some 33) ?_
        refine tK16 7 (some 35) ?_
        refine pU2 9 10 ?_
        refine tK16 11 (some 39) ?_
        refine pU6 12 13 14 16 20 22 ?_
        refine tK16 15 (some 43) ?_
        refine pU2 17 18 ?_
        refine tK16 19 (some 47) ?_
        refine tK16 21 (some 49) ?_
        refine pU2 23 24 ?_
        refine tK16 25 (some 53) ?_
        refine oN 26 (some 54) fun K hK => ?_
        refine gQ Try.func54 (gN.calls k2 _ _ ((aA aN wW).f1) _ _ ((aA jJ wW).f1) false _ (pB qO) wX.1 (pB qQ) y8.1 wd.out) ?_
        rintro w' ⟨nd, rfl⟩
        refine nK hK (uB2 a6 (uB2 aH (uBx HB x5 (uBx HB x6 (uBx HB x9 (uBx HB oO (uBx HB oP (uBx HB oQ (uBx HB nQ (uBx HB nR (uBx HB nS (uBx HB kM (uBx HB kN (uAx HB kO)))))))))))))).1 fun hHeld => ?_
        clear hK K
        refine pU3 27 28 29 ?_
        refine pV8 30 31 32 33 34 35 36 37 ?_
        refine pV6 38 39 40 41 42 43 ?_
        refine pU1 44 ?_
        refine dN ?_
        try go_wp2
        go_ret
        exact ⟨eR, l6⟩
      ·obtain rfl := Option.some.inj H
       repeat clear H
       have Z32 := nZ1 cO cV
       have Z33 := cz2 a6
       try go_wp2
       replace a6 := BD a6
       replace aH := BD aH
       replace HB := am (aV HB.1)
       obtain ⟨kD, r7, r9, r8, rA, tZ, x5, x6, x9, nE, nF, nH, mZ, pK, pL, tU, HZ, I2⟩ := qJ cU HB wW
       cases tZ
       obtain ⟨wH, ES, F0, ET, F1, F3, oO, oP, oQ, sQ, o8, o9, sO, zU, mQ, qN, UX, P4⟩ := qJ pS HB wW
       cases F3
       refine sT [] 45 (uB2 a6 (uB2 aH (uBx HB x5 (uBx HB x6 (uBx HB x9 (uBx HB oO (uBx HB oP (uAx HB oQ)))))))) (fun hHeld => ?_)
       refine eO dK.tab6 dK.AL (fun HT_ HW_ => ?_)
       generalize wr.drew = w34 at a6 aH HB mZ pL sO mQ nE nF nH sQ o8 o9 hHeld ⊢
       refine pU4 0 2 6 8 ?_
       refine tK10 1 (some 29) ?_
       refine pU2 3 4 ?_
       refine tK10 5 (some 33) ?_
       refine tK10 7 (some 35) ?_
       refine pU2 9 10 ?_
       refine tK10 11 (some 39) ?_
       refine pU2 12 13 ?_
       refine pV8 14 15 16 17 18 19 20 21 ?_
       refine pV6 22 23 24 25 26 27 ?_
       refine pU2 28 29 ?_
       refine pV8 30 31 32 33 34 35 36 37 ?_
       refine pV6 38 39 40 41 42 43 ?_
       refine pU1 44 ?_
       refine dN ?_
       try go_wp2
       go_ret
       exact ⟨eR, l6⟩
     ·obtain rfl := Option.some.inj H
      repeat clear H
      have zm := nZ1 cO cV
      have Z36 := cz2 a6
      go_wp2
      go_ret
      exact ⟨eR, l6⟩
end Go.Proofs.Ytaofjgnhapnndaa.Q
namespace Go.Proofs.Ytaofjgnhapnndaa.Q
open Go.RowKit Go.Proofs.YtaofjgnhapnndaaW.PrintWords Go.Proofs.YtaofjgnhapnndaaW.PrintLast Go.Proofs.YtaofjgnhapnndaaW.PrintMore
set_option linter.unusedVariables false
set_option linter.unusedSimpArgs false
theorem TZ {w W : World} {g n : Nat} {ad : Addr} {xs : List S56} (hf : ∀ W_, aY w W_ g none → Kd.C k56 W_ (some ad) n xs) (hk : aY w W g none) (i : Int) (h0 : 0 ≤ i) (h1 : i < n) {A2 : Option Addr} {c2 : Nat}
  (hx : W.cell? ⟨(ad.add (i.toNat * 3)).block, (ad.add (i.toNat * 3)).off + 2, none⟩ = some (.slice A2 (aA xs i).f2.length c2)) : ∀ W_, aY w W_ g none → Kd.C Kd.string W_ A2 (aA xs i).f2.length (aA xs i).f2 := by
 intro W_ hk_
 have hne : (⟨(ad.add (i.toNat * 3)).block, (ad.add (i.toNat * 3)).off + 2, none⟩ : Addr).block ≠ g := by
  show (ad.add (i.toNat * 3)).block ≠ g
  rw [add_block]
  exact Kd.uP hf (by omega) (by decide)
 obtain ⟨a, _, _, B, b, e, _, _, hw, _⟩ := zG (hf w (aY.refl w g none)) i h0 h1
 cases e
 have e1 := (kC hk hw hne).symm.trans hx
 obtain ⟨a, _, _, B2, b2, e, _, _, hw2, _, _, _, hc⟩ := zG (hf W_ hk_) i h0 h1
 cases e
 have e2 := (kC hk_ hw hne).symm.trans hw2
 injection e1 with e1
 injection e1 with e1 _ _
 injection e2 with e2
 injection e2 with e2 _ _
 rw [← e1, e2]
 exact hc
theorem Ro {w : World} {g n : Nat} {A : Option Addr} {l : List ByteArray} (h : ∀ W_, aY w W_ g none → Kd.C Kd.string W_ A n l) : ∀ ad, A = some ad → 0 < n → ad.block ≠ g := fun ad e hn => by
  subst e
  exact Kd.uP h hn (by decide)
def aD (w0 W : World) (g : Nat) (f0 : List Int) (f1 : Int) : Prop := ∃ A0 c0, W.heap[g]? = some (.cells #[.slice A0 f0.length c0, .int .i64 f1] 103 (0, 0)) ∧ w0.heap.size ≤ g ∧ Kd.C (Kd.int .u8) w0 A0 f0.length f0
theorem aD.grown {w0 W : World} {g : Nat} {f0 : List Int} {f1 : Int} {W1 : World} {row : Option Nat} (h : aD w0 W g f0 f1) (hw : W.grownBy W1 row) (hne : some g ≠ row) : aD w0 W1 g f0 f1 := by
 obtain ⟨A0, c0, hb, hg, sJ⟩ := h
 exact ⟨A0, c0, tH hb hw hne, hg, sJ⟩
theorem aD.Ke {w0 W : World} {g : Nat} {f0 : List Int} {f1 : Int} {α : Type} {d : Kd α} {e : Nat} {base : Nat} {ok : Nat → Prop} {v : Value} {xs : List α} (h : aD w0 W g f0 f1) (ho : Kd.N d e W base ok v xs) (ht : e ≠ 103) : some g ≠ v.ownBlock := by
 obtain ⟨A0, c0, hb, hg, sJ⟩ := h
 exact Kd.N_ne ho hb ht
theorem aD.fresh {w0 W : World} {g : Nat} {f0 : List Int} {f1 : Int} (h : aD w0 W g f0 f1) : ∀ k, W.heap.size ≤ k → k ≠ g := by
 obtain ⟨A0, c0, hb, hg, sJ⟩ := h
 exact Kd.uA hb
theorem aD.kept {w0 W : World} {g : Nat} {f0 : List Int} {f1 : Int} {W1 : World} {S : Nat → Prop} (h : aD w0 W g f0 f1) (hk : Kept W W1 S) (hne : ¬ S g) : aD w0 W1 g f0 f1 := by
 obtain ⟨A0, c0, hb, hg, sJ⟩ := h
 exact ⟨A0, c0, eX hb hk hne, hg, sJ⟩
theorem aD.below {w0 W : World} {g : Nat} {f0 : List Int} {f1 : Int} {W1 : World} (h : aD w0 W g f0 f1) (hw : Below W.heap.size W W1) : aD w0 W1 g f0 f1 := h.grown (JL hw none) (by simp)
theorem aD.alloc {w0 W : World} {g : Nat} {f0 : List Int} {f1 : Int} (h : aD w0 W g f0 f1) (o : Obj) : aD w0 (W.alloc o) g f0 f1 := h.below (bQ (Below.refl _ _) o)
theorem aD.drewN {w0 W : World} {g : Nat} {f0 : List Int} {f1 : Int} (h : aD w0 W g f0 f1) (m : Nat) : aD w0 (W.drewN m) g f0 f1 := h
theorem aD.drew {w0 W : World} {g : Nat} {f0 : List Int} {f1 : Int} (h : aD w0 W g f0 f1) : aD w0 W.drew g f0 f1 := h
theorem aD.at_ {w0 W : World} {g : Nat} {f0 : List Int} {f1 : Int} {w' : World} {m : Nat} (hq : W.drewN m = w') (h : aD w0 W g f0 f1) : aD w0 w' g f0 f1 := by subst hq; exact aD.drewN h m
theorem aD.apart {w0 W : World} {g : Nat} {f0 : List Int} {f1 : Int} {α : Type} {d : Kd α} {e : Nat} {base : Nat} {ok : Nat → Prop} {v : Value} {xs : List α} (h : aD w0 W g f0 f1) (ho : d.R e W base ok v xs) (ht : ∀ q, q ∈ e :: d.E → q ≠ 103) : d.R e W base (fun k => ok k ∧ k ≠ g) v xs := by
 obtain ⟨A0, c0, hb, hg, sJ⟩ := h
 exact Kd.fQ ho hb ht
theorem aD.own_ne {w0 W : World} {g : Nat} {f0 : List Int} {f1 : Int} {α : Type} {d : Kd α} {e : Nat} {base : Nat} {ok : Nat → Prop} {v : Value} {xs : List α} (h : aD w0 W g f0 f1) (ho : d.R e W base ok v xs) (ht : e ≠ 103) : some g ≠ v.ownBlock := by
 obtain ⟨A0, c0, hb, hg, sJ⟩ := h
 exact Kd.R_ne ho hb ht
theorem aD.Qc {w0 W : World} {g : Nat} {f0 : List Int} {f1 : Int} {α : Type} {d : Kd α} {e : Nat} {base : Nat} {ok : Nat → Prop} {v : Value} {xs : List α} (h : aD w0 W g f0 f1) (ho : d.S e W base ok v xs) (ht : ∀ q, q ∈ e :: d.E → q ≠ 103) : d.S e W base (fun k => ok k ∧ k ≠ g) v xs := by
 obtain ⟨A0, c0, hb, hg, sJ⟩ := h
 exact Kd.SG ho hb ht
theorem iR {w0 W w1 : World} {g : Nat} {f0 : List Int} {f1 : Int} {α : Type} {d : Kd α} {e base : Nat} {ok : Nat → Prop} {v : Value} {xs : List α} (h : aD w0 W g f0 f1) (ho : Kd.R d e W base ok v xs) (hk : aY W w1 g none) (ht : ∀ q, q ∈ e :: d.E → q ≠ 103 := by decide) : aC (Kd.R d e w1 base ok v xs) := ⟨Kd.aM (Kd.lQ (aD.apart h ho ht) hk (fun _ h => h.2)) (fun _ h => h.1)⟩
theorem iS {w0 W w1 : World} {g : Nat} {f0 : List Int} {f1 : Int} {α : Type} {d : Kd α} {e base : Nat} {ok : Nat → Prop} {v : Value} {xs : List α} (h : aD w0 W g f0 f1) (ho : Kd.S d e W base ok v xs) (hk : aY W w1 g none) (ht : ∀ q, q ∈ e :: d.E → q ≠ 103 := by decide) : aC (Kd.S d e w1 base ok v xs) := ⟨Kd.nD (Kd.Ps (aD.Qc h ho ht) hk (fun _ h => h.2)) (fun _ h => h.1)⟩
theorem aD.BZ {w0 W : World} {g : Nat} {f0 : List Int} {f1 : Int} {α : Type} {d : Kd α} {e : Nat} {base : Nat} {ok : Nat → Prop} {v : Value} {xs : List α} (h : aD w0 W g f0 f1) (ho : d.S e W base ok v xs) (ht : e ≠ 103) : some g ≠ v.ownBlock := by
 obtain ⟨A0, c0, hb, hg, sJ⟩ := h
 exact Kd.S_ne ho hb ht
theorem aD.lt {w0 W : World} {g : Nat} {f0 : List Int} {f1 : Int} (h : aD w0 W g f0 f1) : g < W.heap.size := by
 obtain ⟨A0, c0, hb, hg, sJ⟩ := h
 exact gL hb
theorem aD.ge {w0 W : World} {g : Nat} {f0 : List Int} {f1 : Int} (h : aD w0 W g f0 f1) : w0.heap.size ≤ g := by
 obtain ⟨A0, c0, hb, hg, sJ⟩ := h
 exact hg
theorem aD.ZJ {w0 W : World} {g : Nat} {f0 : List Int} {f1 : Int} {a : Nat} {cs : Array Value} {t : TypeId} {fr : Nat × Nat} (h : aD w0 W g f0 f1) (hb2 : W.heap[a]? = some (.cells cs t fr)) (ht : t ≠ 103) : g ≠ a := by
 obtain ⟨A0, c0, hb, hg, sJ⟩ := h
 rintro rfl
 rw [hb] at hb2
 injection hb2 with hb2
 injection hb2 with _ ht2
 exact ht ht2.symm
theorem aD.far {w0 W : World} {g : Nat} {f0 : List Int} {f1 : Int} {p : Addr} (h : aD w0 W g f0 f1) (hne : g ≠ p.block) (u : Value) : aD w0 (W.setCell p u) g f0 f1 := by
 obtain ⟨A0, c0, hb, hg, sJ⟩ := h
 exact ⟨A0, c0, dF hb hne u, hg, sJ⟩
theorem H5 {W : World} {g : Nat} {A0 : Option Addr} {c0 : Nat} {f0 : List Int} {f1 : Int} (h : W.heap[g]? = some (.cells #[.slice A0 f0.length c0, .int .i64 f1] 103 (0, 0))) : W.cell? ⟨g, 0, none⟩ = some (.slice A0 f0.length c0) := (bC h 0).trans rfl
theorem H6 {W : World} {g : Nat} {A0 : Option Addr} {c0 : Nat} {f0 : List Int} {f1 : Int} (h : W.heap[g]? = some (.cells #[.slice A0 f0.length c0, .int .i64 f1] 103 (0, 0))) : W.cell? ⟨g, 1, none⟩ = some (.int .i64 f1) := (bC h 1).trans rfl
theorem aD.GG {w0 W : World} {g : Nat} {f0 : List Int} {f1 : Int} (h : aD w0 W g f0 f1) (x : Int) : aD w0 (W.setCell ⟨g, 1, none⟩ (.int .i64 x)) g f0 x := by
 obtain ⟨A0, c0, hb, hg, sJ⟩ := h
 exact ⟨A0, c0, by simpa using SH hb 1 (.int .i64 x), hg, sJ⟩
def sF.f (l0 : List Int) : Option (List Int × Int) := if (l0.length : Int) > 2000 then (if 2000 ≤ (l0.length : Int) then (some (l0.take 2000, 0)) else (none)) else (some (l0, 0))
theorem sF.calls (A0 : Option Addr) (c0 : Nat) (l0 : List Int) (r1 : List Int) (r2 : Int) (w0 w : World) (hB : Below w0.heap.size w0 w) (sJ : Kd.C (Kd.int .u8) w0 A0 l0.length l0) (yR : l0.length ≤ c0) (h : sF.f l0 = some (r1, r2)) :
  Calls Try.prog 97 #[.slice A0 l0.length c0] w fun e w' => ∃ g_ : Nat, e = .returned (.pointer (some ⟨g_, 0, none⟩)) ∧ aD w0 w' g_ r1 r2 ∧ Below w0.heap.size w0 w' ∧ Below w.heap.size w w' := by
 have hu103 := Try.underlying103
 obtain ⟨tO, QP⟩ := mZ2 sJ yR
 clear sJ yR
 have HBW := am (Below.refl w.heap.size w)
 have HW0 := am hB.size
 have HB := am hB
 clear hB
 unfold sF.f at h
 have H := h
 clear h
 by_cases c2 : (l0.length : Int) > 2000
 ·rw [if_pos c2] at H
  have Bf : decide (2000 < (l0.length : Int)) = true := decide_eq_true c2
  have Wv : decide (2000 < l0.length) = true := decide_eq_true (by omega)
  clear c2
  obtain ⟨IM, Ld, H⟩ := cP H
  obtain ⟨rfl, rfl⟩ := sZ2 H
  repeat clear H
  obtain ⟨i04, a2U, _, hsz4, _⟩ := info_parts info5
  obtain ⟨hcut4, hA4, hC4⟩ := F9 (P := Try.prog) (Value.int .u8) 0 51 5 .i64 Try.underlying51 a2U hsz4 A0 c0 l0 2000 (by omega) (oT) QP.1
  have xo := am (Kd.vC (h1 := fun _ => rfl) (hA4 _ (Kd.vP tO.1)))
  have aI2 := am hC4
  clear hA4 hC4 a2U hsz4
  go_enter Try.func97, Try.ntmps97
  go_wp2_with (first | ((with_reducible refine gD 10 ?_); refine bX 10 #[.slice A0 (l0.take 2000).length c0, .int .i64 0] 103 ?_; intro aZ hg w5 hbox hb; replace HB := bS eG hb; have aH := am hbox; have m4 := am (by rw [hg]; exact (aG (by repeat (first | (with_reducible first | exact HBW.out | apply bQ | apply bA | apply aV) | exact HBW.out))) : w.heap.size ≤ aZ); have nX := am (Nat.le_trans HW0.out (by rw [hg]; exact (aG (by repeat (first | (with_reducible first | exact HBW.out | apply bQ | apply bA | apply aV) | exact HBW.out))) : w.heap.size ≤ aZ) : w0.heap.size ≤ aZ); replace HBW := am (jR HBW.out hb); clear hb hbox hg))
  go_ret
  exact ⟨_, rfl, (show aD w0 _ aZ (l0.take 2000) 0 from ⟨_, _, rB aH.1, nX.1, xo.1⟩), by repeat (first | (with_reducible first | exact HB.1 | apply bQ | apply bA | apply aV | refine aI ?_ nX.1) | exact HB.1), by repeat (first | (with_reducible first | exact HBW.out | apply bQ | apply bA | apply aV | refine aI ?_ m4.out) | exact HBW.out)⟩
 rw [if_neg c2] at H
 have Bf : decide (2000 < (l0.length : Int)) = false := decide_eq_false c2
 have Wv : decide (2000 < l0.length) = false := decide_eq_false (by omega)
 clear c2
 obtain ⟨rfl, rfl⟩ := sZ2 H
 repeat clear H
 go_enter Try.func97, Try.ntmps97
 go_wp2_with (first | ((with_reducible refine gD 10 ?_); refine bX 10 #[.slice A0 l0.length c0, .int .i64 0] 103 ?_; intro uQ hg w6 hbox hb; replace HB := bS eG hb; have jU := am hbox; have Ap := am (by rw [hg]; exact (aG (by repeat (first | (with_reducible first | exact HBW.out | apply bQ | apply bA | apply aV) | exact HBW.out))) : w.heap.size ≤ uQ); have LH := am (Nat.le_trans HW0.out (by rw [hg]; exact (aG (by repeat (first | (with_reducible first | exact HBW.out | apply bQ | apply bA | apply aV) | exact HBW.out))) : w.heap.size ≤ uQ) : w0.heap.size ≤ uQ); replace HBW := am (jR HBW.out hb); clear hb hbox hg))
 go_ret
 exact ⟨_, rfl, (show aD w0 _ uQ l0 0 from ⟨_, _, rB jU.1, LH.1, tO.1⟩), by repeat (first | (with_reducible first | exact HB.1 | apply bQ | apply bA | apply aV | refine aI ?_ LH.1) | exact HB.1), by repeat (first | (with_reducible first | exact HBW.out | apply bQ | apply bA | apply aV | refine aI ?_ Ap.out) | exact HBW.out)⟩
def bN.j0 : Nat → Int → Bool → List Int → Int → Option (Int × Int)
 | 0, _, _, _, _ => none
 | k + 1, c, d, a, b => if d = true then (some (0, b)) else (if (wrap64 (b - 1)) < (a.length : Int) then (if 0 ≤ (wrap64 (b - 1)) then (if c = 0 then (none) else (some (Int.tmod (wrap64 (rd a (wrap64 (b - 1)))) c, b))) else (none)) else (if (a.length : Int) = 0 then (none) else (if 0 ≤ (Int.tmod (wrap64 (b - 1)) (a.length : Int)) then (if (Int.tmod (wrap64 (b - 1)) (a.length : Int)) < (a.length : Int) then (if 0 ≤ (Int.tmod (wrap64 ((wrap64 ((wrap64 (b - 1)) * 7)) + 3)) (a.length : Int)) then (if (Int.tmod (wrap64 ((wrap64 ((wrap64 (b - 1)) * 7)) + 3)) (a.length : Int)) < (a.length : Int) then (if c = 0 then (none) else (some (Int.tmod (Go.bits .xor .i64 (wrap64 ((wrap64 ((wrap64 ((wrap64 ((wrap64 (rd a (Int.tmod (wrap64 (b - 1)) (a.length : Int)))) * 131)) + (wrap64 ((wrap64 (rd a (Int.tmod (wrap64 ((wrap64 ((wrap64 (b - 1)) * 7)) + 3)) (a.length : Int)))) * 1117)))) + (wrap64 ((wrap64 (b - 1)) * 29)))) + (wrap64 ((wrap64 (Int.tdiv (wrap64 (b - 1)) (a.length : Int))) * 53)))) (wrap64 (Int.tdiv (wrap64 ((wrap64 ((wrap64 ((wrap64 ((wrap64 (rd a (Int.tmod (wrap64 (b - 1)) (a.length : Int)))) * 131)) + (wrap64 ((wrap64 (rd a (Int.tmod (wrap64 ((wrap64 ((wrap64 (b - 1)) * 7)) + 3)) (a.length : Int)))) * 1117)))) + (wrap64 ((wrap64 (b - 1)) * 29)))) + (wrap64 ((wrap64 (Int.tdiv (wrap64 (b - 1)) (a.length : Int))) * 53)))) 64))) c, b))) else (none)) else (none)) else (none)) else (none))))
def bN.f (k : Nat) (cW : List Int) (gW : Int) (a1 : Int) : Option (Int × Int) := if a1 < 1 then (bN.j0 k a1 true cW (wrap64 (gW + 1))) else (bN.j0 k a1 ((cW.length : Int) == 0) cW (wrap64 (gW + 1)))
theorem bN.calls (k : Nat) (g : Nat) (cW : List Int) (gW : Int) (a1 : Int) (r1 : Int) (r2 : Int) (w0 w : World) (hI : aD w0 w g cW gW) (hB : Below w0.heap.size w0 w) (h : bN.f k cW gW a1 = some (r1, r2)) :
  Calls Try.prog 100 #[.pointer (some ⟨g, 0, none⟩), .int .i64 a1] w fun e w' => e = .returned (.int .i64 r1) ∧ aD w0 w' g cW r2 ∧ Below w0.heap.size w0 w' ∧ aY w w' g none := by
 have gJ := am hI
 have HK := am (aY.refl w g none)
 have HL := am hB.size
 clear hI
 have HW0 := am hB.size
 have HB := am hB
 clear hB
 unfold bN.f at h
 have H := h
 clear h
 have Od := am H
 clear H
 obtain ⟨ASz4_0, cSz4_0, HGz4, hgz4, HSz4_0⟩ := gJ.out
 have qm := H5 HGz4
 have qn := H6 HGz4
 have qp := eB HGz4 1
 clear HGz4 hgz4
 go_enter Try.func100, Try.ntmps100
 go_upto_region 2 with ((fail))
 repeat (go_quiet (fail); go_upto_region 2 with (fail))
 go_cut [24] (fun v24 wc => ∃ (kq : Nat) (Kl : Bool), v24 = .bool Kl ∧ aC (bN.j0 kq a1 Kl cW (wrap64 (gW + 1)) = some (r1, r2)) ∧ aC (kq ≤ k) ∧ aC (aD w0 wc g cW (wrap64 (gW + 1))) ∧ aC (aY w wc g none) ∧ aC (Below w0.heap.size w0 wc))
 case first =>
  have H := Od.1
  clear Od
  by_cases c5 : a1 < 1
  ·rw [if_pos c5] at H
   have IP : decide (a1 < 1) = true := decide_eq_true c5
   clear c5
   (first | rw [IP] | (simp only [q8, uS]; rw [IP]) | skip)
   have H' := am H
   repeat clear H
   go_wp2
   repeat (go_quiet (fail); try go_wp2)
   go_meet
   exact ⟨_, (true), dM, H', ⟨by first | omega | exact Nat.le_refl _⟩, ⟨oF⟩, ⟨wJ⟩, ⟨E5⟩⟩
  rw [if_neg c5] at H
  have IP : decide (a1 < 1) = false := decide_eq_false c5
  clear c5
  (first | rw [IP] | (simp only [q8, uS]; rw [IP]) | skip)
  have H' := am H
  repeat clear H
  obtain ⟨ASz6_0, cSz6_0, HGz6, hgz6, HSz6_0⟩ := gJ.out
  have aFA := H5 HGz6
  have aFB := H6 HGz6
  have aFF := eB HGz6 1
  clear HGz6 hgz6
  go_wp2
  repeat (go_quiet (fail); try go_wp2)
  go_meet
  exact ⟨_, (((cW.length : Int) == 0)), dM, H', ⟨by first | omega | exact Nat.le_refl _⟩, ⟨oF⟩, ⟨wJ⟩, ⟨E5⟩⟩
 clear Od
 try clear qm qn qp
 obtain ⟨kq, Kl, rfl, HA, HJ2, gJ, HK, HB⟩ := hcut
 cases kq with
 | zero => exact absurd HA.out (by simp [bN.j0])
 | succ kj2 =>
  have H := HA.out
  clear HA
  simp only [bN.j0] at H
  by_cases c7 : Kl = true
  ·subst c7
   replace H := iT H
   obtain ⟨rfl, rfl⟩ := sZ2 H
   repeat clear H
   go_wp2
   repeat (go_quiet (fail); try go_wp2)
   go_ret
   exact ⟨eR, oF, E5, wJ⟩
  ·replace c7 := Bool.eq_false_iff.mpr c7
   subst c7
   replace H := iF H
   by_cases c8 : (wrap64 ((wrap64 (gW + 1)) - 1)) < (cW.length : Int)
   ·rw [if_pos c8] at H
    have LB : decide ((wrap64 ((wrap64 (gW + 1)) - 1)) < (cW.length : Int)) = true := decide_eq_true c8
    clear c8
    obtain ⟨ji9, hji9⟩ : ∃ j_ : Int, (wrap64 ((wrap64 (gW + 1)) - 1)) = j_ := ⟨_, rfl⟩
    replace H : (if 0 ≤ (ji9) then (if a1 = 0 then (none) else (some (Int.tmod (wrap64 (rd cW (ji9))) a1, (wrap64 (gW + 1))))) else (none)) = some (r1, r2) := by first | (rw [hji9] at H; exact H) | (simp only [hji9] at H ⊢; exact H)
    (try rw [hji9] at LB)
    have hji9w : (IntKind.i64.wrap ((wrap64 (gW + 1)) - 1)) = ji9 := (q8 _).trans hji9
    by_cases Ba : 0 ≤ (ji9)
    ·rw [if_pos Ba] at H
     have NL : decide (0 ≤ (ji9)) = true := decide_eq_true Ba
     clear Ba
     by_cases My : a1 = 0
     ·rw [if_pos My] at H
      exact absurd H (by simp)
     ·rw [if_neg My] at H
      have NM : (a1 == 0) = false := beq_eq_false_iff_ne.mpr My
      have a06 : (a1 != 0) = true := bne_iff_ne.mpr My
      obtain ⟨rfl, rfl⟩ := sZ2 H
      repeat clear H
      obtain ⟨ASz12_0, cSz12_0, HGz12, hgz12, HSz12_0⟩ := gJ.out
      have a6R := H5 HGz12
      have a6S := H6 HGz12
      have a7U := eB HGz12 1
      clear HGz12 hgz12
      have zO : 0 ≤ ((ji9) : Int) := oT
      have zR : (ji9) < (cW.length : Int) := oT
      obtain ⟨kK, pN, lH⟩ := Kd.Ec HSz12_0 (ji9) zO zR
      cases pN
      replace lH := mV HB.1 lH
      replace zO := eq_true zO
      replace zR := eq_true zR
      go_wp2
      repeat (go_quiet (fail); try go_wp2)
      go_ret
      exact ⟨by first | rfl | (simp [tJ, tK] <;> rfl) | (simp only [← hji9]; first | rfl | (simp [tJ, tK] <;> rfl)) | (simp [*, tJ, tK] <;> rfl), oF, E5, wJ⟩
    ·rw [if_neg Ba] at H
     exact absurd H (by simp)
   ·rw [if_neg c8] at H
    have LB : decide ((wrap64 ((wrap64 (gW + 1)) - 1)) < (cW.length : Int)) = false := decide_eq_false c8
    clear c8
    by_cases Lc : (cW.length : Int) = 0
    ·rw [if_pos Lc] at H
     exact absurd H (by simp)
    ·rw [if_neg Lc] at H
     have WD : ((cW.length : Int) == 0) = false := beq_eq_false_iff_ne.mpr Lc
     have a07 : ((cW.length : Int) != 0) = true := bne_iff_ne.mpr Lc
     have aL6 : ¬ (cW = []) := fun h_ => Lc (by rw [h_]; rfl)
     obtain ⟨ji14, hji14⟩ : ∃ j_ : Int, (Int.tmod (wrap64 ((wrap64 (gW + 1)) - 1)) (cW.length : Int)) = j_ := ⟨_, rfl⟩
     replace H : (if 0 ≤ (ji14) then (if (ji14) < (cW.length : Int) then (if 0 ≤ (Int.tmod (wrap64 ((wrap64 ((wrap64 ((wrap64 (gW + 1)) - 1)) * 7)) + 3)) (cW.length : Int)) then (if (Int.tmod (wrap64 ((wrap64 ((wrap64 ((wrap64 (gW + 1)) - 1)) * 7)) + 3)) (cW.length : Int)) < (cW.length : Int) then (if a1 = 0 then (none) else (some (Int.tmod (Go.bits .xor .i64 (wrap64 ((wrap64 ((wrap64 ((wrap64 ((wrap64 (rd cW (ji14))) * 131)) + (wrap64 ((wrap64 (rd cW (Int.tmod (wrap64 ((wrap64 ((wrap64 ((wrap64 (gW + 1)) - 1)) * 7)) + 3)) (cW.length : Int)))) * 1117)))) + (wrap64 ((wrap64 ((wrap64 (gW + 1)) - 1)) * 29)))) + (wrap64 ((wrap64 (Int.tdiv (wrap64 ((wrap64 (gW + 1)) - 1)) (cW.length : Int))) * 53)))) (wrap64 (Int.tdiv (wrap64 ((wrap64 ((wrap64 ((wrap64 ((wrap64 (rd cW (ji14))) * 131)) + (wrap64 ((wrap64 (rd cW (Int.tmod (wrap64 ((wrap64 ((wrap64 ((wrap64 (gW + 1)) - 1)) * 7)) + 3)) (cW.length : Int)))) * 1117)))) + (wrap64 ((wrap64 ((wrap64 (gW + 1)) - 1)) * 29)))) + (wrap64 ((wrap64 (Int.tdiv (wrap64 ((wrap64 (gW + 1)) - 1)) (cW.length : Int))) * 53)))) 64))) a1, (wrap64 (gW + 1))))) else (none)) else (none)) else (none)) else (none)) = some (r1, r2) := by first | (rw [hji14] at H; exact H) | (simp only [hji14] at H ⊢; exact H)
     by_cases mi : 0 ≤ (ji14)
     ·rw [if_pos mi] at H
      have WE : decide (0 ≤ (ji14)) = true := decide_eq_true mi
      clear mi
      by_cases Bc : (ji14) < (cW.length : Int)
      ·rw [if_pos Bc] at H
       have JG : decide ((ji14) < (cW.length : Int)) = true := decide_eq_true Bc
       clear Bc
       obtain ⟨ji17, hji17⟩ : ∃ j_ : Int, (Int.tmod (wrap64 ((wrap64 ((wrap64 ((wrap64 (gW + 1)) - 1)) * 7)) + 3)) (cW.length : Int)) = j_ := ⟨_, rfl⟩
       replace H : (if 0 ≤ (ji17) then (if (ji17) < (cW.length : Int) then (if a1 = 0 then (none) else (some (Int.tmod (Go.bits .xor .i64 (wrap64 ((wrap64 ((wrap64 ((wrap64 ((wrap64 (rd cW (ji14))) * 131)) + (wrap64 ((wrap64 (rd cW (ji17))) * 1117)))) + (wrap64 ((wrap64 ((wrap64 (gW + 1)) - 1)) * 29)))) + (wrap64 ((wrap64 (Int.tdiv (wrap64 ((wrap64 (gW + 1)) - 1)) (cW.length : Int))) * 53)))) (wrap64 (Int.tdiv (wrap64 ((wrap64 ((wrap64 ((wrap64 ((wrap64 (rd cW (ji14))) * 131)) + (wrap64 ((wrap64 (rd cW (ji17))) * 1117)))) + (wrap64 ((wrap64 ((wrap64 (gW + 1)) - 1)) * 29)))) + (wrap64 ((wrap64 (Int.tdiv (wrap64 ((wrap64 (gW + 1)) - 1)) (cW.length : Int))) * 53)))) 64))) a1, (wrap64 (gW + 1))))) else (none)) else (none)) = some (r1, r2) := by first | (rw [hji17] at H; exact H) | (simp only [hji17] at H ⊢; exact H)
       by_cases Ei : 0 ≤ (ji17)
       ·rw [if_pos Ei] at H
        have CS : decide (0 ≤ (ji17)) = true := decide_eq_true Ei
        clear Ei
        by_cases c19 : (ji17) < (cW.length : Int)
        ·rw [if_pos c19] at H
         have aLB : decide ((ji17) < (cW.length : Int)) = true := decide_eq_true c19
         clear c19
         by_cases uq : a1 = 0
         ·rw [if_pos uq] at H
          exact absurd H (by simp)
         ·rw [if_neg uq] at H
          have a08 : (a1 == 0) = false := beq_eq_false_iff_ne.mpr uq
          have aLC : (a1 != 0) = true := bne_iff_ne.mpr uq
          obtain ⟨rfl, rfl⟩ := sZ2 H
          repeat clear H
          obtain ⟨ASz21_0, cSz21_0, HGz21, hgz21, HSz21_0⟩ := gJ.out
          have Xo := H5 HGz21
          have Xp := H6 HGz21
          have Xr := eB HGz21 1
          clear HGz21 hgz21
          have F7 : 0 ≤ ((ji14) : Int) := oT
          have FB : (ji14) < (cW.length : Int) := oT
          obtain ⟨pF, uK, oR⟩ := Kd.Ec HSz21_0 (ji14) F7 FB
          cases uK
          replace oR := mV HB.1 oR
          replace F7 := eq_true F7
          replace FB := eq_true FB
          have E0 : 0 ≤ ((ji17) : Int) := oT
          have E6 : (ji17) < (cW.length : Int) := oT
          obtain ⟨pG, zL, rX⟩ := Kd.Ec HSz21_0 (ji17) E0 E6
          obtain rfl : pF = pG := (by injection zL)
          replace rX := mV HB.1 rX
          replace E0 := eq_true E0
          replace E6 := eq_true E6
          go_wp2
          repeat (go_quiet (fail); try go_wp2)
          go_ret
          exact ⟨by first | rfl | (simp [tJ, tK] <;> rfl) | (simp only [← hji14, ← hji17]; first | rfl | (simp [tJ, tK] <;> rfl)) | (simp [*, tJ, tK] <;> rfl), oF, E5, wJ⟩
        ·rw [if_neg c19] at H
         exact absurd H (by simp)
       ·rw [if_neg Ei] at H
        exact absurd H (by simp)
      ·rw [if_neg Bc] at H
       exact absurd H (by simp)
     ·rw [if_neg mi] at H
      exact absurd H (by simp)
def fE.f (k : Nat) (cW : List Int) (gW : Int) (l1 : List ByteArray) : Option (ByteArray × Int) := (bN.f k cW gW (l1.length : Int)).bind fun a => (if 0 ≤ a.1 then (if a.1 < (l1.length : Int) then (some (rdOf ByteArray.empty l1 a.1, a.2)) else (none)) else (none))
theorem fE.calls (k : Nat) (g : Nat) (cW : List Int) (gW : Int) (A1 : Option Addr) (c1 : Nat) (l1 : List ByteArray) (r1 : ByteArray) (r2 : Int) (w0 w : World) (hI : aD w0 w g cW gW) (hB : Below w0.heap.size w0 w) (FG : Kd.C Kd.string w A1 l1.length l1) (FF : l1.length ≤ c1) (hf1 : ∀ ad, A1 = some ad → 0 < l1.length → ad.block ≠ g) (h : fE.f k cW gW l1 = some (r1, r2)) :
  Calls Try.prog 101 #[.pointer (some ⟨g, 0, none⟩), .slice A1 l1.length c1] w fun e w' => e = .returned (.string r1) ∧ aD w0 w' g cW r2 ∧ Below w0.heap.size w0 w' ∧ aY w w' g none := by
 obtain ⟨IL, LA⟩ := mZ2 FG FF
 clear FG FF
 have gJ := am hI
 have HK := am (aY.refl w g none)
 have HL := am hB.size
 clear hI
 have HW0 := am hB.size
 have HB := am hB
 clear hB
 unfold fE.f at h
 have H := h
 clear h
 obtain ⟨⟨l5, lD⟩, A3, H⟩ := bd H
 dsimp only at H
 obtain ⟨yF, H⟩ := cN H
 obtain ⟨IP, H⟩ := cN H
 obtain ⟨rfl, rfl⟩ := sZ2 H
 repeat clear H
 go_enter Try.func101, Try.ntmps101
 go_wp2_with (first | ((with_reducible refine gC 100 ?_); refine cQ (some 9) Try.func100 (bN.calls k g cW gW (l1.length : Int) l5 lD w0 _ (oF) (E5) A3.out) ?_; rintro w6 ⟨hi, hb, hk⟩; replace HK := kT w g wJ hk; replace HB := am hb; replace gJ := am hi; clear hb hk hi; have E0 : 0 ≤ (l5 : Int) := oT; have E6 : l5 < (l1.length : Int) := oT; obtain ⟨pG, zL, rX⟩ := Kd.FV IL.1 l5 E0 E6; cases zL; replace rX := kC HK.out rX (by first | (rw [add_block]; exact hf1 _ rfl (by omega)) | exact hf1 _ rfl (by omega) | exact hf1 pG rfl (by omega)); replace E0 := eq_true E0; replace E6 := eq_true E6))
 go_ret
 exact ⟨eR, oF, E5, wJ⟩
def fO.l0 : Nat → List ByteArray → Int → List ByteArray → Int → List Int → Int → Option (List ByteArray × Int)
 | 0, _, _, _, _, _, _ => none
 | k + 1, b, d, c, a, e, h => if a < (b.length : Int) then ((bN.f k e h d).bind fun g => (if g.1 = 0 then (if 0 ≤ a then (if c.length < 8796093022208 then (fO.l0 k b d (c ++ [rdOf ByteArray.empty b a]) (wrap64 (a + 1)) e g.2) else (none)) else (none)) else (fO.l0 k b d c (wrap64 (a + 1)) e g.2))) else (some (c, h))
def fO.f (k : Nat) (cW : List Int) (gW : Int) (l1 : List ByteArray) (a2 : Int) : Option (List ByteArray × Int) := fO.l0 k l1 a2 (([] : List ByteArray)) 0 cW gW
theorem fO.calls (k : Nat) (g : Nat) (cW : List Int) (gW : Int) (A1 : Option Addr) (c1 : Nat) (l1 : List ByteArray) (a2 : Int) (r1 : List ByteArray) (r2 : Int) (w0 w : World) (hI : aD w0 w g cW gW) (hB : Below w0.heap.size w0 w) (FG : Kd.C Kd.string w A1 l1.length l1) (FF : l1.length ≤ c1) (hf1 : ∀ ad, A1 = some ad → 0 < l1.length → ad.block ≠ g) (h : fO.f k cW gW l1 a2 = some (r1, r2)) :
  Calls Try.prog 109 #[.pointer (some ⟨g, 0, none⟩), .slice A1 l1.length c1, .int .i64 a2] w fun e w' => ∃ v0_ : Value, e = .returned (v0_) ∧ Kd.R Kd.string 9 w' w.heap.size (fun _ => True) v0_ r1 ∧ aD w0 w' g cW r2 ∧ Below w0.heap.size w0 w' ∧ aY w w' g none := by
 obtain ⟨IL, LA⟩ := mZ2 FG FF
 clear FG FF
 have gJ := am hI
 have HK := am (aY.refl w g none)
 have HL := am hB.size
 clear hI
 have HW0 := am hB.size
 have HB := am hB
 clear hB
 unfold fO.f at h
 have H := h
 clear h
 obtain ⟨Af, hy101⟩ : ∃ y_ : List ByteArray, y_ = (([] : List ByteArray)) := ⟨_, rfl⟩
 replace H : (fO.l0 k l1 a2 Af 0 cW gW) = some (r1, r2) := by first | (rw [hy101]; with_reducible exact H) | (have H2_ := (Option.bind_some _ _).symm.trans H; rw [hy101]; with_reducible exact H2_) | (have H2_ := (Option.bind_some _ _).symm.trans H; with_reducible exact H2_) | with_reducible exact H | (rw [hy101]; exact H) | exact H
 have IG := am hy101
 clear hy101
 have H' := am H
 repeat clear H
 go_enter Try.func109, Try.ntmps109
 go_wp2_with (first | ((with_reducible refine jW (N := 9) rfl ?_); refine lS 9 9 IG ?_; intro Aa w4 ho5 hb; have kZ := am (Kd.d9 ho5 (kz w g wJ)); replace HK := kU w g wJ hb; replace HB := bS E5 hb; replace gJ := am (aD.below oF hb); clear hb ho5))
 go_loopg [7, 8] k (fun kq v7 v8 w' => ∃ (kW : List ByteArray) (IW : Int) (nV : Int), v8 = .int .i64 IW ∧ aC (fO.l0 kq l1 a2 kW IW cW nV = some (r1, r2)) ∧ aC (kq ≤ k) ∧ aC (Kd.R Kd.string 9 w' w.heap.size (fun _ => True) v7 kW) ∧ aC (aD w0 w' g cW nV) ∧ aC (aY w w' g none) ∧ aC (Below w0.heap.size w0 w'))
 case atStart => exact ⟨(Af), (0), (gW), dM, H', ⟨Nat.le_refl _⟩, ⟨rR kZ.1⟩, ⟨oF⟩, ⟨wJ⟩, ⟨E5⟩⟩
 clear H'
 try clear c1
 obtain ⟨kW, IW, nV, rfl, HA, HK1, UO, gJ, HK, HB⟩ := hrel
 cases gk with
 | zero => exact absurd HA.out (by simp [fO.l0])
 | succ k1 =>
  have H := HA.out
  clear HA
  simp only [fO.l0] at H
  refine ic H ?_ ?_ <;> clear H <;> intro RQ H
  ·obtain ⟨⟨dC, oH⟩, A7, H⟩ := bd H
   dsimp only at H
   refine iq H ?_ ?_ <;> clear H <;> intro c8 LB aDY H
   ·obtain ⟨PV, H⟩ := cN H
    obtain ⟨Oj, H⟩ := cL H
    obtain ⟨VD, NH⟩ := yv (kW ++ [rdOf ByteArray.empty l1 IW]); first | replace H := bW NH H | rw [← NH.1] at H
    have H' := am H
    repeat clear H
    go_wp2_with (first | ((with_reducible refine gC 100 ?_); refine cQ (some 18) Try.func100 (bN.calls k1 g cW nV a2 dC oH w0 _ (oF) (E5) A7.out) ?_; rintro w11 ⟨hi, hb, hk⟩; replace UO := iR oF (rR UO.1) hk; replace HK := kT w g wJ hk; replace HB := am hb; replace gJ := am hi; clear hb hk hi; have Q6 : 0 ≤ (IW : Int) := oT; have JT : IW < (l1.length : Int) := oT; obtain ⟨xS, F4, qU⟩ := Kd.FV IL.1 IW Q6 JT; cases F4; replace qU := kC HK.out qU (by first | (rw [add_block]; exact hf1 _ rfl (by omega)) | exact hf1 _ rfl (by omega) | exact hf1 xS rfl (by omega)); replace Q6 := eq_true Q6; replace JT := eq_true JT) | ((with_reducible refine o7 (b := .append) (xs := #[.tmp 20, .tmp 25]) rfl ?_); at_builtin; refine Kd.AC Kd.string w.heap.size rfl (.tmp 20) (.tmp 25) 23 9 (.string ⟨#[]⟩) 16 rfl Try.underlying23 rY rfl (by decide) (by omega) u7 kW (rdOf ByteArray.empty l1 IW) [.string (rdOf ByteArray.empty l1 IW)] (fun _ => True) (fun _ => False) rfl rfl ?aP (fun _ hk => hk.elim) ?aF ?aO (Below.refl _ _) ?aS ?aL ?_; (case aP => exact rfl); (case aF => exact (fun _ _ => trivial)); (case aO => exact (rR UO.1)); (case aS => exact (kz w g wJ)); (case aL => have := Oj.out; omega); intro IV w12 ho hb hg hat; rw [← NH.out] at ho; replace HB := am (pM E5 HL.out hb); replace gJ := am (aD.grown oF hg (aD.own_ne gJ.out UO.1 (by decide))); replace HK := am (aY.trans wJ (aY.rZ hg g) (Kd.EG UO.1)); have fU := am ho; clear UO; clear ho hb hg hat))
    go_roundg k1
    case measure => have := HK1.out; omega
    case rel => exact ⟨(VD), (wrap64 (IW + 1)), (oH), dM, H', ⟨by have := HK1.out; omega⟩, ⟨rR fU.1⟩, ⟨oF⟩, ⟨wJ⟩, ⟨E5⟩⟩
   ·have H' := am H
    repeat clear H
    go_wp2_with (first | ((with_reducible refine gC 100 ?_); refine cQ (some 18) Try.func100 (bN.calls k1 g cW nV a2 dC oH w0 _ (oF) (E5) A7.out) ?_; rintro Uv ⟨hi, hb, hk⟩; replace UO := iR oF (rR UO.1) hk; replace HK := kT w g wJ hk; replace HB := am hb; replace gJ := am hi; clear hb hk hi))
    go_roundg k1
    case measure => have := HK1.out; omega
    case rel => exact ⟨(kW), (wrap64 (IW + 1)), (oH), dM, H', ⟨by have := HK1.out; omega⟩, ⟨rR UO.1⟩, ⟨oF⟩, ⟨wJ⟩, ⟨E5⟩⟩
  ·obtain ⟨rfl, rfl⟩ := sZ2 H
   repeat clear H
   go_wp2
   go_ret
   exact ⟨_, eR, rR UO.1, oF, E5, wJ⟩
def oC.f  : Option (List ByteArray) := some (([(⟨#[97, 108, 101]⟩ : ByteArray), (⟨#[98]⟩ : ByteArray), (⟨#[99, 45, 99]⟩ : ByteArray), (⟨#[100, 97, 114, 107]⟩ : ByteArray), (⟨#[120, 57]⟩ : ByteArray)] : List ByteArray))
theorem oC.calls  (r : List ByteArray) (w : World) (h : oC.f  = some r) :
  Calls Try.prog 132 #[] w fun e w' => ∃ v0_ : Value, e = .returned (v0_) ∧ Kd.R Kd.string 9 w' w.heap.size (fun _ => True) v0_ r ∧ Below w.heap.size w w' := by
 have HB := am (Below.refl w.heap.size w)
 unfold oC.f at h
 have H := h
 clear h
 obtain ⟨Af, IG⟩ := yv (([(⟨#[97, 108, 101]⟩ : ByteArray), (⟨#[98]⟩ : ByteArray), (⟨#[99, 45, 99]⟩ : ByteArray), (⟨#[100, 97, 114, 107]⟩ : ByteArray), (⟨#[120, 57]⟩ : ByteArray)] : List ByteArray)); first | replace H := bW IG H | rw [← IG.1] at H
 obtain rfl := Option.some.inj H
 repeat clear H
 go_enter Try.func132, Try.ntmps132
 go_wp2_with (first | ((with_reducible refine jW (N := 1) rfl ?_); refine lS 9 1 IG ?_; intro Aa w1 Lq hb; have kZ := am (Kd.d9 Lq (aG eG)); replace HB := bS eG hb; clear hb Lq))
 go_ret
 exact ⟨_, eR, rR kZ.1, eG⟩
mutual
def bO.j0 : Nat → Bool → List Int → Int → List ByteArray → List (S56) → Int → ByteArray → Option (Int × ByteArray × List ByteArray × Int)
 | 0, _, _, _, _, _, _, _ => none
 | k + 1, h, c, d, e, a, g, i => if h = true then ((bN.f k c d (a.length : Int)).bind fun b => (if 0 ≤ b.1 then (if b.1 < (a.length : Int) then (bO.j1 k c b.2 e a g ((aA a b.1).f0)) else (none)) else (none))) else (bO.j1 k c d e a g i)
def bO.j1 : Nat → List Int → Int → List ByteArray → List (S56) → Int → ByteArray → Option (Int × ByteArray × List ByteArray × Int)
 | 0, _, _, _, _, _, _ => none
 | k + 1, e, g, b, a, h, d => (gV.f k b a d).bind fun c => (if c ≥ 0 then (if 0 ≤ c then (if c < (a.length : Int) then (bO.j2 k ((aA a c).f2) e g b a h d) else (none)) else (none)) else (bO.j2 k b e g b a h d))
def bO.j2 : Nat → List ByteArray → List Int → Int → List ByteArray → List (S56) → Int → ByteArray → Option (Int × ByteArray × List ByteArray × Int)
 | 0, _, _, _, _, _, _, _ => none
 | k + 1, c, b, i, d, e, g, h => (bN.f k b i 9).bind fun a => (if a.1 = 0 then (bO.j3 k c a.1 (a.1 == 0) b a.2 d e g h) else (if a.1 = 1 then (bO.j3 k c a.1 (a.1 == 1) b a.2 d e g h) else (bO.j3 k c a.1 (a.1 == 2) b a.2 d e g h)))
def bO.j4 : Nat → List Int → Int → Int → ByteArray → List ByteArray → Option (Int × ByteArray × List ByteArray × Int)
 | 0, _, _, _, _, _ => none
 | k + 1, c, i, d, e, b => (bN.f k c i 24).bind fun a => (if a.1 = 0 then ((fE.f k c a.2 (([(⟨#[]⟩ : ByteArray), (⟨#[97]⟩ : ByteArray), (⟨#[122, 122]⟩ : ByteArray), (⟨#[116, 117, 110]⟩ : ByteArray)] : List ByteArray))).bind fun g => (if b.length < 8796093022208 then (some (d, e, (b ++ [g.1]), g.2)) else (none))) else (if a.1 = 1 then ((fE.f k c a.2 (([(⟨#[]⟩ : ByteArray), (⟨#[65]⟩ : ByteArray), (⟨#[122, 122]⟩ : ByteArray)] : List ByteArray))).bind fun h => (some (d, h.1, b, h.2))) else (some (d, e, b, a.2))))
def bO.j3 : Nat → List ByteArray → Int → Bool → List Int → Int → List ByteArray → List (S56) → Int → ByteArray → Option (Int × ByteArray × List ByteArray × Int)
 | 0, _, _, _, _, _, _, _, _, _ => none
 | k + 1, d, e, l, a, b, m, p, n, c => if l = true then ((oC.f).bind fun o => ((fE.f k a b o).bind fun g => ((fO.f k a g.2 m 2).bind fun h => (bO.j4 k a h.2 1 g.1 h.1)))) else (if e = 3 then ((fO.f k a b d 2).bind fun i => (bO.j4 k a i.2 3 c i.1)) else (if e = 4 then (bO.j4 k a b 4 c ([] : List ByteArray)) else ((fO.f k a b d 2).bind fun j => (bO.j4 k a j.2 n c j.1))))
end
def bO.f (k : Nat) (cW : List Int) (gW : Int) (fK : List ByteArray) (jJ : List (S56)) : Option (Int × ByteArray × List ByteArray × Int) := (oC.f).bind fun c => ((fE.f k cW gW c).bind fun a => (if (jJ.length : Int) > 0 then ((bN.f k cW a.2 8).bind fun b => (bO.j0 k (decide (b.1 > 0)) cW b.2 fK jJ 2 a.1)) else (bO.j0 k false cW a.2 fK jJ 2 a.1)))
def bO.T3 : Bool × List (List Nat × List Nat) := (true, [([], []), ([0], [0]), ([], []), ([], []), ([3], [3]), ([4], [4]), ([2, 5], [2, 5]), ([1, 6], [1, 6]), ([7], [7]), ([8], [8]), ([0, 1, 2, 3, 4, 5, 6, 7, 8, 9], []), ([10, 9, 6, 0, 1, 2, 3, 4, 5, 6, 7, 8, 9], [9, 10])])
def bO.B3 : List Nat := [0, 1, 0, 0, 8, 24, 60, 127, 255, 511, 1023, 2047]
theorem bO.tab3 : rtab .any (opsOf Try.f121 3) = bO.T3 := by kernel_rfl
theorem bO.Qg : kP bO.T3.2 bO.B3 = true := by kernel_rfl
def bO.T23 : Bool × List (List Nat × List Nat) := (true, [([], []), ([0], [0]), ([], []), ([], []), ([2, 3], [2, 3]), ([4], [4]), ([1, 5, 4], [1, 5]), ([0, 1, 2, 3, 4, 5, 6], []), ([7, 6, 6, 0, 1, 2, 3, 4, 5, 6], [6, 7])])
def bO.B23 : List Nat := [0, 1, 0, 0, 12, 28, 63, 127, 255]
theorem bO.a4P : rtab .any (opsOf Try.f121 23) = bO.T23 := by kernel_rfl
theorem bO.lh : kP bO.T23.2 bO.B23 = true := by kernel_rfl
theorem bO.calls (k : Nat) (g : Nat) (cW : List Int) (gW : Int) (xC : Option Addr) (yE : Nat) (fK : List ByteArray) (wP : Option Addr) (wM : Nat) (jJ : List (S56)) (r1 : Int) (r2 : ByteArray) (r3 : List ByteArray) (r4 : Int) (w0 w : World) (hI : aD w0 w g cW gW) (hB : Below w0.heap.size w0 w) (R5 : Kd.C Kd.string w xC fK.length fK) (R4 : fK.length ≤ yE) (hf1_0 : ∀ ad, xC = some ad → 0 < fK.length → ad.block ≠ g) (JO : ∀ W_, aY w W_ g none → Kd.C k56 W_ wP jJ.length jJ) (LL : jJ.length ≤ wM) (h : bO.f k cW gW fK jJ = some (r1, r2, r3, r4)) :
  Calls Try.prog 121 #[.pointer (some ⟨g, 0, none⟩), .agg #[.slice xC fK.length yE, .slice wP jJ.length wM]] w fun e w' => ∃ v2_ : Value, e = .returned (.agg #[.int .i64 r1, .string r2, v2_]) ∧ Kd.R Kd.string 9 w' w.heap.size (fun _ => True) v2_ r3 ∧ aD w0 w' g cW r4 ∧ Below w0.heap.size w0 w' ∧ aY w w' g none := by
 have hu31 := Try.underlying31
 have hu106 := Try.underlying106
 have QS := am R5
 have QQ := am R4
 clear R5 R4
 have pS := am JO
 have Hc := am LL
 clear JO LL
 have gJ := am hI
 have HK := am (aY.refl w g none)
 have HL := am hB.size
 clear hI
 have HW0 := am hB.size
 have HB := am hB
 clear hB
 unfold bO.f at h
 have H := h
 clear h
 obtain ⟨eF, A3, H⟩ := bd H
 obtain ⟨⟨fT, dZ⟩, A4, H⟩ := bd H
 dsimp only at H
 have HC5 := am H
 clear H
 go_enter Try.func121, Try.ntmps121
 go_upto_region 2 with (first | ((with_reducible refine gD 3 ?_); refine bX 3 #[.slice xC fK.length yE, .slice wP jJ.length wM] 31 ?_; intro aT hg w6 hbox hb; replace HB := bS E5 hb; have a6 := am (hbox); have g5 := am (V0 : w.heap.size ≤ aT); have iJ := am (Nat.le_trans HW0.out (V0 : w.heap.size ≤ aT) : w0.heap.size ≤ aT); replace HK := am (aY.trans (wJ) (aY.of_below hb g none) (.inl rfl)); have l7 := am (by rw [hg]; exact Nat.ne_of_lt (aD.lt (show aD w0 _ g cW gW from oF)) : g ≠ aT); have fJ := am (by rw [hg]; exact Nat.ne_of_gt (aD.lt (show aD w0 _ g cW gW from oF)) : aT ≠ g); replace gJ := am (aD.below (oF) hb); clear hb hbox hg) | ((with_reducible refine gD 4 ?_); refine bX 4 #[.int .i64 0, .string (⟨#[]⟩ : ByteArray), .slice none 0 0] 106 ?_; intro aZ hg w7 hbox hb; replace HB := bS ZP hb; have aH := am (hbox); have m4 := am (UZ : w.heap.size ≤ aZ); have nX := am (Nat.le_trans HW0.out (UZ : w.heap.size ≤ aZ) : w0.heap.size ≤ aZ); replace HK := am (aY.trans (Q8) (aY.of_below hb g none) (.inl rfl)); have cO := nL aW hg; have cV := nG aW hg; replace a6 := bB aW hb; have mT := am (by rw [hg]; exact Nat.ne_of_lt (aD.lt (show aD w0 _ g cW gW from F8)) : g ≠ aZ); have gX := am (by rw [hg]; exact Nat.ne_of_gt (aD.lt (show aD w0 _ g cW gW from F8)) : aZ ≠ g); replace gJ := am (aD.below (F8) hb); clear hb hbox hg) | ((with_reducible refine gC 132 ?_); refine cE (some 9) Try.func132 (oC.calls  eF _ A3.out) ?_; rintro e w8 ⟨FD, rfl, f3, hb⟩; refine ⟨_, rfl, ?_⟩; have mY := am (Kd.d9 f3 (rH (w := w) (g := g) (row := none) (I0))); replace a6 := bB aW hb; replace aH := bB cB hb; replace HK := am (aY.trans (I0) (aY.of_below hb g none) (.inl rfl)); replace HB := bS zP hb; replace gJ := am (aD.below (sL) hb); (try clear hb); (try clear f3); obtain ⟨Vc, Ur, eo9⟩ := Kd.bP mY.1; subst eo9) | ((with_reducible refine gC 101 ?_); refine cQ (some 10) Try.func101 (fE.calls k g cW gW _ _ eF fT dZ w0 _ ((sL)) ((zP)) (pC (Kd.aU mY.1).2.2) ((Kd.aU mY.1).2.1) (mM (aD.own_ne gJ.out mY.1 (by decide))) A4.out) ?_; rintro w10 ⟨hi, hb, hk⟩; replace a6 := kb aW hk fJ; replace aH := kb cB hk gX; replace mY := am (Kd.aM (Kd.lQ (aD.apart (show aD w0 _ g cW gW from sL) (LW) (by decide)) hk (fun _ h => h.2)) (fun _ h => h.1)); replace HK := am (aY.trans (I0) hk (.inl rfl)); replace HB := am (hb); replace gJ := am (hi); (try clear hb); (try clear hk); (try clear hi)) | ((with_reducible refine gD 5 ?_); refine bX 5 #[.int .i64 0, .string (⟨#[]⟩ : ByteArray), .slice none 0 0] 106 ?_; intro o6 hg w11 hbox hb; replace mY := am (Kd.fP (LW) hb); replace HB := bS zP hb; have f5 := am (hbox); have CD := am (Yo : w.heap.size ≤ o6); have Gx := am (Nat.le_trans HW0.out (Yo : w.heap.size ≤ o6) : w0.heap.size ≤ o6); replace HK := am (aY.trans (I0) (aY.of_below hb g none) (.inl rfl)); have gH := nL aW hg; have nJ := nG aW hg; replace a6 := bB aW hb; have gT := nL cB hg; have qC := nG cB hg; replace aH := bB cB hb; have zV := am (by rw [hg]; exact Nat.ne_of_lt (aD.lt (show aD w0 _ g cW dZ from sL)) : g ≠ o6); have oK := am (by rw [hg]; exact Nat.ne_of_gt (aD.lt (show aD w0 _ g cW dZ from sL)) : o6 ≠ g); replace gJ := am (aD.below (sL) hb); clear hb hbox hg; have aN2 := nJ.1; have aNX := gH.1; have aN3 := qC.1; have aNY := gT.1; have aN4 := oK.1; have aNZ := zV.1; obtain ⟨NT, NU, NV, NW, NX, NY⟩ := cz3 f5))
 (try simp only [Act.put, List.setIfInBounds_toArray, List.set_cons_zero, List.set_cons_succ])
 go_cut [20] (fun v20 wc => ∃ (kq : Nat) (Ug : Bool) (PF : Int), v20 = .bool Ug ∧ aC (bO.j0 kq Ug cW PF fK jJ 2 fT = some (r1, r2, r3, r4)) ∧ aC (kq ≤ k) ∧ aC (wc.heap[aT]? = some (.cells #[(.slice xC fK.length yE), (.slice wP jJ.length wM)] 31 (0, 0))) ∧ aC (wc.heap[aZ]? = some (.cells #[.int .i64 0, .string (⟨#[]⟩ : ByteArray), (.slice none 0 0)] 106 (0, 0))) ∧ aC (wc.heap[o6]? = some (.cells #[.int .i64 2, .string fT, (.slice none 0 0)] 106 (0, 0))) ∧ aC (aD w0 wc g cW PF) ∧ aC (aY w wc g none) ∧ aC (Below w0.heap.size w0 wc))
 case first =>
  have H := HC5.1
  clear HC5
  by_cases Bc : (jJ.length : Int) > 0
  ·rw [if_pos Bc] at H
   have JG : decide (0 < (jJ.length : Int)) = true := decide_eq_true Bc
   have Qs : decide (0 < jJ.length) = true := decide_eq_true (by omega)
   clear Bc
   (first | rw [JG] | (simp only [q8, uS]; rw [JG]) | skip)
   obtain ⟨⟨yT, xJ⟩, A17, H⟩ := bd H
   dsimp only at H
   have H' := am H
   clear H
   have aN5 := cO.1
   have aO0 := cV.1
   have aN6 := gH.1
   have aO1 := nJ.1
   have aN7 := fJ.1
   have aO2 := l7.1
   obtain ⟨Xo, Xp, a7V, Xr⟩ := cz2 a6
   go_wp2_with (first | (go_at_call 100; refine cM (bN.calls k g cW dZ 8 yT xJ w0 _ ((tM)) ((wU)) A17.out) ?_; rintro Ux ⟨hi, hb, hk⟩; replace a6 := am (aY.blk hk (g' := aT) (o := .cells #[.slice xC fK.length yE, .slice wP jJ.length wM] 31 (0, 0)) (by refine rB ?_; refine dF ?_ gH.1 _; refine rB ?_; refine dF ?_ gH.1 _; refine rB ?_; refine dF ?_ gH.1 _; refine rB ?_; exact a6.1) fJ.1 (by simp)); replace aH := am (aY.blk hk (g' := aZ) (o := .cells #[.int .i64 0, .string (⟨#[]⟩ : ByteArray), .slice none 0 0] 106 (0, 0)) (by refine rB ?_; refine dF ?_ gT.1 _; refine rB ?_; refine dF ?_ gT.1 _; refine rB ?_; refine dF ?_ gT.1 _; refine rB ?_; exact aH.1) gX.1 (by simp)); replace mY := am (Kd.aM (Kd.lQ (aD.apart (show aD w0 _ g cW dZ from tM) (by refine rR ?_; exact (Kd.aM (fR (fR (fR (tR mY f5)))) (fun _ h_ => h_.1))) (by decide)) hk (fun _ h => h.2)) (fun _ h => h.1)); replace f5 := am (aY.blk hk (g' := o6) (o := .cells #[.int .i64 2, .string fT, .slice none 0 0] 106 (0, 0)) (by refine rB ?_; refine bR (cs := #[.int .i64 2, .string fT, .slice none 0 0]) ?_ 2 _ rfl; refine rB ?_; refine bR (cs := #[.int .i64 2, .string (⟨#[]⟩ : ByteArray), .slice none 0 0]) ?_ 1 _ rfl; refine rB ?_; refine bR (cs := #[.int .i64 0, .string (⟨#[]⟩ : ByteArray), .slice none 0 0]) ?_ 0 _ rfl; refine rB ?_; exact f5.1) oK.1 (by simp)); replace HK := am (aY.trans (sA) hk (.inl rfl)); replace HB := am (hb); replace gJ := am (hi); (try clear hb); (try clear hk); (try clear hi)))
   go_meet
   exact ⟨_, (decide (yT > 0)), (xJ), (dM), H', ⟨by first | omega | exact Nat.le_refl _⟩, ⟨rB a6.1⟩, ⟨rB aH.1⟩, ⟨rB f5.1⟩, ⟨tM⟩, ⟨sA⟩, ⟨wU⟩⟩
  rw [if_neg Bc] at H
  have JG : decide (0 < (jJ.length : Int)) = false := decide_eq_false Bc
  have Qs : decide (0 < jJ.length) = false := decide_eq_false (by omega)
  clear Bc
  (first | rw [JG] | (simp only [q8, uS]; rw [JG]) | skip)
  have H' := am H
  clear H
  have aN8 := cO.1
  have aO3 := cV.1
  have aN9 := gH.1
  have aO4 := nJ.1
  have aNA := fJ.1
  have aO5 := l7.1
  obtain ⟨a6T, a6U, a7W, a7X⟩ := cz2 a6
  go_wp2
  go_meet
  exact ⟨_, (false), (dZ), (dM), H', ⟨by first | omega | exact Nat.le_refl _⟩, ⟨by refine rB ?_; refine dF ?_ gH.1 _; refine rB ?_; refine dF ?_ gH.1 _; refine rB ?_; refine dF ?_ gH.1 _; refine rB ?_; exact a6.1⟩, ⟨by refine rB ?_; refine dF ?_ gT.1 _; refine rB ?_; refine dF ?_ gT.1 _; refine rB ?_; refine dF ?_ gT.1 _; refine rB ?_; exact aH.1⟩, ⟨by refine rB ?_; refine bR (cs := #[.int .i64 2, .string fT, .slice none 0 0]) ?_ 2 _ rfl; refine rB ?_; refine bR (cs := #[.int .i64 2, .string (⟨#[]⟩ : ByteArray), .slice none 0 0]) ?_ 1 _ rfl; refine rB ?_; refine bR (cs := #[.int .i64 0, .string (⟨#[]⟩ : ByteArray), .slice none 0 0]) ?_ 0 _ rfl; refine rB ?_; exact f5.1⟩, ⟨tM⟩, ⟨sA⟩, ⟨wU⟩⟩
 clear HC5
 try clear NT NU NV NW NX NY
 obtain ⟨kq, Ug, PF, rfl, HA, HJ4, a6, aH, f5, gJ, HK, HB⟩ := hcut
 cases kq with
 | zero => exact absurd HA.out (by simp [bO.j0])
 | succ kj4 =>
  have H := HA.out
  clear HA
  simp only [bO.j0] at H
  have jd := am H
  clear H
  go_upto_if 20 with ((fail))
  go_cut [] (fun wc => ∃ (kq : Nat) (GI : Int) (jT : ByteArray), aC (bO.j1 kq cW GI fK jJ 2 jT = some (r1, r2, r3, r4)) ∧ aC (kq ≤ kj4) ∧ aC (wc.heap[aT]? = some (.cells #[(.slice xC fK.length yE), (.slice wP jJ.length wM)] 31 (0, 0))) ∧ aC (wc.heap[aZ]? = some (.cells #[.int .i64 0, .string (⟨#[]⟩ : ByteArray), (.slice none 0 0)] 106 (0, 0))) ∧ aC (wc.heap[o6]? = some (.cells #[.int .i64 2, .string jT, (.slice none 0 0)] 106 (0, 0))) ∧ aC (aD w0 wc g cW GI) ∧ aC (aY w wc g none) ∧ aC (Below w0.heap.size w0 wc))
  case first =>
   have H := jd.1
   clear jd
   refine tC H ?_ ?_ <;> clear H <;> intro c28 H <;> subst c28
   ·obtain ⟨⟨dJ, iI⟩, A29, H⟩ := bd H
    dsimp only at H
    obtain ⟨NO, H⟩ := cN H
    (first | rw [NO] | (simp only [q8, uS]; rw [NO]) | skip)
    obtain ⟨a0H, H⟩ := cN H
    have H' := am H
    clear H
    try go_wp2
    replace a6 := am (dL a6.1)
    replace aH := am (dL aH.1)
    replace f5 := am (dL f5.1)
    replace gJ := am (aD.drew gJ.out)
    replace HK := am (jP HK.out)
    replace HB := am (aV HB.1)
    have sb : 0 ≤ (dJ : Int) := oT
    have sl : dJ < (jJ.length : Int) := oT
    obtain ⟨JC, fv, ls, fw, lu, aEB, Z0, Z1, ZA, Jm, Jg, Jn, Jh⟩ := zG (Kd.GQ pS.1 HK.out) dJ sb sl
    have aBC := ZA
    have aBB := Z1
    have aBA := Z0
    cases aEB
    have hne113_2 := (show (⟨(JC.add ((dJ).toNat * 3)).block, (JC.add ((dJ).toNat * 3)).off + 2, none⟩ : Addr).block ≠ g from by first | (rw [add_block]; exact Kd.uP pS.1 (by omega) (by decide)) | (show (Addr.add _ _).block ≠ _; rw [add_block]; exact Kd.uP pS.1 (by omega) (by decide)) | exact Kd.uP pS.1 (by omega) (by decide) | (dsimp only; exact Kd.uP pS.1 (by omega) (by decide)))
    have hlt113_2 := (Kd.Y8 pS.1 (by omega) (by decide))
    have hne113_1 := (show (⟨(JC.add ((dJ).toNat * 3)).block, (JC.add ((dJ).toNat * 3)).off + 1, none⟩ : Addr).block ≠ g from by first | (rw [add_block]; exact Kd.uP pS.1 (by omega) (by decide)) | (show (Addr.add _ _).block ≠ _; rw [add_block]; exact Kd.uP pS.1 (by omega) (by decide)) | exact Kd.uP pS.1 (by omega) (by decide) | (dsimp only; exact Kd.uP pS.1 (by omega) (by decide)))
    have hlt113_1 := (Kd.Y8 pS.1 (by omega) (by decide))
    have hne113_0 := (show ((JC.add ((dJ).toNat * 3)) : Addr).block ≠ g from by first | (rw [add_block]; exact Kd.uP pS.1 (by omega) (by decide)) | (show (Addr.add _ _).block ≠ _; rw [add_block]; exact Kd.uP pS.1 (by omega) (by decide)) | exact Kd.uP pS.1 (by omega) (by decide) | (dsimp only; exact Kd.uP pS.1 (by omega) (by decide)))
    have hlt113_0 := (Kd.Y8 pS.1 (by omega) (by decide))
    have Vx := am Jg
    have a5V := am Jm
    clear Jg Jm
    have Vy := am Jh
    have a5W := am Jn
    clear Jh Jn
    replace sb := eq_true sb
    replace sl := eq_true sl
    refine sT (S := fun w' => w'.cell? ⟨aT, 0, none⟩ = some (.slice xC fK.length yE) ∧ w'.cell? ⟨aT, 1, none⟩ = some (.slice (some JC) jJ.length wM) ∧ w'.cell? (JC.add ((dJ).toNat * 3)) = some (.string ((aA jJ dJ).f0)) ∧ w'.cell? ⟨(JC.add ((dJ).toNat * 3)).block, (JC.add ((dJ).toNat * 3)).off + 1, none⟩ = some (.slice fv ((aA jJ dJ).f1).length ls) ∧ w'.cell? ⟨(JC.add ((dJ).toNat * 3)).block, (JC.add ((dJ).toNat * 3)).off + 2, none⟩ = some (.slice fw ((aA jJ dJ).f2).length lu)) [] 12 ⟨⟨(bC a6.1 0).trans rfl, (bC a6.1 1).trans rfl, Z0, Z1, ZA⟩⟩ (fun hHeld => ?_); refine eO bO.tab3 bO.Qg (fun HT_ HW_ => ?_)
    generalize wc.drew = w32 at a6 aH f5 gJ HK HB Vx Vy Z0 Z1 ZA hHeld ⊢
    refine pU 0 (some 21) ?_
    refine pU 2 (some 23) ?_
    refine pU 3 (some 24) ?_
    refine tK5 1 (some 22) ?_
    refine tK5 4 (some 25) ?_
    refine pU 5 (some 26) ?_
    refine oN 6 (some 27) fun K hK => ?_
    refine NS Try.func100 (by kernel_rfl) rfl #[.pointer (some ⟨g, 0, none⟩), .int .i64 (jJ.length : Int)] (by rfl) rfl rfl (xV) ?_
    with_reducible refine (bN.calls kj4 g cW PF (jJ.length : Int) dJ iI w0 _ ?side1 ?side2 A29.out).mono ?_
    (case side1 => exact (tM))
    (case side2 => exact (wU))
    rintro e wa ⟨rfl, hi, hb, hk⟩
    have HS2_ := kC hk (hHeld.2.2.1) (by first | (rw [add_block]; exact hne113_0) | (show (Addr.add _ _).block ≠ _; rw [add_block]; exact hne113_0) | exact hne113_0)
    have HS3_ := kC hk (hHeld.2.2.2.1) (by first | (rw [add_block]; exact hne113_1) | (show (Addr.add _ _).block ≠ _; rw [add_block]; exact hne113_1) | exact hne113_1)
    have HS4_ := kC hk (hHeld.2.2.2.2) (by first | (rw [add_block]; exact hne113_2) | (show (Addr.add _ _).block ≠ _; rw [add_block]; exact hne113_2) | exact hne113_2)
    refine ⟨_, rfl, ?_⟩
    replace a6 := kb aW hk fJ
    replace aH := kb cB hk gX
    replace f5 := kb BN hk oK
    replace HK := am (aY.trans (sA) hk (.inl rfl))
    replace HB := am (hb)
    replace gJ := am (hi)
    (try clear hb)
    (try clear hb2)
    (try clear hk)
    (try clear hi)
    refine hK.out _ _ ⟨(bC a6.1 0).trans rfl, (bC a6.1 1).trans rfl, HS2_, HS3_, HS4_⟩ (fun hHeld => ?_)
    clear hK K
    refine nM ?_
    refine pU 7 (some 28) ?_
    refine pU 8 (some 29) ?_
    refine tK5 9 (some 30) ?_
    refine pU 10 (some 31) ?_
    refine oN 11 none fun K hK => ?_
    have aUZ : wa.cell? ⟨o6, 1, none⟩ = some (.string fT) := (bC f5.1 1).trans rfl
    have aMT := eB f5.1 1
    have aAV := gH.1
    have aAW := gT.1
    have a9F := nJ.1
    have a9G := qC.1
    refine uX (w1 := ?_) (by rfl) rfl ?_ ?_
    rotate_left
    ·go_simp
     rfl
    refine hK.out _ _ ⟨((cell_far (p := ⟨o6, _, none⟩) gH.1 _).trans (hHeld.1)), ((cell_far (p := ⟨o6, _, none⟩) gH.1 _).trans (hHeld.2.1)), ((cell_far (p := ⟨o6, _, none⟩) (by first | exact Nat.ne_of_lt (Nat.lt_of_lt_of_le hlt113_0 CD.out) | (rw [add_block]; exact Nat.ne_of_lt (Nat.lt_of_lt_of_le hlt113_0 CD.out)) | (show (Addr.add _ _).block ≠ _; rw [add_block]; exact Nat.ne_of_lt (Nat.lt_of_lt_of_le hlt113_0 CD.out)) | (dsimp only; exact Nat.ne_of_lt (Nat.lt_of_lt_of_le hlt113_0 CD.out))) _).trans (hHeld.2.2.1)), ((cell_far (p := ⟨o6, _, none⟩) (by first | exact Nat.ne_of_lt (Nat.lt_of_lt_of_le hlt113_1 CD.out) | (rw [add_block]; exact Nat.ne_of_lt (Nat.lt_of_lt_of_le hlt113_1 CD.out)) | (show (Addr.add _ _).block ≠ _; rw [add_block]; exact Nat.ne_of_lt (Nat.lt_of_lt_of_le hlt113_1 CD.out)) | (dsimp only; exact Nat.ne_of_lt (Nat.lt_of_lt_of_le hlt113_1 CD.out))) _).trans (hHeld.2.2.2.1)), ((cell_far (p := ⟨o6, _, none⟩) (by first | exact Nat.ne_of_lt (Nat.lt_of_lt_of_le hlt113_2 CD.out) | (rw [add_block]; exact Nat.ne_of_lt (Nat.lt_of_lt_of_le hlt113_2 CD.out)) | (show (Addr.add _ _).block ≠ _; rw [add_block]; exact Nat.ne_of_lt (Nat.lt_of_lt_of_le hlt113_2 CD.out)) | (dsimp only; exact Nat.ne_of_lt (Nat.lt_of_lt_of_le hlt113_2 CD.out))) _).trans (hHeld.2.2.2.2))⟩ (fun hHeld => ?_)
    clear hK K
    refine QY (Y5 HT_.out (by kernel_rfl)) ?_
    try go_wp2
    go_meet
    case rel => exact ⟨_, (iI), ((aA jJ dJ).f0), H', ⟨by have := HJ4.out; first | omega | exact Nat.le_refl _⟩, ⟨by refine rB ?_; refine dF ?_ gH.1 _; refine rB ?_; exact a6.1⟩, ⟨by refine rB ?_; refine dF ?_ gT.1 _; refine rB ?_; exact aH.1⟩, ⟨by refine rB ?_; refine bR (cs := #[.int .i64 2, .string fT, .slice none 0 0]) ?_ 1 _ rfl; refine rB ?_; exact f5.1⟩, ⟨tM⟩, ⟨sA⟩, ⟨wU⟩⟩
   ·have H' := am H
    clear H
    go_wp2
    go_meet
    case rel => exact ⟨_, (PF), (fT), H', ⟨by have := HJ4.out; first | omega | exact Nat.le_refl _⟩, ⟨rB a6.1⟩, ⟨rB aH.1⟩, ⟨rB f5.1⟩, ⟨tM⟩, ⟨sA⟩, ⟨wU⟩⟩
  case rest =>
   clear jd
   try clear NT NU NV NW NX NY
   obtain ⟨kq, GI, jT, HA, XC, a6, aH, f5, gJ, HK, HB⟩ := hcut
   cases kq with
   | zero => exact absurd HA.out (by simp [bO.j1])
   | succ kj26 =>
    have H := HA.out
    clear HA
    simp only [bO.j1] at H
    obtain ⟨JX, A35, H⟩ := bd H
    have je := am H
    clear H
    have aNB := cO.1
    have aO6 := cV.1
    have aNC := gH.1
    have aO7 := nJ.1
    have aND := fJ.1
    have aO8 := l7.1
    obtain ⟨YF, YG, YP, YQ⟩ := cz2 a6
    have aNE := qC.1
    have aO9 := gT.1
    have aNF := oK.1
    have aOA := zV.1
    obtain ⟨YH, YI, YJ, YR, YS, YT⟩ := cz3 f5
    go_upto_if 39 with (first | ((with_reducible refine gC 82 ?_); refine cQ (some 35) Try.func82 (gV.calls kj26 _ _ fK _ _ jJ jT JX _ (Kd.TA (⟨#[]⟩ : ByteArray) QS.1 (sA) hf1_0) QQ.1 (Kd.GQ pS.1 (sA)) Hc.1 A35.out) ?_; rintro w44 hb; replace a6 := bB aW hb; replace aH := bB cB hb; replace f5 := bB BN hb; replace HK := am (aY.trans (sA) (aY.of_below hb g none) (.inl rfl)); replace HB := bS wU hb; replace gJ := am (aD.below (tM) hb); (try clear hb); obtain ⟨YK, YL, YU, YV⟩ := cz2 a6))
    (try simp only [Act.put, List.setIfInBounds_toArray, List.set_cons_zero, List.set_cons_succ])
    go_cut [7] (fun v7 wc => ∃ (kq : Nat) (M5 : List ByteArray), aC (bO.j2 kq M5 cW GI fK jJ 2 jT = some (r1, r2, r3, r4)) ∧ aC (kq ≤ kj26) ∧ aC (∃ A_ c_, v7 = .slice A_ M5.length c_ ∧ Kd.C Kd.string w A_ M5.length M5 ∧ M5.length ≤ c_ ∧ (∀ ad, A_ = some ad → 0 < M5.length → ad.block ≠ g)) ∧ aC (wc.heap[aT]? = some (.cells #[(.slice xC fK.length yE), (.slice wP jJ.length wM)] 31 (0, 0))) ∧ aC (wc.heap[aZ]? = some (.cells #[.int .i64 0, .string (⟨#[]⟩ : ByteArray), (.slice none 0 0)] 106 (0, 0))) ∧ aC (wc.heap[o6]? = some (.cells #[.int .i64 2, .string jT, (.slice none 0 0)] 106 (0, 0))) ∧ aC (aD w0 wc g cW GI) ∧ aC (aY w wc g none) ∧ aC (Below w0.heap.size w0 wc))
    case first =>
     have H := je.1
     clear je
     by_cases cp : JX ≥ 0
     ·rw [if_pos cp] at H
      have Bg : decide (0 ≤ JX) = true := decide_eq_true cp
      clear cp
      (first | rw [Bg] | (simp only [q8, uS]; rw [Bg]) | skip)
      obtain ⟨aLN, H⟩ := cN H
      obtain ⟨a0N, H⟩ := cN H
      have H' := am H
      clear H
      have aNG := cO.1
      have aOB := cV.1
      have aNH := gH.1
      have aOC := nJ.1
      have aNI := fJ.1
      have aOD := l7.1
      obtain ⟨a6V, a6W, a7Y, a7Z⟩ := cz2 a6
      obtain ⟨aL5, aBR, aDC, aBS, aDD, aEC, aBF, aBG, Jv, a6F, a5X, a6G, Vp, a3P, a4B⟩ := aT56 (am (Kd.GQ pS.1 HK.out)) b0 JX
      cases aEC
      go_wp2
      go_meet
      case rel => exact ⟨_, ((aA jJ JX).f2), H', ⟨by have := HJ4.out; have := XC.out; first | omega | exact Nat.le_refl _⟩, ⟨⟨_, _, rfl, (TZ pS.1 HK.out JX (of_eq_true a3P) (of_eq_true a4B) Jv) w (aY.refl w g none), Vp.1, Ro (TZ pS.1 HK.out JX (of_eq_true a3P) (of_eq_true a4B) Jv)⟩⟩, ⟨rB a6.1⟩, ⟨rB aH.1⟩, ⟨rB f5.1⟩, ⟨tM⟩, ⟨sA⟩, ⟨wU⟩⟩
     ·rw [if_neg cp] at H
      have Bg : decide (0 ≤ JX) = false := decide_eq_false cp
      clear cp
      (first | rw [Bg] | (simp only [q8, uS]; rw [Bg]) | skip)
      have H' := am H
      clear H
      go_wp2
      go_meet
      case rel => exact ⟨_, (fK), H', ⟨by have := HJ4.out; have := XC.out; first | omega | exact Nat.le_refl _⟩, ⟨⟨_, _, rfl, QS.1, QQ.1, hf1_0⟩⟩, ⟨rB a6.1⟩, ⟨rB aH.1⟩, ⟨rB f5.1⟩, ⟨tM⟩, ⟨sA⟩, ⟨wU⟩⟩
    case rest =>
     clear je
     try clear NT NU NV NW NX NY
     try clear YF YG YP YQ
     try clear YH YI YJ YR YS YT
     try clear YK YL YU YV
     obtain ⟨kq, M5, HA, Dv, HM7, a6, aH, f5, gJ, HK, HB⟩ := hcut
     obtain ⟨A7m, c7m, rfl, hr7m_, hc7m_, hf7m⟩ := HM7.out
     clear HM7
     have HR7m := am hr7m_
     have HC7m := am hc7m_
     clear hr7m_ hc7m_
     cases kq with
     | zero => exact absurd HA.out (by simp [bO.j2])
     | succ kj35 =>
      have H := HA.out
      clear HA
      simp only [bO.j2] at H
      obtain ⟨⟨RW, P8⟩, A53, H⟩ := bd H
      dsimp only at H
      have jf := am H
      clear H
      go_upto_block 0 with (first | ((with_reducible refine gC 100 ?_); refine cQ (some 47) Try.func100 (bN.calls kj35 g cW GI 9 RW P8 w0 _ ((tM)) ((wU)) A53.out) ?_; rintro w55 ⟨hi, hb, hk⟩; replace a6 := kb aW hk fJ; replace aH := kb cB hk gX; replace f5 := kb BN hk oK; replace HK := am (aY.trans (sA) hk (.inl rfl)); replace HB := am (hb); replace gJ := am (hi); (try clear hb); (try clear hk); (try clear hi)))
      (try simp only [Act.put, List.setIfInBounds_toArray, List.set_cons_zero, List.set_cons_succ])
      go_cut [] (fun wc => ∃ (kq : Nat) (DX : Int) (pA : Int) (xL : ByteArray) (xM : List ByteArray) (PA : Value), aC (bO.j4 kq cW DX pA xL xM = some (r1, r2, r3, r4)) ∧ aC (kq ≤ kj35) ∧ aC (Kd.R Kd.string 9 wc w.heap.size (fun _ => True) PA xM) ∧ aC (wc.heap[aT]? = some (.cells #[(.slice xC fK.length yE), (.slice wP jJ.length wM)] 31 (0, 0))) ∧ aC (wc.heap[aZ]? = some (.cells #[.int .i64 0, .string (⟨#[]⟩ : ByteArray), (.slice none 0 0)] 106 (0, 0))) ∧ aC (wc.heap[o6]? = some (.cells #[.int .i64 pA, .string xL, PA] 106 (0, 0))) ∧ aC (aD w0 wc g cW DX) ∧ aC (aY w wc g none) ∧ aC (Below w0.heap.size w0 wc))
      case first =>
       have H := jf.1
       clear jf
       have jg := am H
       clear H
       go_upto_if 52 with ((fail))
       go_cut [52] (fun v52 wc => ∃ (kq : Nat) (Ae : Bool), v52 = .bool Ae ∧ aC (bO.j3 kq M5 RW Ae cW P8 fK jJ 2 jT = some (r1, r2, r3, r4)) ∧ aC (kq ≤ kj35) ∧ aC (wc.heap[aT]? = some (.cells #[(.slice xC fK.length yE), (.slice wP jJ.length wM)] 31 (0, 0))) ∧ aC (wc.heap[aZ]? = some (.cells #[.int .i64 0, .string (⟨#[]⟩ : ByteArray), (.slice none 0 0)] 106 (0, 0))) ∧ aC (wc.heap[o6]? = some (.cells #[.int .i64 2, .string jT, (.slice none 0 0)] 106 (0, 0))) ∧ aC (aD w0 wc g cW P8) ∧ aC (aY w wc g none) ∧ aC (Below w0.heap.size w0 wc))
       case first =>
        have H := jg.1
        clear jg
        refine iq H ?_ ?_ <;> clear H <;> intro c57 Bh aLS H
        ·(first | rw [Bh] | (simp only [q8, uS]; rw [Bh]) | skip)
         have H' := am H
         clear H
         go_wp2
         go_meet
         case rel => exact ⟨_, ((RW == 0)), (dM), H', ⟨by have := HJ4.out; have := XC.out; have := Dv.out; first | omega | exact Nat.le_refl _⟩, ⟨rB a6.1⟩, ⟨rB aH.1⟩, ⟨rB f5.1⟩, ⟨tM⟩, ⟨sA⟩, ⟨wU⟩⟩
        ·(first | rw [Bh] | (simp only [q8, uS]; rw [Bh]) | skip)
         refine iq H ?_ ?_ <;> clear H <;> intro Ww Qv aLT H
         ·have H' := am H
          clear H
          go_wp2
          go_meet
          case rel => exact ⟨_, ((RW == 1)), (dM), H', ⟨by have := HJ4.out; have := XC.out; have := Dv.out; first | omega | exact Nat.le_refl _⟩, ⟨rB a6.1⟩, ⟨rB aH.1⟩, ⟨rB f5.1⟩, ⟨tM⟩, ⟨sA⟩, ⟨wU⟩⟩
         ·have H' := am H
          clear H
          go_wp2
          go_meet
          case rel => exact ⟨_, ((RW == 2)), (dM), H', ⟨by have := HJ4.out; have := XC.out; have := Dv.out; first | omega | exact Nat.le_refl _⟩, ⟨rB a6.1⟩, ⟨rB aH.1⟩, ⟨rB f5.1⟩, ⟨tM⟩, ⟨sA⟩, ⟨wU⟩⟩
       case rest =>
        clear jg
        try clear NT NU NV NW NX NY
        try clear YF YG YP YQ
        try clear YH YI YJ YR YS YT
        try clear YK YL YU YV
        obtain ⟨kq, Ae, rfl, HA, Vv, a6, aH, f5, gJ, HK, HB⟩ := hcut
        cases kq with
        | zero => exact absurd HA.out (by simp [bO.j3])
        | succ kj55 =>
         have H := HA.out
         clear HA
         simp only [bO.j3] at H
         rcases tf Ae with c59 | c59 <;> subst c59
         ·replace H : ((oC.f).bind fun qZ => ((fE.f kj55 cW P8 qZ).bind fun bw => ((fO.f kj55 cW bw.2 fK 2).bind fun bx => (bO.j4 kj55 cW bx.2 1 bw.1 bx.1)))) = some (r1, r2, r3, r4) := iT H
          obtain ⟨qZ, A60, H⟩ := bd H
          obtain ⟨⟨LC, LD⟩, A61, H⟩ := bd H
          dsimp only at H
          obtain ⟨⟨qE, AP⟩, A62, H⟩ := bd H
          dsimp only at H
          have H' := am H
          clear H
          have aNJ := nJ.1
          have aOE := gH.1
          have aNK := qC.1
          have aOF := gT.1
          have aNL := oK.1
          have aOG := zV.1
          obtain ⟨a6X, a6Y, a6Z, a81, a88, a8A⟩ := cz3 f5
          go_wp2_with (first | ((with_reducible refine gC 132 ?_); refine cE (some 58) Try.func132 (oC.calls  qZ _ A60.out) ?_; rintro e w67 ⟨ua, rfl, f3, hb⟩; refine ⟨_, rfl, ?_⟩; have AA := am (Kd.d9 f3 (rH (w := w) (g := g) (row := none) (sA))); replace a6 := am (bH (g := aT) (o := .cells #[.slice xC fK.length yE, .slice wP jJ.length wM] 31 (0, 0)) (by refine rB ?_; refine dF ?_ gH.1 _; refine rB ?_; exact a6.1) hb); replace aH := am (bH (g := aZ) (o := .cells #[.int .i64 0, .string (⟨#[]⟩ : ByteArray), .slice none 0 0] 106 (0, 0)) (by refine rB ?_; refine dF ?_ gT.1 _; refine rB ?_; exact aH.1) hb); replace f5 := am (bH (g := o6) (o := .cells #[.int .i64 1, .string jT, .slice none 0 0] 106 (0, 0)) (by refine rB ?_; refine bR (cs := #[.int .i64 2, .string jT, .slice none 0 0]) ?_ 0 _ rfl; refine rB ?_; exact f5.1) hb); replace HK := am (aY.trans (sA) (aY.of_below hb g none) (.inl rfl)); replace HB := bS wU hb; replace gJ := am (aD.below (show aD w0 (wc.setCell ⟨o6, 0, none⟩ (.int .i64 1)) g cW P8 from tM) hb); (try clear hb); (try clear f3); obtain ⟨ib, ne, pk⟩ := Kd.bP AA.1; subst pk) | ((with_reducible refine gC 101 ?_); refine cQ (some 59) Try.func101 (fE.calls kj55 g cW P8 _ _ qZ LC LD w0 _ ((tM)) ((wU)) (pC (Kd.aU AA.1).2.2) ((Kd.aU AA.1).2.1) (mM (aD.own_ne gJ.out AA.1 (by decide))) A61.out) ?_; rintro w69 ⟨hi, hb, hk⟩; replace a6 := kb aW hk fJ; replace aH := kb cB hk gX; replace f5 := kb BN hk oK; replace AA := am (Kd.aM (Kd.lQ (aD.apart (show aD w0 _ g cW P8 from tM) (rR AA.1) (by decide)) hk (fun _ h => h.2)) (fun _ h => h.1)); replace HK := am (aY.trans (sA) hk (.inl rfl)); replace HB := am (hb); replace gJ := am (hi); (try clear hb); (try clear hk); (try clear hi); obtain ⟨a7A, a7B, a7C, a8B, a8C, a8D⟩ := cz3 f5; have aNM := cO.1; have aOH := cV.1; have aNN := fJ.1; have aOI := l7.1; obtain ⟨a7D, a7E, a8E, a8F⟩ := cz2 a6) | ((with_reducible refine gC 109 ?_); refine cE (some 64) Try.func109 (fO.calls kj55 g cW LD _ _ fK 2 qE AP w0 _ ((tM)) ((wU)) (Kd.TA (⟨#[]⟩ : ByteArray) QS.1 (sA) hf1_0) QQ.1 hf1_0 A62.out) ?_; rintro e w74 ⟨Da, rfl, f3, hi, hb, hk⟩; refine ⟨_, rfl, ?_⟩; replace a6 := am (aY.blk hk (g' := aT) (o := .cells #[.slice xC fK.length yE, .slice wP jJ.length wM] 31 (0, 0)) (by refine rB ?_; refine dF ?_ gH.1 _; refine rB ?_; exact a6.1) fJ.1 (by simp)); replace aH := am (aY.blk hk (g' := aZ) (o := .cells #[.int .i64 0, .string (⟨#[]⟩ : ByteArray), .slice none 0 0] 106 (0, 0)) (by refine rB ?_; refine dF ?_ gT.1 _; refine rB ?_; exact aH.1) gX.1 (by simp)); have l4 := am (Kd.d9 (Kd.fA f3 (Kd.R_lt (by refine rR ?_; exact (Kd.aM (fR (tR AA f5)) (fun _ h_ => h_.1))))) (rH (w := w) (g := g) (row := none) (sA))); replace AA := am (Kd.aM (Kd.CL (Kd.CK (aD.apart (show aD w0 _ g cW LD from tM) (by refine rR ?_; exact (Kd.aM (fR (tR AA f5)) (fun _ h_ => h_.1))) (by decide)) hk) (Kd.bZ f3)) (fun _ h_ => h_.1)); replace f5 := am (aY.blk hk (g' := o6) (o := .cells #[.int .i64 1, .string LC, .slice none 0 0] 106 (0, 0)) (by refine rB ?_; refine bR (cs := #[.int .i64 1, .string jT, .slice none 0 0]) ?_ 1 _ rfl; refine rB ?_; exact f5.1) oK.1 (by simp)); replace HK := am (aY.trans (sA) hk (.inl rfl)); replace HB := am (hb); replace gJ := am (hi); (try clear hb); (try clear hk); (try clear hi); (try clear f3); obtain ⟨aCG, aE8, aEW⟩ := Kd.bP l4.1; subst aEW; obtain ⟨a7F, a7G, a7H, a8G, a8H, a8I⟩ := cz3 f5))
          go_meet
          case rel => exact ⟨_, (AP), (1), (LC), (qE), (.slice aCG qE.length aE8), H', ⟨by have := HJ4.out; have := XC.out; have := Dv.out; have := Vv.out; first | omega | exact Nat.le_refl _⟩, ⟨by refine rR ?_; exact Kd.aM (fR (tR l4 f5)) (fun _ hk => trivial)⟩, ⟨by refine rB ?_; refine dF ?_ gH.1 _; refine rB ?_; exact a6.1⟩, ⟨by refine rB ?_; refine dF ?_ gT.1 _; refine rB ?_; exact aH.1⟩, ⟨by refine rB ?_; refine bR (cs := #[.int .i64 1, .string LC, .slice none 0 0]) ?_ 2 _ rfl; refine rB ?_; exact f5.1⟩, ⟨tM⟩, ⟨sA⟩, ⟨wU⟩⟩
         ·replace H := iF H
          refine iq H ?_ ?_ <;> clear H <;> intro c77 aM3 aM4 H
          ·obtain ⟨⟨BE, RX⟩, A78, H⟩ := bd H
           dsimp only at H
           have H' := am H
           clear H
           have aNO := nJ.1
           have aOJ := gH.1
           have aNP := qC.1
           have aOK := gT.1
           have aNQ := oK.1
           have aOL := zV.1
           obtain ⟨a7I, a7J, a7K, a8J, a8K, a8L⟩ := cz3 f5
           go_wp2_with (first | ((with_reducible refine gC 109 ?_); refine cE (some 71) Try.func109 (fO.calls kj55 g cW P8 _ _ M5 2 BE RX w0 _ ((tM)) ((wU)) (Kd.TA (⟨#[]⟩ : ByteArray) HR7m.1 (sA) hf7m) HC7m.1 hf7m A78.out) ?_; rintro e w83 ⟨PD, rfl, f3, hi, hb, hk⟩; refine ⟨_, rfl, ?_⟩; replace a6 := am (aY.blk hk (g' := aT) (o := .cells #[.slice xC fK.length yE, .slice wP jJ.length wM] 31 (0, 0)) (by refine rB ?_; refine dF ?_ gH.1 _; refine rB ?_; exact a6.1) fJ.1 (by simp)); replace aH := am (aY.blk hk (g' := aZ) (o := .cells #[.int .i64 0, .string (⟨#[]⟩ : ByteArray), .slice none 0 0] 106 (0, 0)) (by refine rB ?_; refine dF ?_ gT.1 _; refine rB ?_; exact aH.1) gX.1 (by simp)); replace f5 := am (aY.blk hk (g' := o6) (o := .cells #[.int .i64 3, .string jT, .slice none 0 0] 106 (0, 0)) (by refine rB ?_; refine bR (cs := #[.int .i64 2, .string jT, .slice none 0 0]) ?_ 0 _ rfl; refine rB ?_; exact f5.1) oK.1 (by simp)); have sV := am (Kd.d9 f3 (rH (w := w) (g := g) (row := none) (sA))); replace HK := am (aY.trans (sA) hk (.inl rfl)); replace HB := am (hb); replace gJ := am (hi); (try clear hb); (try clear hk); (try clear hi); (try clear f3); obtain ⟨UN, TP, Xj⟩ := Kd.bP sV.1; subst Xj; obtain ⟨a7L, a7M, a7N, a8M, a8N, a8O⟩ := cz3 f5))
           go_meet
           case rel => exact ⟨_, (RX), (3), (jT), (BE), (.slice UN BE.length TP), H', ⟨by have := HJ4.out; have := XC.out; have := Dv.out; have := Vv.out; first | omega | exact Nat.le_refl _⟩, ⟨by refine rR ?_; exact Kd.aM (fR (tR sV f5)) (fun _ hk => trivial)⟩, ⟨by refine rB ?_; refine dF ?_ gH.1 _; refine rB ?_; exact a6.1⟩, ⟨by refine rB ?_; refine dF ?_ gT.1 _; refine rB ?_; exact aH.1⟩, ⟨by refine rB ?_; refine bR (cs := #[.int .i64 3, .string jT, .slice none 0 0]) ?_ 2 _ rfl; refine rB ?_; exact f5.1⟩, ⟨tM⟩, ⟨sA⟩, ⟨wU⟩⟩
          ·refine iq H ?_ ?_ <;> clear H <;> intro c86 aM9 aMA H
           ·have H' := am H
            clear H
            have aNR := nJ.1
            have aOM := gH.1
            have aNS := qC.1
            have aON := gT.1
            have aNT := oK.1
            have aOO := zV.1
            obtain ⟨a7O, a7P, a7Q, a8P, a8Q, a8R⟩ := cz3 f5
            go_wp2
            go_meet
            case rel => exact ⟨_, (P8), (4), (jT), (([] : List ByteArray)), (.slice none 0 0), H', ⟨by have := HJ4.out; have := XC.out; have := Dv.out; have := Vv.out; first | omega | exact Nat.le_refl _⟩, ⟨by first | exact Kd.uE _ _ _ _ _ | exact Kd.CG _ _ _ _ _ | exact Kd.CO _ _ _ _ _ | exact Kd.CJ _ _ _ _ _ | exact Kd.yU _ _ _ _ _⟩, ⟨by refine rB ?_; refine dF ?_ gH.1 _; refine rB ?_; exact a6.1⟩, ⟨by refine rB ?_; refine dF ?_ gT.1 _; refine rB ?_; exact aH.1⟩, ⟨by refine rB ?_; refine bR (cs := #[.int .i64 2, .string jT, .slice none 0 0]) ?_ 0 _ rfl; refine rB ?_; exact f5.1⟩, ⟨tM⟩, ⟨sA⟩, ⟨wU⟩⟩
           ·obtain ⟨⟨QD, V6⟩, A91, H⟩ := bd H
            dsimp only at H
            have H' := am H
            clear H
            go_wp2_with (first | ((with_reducible refine gC 109 ?_); refine cE (some 50) Try.func109 (fO.calls kj55 g cW P8 _ _ M5 2 QD V6 w0 _ ((tM)) ((wU)) (Kd.TA (⟨#[]⟩ : ByteArray) HR7m.1 (sA) hf7m) HC7m.1 hf7m A91.out) ?_; rintro e w92 ⟨ub, rfl, f3, hi, hb, hk⟩; refine ⟨_, rfl, ?_⟩; replace a6 := kb aW hk fJ; replace aH := kb cB hk gX; replace f5 := kb BN hk oK; have yA := am (Kd.d9 f3 (rH (w := w) (g := g) (row := none) (sA))); replace HK := am (aY.trans (sA) hk (.inl rfl)); replace HB := am (hb); replace gJ := am (hi); (try clear hb); (try clear hk); (try clear hi); (try clear f3); obtain ⟨X5, TQ, qe⟩ := Kd.bP yA.1; subst qe; have aNU := nJ.1; have aOP := gH.1; have aNV := qC.1; have aOQ := gT.1; have aNW := oK.1; have aOR := zV.1; obtain ⟨a7R, a7S, a7T, a8S, a8T, a8U⟩ := cz3 f5))
            go_meet
            case rel => exact ⟨_, (V6), (2), (jT), (QD), (.slice X5 QD.length TQ), H', ⟨by have := HJ4.out; have := XC.out; have := Dv.out; have := Vv.out; first | omega | exact Nat.le_refl _⟩, ⟨by refine rR ?_; exact Kd.aM (fR (tR yA f5)) (fun _ hk => trivial)⟩, ⟨by refine rB ?_; refine dF ?_ gH.1 _; refine rB ?_; exact a6.1⟩, ⟨by refine rB ?_; refine dF ?_ gT.1 _; refine rB ?_; exact aH.1⟩, ⟨by refine rB ?_; refine bR (cs := #[.int .i64 2, .string jT, .slice none 0 0]) ?_ 2 _ rfl; refine rB ?_; exact f5.1⟩, ⟨tM⟩, ⟨sA⟩, ⟨wU⟩⟩
      case rest =>
       clear jf
       try clear NT NU NV NW NX NY
       try clear YF YG YP YQ
       try clear YH YI YJ YR YS YT
       try clear YK YL YU YV
       obtain ⟨kq, DX, pA, xL, xM, PA, HA, aSB, k5, a6, aH, f5, gJ, HK, HB⟩ := hcut
       cases kq with
       | zero => exact absurd HA.out (by simp [bO.j4])
       | succ kj53 =>
        have H := HA.out
        clear HA
        simp only [bO.j4] at H
        obtain ⟨⟨xK, QE⟩, A98, H⟩ := bd H
        dsimp only at H
        refine iq H ?_ ?_ <;> clear H <;> intro c99 a0X aMH H
        obtain ⟨QL, QW⟩ := yv (([(⟨#[]⟩ : ByteArray), (⟨#[97]⟩ : ByteArray), (⟨#[122, 122]⟩ : ByteArray), (⟨#[116, 117, 110]⟩ : ByteArray)] : List ByteArray)); first | replace H := bW QW H | rw [← QW.1] at H
        obtain ⟨⟨C1, aGO⟩, fp, H⟩ := bd H
        dsimp only at H
        obtain ⟨jm, H⟩ := cL H
        obtain ⟨a5O, Pm⟩ := yv (xM ++ [C1]); first | replace H := bW Pm H | rw [← Pm.1] at H
        simp only [Option.some.injEq, Prod.mk.injEq] at H
        obtain ⟨rfl, rfl, rfl, rfl⟩ := H
        have jt := trivial
        rotate_left
        refine iq H ?_ ?_ <;> clear H <;> intro aTU aDE aDF H
        obtain ⟨aHQ, Ij⟩ := yv (([(⟨#[]⟩ : ByteArray), (⟨#[65]⟩ : ByteArray), (⟨#[122, 122]⟩ : ByteArray)] : List ByteArray)); first | replace H := bW Ij H | rw [← Ij.1] at H
        obtain ⟨⟨Ts, a4J⟩, aBT, H⟩ := bd H
        dsimp only at H
        simp only [Option.some.injEq, Prod.mk.injEq] at H
        obtain ⟨rfl, rfl, rfl, rfl⟩ := H
        have jt := trivial
        have Wc := trivial
        rotate_left
        simp only [Option.some.injEq, Prod.mk.injEq] at H
        obtain ⟨rfl, rfl, rfl, rfl⟩ := H
        have yw := trivial
        rotate_left
        all_goals
         try go_wp2_with (first | ((with_reducible refine gC 100 ?_); revert jt; intro jt; refine cQ (some 77) Try.func100 (bN.calls kj53 g cW DX 24 xK QE w0 _ ((tM)) ((wU)) A98.out) ?_; rintro a5C ⟨hi, hb, hk⟩; replace k5 := am (Kd.aM (Kd.lQ (aD.apart (show aD w0 _ g cW DX from tM) (R9) (by decide)) hk (fun _ h => h.2)) (fun _ h => h.1)); replace a6 := kb aW hk fJ; replace aH := kb cB hk gX; replace f5 := kb BN hk oK; replace HK := am (aY.trans (sA) hk (.inl rfl)); replace HB := am (hb); replace gJ := am (hi); (try clear hb); (try clear hk); (try clear hi)) | ((with_reducible refine jW (N := 91) rfl ?_); revert Wc; intro Wc; refine Kd.Au Kd.string _ 9 ?hg (N := 91) ?hd (xs := ([(⟨#[]⟩ : ByteArray), (⟨#[65]⟩ : ByteArray), (⟨#[122, 122]⟩ : ByteArray)] : List ByteArray)) (inner := [.string (⟨#[]⟩ : ByteArray), .string (⟨#[65]⟩ : ByteArray), .string (⟨#[122, 122]⟩ : ByteArray)]) (ok := fun _ => True) (okp := fun _ => True) ?hr ?hp (fun _ hk => hk) trivial (Below.refl _ _) (Nat.le_refl _) (by simp) ?_; (case hd => rfl); (case hg => rfl); (case hr => first | (go_simp; done) | (go_simp; rfl)); (case hp => exact (Reps.one (show Kd.M Kd.string _ _ _ (⟨#[]⟩ : ByteArray) [.string (⟨#[]⟩ : ByteArray)] from rfl) (Reps.one (show Kd.M Kd.string _ _ _ (⟨#[65]⟩ : ByteArray) [.string (⟨#[65]⟩ : ByteArray)] from rfl) (Reps.one (show Kd.M Kd.string _ _ _ (⟨#[122, 122]⟩ : ByteArray) [.string (⟨#[122, 122]⟩ : ByteArray)] from rfl) (Reps.none _ _))))); intro aVW aPN WL hb hg_ hnew_; clear hg_ hnew_; (first | rw [← Ij.out] at WL | (simp only [Int.reduceToNat] at WL; rw [← Ij.out] at WL)); have VI := am (Kd.d9 (Kd.fA WL (Kd.R_lt (R9))) (rH (w := w) (g := g) (row := none) (sA))); replace k5 := am (Kd.dS (R9) (Kd.bZ WL) hb); replace a6 := bB aW hb; replace aH := bB cB hb; replace f5 := bB BN hb; replace HK := am (aY.trans (sA) (aY.of_below hb g none) (.inl rfl)); replace HB := bS wU hb; replace gJ := am (aD.below (tM) hb); clear hb WL; obtain ⟨aCB, aE3, og⟩ := Kd.bP VI.1; subst og) | ((with_reducible refine gC 101 ?_); revert Wc; intro Wc; refine cQ (some 92) Try.func101 (fE.calls kj53 g cW QE _ _ aHQ Ts a4J w0 _ ((tM)) ((wU)) (pC (Kd.aU VI.1).2.2) ((Kd.aU VI.1).2.1) (mM (aD.own_ne gJ.out VI.1 (by decide))) aBT.out) ?_; rintro aPO ⟨hi, hb, hk⟩; replace k5 := am (Kd.aM (Kd.lQ (aD.apart (show aD w0 _ g cW QE from tM) (R9) (by decide)) hk (fun _ h => h.2)) (fun _ h => h.1)); replace a6 := kb aW hk fJ; replace aH := kb cB hk gX; replace f5 := kb BN hk oK; replace VI := am (Kd.aM (Kd.lQ (aD.apart (show aD w0 _ g cW QE from tM) (rR VI.1) (by decide)) hk (fun _ h => h.2)) (fun _ h => h.1)); replace HK := am (aY.trans (sA) hk (.inl rfl)); replace HB := am (hb); replace gJ := am (hi); (try clear hb); (try clear hk); (try clear hi); have a9T := nJ.1; have aA3 := gH.1; have a9U := qC.1; have aA4 := gT.1; have a9V := oK.1; have aA5 := zV.1; obtain ⟨ut, uu, uv, vf, vg, vh⟩ := cz3 f5; have a9W := cV.1; have aA6 := cO.1; have a9X := gX.1; have aA7 := mT.1; obtain ⟨uw, ux, uy, vi, vj, vk⟩ := cz3 aH; obtain ⟨gp, mr, oh⟩ := Kd.bP k5.1; subst oh) | ((with_reducible refine gC 100 ?_); revert yw; intro yw; refine cQ (some 77) Try.func100 (bN.calls kj53 g cW DX 24 xK QE w0 _ ((tM)) ((wU)) A98.out) ?_; rintro aPP ⟨hi, hb, hk⟩; replace k5 := am (Kd.aM (Kd.lQ (aD.apart (show aD w0 _ g cW DX from tM) (R9) (by decide)) hk (fun _ h => h.2)) (fun _ h => h.1)); replace a6 := kb aW hk fJ; replace aH := kb cB hk gX; replace f5 := kb BN hk oK; replace HK := am (aY.trans (sA) hk (.inl rfl)); replace HB := am (hb); replace gJ := am (hi); (try clear hb); (try clear hk); (try clear hi); have a9Y := nJ.1; have aA8 := gH.1; have a9Z := qC.1; have aA9 := gT.1; have aA0 := oK.1; have aAA := zV.1; obtain ⟨uz, va, vb, vl, vm, vo⟩ := cz3 f5; have aA1 := cV.1; have aAB := cO.1; have aA2 := gX.1; have aAC := mT.1; obtain ⟨vc, vd, ve, vp, vq, vr⟩ := cz3 aH; obtain ⟨gq, ms, ol⟩ := Kd.bP k5.1; subst ol))
        ·replace k5 := am (Kd.nC k5.1)
         replace a6 := am (dL a6.1)
         replace aH := am (dL aH.1)
         replace f5 := am (dL f5.1)
         replace gJ := am (aD.drew gJ.out)
         replace HK := am (jP HK.out)
         replace HB := am (aV HB.1)
         refine sT [8] 9 (uA3 f5) (fun hHeld => ?_); refine eO bO.a4P bO.lh (fun HT_ HW_ => ?_)
         generalize a5C.drew = aWE at k5 a6 aH f5 gJ HK HB hHeld ⊢
         refine pU 0 (some 80) ?_
         refine pU 2 (some 82) ?_
         refine tK3 1 (some 81) ?_
         refine oN 3 (some 83) fun K hK => ?_
         refine Kd.MG Kd.string _ 9 ?hg (N := 83) ?hd (xs := ([(⟨#[]⟩ : ByteArray), (⟨#[97]⟩ : ByteArray), (⟨#[122, 122]⟩ : ByteArray), (⟨#[116, 117, 110]⟩ : ByteArray)] : List ByteArray)) (inner := [.string (⟨#[]⟩ : ByteArray), .string (⟨#[97]⟩ : ByteArray), .string (⟨#[122, 122]⟩ : ByteArray), .string (⟨#[116, 117, 110]⟩ : ByteArray)]) (ok := fun _ => True) (okp := fun _ => True) ?hr ?hp (fun _ hk => hk) trivial (Below.refl _ _) (Nat.le_refl _) (by simp) ?_; (case hd => rfl); (case hg => rfl); (case hr => first | (go_simp; done) | (go_simp; rfl)); (case hp => exact (Reps.one (show Kd.M Kd.string _ _ _ (⟨#[]⟩ : ByteArray) [.string (⟨#[]⟩ : ByteArray)] from rfl) (Reps.one (show Kd.M Kd.string _ _ _ (⟨#[97]⟩ : ByteArray) [.string (⟨#[97]⟩ : ByteArray)] from rfl) (Reps.one (show Kd.M Kd.string _ _ _ (⟨#[122, 122]⟩ : ByteArray) [.string (⟨#[122, 122]⟩ : ByteArray)] from rfl) (Reps.one (show Kd.M Kd.string _ _ _ (⟨#[116, 117, 110]⟩ : ByteArray) [.string (⟨#[116, 117, 110]⟩ : ByteArray)] from rfl) (Reps.none _ _))))))
         intro aH1 a4W WJ hb hg_ hnew_
         clear hg_ hnew_
         (first | rw [← QW.out] at WJ | (simp only [Int.reduceToNat] at WJ; rw [← QW.out] at WJ))
         have BJ := am (Kd.d9 (Kd.fA WJ (Kd.R_lt (R9))) (rH (w := w) (g := g) (row := none) (sA)))
         replace k5 := am (Kd.dS (R9) (Kd.bZ WJ) hb)
         replace a6 := bB aW hb
         replace aH := bB cB hb
         replace f5 := bB BN hb
         replace HK := am (aY.trans (sA) (aY.of_below hb g none) (.inl rfl))
         replace HB := bS wU hb
         replace gJ := am (aD.below (tM) hb)
         clear hb WJ
         obtain ⟨wj, a0Y, dg⟩ := Kd.bP BJ.1
         (first | subst dg | (injection dg with f1_ f2_ f3_; have f4_ := f1_.symm; have f5_ := f3_.symm; clear f1_ f2_ f3_; subst f4_; subst f5_))
         refine hK.out _ _ (uA3 f5).1 (fun hHeld => ?_)
         clear hK K
         refine nM ?_
         refine oN 4 (some 84) fun K hK => ?_
         refine gQ Try.func101 (fE.calls kj53 g cW QE _ _ QL C1 aGO w0 _ ((tM)) ((wU)) (pC (Kd.aU BJ.1).2.2) ((Kd.aU BJ.1).2.1) (mM (aD.own_ne gJ.out BJ.1 (by decide))) fp.out) ?_
         rintro aH7 ⟨hi, hb, hk⟩
         replace k5 := am (Kd.aM (Kd.lQ (aD.apart (show aD w0 _ g cW QE from tM) (R9) (by decide)) hk (fun _ h => h.2)) (fun _ h => h.1))
         replace a6 := kb aW hk fJ
         replace aH := kb cB hk gX
         replace f5 := kb BN hk oK
         replace BJ := am (Kd.aM (Kd.lQ (aD.apart (show aD w0 _ g cW QE from tM) (rR BJ.1) (by decide)) hk (fun _ h => h.2)) (fun _ h => h.1))
         replace HK := am (aY.trans (sA) hk (.inl rfl))
         replace HB := am (hb)
         replace gJ := am (hi)
         (try clear hb)
         (try clear hb2)
         (try clear hk)
         (try clear hi)
         refine hK.out _ _ (uA3 f5).1 (fun hHeld => ?_)
         clear hK K
         refine nM ?_
         refine oN 5 (some 85) fun K hK => ?_
         refine yQ (w1 := ?_) (v := ?_) (by rfl) rfl ?_ ?_
         rotate_left 2
         ·go_simp
          constructor
          ·rfl
          ·rfl
         refine hK.out _ _ ⟨(bC (bM f5.1 _) 0).trans rfl, (bC (bM f5.1 _) 1).trans rfl, (bC (bM f5.1 _) 2).trans rfl⟩ (fun hHeld => ?_)
         clear hK K
         refine nM ?_
         refine oN 6 (some 86) fun K hK => ?_
         refine Kd.pX Kd.string w.heap.size (by rfl) (.tmp 81) (.tmp 85) 23 9 (.string ⟨#[]⟩) 16 rfl Try.underlying23 rY rfl (by decide) (by omega) PA xM C1 [.string C1] (fun k_ => some k_ ≠ (.slice wj QL.length a0Y : Value).ownBlock) (fun _ => False) rfl rfl ?aP (fun _ hk => hk.elim) ?aF ?aO (Below.refl _ _) ?aS ?aL ?_
         (case aP => exact rfl)
         (case aF => exact (fun k_ hk => Kd.fresh' (Kd.R_lt (rR BJ.1)) k_ hk))
         (case aO => exact (by refine rR ?_; exact Kd.aM k5.1 (fun _ hk => hk.2)))
         (case aS => exact (rH (w := w) (g := g) (row := none) (sA)))
         (case aL => have := jm.out; omega)
         intro aVV aH8 ho hb hg hat
         rw [← Pm.out] at ho
         replace a6 := gkR aW hg k5 a6
         replace aH := gkR cB hg k5 aH
         replace f5 := gkR BN hg k5 f5
         replace BJ := am (Kd.nA (ok := (fun _ => True)) (rR BJ.1) hg hat)
         replace HB := am (pM (wU) HL.out hb)
         replace gJ := am (aD.grown (tM) hg (aD.own_ne gJ.out k5.1 (by decide)))
         replace HK := am (aY.trans (sA) (aY.rZ hg g) (Kd.EG k5.1))
         have Zx := am (ho)
         clear k5
         clear ho hb hg hat
         obtain ⟨Zm, da, dh⟩ := Kd.bP Zx.1
         (first | subst dh | (injection dh with f1_ f2_ f3_; have f4_ := f1_.symm; have f5_ := f3_.symm; clear f1_ f2_ f3_; subst f4_; subst f5_))
         refine hK.out _ _ (uA3 f5).1 (fun hHeld => ?_)
         clear hK K
         refine nM ?_
         refine pU 7 (some 87) ?_
         refine Cm (i := 8) (N := none) (bz 9 511) rfl rfl (Fv HT_.out (by kernel_rfl)) (by decide) (fun K hK => ?_)
         have aOU : aH8.cell? ⟨o6, 2, none⟩ = some (PA) := (bC f5.1 2).trans rfl
         have aFC := eB f5.1 2
         have a3B := gH.1
         have a3C := gT.1
         have a2V := nJ.1
         have a2W := qC.1
         refine uX (w1 := ?_) (by rfl) rfl ?_ ?_
         rotate_left
         ·go_simp
          rfl
         refine hK.out _ _ ?_
         clear hK K
         refine QY (Y5 HT_.out (by kernel_rfl)) ?_
         have aFG := nJ.1
         have aFL := gH.1
         have aFH := qC.1
         have aFM := gT.1
         have aFI := oK.1
         have aFN := zV.1
         obtain ⟨a2E, a2F, a2G, a2O, a2P, a2Q⟩ := cz3 f5
         have aFJ := cV.1
         have aFO := cO.1
         have aFK := gX.1
         have aFP := mT.1
         obtain ⟨a2H, a2I, a2J, a2R, a2S, a2T⟩ := cz3 aH
         try go_wp2
         refine bodyPost_ret (results_cell_row rfl _ _ aZ 106 #[.int .i64 pA, .string xL, .slice Zm a5O.length da] (0, 0) _ rfl (by refine rB ?_; refine bR (cs := #[.int .i64 pA, .string xL, .slice none 0 0]) ?_ 2 _ rfl; refine rB ?_; refine bR (cs := #[.int .i64 pA, .string (⟨#[]⟩ : ByteArray), .slice none 0 0]) ?_ 1 _ rfl; refine rB ?_; refine bR (cs := #[.int .i64 0, .string (⟨#[]⟩ : ByteArray), .slice none 0 0]) ?_ 0 _ rfl; refine rB ?_; refine dF ?_ gT.1 _; refine rB ?_; exact aH.1) Try.underlying106 rfl (by kernel_rfl)) rfl ?_
         exact ⟨_, eR, by refine rR ?_; exact Kd.aM (fR (fR (fR (Kd.tF (p := ⟨o6, 2, none⟩) (Kd.fQ (tR Zx f5) aH.1 (by decide)) (fun _ hk => hk.1.2) (.slice Zm a5O.length da))))) (fun _ hk => trivial), tM, wU, sA⟩
        ·refine bodyPost_ret (results_cell_row rfl _ _ aZ 106 #[.int .i64 pA, .string Ts, .slice gp xM.length mr] (0, 0) _ rfl (by refine rB ?_; refine bR (cs := #[.int .i64 pA, .string Ts, .slice none 0 0]) ?_ 2 _ rfl; refine rB ?_; refine bR (cs := #[.int .i64 pA, .string (⟨#[]⟩ : ByteArray), .slice none 0 0]) ?_ 1 _ rfl; refine rB ?_; refine bR (cs := #[.int .i64 0, .string (⟨#[]⟩ : ByteArray), .slice none 0 0]) ?_ 0 _ rfl; refine rB ?_; refine dF ?_ gT.1 _; refine rB ?_; exact aH.1) Try.underlying106 rfl (by kernel_rfl)) rfl ?_
         exact ⟨_, eR, by refine rR ?_; exact Kd.aM (fR (fR (fR (Kd.tF (p := ⟨o6, 1, none⟩) (Kd.fQ (tR k5 f5) aH.1 (by decide)) (fun _ hk => hk.1.2) (.string Ts))))) (fun _ hk => trivial), tM, wU, sA⟩
        ·refine bodyPost_ret (results_cell_row rfl _ _ aZ 106 #[.int .i64 pA, .string xL, .slice gq xM.length ms] (0, 0) _ rfl (by refine rB ?_; refine bR (cs := #[.int .i64 pA, .string xL, .slice none 0 0]) ?_ 2 _ rfl; refine rB ?_; refine bR (cs := #[.int .i64 pA, .string (⟨#[]⟩ : ByteArray), .slice none 0 0]) ?_ 1 _ rfl; refine rB ?_; refine bR (cs := #[.int .i64 0, .string (⟨#[]⟩ : ByteArray), .slice none 0 0]) ?_ 0 _ rfl; refine rB ?_; exact aH.1) Try.underlying106 rfl (by kernel_rfl)) rfl ?_
         exact ⟨_, eR, by refine rR ?_; exact Kd.aM (fR (fR (fR (tR k5 aH)))) (fun _ hk => trivial), tM, wU, sA⟩
end Go.Proofs.Ytaofjgnhapnndaa.Q
namespace Go.Proofs.Ytaofjgnhapnndaa.Q
open Go.RowKit Go.Proofs.YtaofjgnhapnndaaW.PrintWords Go.Proofs.YtaofjgnhapnndaaW.PrintLast Go.Proofs.YtaofjgnhapnndaaW.PrintMore
set_option linter.unusedVariables false
set_option linter.unusedSimpArgs false
def fZ.l0 : Nat → List ByteArray → Int → List Int → Int → List ByteArray → Option (List ByteArray × (List (S56)) × Int)
 | 0, _, _, _, _, _ => none
 | k + 1, b, a, d, g, c => if a < (b.length : Int) then ((bN.f k d g 5).bind fun e => (if e.1 > 0 then (if 0 ≤ a then (if c.length < 8796093022208 then (fZ.l0 k b (wrap64 (a + 1)) d e.2 (c ++ [rdOf ByteArray.empty b a])) else (none)) else (none)) else (fZ.l0 k b (wrap64 (a + 1)) d e.2 c))) else (some (c, ([] : List (S56)), g))
def fZ.f (k : Nat) (cW : List Int) (gW : Int) : Option (List ByteArray × (List (S56)) × Int) := fZ.l0 k (([(⟨#[106]⟩ : ByteArray), (⟨#[107, 101, 103]⟩ : ByteArray), (⟨#[116, 117, 110]⟩ : ByteArray), (⟨#[118, 97, 116]⟩ : ByteArray), (⟨#[119]⟩ : ByteArray)] : List ByteArray)) 0 cW gW ([] : List ByteArray)
def fZ.T7 : Bool × List (List Nat × List Nat) := (true, [([], []), ([0], [0]), ([], []), ([], []), ([2, 3], [2, 3]), ([4], [4]), ([5], [5]), ([1, 6], [1, 6]), ([0, 1, 2, 3, 4, 5, 6, 7], []), ([8, 7, 7, 0, 1, 2, 3, 4, 5, 6, 7], [7, 8])])
def fZ.B7 : List Nat := [0, 1, 0, 0, 12, 28, 60, 127, 255, 511]
theorem fZ.tab7 : rtab .any (opsOf Try.f128 7) = fZ.T7 := by kernel_rfl
theorem fZ.II : kP fZ.T7.2 fZ.B7 = true := by kernel_rfl
theorem fZ.calls (k : Nat) (g : Nat) (cW : List Int) (gW : Int) (r1 : List ByteArray) (r2 : List (S56)) (r3 : Int) (w0 w : World) (hI : aD w0 w g cW gW) (hB : Below w0.heap.size w0 w) (h : fZ.f k cW gW = some (r1, r2, r3)) :
  Calls Try.prog 128 #[.pointer (some ⟨g, 0, none⟩)] w fun e w' => ∃ v0_ : Value, e = .returned (.agg #[v0_, .slice none 0 0]) ∧ Kd.R Kd.string 9 w' w.heap.size (fun _ => True) v0_ r1 ∧ aD w0 w' g cW r3 ∧ Below w0.heap.size w0 w' ∧ aY w w' g none := by
 have hu31 := Try.underlying31
 have gJ := am hI
 have HK := am (aY.refl w g none)
 have HL := am hB.size
 clear hI
 have HW0 := am hB.size
 have HB := am hB
 clear hB
 unfold fZ.f at h
 have H := h
 clear h
 obtain ⟨LF, QU⟩ := yv (([(⟨#[106]⟩ : ByteArray), (⟨#[107, 101, 103]⟩ : ByteArray), (⟨#[116, 117, 110]⟩ : ByteArray), (⟨#[118, 97, 116]⟩ : ByteArray), (⟨#[119]⟩ : ByteArray)] : List ByteArray)); first | replace H := bW QU H | rw [← QU.1] at H
 have H' := am H
 repeat clear H
 go_enter Try.func128, Try.ntmps128
 go_wp2_with (first | ((with_reducible refine gD 2 ?_); refine bX 2 #[.slice none 0 0, .slice none 0 0] 31 ?_; intro aT hg w2 hbox hb; replace HB := bS E5 hb; have a6 := am hbox; have g5 := am (V0 : w.heap.size ≤ aT); have iJ := am (Nat.le_trans HW0.out (V0 : w.heap.size ≤ aT) : w0.heap.size ≤ aT); replace HK := kU w g wJ hb; have l7 := am (by rw [hg]; exact Nat.ne_of_lt (aD.lt (show aD w0 _ g cW gW from oF)) : g ≠ aT); have fJ := am (by rw [hg]; exact Nat.ne_of_gt (aD.lt (show aD w0 _ g cW gW from oF)) : aT ≠ g); replace gJ := am (aD.below oF hb); clear hb hbox hg) | ((with_reducible refine gD 3 ?_); refine bX 3 #[.slice none 0 0, .slice none 0 0] 31 ?_; intro aZ hg w3 hbox hb; replace HB := bS ZP hb; have aH := am hbox; have m4 := am (UZ : w.heap.size ≤ aZ); have nX := am (Nat.le_trans HW0.out (UZ : w.heap.size ≤ aZ) : w0.heap.size ≤ aZ); replace HK := kU w g Q8 hb; have cO := nL aW hg; have cV := nG aW hg; replace a6 := bB aW hb; have mT := am (by rw [hg]; exact Nat.ne_of_lt (aD.lt (show aD w0 _ g cW gW from F8)) : g ≠ aZ); have gX := am (by rw [hg]; exact Nat.ne_of_gt (aD.lt (show aD w0 _ g cW gW from F8)) : aZ ≠ g); replace gJ := am (aD.below F8 hb); clear hb hbox hg; have Z4 := nZ2 cV cO gX mT; have Z6 := cz2 aH) | ((with_reducible refine jW (N := 7) rfl ?_); refine lS 9 7 QU ?_; intro FD w7 ho8 hb; have mY := am (Kd.d9 ho8 (kz w g I0)); replace a6 := am (bH (g := aT) (o := .cells #[.slice none 0 0, .slice none 0 0] 31 (0, 0)) (qF a6 cO) hb); replace aH := am (bH (g := aZ) (o := .cells #[.slice none 0 0, .slice none 0 0] 31 (0, 0)) pY6 hb); replace HK := kU w g I0 hb; replace HB := bS zP hb; replace gJ := am (aD.below (show aD w0 ((w3.setCell ⟨aZ, 0, none⟩ (.slice none 0 0)).setCell ⟨aZ, 1, none⟩ (.slice none 0 0)) g cW gW from sL) hb); clear hb ho8))
 go_loopg [5] k (fun kq v5 w' => ∃ (dW : Int) (nV : Int) (zT : List ByteArray) (C2 : Value), v5 = .int .i64 dW ∧ aC (fZ.l0 kq LF dW cW nV zT = some (r1, r2, r3)) ∧ aC (kq ≤ k) ∧ aC (Kd.R Kd.string 9 w' w.heap.size (fun k_ => some k_ ≠ (C2 : Value).ownBlock) FD LF) ∧ aC (Kd.R Kd.string 9 w' w.heap.size (fun k_ => some k_ ≠ (FD : Value).ownBlock) C2 zT) ∧ aC (w'.heap[aT]? = some (.cells #[(.slice none 0 0), (.slice none 0 0)] 31 (0, 0))) ∧ aC (w'.heap[aZ]? = some (.cells #[C2, (.slice none 0 0)] 31 (0, 0))) ∧ aC (aD w0 w' g cW nV) ∧ aC (aY w w' g none) ∧ aC (Below w0.heap.size w0 w'))
 case atStart => exact ⟨(0), (gW), (([] : List ByteArray)), (.slice none 0 0), dM, H', ⟨Nat.le_refl _⟩, ⟨by refine rR ?_; exact Kd.aM mY.1 (fun _ hk => (by simp [Value.ownBlock]))⟩, ⟨by first | exact Kd.uE _ _ _ _ _ | exact Kd.CG _ _ _ _ _ | exact Kd.CO _ _ _ _ _ | exact Kd.CJ _ _ _ _ _ | exact Kd.yU _ _ _ _ _⟩, ⟨rB a6.1⟩, ⟨rB aH.1⟩, ⟨sL⟩, ⟨I0⟩, ⟨zP⟩⟩
 clear H'
 try clear Z6
 obtain ⟨dW, nV, zT, C2, rfl, HA, HK1, m6, oI, a6, aH, gJ, HK, HB⟩ := hrel
 cases gk with
 | zero => exact absurd HA.out (by simp [fZ.l0])
 | succ k1 =>
  have H := HA.out
  clear HA
  simp only [fZ.l0] at H
  refine ic H ?_ ?_ <;> clear H <;> intro PV H
  obtain ⟨⟨fT, dZ⟩, um, H⟩ := bd H
  dsimp only at H
  by_cases My : fT > 0
  rw [if_pos My] at H
  have NM : decide (0 < fT) = true := decide_eq_true My
  clear My
  obtain ⟨QX, H⟩ := cN H
  obtain ⟨Ol, H⟩ := cL H
  obtain ⟨a5L, Pb⟩ := yv (zT ++ [rdOf ByteArray.empty LF dW]); first | replace H := bW Pb H | rw [← Pb.1] at H
  have H' := am H
  repeat clear H
  obtain ⟨xD, vI, nz⟩ := Kd.bP m6.1
  subst nz
  have ju := trivial
  rotate_left
  rw [if_neg My] at H
  have NM : decide (0 < fT) = false := decide_eq_false My
  clear My
  have H' := am H
  repeat clear H
  obtain ⟨xE, nY, Y7⟩ := Kd.bP m6.1
  subst Y7
  have ju := trivial
  rotate_left
  obtain ⟨rfl, rfl, rfl⟩ := sZ3 H
  repeat clear H
  obtain ⟨wo, a14, Xe⟩ := Kd.bP m6.1
  subst Xe
  have Z23 := nZ2 cV cO gX mT
  have Z25 := cz2 aH
  obtain ⟨aC7, aDZ, aEL⟩ := Kd.bP oI.1
  subst aEL
  have Z27 := nZ1 fJ l7
  have Z28 := cz2 a6
  rotate_left
  all_goals
   try go_wp2_with (first | ((with_reducible refine gC 100 ?_); revert ju; intro ju; refine cQ (some 15) Try.func100 (bN.calls k1 g cW nV 5 fT dZ w0 _ (sL) (zP) um.out) ?_; rintro a5D ⟨hi, hb, hk⟩; replace m6 := iR sL GB hk; replace oI := iR sL (rR oI.1) hk; replace a6 := kb aW hk fJ; replace aH := kb cB hk gX; replace HK := kT w g I0 hk; replace HB := am hb; replace gJ := am hi; clear hb hk hi))
  ·replace m6 := RD m6
   replace oI := RD oI
   replace a6 := BD a6
   replace aH := BD aH
   replace gJ := am (aD.drew gJ.out)
   replace HK := am (jP HK.out)
   replace HB := am (aV HB.1)
   obtain ⟨Il, nl, SP, aFZ, aGE⟩ := aS (am (Kd.aU m6.1).2.2) b0 dW
   cases nl
   refine sT (S := fun w' => w'.cell? ⟨aZ, 0, none⟩ = some (C2) ∧ w'.cell? ⟨aZ, 1, none⟩ = some (.slice none 0 0) ∧ w'.cell? (Il.add (dW).toNat) = some (.string (rdOf ByteArray.empty LF dW))) [7, 9] 10 ⟨⟨(bC aH.1 0).trans rfl, (bC aH.1 1).trans rfl, SP⟩⟩ (fun hHeld => ?_)
   refine eO fZ.tab7 fZ.II (fun HT_ HW_ => ?_)
   generalize a5D.drew = w16 at m6 oI a6 aH gJ HK HB SP hHeld ⊢
   refine pU4 0 2 3 4 ?_
   refine tK3 1 (some 18) ?_
   refine tK3 5 (some 22) ?_
   refine oN 6 (some 23) fun K hK => ?_
   refine yQ (w1 := ?_) (v := ?_) (by rfl) rfl ?_ ?_
   rotate_left 2
   ·go_simp
    constructor
    ·rfl
    ·rfl
   refine hK.out _ _ ⟨(bC (bM aH.1 _) 0).trans rfl, (bC (bM aH.1 _) 1).trans rfl, (World.cell?_alloc_lt _ _ _ (World.block_lt_of_cell? _ _ (hHeld.2.2))).trans (hHeld.2.2)⟩ (fun hHeld => ?_)
   clear hK K
   refine nM ?_
   refine lN 7 (some 24) fun K hK => ?_
   refine Kd.pX Kd.string w.heap.size (by rfl) (.tmp 18) (.tmp 23) 23 9 (.string ⟨#[]⟩) 16 rfl Try.underlying23 rY rfl (by decide) (by omega) C2 zT (rdOf ByteArray.empty LF dW) [.string (rdOf ByteArray.empty LF dW)] (fun k_ => some k_ ≠ (.slice (some Il) LF.length vI : Value).ownBlock) (fun _ => False) rfl rfl ?aP (fun _ hk => hk.elim) ?aF ?aO (Below.refl _ _) ?aS ?aL ?_
   (case aP => exact rfl)
   (case aF => exact (fun k_ hk => Kd.fresh' (Kd.R_lt GB) k_ hk))
   (case aO => exact (rR oI.1))
   (case aS => exact (kz w g I0))
   (case aL => have := Ol.out; omega)
   intro Tz w17 ho hb hg hat
   rw [← Pb.out] at ho
   replace m6 := am (Kd.nA (ok := (fun _ => True)) (by refine rR ?_; exact Kd.aM m6.1 (fun _ hk => ⟨trivial, hk⟩)) hg hat)
   replace a6 := gkR aW hg oI a6
   replace aH := gkR cB hg oI aH
   replace HB := am (pM zP HL.out hb)
   replace gJ := am (aD.grown sL hg (aD.own_ne gJ.out oI.1 (by decide)))
   replace HK := am (aY.trans I0 (aY.rZ hg g) (Kd.EG oI.1))
   have wE := am ho
   clear oI
   clear ho hb hg hat
   obtain ⟨FJ, CV, Xd⟩ := Kd.bP wE.1
   (first | subst Xd | (obtain ⟨f4_, f5_⟩ := sj Xd; subst f4_; subst f5_))
   refine hK.out _ _ ?_
   clear hK K
   refine nM ?_
   refine pU1 8 ?_
   refine lN 9 none fun K hK => ?_
   have aUP : w17.cell? ⟨aZ, 0, none⟩ = some (C2) := (bC aH.1 0).trans rfl
   have aMJ := eB aH.1 0
   have aAD := cO.1
   have a8V := cV.1
   refine uX (w1 := ?_) (by rfl) rfl ?_ ?_
   rotate_left
   ·go_simp
    rfl
   refine hK.out _ _ ?_
   clear hK K
   refine dN ?_
   try go_wp2
   go_roundg k1
   case measure => have := HK1.out; omega
   case rel => exact ⟨(wrap64 (dW + 1)), (dZ), (a5L), (.slice FJ a5L.length CV), dM, H', ⟨by have := HK1.out; omega⟩, ⟨by refine rR ?_; exact Kd.aM (fR (tR m6 aH)) (fun _ hk => hk.1.2)⟩, ⟨mR wE aH⟩, ⟨qF a6 cO⟩, ⟨by refine rB ?_; refine bR (cs := #[C2, .slice none 0 0]) ?_ 0 _ rfl; refine rB ?_; exact aH.1⟩, ⟨sL⟩, ⟨I0⟩, ⟨zP⟩⟩
  ·go_roundg k1
   case measure => have := HK1.out; omega
   case rel => exact ⟨(wrap64 (dW + 1)), (dZ), (zT), (C2), dM, H', ⟨by have := HK1.out; omega⟩, ⟨rR m6.1⟩, ⟨rR oI.1⟩, ⟨rB a6.1⟩, ⟨rB aH.1⟩, ⟨sL⟩, ⟨I0⟩, ⟨zP⟩⟩
  ·refine cR aT 31 #[.slice aC7 zT.length aDZ, .slice none 0 0] (qP a6) Try.underlying31 ?_
   exact ⟨_, eR, mR oI a6, sL, zP, I0⟩
mutual
def dH.l0 : Nat → List ByteArray → List ByteArray → Int → List Int → Int → List ByteArray → List (S56) → Option (List ByteArray × (List (S56)) × Int)
 | 0, _, _, _, _, _, _, _ => none
 | k + 1, b, h, a, c, i, d, e => if a < (b.length : Int) then ((bN.f k c i 4).bind fun g => (if g.1 = 0 then (dH.l0 k b h (wrap64 (a + 1)) c g.2 d e) else (if 0 ≤ a then ((fO.f k c g.2 d 2).bind fun j => (dH.l1 k b h a 0 c j.2 d e (rdOf ByteArray.empty b a) ([] : List ByteArray) j.1)) else (none)))) else (some (d, e, i))
def dH.l1 : Nat → List ByteArray → List ByteArray → Int → Int → List Int → Int → List ByteArray → List (S56) → ByteArray → List ByteArray → List ByteArray → Option (List ByteArray × (List (S56)) × Int)
 | 0, _, _, _, _, _, _, _, _, _, _, _ => none
 | k + 1, h, c, i, a, d, m, j, e, l, g, b => if a < (b.length : Int) then (if 0 ≤ a then ((dO.f k c (rdOf ByteArray.empty b a)).bind fun o => (if o = true then (dH.l1 k h c i (wrap64 (a + 1)) d m j e l g b) else ((bN.f k d m 2).bind fun n => (if n.1 = 0 then (if c.length < 8796093022208 then (if g.length < 8796093022208 then (dH.l1 k h (c ++ [rdOf ByteArray.empty b a]) i (wrap64 (a + 1)) d n.2 j e l (g ++ [rdOf ByteArray.empty b a]) b) else (none)) else (none)) else (dH.l1 k h c i (wrap64 (a + 1)) d n.2 j e l g b))))) else (none)) else (if e.length < 2199023255552 then (dH.l0 k h c (wrap64 (i + 1)) d m j (e ++ [(⟨l, g, b⟩ : S56)])) else (none))
end
def dH.f (k : Nat) (cW : List Int) (gW : Int) (fK : List ByteArray) (jJ : List (S56)) : Option (List ByteArray × (List (S56)) × Int) := (oC.f).bind fun a => (dH.l0 k a (([] : List ByteArray)) 0 cW gW fK ([] : List (S56)))
def dH.T7 : Bool × List (List Nat × List Nat) := (true, [([], []), ([], []), ([0, 1], [0, 1]), ([2], [2]), ([], []), ([], []), ([5], [5]), ([4, 6], [4, 6]), ([3, 7], [3, 7]), ([], []), ([9, 8, 7, 0, 1, 2, 3, 4, 5, 6, 7, 8, 9], [8, 9])])
def dH.B7 : List Nat := [0, 0, 3, 7, 0, 0, 32, 112, 255, 0, 1023]
theorem dH.tab7 : rtab .any (opsOf Try.f129 7) = dH.T7 := by kernel_rfl
theorem dH.II : kP dH.T7.2 dH.B7 = true := by kernel_rfl
def dH.T13 : Bool × List (List Nat × List Nat) := (true, [([], []), ([0], [0]), ([], []), ([2], [2]), ([], []), ([3, 4], [3, 4]), ([5], [5]), ([6], [6]), ([1, 7], [1, 7]), ([0, 1, 2, 3, 4, 5, 6, 7, 8], []), ([9, 8, 8, 0, 1, 2, 3, 4, 5, 6, 7, 8], [8, 9])])
def dH.B13 : List Nat := [0, 1, 0, 4, 0, 28, 60, 124, 255, 511, 1023]
theorem dH.WU : rtab .any (opsOf Try.f129 13) = dH.T13 := by kernel_rfl
theorem dH.PU : kP dH.T13.2 dH.B13 = true := by kernel_rfl
theorem dH.calls (k : Nat) (g : Nat) (cW : List Int) (gW : Int) (P1_0_ : Nat → Prop) (u9000_ : Value) (fK : List ByteArray) (wP : Option Addr) (wM : Nat) (jJ : List (S56)) (r1 : List ByteArray) (r2 : List (S56)) (r3 : Int) (w0 w : World) (hI : aD w0 w g cW gW) (hB : Below w0.heap.size w0 w) (a3H : Kd.R Kd.string 9 w w0.heap.size P1_0_ u9000_ fK) (JO : ∀ W_, Kept w W_ (fun k_ => (P1_0_ k_) ∨ k_ = g) → Kd.C k56 W_ wP jJ.length jJ) (LL : jJ.length ≤ wM) (hn_ : wP = none) (hz_ : wM = 0) (h : dH.f k cW gW fK jJ = some (r1, r2, r3)) :
  Calls Try.prog 129 #[.pointer (some ⟨g, 0, none⟩), .agg #[u9000_, .slice wP jJ.length wM]] w fun e w' => ∃ v0_ v1_ : Value, e = .returned (.agg #[v0_, v1_]) ∧ Kd.R Kd.string 9 w' w0.heap.size (fun k_ => (P1_0_ k_ ∨ w.heap.size ≤ k_)) v0_ r1 ∧ Kd.N k56 56 w' w.heap.size (fun k_ => (P1_0_ k_ ∨ w.heap.size ≤ k_) ∧ some k_ ≠ (v0_ : Value).ownBlock) v1_ r2 ∧ aD w0 w' g cW r3 ∧ Below w0.heap.size w0 w' ∧ Kept w w' (fun k_ => (P1_0_ k_) ∨ k_ = g) := by
 have hu31 := Try.underlying31
 have hu56 := Try.underlying56
 have IF := am (show Kd.R Kd.string 9 w w0.heap.size (fun k_ => (P1_0_ k_ ∨ w.heap.size ≤ k_)) u9000_ fK from Kd.aM a3H (fun k_ hk => (.inl hk)))
 subst hn_
 subst hz_
 obtain rfl := Np (JO w (Kept.refl w _))
 clear JO LL
 simp only [List.length_nil]
 have gJ := am hI
 have HL := am hB.size
 clear hI
 have HK := am (Kept.refl w (fun k_ => (P1_0_ k_) ∨ k_ = g))
 have HW0 := am hB.size
 have HB := am hB
 clear hB
 unfold dH.f at h
 have H := h
 clear h
 obtain ⟨eF, A3, H⟩ := bd H
 obtain ⟨a5K, hy106⟩ : ∃ y_ : List ByteArray, y_ = (([] : List ByteArray)) := ⟨_, rfl⟩
 replace H : (dH.l0 k eF a5K 0 cW gW fK ([] : List (S56))) = some (r1, r2, r3) := by first | (rw [hy106]; with_reducible exact H) | (have H2_ := (Option.bind_some _ _).symm.trans H; rw [hy106]; with_reducible exact H2_) | (have H2_ := (Option.bind_some _ _).symm.trans H; with_reducible exact H2_) | with_reducible exact H | (rw [hy106]; exact H) | exact H
 have yx := am hy106
 clear hy106
 have H' := am H
 repeat clear H
 obtain ⟨xY, xZ, eo4⟩ := Kd.bP IF.1
 subst eo4
 go_enter Try.func129, Try.ntmps129
 go_wp2_with (first | ((with_reducible refine gD 3 ?_); refine bX 3 #[.slice xY fK.length xZ, .slice none 0 0] 31 ?_; intro aT hg w5 hbox hb; replace IF := am (Kd.fP (rR IF.1) hb); have a6 := am hbox; have g5 := am (by rw [hg]; exact (by first | exact HK.out.1 | exact (show Kept w _ (fun k_ => (P1_0_ k_) ∨ k_ = g) from by repeat (first | (with_reducible first | exact HK.out | apply Kept.alloc | apply Kept.drewN | apply Kept.drew | refine Kept.setCell ?_ (.inl (.inr rfl)) _) | exact HK.out)).1) : w.heap.size ≤ aT); replace HK := am (Kept.below (S := (fun k_ => (P1_0_ k_) ∨ k_ = g)) (by repeat (first | (with_reducible first | exact HK.out | apply Kept.alloc | apply Kept.drewN | apply Kept.drew | refine Kept.setCell ?_ (.inl (.inr rfl)) _) | exact HK.out)) hb); have iJ := am (by rw [hg]; exact (aG E5) : w0.heap.size ≤ aT); replace HB := bS E5 hb; have l7 := am (by rw [hg]; exact Nat.ne_of_lt (aD.lt (show aD w0 _ g cW gW from oF)) : g ≠ aT); have fJ := am (by rw [hg]; exact Nat.ne_of_gt (aD.lt (show aD w0 _ g cW gW from oF)) : aT ≠ g); replace gJ := am (aD.below oF hb); clear hb hbox hg) | ((with_reducible refine gD 4 ?_); refine bX 4 #[.slice none 0 0, .slice none 0 0] 31 ?_; intro aZ hg w6 hbox hb; replace IF := am (Kd.fP (rR IF.1) hb); have aH := am hbox; have m4 := am (by rw [hg]; exact (by first | exact HK.out.1 | exact (show Kept w _ (fun k_ => (P1_0_ k_) ∨ k_ = g) from by repeat (first | (with_reducible first | exact HK.out | apply Kept.alloc | apply Kept.drewN | apply Kept.drew | refine Kept.setCell ?_ (.inl (.inr rfl)) _ | refine Kept.setCell ?_ (.inr g5.out) _) | exact HK.out)).1) : w.heap.size ≤ aZ); replace HK := am (Kept.below (S := (fun k_ => (P1_0_ k_) ∨ k_ = g)) (by repeat (first | (with_reducible first | exact HK.out | apply Kept.alloc | apply Kept.drewN | apply Kept.drew | refine Kept.setCell ?_ (.inl (.inr rfl)) _ | refine Kept.setCell ?_ (.inr g5.out) _) | exact HK.out)) hb); have nX := am (by rw [hg]; exact (aG ZP) : w0.heap.size ≤ aZ); replace HB := bS ZP hb; have cO := nL aW hg; have cV := nG aW hg; replace a6 := bB aW hb; have mT := am (by rw [hg]; exact Nat.ne_of_lt (aD.lt (show aD w0 _ g cW gW from F8)) : g ≠ aZ); have gX := am (by rw [hg]; exact Nat.ne_of_gt (aD.lt (show aD w0 _ g cW gW from F8)) : aZ ≠ g); replace gJ := am (aD.below F8 hb); clear hb hbox hg) | ((with_reducible refine gC 132 ?_); refine cE (some 10) Try.func132 (oC.calls  eF _ A3.out) ?_; rintro e w7 ⟨FD, rfl, f3, hb⟩; refine ⟨_, rfl, ?_⟩; have mY := am (Kd.d9 (Kd.fA (Kd.jQ (M := fun k_ => (P1_0_ k_ ∨ w.heap.size ≤ k_)) f3 Te (fun k_ h_ => .inr h_)) (Kd.R_lt (rR IF.1))) (aG zP)); replace IF := am (Kd.dS (rR IF.1) (Kd.bZ f3) hb); replace a6 := bB aW hb; replace aH := bB cB hb; replace HK := am (Kept.below (S := (fun k_ => (P1_0_ k_) ∨ k_ = g)) UY hb); replace HB := bS zP hb; replace gJ := am (aD.below sL hb); clear hb f3) | ((with_reducible refine jW (N := 11) rfl ?_); refine lS 9 11 yx ?_; intro aGW w8 ho9 hb; have N9 := am (Kd.d9 (Kd.fA (Kd.fA (Kd.jQ (M := fun k_ => (P1_0_ k_ ∨ w.heap.size ≤ k_)) ho9 Te (fun k_ h_ => .inr h_)) (Kd.R_lt (rR IF.1))) (Kd.R_lt LW)) (aG zP)); replace IF := am (Kd.dS (rR IF.1) (Kd.bZ ho9) hb); replace mY := am (Kd.dS LW (Kd.bZ ho9) hb); replace a6 := bB aW hb; replace aH := bB cB hb; replace HK := am (Kept.below (S := (fun k_ => (P1_0_ k_) ∨ k_ = g)) UY hb); replace HB := bS zP hb; replace gJ := am (aD.below sL hb); clear hb ho9))
 go_loopg [6, 7] k (fun kq v6 v7 w' => ∃ (Gm : List ByteArray) (kW : Int) (nV : Int) (rI : List (S56)) (nT : Value), v7 = .int .i64 kW ∧ aC (dH.l0 kq eF Gm kW cW nV fK rI = some (r1, r2, r3)) ∧ aC (kq ≤ k) ∧ aC (Kd.R Kd.string 9 w' w0.heap.size (fun k_ => (P1_0_ k_ ∨ w.heap.size ≤ k_) ∧ some k_ ≠ (v6 : Value).ownBlock ∧ some k_ ≠ ((.slice xY fK.length xZ) : Value).ownBlock) FD eF) ∧ aC (Kd.R Kd.string 9 w' w0.heap.size (fun k_ => (P1_0_ k_ ∨ w.heap.size ≤ k_) ∧ some k_ ≠ (FD : Value).ownBlock ∧ some k_ ≠ ((.slice xY fK.length xZ) : Value).ownBlock) v6 Gm) ∧ aC (Kd.R Kd.string 9 w' w0.heap.size (fun k_ => (P1_0_ k_ ∨ w.heap.size ≤ k_) ∧ some k_ ≠ (FD : Value).ownBlock ∧ some k_ ≠ (v6 : Value).ownBlock) (.slice xY fK.length xZ) fK) ∧ aC (Kd.N k56 56 w' w.heap.size (fun k_ => (P1_0_ k_ ∨ w.heap.size ≤ k_) ∧ some k_ ≠ (FD : Value).ownBlock ∧ some k_ ≠ (v6 : Value).ownBlock ∧ some k_ ≠ ((.slice xY fK.length xZ) : Value).ownBlock ∧ k_ ≠ aT ∧ k_ ≠ aZ ∧ k_ ≠ g) nT rI) ∧ aC (w'.heap[aT]? = some (.cells #[(.slice xY fK.length xZ), nT] 31 (0, 0))) ∧ aC (w'.heap[aZ]? = some (.cells #[(.slice none 0 0), (.slice none 0 0)] 31 (0, 0))) ∧ aC (aD w0 w' g cW nV) ∧ aC (Kept w w' (fun k_ => (P1_0_ k_) ∨ k_ = g)) ∧ aC (Below w0.heap.size w0 w'))
 case atStart => exact ⟨(a5K), (0), (gW), (([] : List (S56))), (.slice none 0 0), dM, H', ⟨Nat.le_refl _⟩, ⟨by refine rR ?_; exact Kd.aM mY.1 (fun _ hk => ⟨hk.1.1.1, ⟨hk.2, hk.1.2⟩⟩)⟩, ⟨by refine rR ?_; exact Kd.aM N9.1 (fun _ hk => ⟨hk.1.1.1, ⟨hk.2, hk.1.2⟩⟩)⟩, ⟨by refine rR ?_; exact Kd.aM IF.1 (fun _ hk => ⟨hk.1.1, ⟨hk.1.2, hk.2⟩⟩)⟩, ⟨eN⟩, ⟨rB a6.1⟩, ⟨rB aH.1⟩, ⟨sL⟩, ⟨UY⟩, ⟨zP⟩⟩
 clear H'
 obtain ⟨Gm, kW, nV, rI, nT, rfl, HA, HK1, qY, tV, fH, eZ, a6, aH, gJ, HK, HB⟩ := hrel
 cases gk with
 | zero => exact absurd HA.out (by simp [dH.l0])
 | succ k1 =>
  have H := HA.out
  clear HA
  simp only [dH.l0] at H
  refine ic H ?_ ?_ <;> clear H <;> intro NL H
  ·obtain ⟨⟨yT, xJ⟩, A11, H⟩ := bd H
   dsimp only at H
   refine iq H ?_ ?_ <;> clear H <;> intro c12 QX Qo H
   ·have H' := am H
    repeat clear H
    obtain ⟨Ko, Lh, ny⟩ := Kd.bP qY.1
    subst ny
    go_wp2_with (first | ((with_reducible refine gC 100 ?_); refine cQ (some 19) Try.func100 (bN.calls k1 g cW nV 4 yT xJ w0 _ (sL) (zP) A11.out) ?_; rintro vx ⟨hi, hb, hk⟩; replace qY := iR sL DK hk; replace tV := iR sL EK hk; replace fH := iR sL DJ hk; replace eZ := am (Kd.aJ (Kd.CF (Kd.aJ (ok := fun k_ => (((P1_0_ k_ ∨ w.heap.size ≤ k_)) ∧ (some k_ ≠ (.slice Ko eF.length Lh : Value).ownBlock ∧ (some k_ ≠ (u6 : Value).ownBlock ∧ (some k_ ≠ (.slice xY fK.length xZ : Value).ownBlock ∧ (k_ ≠ aT ∧ (k_ ≠ aZ ∧ k_ ≠ g))))))) IK (fun k_ hk_ => (⟨hk_, hk_.2.2.2.2.2.2⟩ : _ ∧ k_ ≠ g))) hk (fun _ h => h.2)) (fun _ h => h.1)); replace a6 := kb aW hk fJ; replace aH := kb cB hk gX; replace HK := am (Kept.KX (S := (fun k_ => (P1_0_ k_) ∨ k_ = g)) UY hk (.inl (.inr rfl))); replace HB := am hb; replace gJ := am hi; clear hb hk hi))
    go_roundg k1
    case measure => have := HK1.out; omega
    case rel => exact ⟨(Gm), (wrap64 (kW + 1)), (xJ), (rI), (nT), dM, H', ⟨by have := HK1.out; omega⟩, ⟨rR qY.1⟩, ⟨rR tV.1⟩, ⟨rR fH.1⟩, ⟨rN eZ.1⟩, ⟨rB a6.1⟩, ⟨rB aH.1⟩, ⟨sL⟩, ⟨UY⟩, ⟨zP⟩⟩
   ·obtain ⟨WE, H⟩ := cN H
    obtain ⟨⟨iI, m0⟩, Kn, H⟩ := bd H
    dsimp only at H
    have H' := am H
    repeat clear H
    obtain ⟨UM, lA, Rn⟩ := Kd.bP qY.1
    subst Rn
    try go_wp2_with (first | ((with_reducible refine gC 100 ?_); refine cQ (some 19) Try.func100 (bN.calls k1 g cW nV 4 yT xJ w0 _ (sL) (zP) A11.out) ?_; rintro w18 ⟨hi, hb, hk⟩; replace qY := iR sL DK hk; replace tV := iR sL EK hk; replace fH := iR sL DJ hk; replace eZ := am (Kd.aJ (Kd.CF (Kd.aJ (ok := fun k_ => (((P1_0_ k_ ∨ w.heap.size ≤ k_)) ∧ (some k_ ≠ (.slice UM eF.length lA : Value).ownBlock ∧ (some k_ ≠ (u6 : Value).ownBlock ∧ (some k_ ≠ (.slice xY fK.length xZ : Value).ownBlock ∧ (k_ ≠ aT ∧ (k_ ≠ aZ ∧ k_ ≠ g))))))) IK (fun k_ hk_ => (⟨hk_, hk_.2.2.2.2.2.2⟩ : _ ∧ k_ ≠ g))) hk (fun _ h => h.2)) (fun _ h => h.1)); replace a6 := kb aW hk fJ; replace aH := kb cB hk gX; replace HK := am (Kept.KX (S := (fun k_ => (P1_0_ k_) ∨ k_ = g)) UY hk (.inl (.inr rfl))); replace HB := am hb; replace gJ := am hi; clear hb hk hi))
    replace qY := RD qY
    replace tV := RD tV
    replace fH := RD fH
    replace eZ := ND eZ
    replace a6 := BD a6
    replace aH := BD aH
    replace gJ := am (aD.drew gJ.out)
    replace HK := am (Kept.drew HK.out)
    replace HB := am (aV HB.1)
    obtain ⟨kL, Rd, HU, sa, sk⟩ := aS (am (Kd.aU qY.1).2.2) b0 kW
    cases Rd
    refine sT (S := fun w' => w'.cell? ⟨aT, 0, none⟩ = some (.slice xY fK.length xZ) ∧ w'.cell? ⟨aT, 1, none⟩ = some (nT) ∧ w'.cell? (kL.add (kW).toNat) = some (.string (rdOf ByteArray.empty eF kW))) [] 11 ⟨⟨(bC a6.1 0).trans rfl, (bC a6.1 1).trans rfl, HU⟩⟩ (fun hHeld => ?_)
    refine eO dH.tab7 dH.II (fun HT_ HW_ => ?_)
    generalize w18.drew = w19 at qY tV fH eZ a6 aH gJ HK HB HU hHeld ⊢
    refine pU5 0 1 2 4 5 ?_
    refine tK3 3 (some 24) ?_
    refine tK3 6 (some 27) ?_
    refine Sd (σ := Value × Nat) 1 (bz 11 1023) (fun s_ => [(28, s_.1), (8, .pointer (some ⟨s_.2, 0, none⟩)), (29, .agg #[.string (rdOf ByteArray.empty eF kW), .slice none 0 0, s_.1])]) (fun s_ w' => (w'.cell? ⟨aT, 0, none⟩ = some (.slice xY fK.length xZ) ∧ w'.cell? ⟨aT, 1, none⟩ = some (nT) ∧ w'.cell? (kL.add (kW).toNat) = some (.string (rdOf ByteArray.empty eF kW))) ∧ (Kd.R Kd.string 9 w' w0.heap.size (fun k_ => (P1_0_ k_ ∨ w.heap.size ≤ k_) ∧ some k_ ≠ (.slice xY fK.length xZ : Value).ownBlock ∧ some k_ ≠ (.slice (some kL) eF.length lA : Value).ownBlock ∧ some k_ ≠ (u6 : Value).ownBlock) s_.1 iI) ∧ (Kd.R Kd.string 9 w' w0.heap.size (fun k_ => (P1_0_ k_ ∨ w.heap.size ≤ k_) ∧ some k_ ≠ (s_.1 : Value).ownBlock ∧ some k_ ≠ (.slice (some kL) eF.length lA : Value).ownBlock ∧ some k_ ≠ (u6 : Value).ownBlock) (.slice xY fK.length xZ) fK) ∧ (Kd.N k56 56 w' w.heap.size (fun k_ => (P1_0_ k_ ∨ w.heap.size ≤ k_) ∧ some k_ ≠ (s_.1 : Value).ownBlock ∧ some k_ ≠ (.slice xY fK.length xZ : Value).ownBlock ∧ some k_ ≠ (.slice (some kL) eF.length lA : Value).ownBlock ∧ some k_ ≠ (u6 : Value).ownBlock ∧ k_ ≠ g ∧ k_ ≠ aT ∧ k_ ≠ aZ ∧ k_ ≠ s_.2) nT rI) ∧ (Kd.R Kd.string 9 w' w0.heap.size (fun k_ => (P1_0_ k_ ∨ w.heap.size ≤ k_) ∧ some k_ ≠ (s_.1 : Value).ownBlock ∧ some k_ ≠ (.slice xY fK.length xZ : Value).ownBlock ∧ some k_ ≠ (u6 : Value).ownBlock) (.slice (some kL) eF.length lA) eF) ∧ (Kd.R Kd.string 9 w' w0.heap.size (fun k_ => (P1_0_ k_ ∨ w.heap.size ≤ k_) ∧ some k_ ≠ (s_.1 : Value).ownBlock ∧ some k_ ≠ (.slice xY fK.length xZ : Value).ownBlock ∧ some k_ ≠ (.slice (some kL) eF.length lA : Value).ownBlock) u6 Gm) ∧ (w'.heap[aT]? = some (.cells #[.slice xY fK.length xZ, nT] 31 (0, 0))) ∧ (w'.heap[aZ]? = some (.cells #[.slice none 0 0, .slice none 0 0] 31 (0, 0))) ∧ (w'.heap[s_.2]? = some (.cells #[.string (⟨#[]⟩ : ByteArray), .slice none 0 0, .slice none 0 0] 56 (0, 0))) ∧ (w.heap.size ≤ s_.2) ∧ (w0.heap.size ≤ s_.2) ∧ (g ≠ s_.2) ∧ (s_.2 ≠ g) ∧ (aT ≠ s_.2) ∧ (s_.2 ≠ aT) ∧ (aZ ≠ s_.2) ∧ (s_.2 ≠ aZ) ∧ (aD w0 w' g cW m0) ∧ (Kept w w' (fun k_ => (P1_0_ k_) ∨ k_ = g)) ∧ (Below w0.heap.size w0 w')) ?_ ?_
    rotate_left
    ·intro hCont
     refine two_ (i := 7) (j := 9) (Ni := some 28) (Nj := some 8) (bz 11 255) (bz 11 639) rfl rfl rfl rfl (UH HT_.out (by kernel_rfl)) (by decide) (by decide) (fun K hK => ?_) (fun K hK => ?_)
     ·skip
      refine NS Try.func109 (by kernel_rfl) rfl #[.pointer (some ⟨g, 0, none⟩), .slice xY fK.length xZ, .int .i64 2] (by rfl) rfl rfl xV ?_
      with_reducible refine (fO.calls k1 g cW xJ _ _ fK 2 iI m0 w0 _ ?side1 ?side2 ?side3 ?side4 ?side5 Kn.out).mono ?_
      (case side1 => exact sL)
      (case side2 => exact zP)
      (case side3 => exact pC (Kd.aU fH.1).2.2)
      (case side4 => exact (Kd.aU fH.1).2.1)
      (case side5 => exact mM (aD.own_ne gJ.out fH.1 (by decide)))
      rintro e Mu ⟨IA, rfl, f3, hi, hb, hk⟩
      have HS2_ := kC hk (hHeld.2.2) (by first | (rw [add_block]; exact Kd.qX (aD.own_ne gJ.out qY.1 (by decide))) | (show (Addr.add _ _).block ≠ _; rw [add_block]; exact Kd.qX (aD.own_ne gJ.out qY.1 (by decide))) | exact Kd.qX (aD.own_ne gJ.out qY.1 (by decide)))
      refine ⟨_, rfl, ?_⟩
      replace eZ := am (Kd.aJ (Kd.iP (Kd.PS (Kd.aJ (ok := fun k_ => (((P1_0_ k_ ∨ w.heap.size ≤ k_)) ∧ (some k_ ≠ (.slice (some kL) eF.length lA : Value).ownBlock ∧ (some k_ ≠ (u6 : Value).ownBlock ∧ (some k_ ≠ (.slice xY fK.length xZ : Value).ownBlock ∧ (k_ ≠ aT ∧ (k_ ≠ aZ ∧ k_ ≠ g))))))) IK (fun k_ hk_ => (⟨hk_, hk_.2.2.2.2.2.2⟩ : _ ∧ k_ ≠ g))) hk) (Kd.bZ f3)) (fun _ h_ => h_.1))
      replace a6 := kb aW hk fJ
      replace aH := kb cB hk gX
      have iM := am (Kd.d9 (Kd.fA (Kd.fA (Kd.fA (Kd.jQ (M := fun k_ => (P1_0_ k_ ∨ w.heap.size ≤ k_)) f3 Te (fun k_ h_ => .inr h_)) (Kd.R_lt DK)) (Kd.R_lt EK)) (Kd.R_lt DJ)) (aG zP))
      replace qY := am (Kd.aM (Kd.CL (Kd.CK (aD.apart (show aD w0 _ g cW xJ from sL) DK (by decide)) hk) (Kd.bZ f3)) (fun _ h_ => h_.1))
      replace tV := am (Kd.aM (Kd.CL (Kd.CK (aD.apart (show aD w0 _ g cW xJ from sL) EK (by decide)) hk) (Kd.bZ f3)) (fun _ h_ => h_.1))
      replace fH := am (Kd.aM (Kd.CL (Kd.CK (aD.apart (show aD w0 _ g cW xJ from sL) DJ (by decide)) hk) (Kd.bZ f3)) (fun _ h_ => h_.1))
      replace HK := am (Kept.KX (S := (fun k_ => (P1_0_ k_) ∨ k_ = g)) UY hk (.inl (.inr rfl)))
      replace HB := am hb
      replace gJ := am hi
      clear hb hk hi f3
      obtain ⟨M6, IQ, Ln⟩ := Kd.bP iM.1
      (first | subst Ln | (obtain ⟨f4_, f5_⟩ := sj Ln; subst f4_; subst f5_))
      refine hK.out _ _ ⟨(bC a6.1 0).trans rfl, (bC a6.1 1).trans rfl, HS2_⟩ (fun hHeld => ?_)
      clear hK K
      refine nM ?_
      refine pU1 8 ?_
      refine oN 9 (some 8) fun K hK => ?_
      refine Az ?hg (N := 8) ?hd (cs := #[.string (⟨#[]⟩ : ByteArray), .slice none 0 0, .slice none 0 0]) (t := 56) ?hr ?_; (case hd => rfl); (case hg => rfl); (case hr => first | (go_simp; done) | (go_simp; rfl))
      intro jB hg Ux hbox hb
      have HS2_ := (hb.cell (World.block_lt_of_cell? _ _ (hHeld.2.2))).trans (hHeld.2.2)
      replace qY := RB DK hb
      replace tV := RB EK hb
      replace fH := RB DJ hb
      replace eZ := am (Kd.dQ (Kd.iO IK jB (Nat.le_of_eq hg.symm)) hb)
      replace iM := RB LX hb
      have jE := am hbox
      have VH := am (by rw [hg]; exact Te : w.heap.size ≤ jB)
      replace HK := am (Kept.below (S := (fun k_ => (P1_0_ k_) ∨ k_ = g)) UY hb)
      have Am := am (by rw [hg]; exact (aG zP) : w0.heap.size ≤ jB)
      replace HB := bS zP hb
      have kR := nL aW hg
      have rE := nG aW hg
      replace a6 := bB aW hb
      have oJ := nL cB hg
      have rF := nG cB hg
      replace aH := bB cB hb
      have BQ := am (by rw [hg]; exact Nat.ne_of_lt (aD.lt (show aD w0 _ g cW m0 from sL)) : g ≠ jB)
      have yC := am (by rw [hg]; exact Nat.ne_of_gt (aD.lt (show aD w0 _ g cW m0 from sL)) : jB ≠ g)
      replace gJ := am (aD.below sL hb)
      clear hb hbox hg
      refine hK.out _ _ ⟨(bC a6.1 0).trans rfl, (bC a6.1 1).trans rfl, HS2_⟩ (fun hHeld => ?_)
      clear hK K
      refine nM ?_
      exact G7 RI (hCont (.slice M6 iI.length IQ, jB) _ ⟨hHeld, (by refine rR ?_; exact Kd.aM iM.1 (fun _ hk => ⟨hk.1.1.1.1, ⟨hk.2, ⟨hk.1.1.2, hk.1.2⟩⟩⟩)), (by refine rR ?_; exact Kd.aM fH.1 (fun _ hk => ⟨hk.1.1, ⟨hk.2, ⟨hk.1.2.1, hk.1.2.2⟩⟩⟩)), (by refine rN ?_; exact Kd.aJ eZ.1 (fun _ hk => ⟨hk.1.1.1, ⟨hk.1.2, ⟨hk.1.1.2.2.2.1, ⟨hk.1.1.2.1, ⟨hk.1.1.2.2.1, ⟨hk.1.1.2.2.2.2.2.2, ⟨hk.1.1.2.2.2.2.1, ⟨hk.1.1.2.2.2.2.2.1, hk.2⟩⟩⟩⟩⟩⟩⟩⟩)), (by refine rR ?_; exact Kd.aM qY.1 (fun _ hk => ⟨hk.1.1, ⟨hk.2, ⟨hk.1.2.2, hk.1.2.1⟩⟩⟩)), (by refine rR ?_; exact Kd.aM tV.1 (fun _ hk => ⟨hk.1.1, ⟨hk.2, ⟨hk.1.2.2, hk.1.2.1⟩⟩⟩)), aW, cB, LT, VH.out, Am.1, BQ.1, yC.1, kR.1, rE.1, oJ.1, rF.1, yS, P3, JR⟩)
     ·skip
      refine Az ?hg (N := 8) ?hd (cs := #[.string (⟨#[]⟩ : ByteArray), .slice none 0 0, .slice none 0 0]) (t := 56) ?hr ?_; (case hd => rfl); (case hg => rfl); (case hr => first | (go_simp; done) | (go_simp; rfl))
      intro jB hg Mu hbox hb
      have HS2_ := (hb.cell (World.block_lt_of_cell? _ _ (hHeld.2.2))).trans (hHeld.2.2)
      replace qY := RB DK hb
      replace tV := RB EK hb
      replace fH := RB DJ hb
      replace eZ := am (Kd.dQ (Kd.iO IK jB (Nat.le_of_eq hg.symm)) hb)
      have jE := am hbox
      have VH := am (by rw [hg]; exact Te : w.heap.size ≤ jB)
      replace HK := am (Kept.below (S := (fun k_ => (P1_0_ k_) ∨ k_ = g)) UY hb)
      have Am := am (by rw [hg]; exact (aG zP) : w0.heap.size ≤ jB)
      replace HB := bS zP hb
      have kR := nL aW hg
      have rE := nG aW hg
      replace a6 := bB aW hb
      have oJ := nL cB hg
      have rF := nG cB hg
      replace aH := bB cB hb
      have BQ := am (by rw [hg]; exact Nat.ne_of_lt (aD.lt (show aD w0 _ g cW xJ from sL)) : g ≠ jB)
      have yC := am (by rw [hg]; exact Nat.ne_of_gt (aD.lt (show aD w0 _ g cW xJ from sL)) : jB ≠ g)
      replace gJ := am (aD.below sL hb)
      clear hb hbox hg
      refine hK.out _ _ ⟨(bC a6.1 0).trans rfl, (bC a6.1 1).trans rfl, HS2_⟩ (fun hHeld => ?_)
      clear hK K
      refine nM ?_
      refine oN 7 (some 28) fun K hK => ?_
      refine NS Try.func109 (by kernel_rfl) rfl #[.pointer (some ⟨g, 0, none⟩), .slice xY fK.length xZ, .int .i64 2] (by rfl) rfl rfl xV ?_
      with_reducible refine (fO.calls k1 g cW xJ _ _ fK 2 iI m0 w0 _ ?side1 ?side2 ?side3 ?side4 ?side5 Kn.out).mono ?_
      (case side1 => exact yS)
      (case side2 => exact JR)
      (case side3 => exact pC (Kd.aU fH.1).2.2)
      (case side4 => exact (Kd.aU fH.1).2.1)
      (case side5 => exact mM (aD.own_ne gJ.out fH.1 (by decide)))
      rintro e Uw ⟨IA, rfl, f3, hi, hb, hk⟩
      have HS2_ := kC hk (hHeld.2.2) (by first | (rw [add_block]; exact Kd.qX (aD.own_ne gJ.out qY.1 (by decide))) | (show (Addr.add _ _).block ≠ _; rw [add_block]; exact Kd.qX (aD.own_ne gJ.out qY.1 (by decide))) | exact Kd.qX (aD.own_ne gJ.out qY.1 (by decide)))
      refine ⟨_, rfl, ?_⟩
      replace eZ := am (Kd.aJ (Kd.iP (Kd.PS (Kd.aJ (ok := fun k_ => ((((P1_0_ k_ ∨ w.heap.size ≤ k_)) ∧ (some k_ ≠ (.slice (some kL) eF.length lA : Value).ownBlock ∧ (some k_ ≠ (u6 : Value).ownBlock ∧ (some k_ ≠ (.slice xY fK.length xZ : Value).ownBlock ∧ (k_ ≠ aT ∧ (k_ ≠ aZ ∧ k_ ≠ g)))))) ∧ k_ ≠ jB)) IK (fun k_ hk_ => (⟨hk_, hk_.1.2.2.2.2.2.2⟩ : _ ∧ k_ ≠ g))) hk) (Kd.bZ f3)) (fun _ h_ => h_.1))
      replace a6 := kb aW hk fJ
      replace aH := kb cB hk gX
      replace jE := kb LT hk yC
      have iM := am (Kd.d9 (Kd.fA (Kd.fA (Kd.fA (Kd.jQ (M := fun k_ => (P1_0_ k_ ∨ w.heap.size ≤ k_)) f3 pY9 (fun k_ h_ => .inr h_)) (Kd.R_lt DK)) (Kd.R_lt EK)) (Kd.R_lt DJ)) (aG JR))
      replace qY := am (Kd.aM (Kd.CL (Kd.CK (aD.apart (show aD w0 _ g cW xJ from yS) DK (by decide)) hk) (Kd.bZ f3)) (fun _ h_ => h_.1))
      replace tV := am (Kd.aM (Kd.CL (Kd.CK (aD.apart (show aD w0 _ g cW xJ from yS) EK (by decide)) hk) (Kd.bZ f3)) (fun _ h_ => h_.1))
      replace fH := am (Kd.aM (Kd.CL (Kd.CK (aD.apart (show aD w0 _ g cW xJ from yS) DJ (by decide)) hk) (Kd.bZ f3)) (fun _ h_ => h_.1))
      replace HK := am (Kept.KX (S := (fun k_ => (P1_0_ k_) ∨ k_ = g)) P3 hk (.inl (.inr rfl)))
      replace HB := am hb
      replace gJ := am hi
      clear hb hk hi f3
      obtain ⟨wo, a14, Xe⟩ := Kd.bP iM.1
      (first | subst Xe | (obtain ⟨f4_, f5_⟩ := sj Xe; subst f4_; subst f5_))
      refine hK.out _ _ ⟨(bC a6.1 0).trans rfl, (bC a6.1 1).trans rfl, HS2_⟩ (fun hHeld => ?_)
      clear hK K
      refine nM ?_
      refine pU1 8 ?_
      exact G7 RI (hCont (.slice wo iI.length a14, jB) _ ⟨hHeld, (by refine rR ?_; exact Kd.aM iM.1 (fun _ hk => ⟨hk.1.1.1.1, ⟨hk.2, ⟨hk.1.1.2, hk.1.2⟩⟩⟩)), (by refine rR ?_; exact Kd.aM fH.1 (fun _ hk => ⟨hk.1.1, ⟨hk.2, ⟨hk.1.2.1, hk.1.2.2⟩⟩⟩)), (by refine rN ?_; exact Kd.aJ eZ.1 (fun _ hk => ⟨hk.1.1.1, ⟨hk.2, ⟨hk.1.1.2.2.2.1, ⟨hk.1.1.2.1, ⟨hk.1.1.2.2.1, ⟨hk.1.1.2.2.2.2.2.2, ⟨hk.1.1.2.2.2.2.1, ⟨hk.1.1.2.2.2.2.2.1, hk.1.2⟩⟩⟩⟩⟩⟩⟩⟩)), (by refine rR ?_; exact Kd.aM qY.1 (fun _ hk => ⟨hk.1.1, ⟨hk.2, ⟨hk.1.2.2, hk.1.2.1⟩⟩⟩)), (by refine rR ?_; exact Kd.aM tV.1 (fun _ hk => ⟨hk.1.1, ⟨hk.2, ⟨hk.1.2.2, hk.1.2.1⟩⟩⟩)), aW, cB, LT, VH.out, Am.1, BQ.1, yC.1, kR.1, rE.1, oJ.1, rF.1, yS, P3, JR⟩)
    rintro ⟨IA, jB⟩ VA ⟨hS_, h0_, h1_, h2_, h3_, h4_, h5_, h6_, h7_, h8_, h9_, h10_, h11_, h12_, h13_, h14_, h15_, h16_, h17_, h18_⟩
    have iM : aC (Kd.R Kd.string 9 VA w0.heap.size (fun k_ => (P1_0_ k_ ∨ w.heap.size ≤ k_) ∧ some k_ ≠ (.slice xY fK.length xZ : Value).ownBlock ∧ some k_ ≠ (.slice (some kL) eF.length lA : Value).ownBlock ∧ some k_ ≠ (u6 : Value).ownBlock) IA iI) := ⟨h0_⟩
    replace fH : aC (Kd.R Kd.string 9 VA w0.heap.size (fun k_ => (P1_0_ k_ ∨ w.heap.size ≤ k_) ∧ some k_ ≠ (IA : Value).ownBlock ∧ some k_ ≠ (.slice (some kL) eF.length lA : Value).ownBlock ∧ some k_ ≠ (u6 : Value).ownBlock) (.slice xY fK.length xZ) fK) := ⟨h1_⟩
    replace eZ : aC (Kd.N k56 56 VA w.heap.size (fun k_ => (P1_0_ k_ ∨ w.heap.size ≤ k_) ∧ some k_ ≠ (IA : Value).ownBlock ∧ some k_ ≠ (.slice xY fK.length xZ : Value).ownBlock ∧ some k_ ≠ (.slice (some kL) eF.length lA : Value).ownBlock ∧ some k_ ≠ (u6 : Value).ownBlock ∧ k_ ≠ g ∧ k_ ≠ aT ∧ k_ ≠ aZ ∧ k_ ≠ jB) nT rI) := ⟨h2_⟩
    replace qY : aC (Kd.R Kd.string 9 VA w0.heap.size (fun k_ => (P1_0_ k_ ∨ w.heap.size ≤ k_) ∧ some k_ ≠ (IA : Value).ownBlock ∧ some k_ ≠ (.slice xY fK.length xZ : Value).ownBlock ∧ some k_ ≠ (u6 : Value).ownBlock) (.slice (some kL) eF.length lA) eF) := ⟨h3_⟩
    replace tV : aC (Kd.R Kd.string 9 VA w0.heap.size (fun k_ => (P1_0_ k_ ∨ w.heap.size ≤ k_) ∧ some k_ ≠ (IA : Value).ownBlock ∧ some k_ ≠ (.slice xY fK.length xZ : Value).ownBlock ∧ some k_ ≠ (.slice (some kL) eF.length lA : Value).ownBlock) u6 Gm) := ⟨h4_⟩
    replace a6 : aC (VA.heap[aT]? = some (.cells #[.slice xY fK.length xZ, nT] 31 (0, 0))) := ⟨h5_⟩
    replace aH : aC (VA.heap[aZ]? = some (.cells #[.slice none 0 0, .slice none 0 0] 31 (0, 0))) := ⟨h6_⟩
    have jE : aC (VA.heap[jB]? = some (.cells #[.string (⟨#[]⟩ : ByteArray), .slice none 0 0, .slice none 0 0] 56 (0, 0))) := ⟨h7_⟩
    have VH : aC (w.heap.size ≤ jB) := ⟨h8_⟩
    have Am : aC (w0.heap.size ≤ jB) := ⟨h9_⟩
    have BQ : aC (g ≠ jB) := ⟨h10_⟩
    have yC : aC (jB ≠ g) := ⟨h11_⟩
    have kR : aC (aT ≠ jB) := ⟨h12_⟩
    have rE : aC (jB ≠ aT) := ⟨h13_⟩
    have oJ : aC (aZ ≠ jB) := ⟨h14_⟩
    have rF : aC (jB ≠ aZ) := ⟨h15_⟩
    replace gJ : aC (aD w0 VA g cW m0) := ⟨h16_⟩
    replace HK : aC (Kept w VA (fun k_ => (P1_0_ k_) ∨ k_ = g)) := ⟨h17_⟩
    replace HB : aC (Below w0.heap.size w0 VA) := ⟨h18_⟩
    clear h0_ h1_ h2_ h3_ h4_ h5_ h6_ h7_ h8_ h9_ h10_ h11_ h12_ h13_ h14_ h15_ h16_ h17_ h18_
    have hHeld : VA.cell? ⟨aT, 0, none⟩ = some (.slice xY fK.length xZ) ∧ VA.cell? ⟨aT, 1, none⟩ = some (nT) ∧ VA.cell? (kL.add (kW).toNat) = some (.string (rdOf ByteArray.empty eF kW)) := hS_
    obtain ⟨M7, uY, Br⟩ := Kd.bP iM.1
    (first | subst Br | (obtain ⟨f4_, f5_⟩ := sj Br; subst f4_; subst f5_))
    refine G7 (a' := ?_) ?_ ?_
    rotate_left
    ·simp only [MS, Act.put, List.setIfInBounds_toArray, List.set_cons_zero, List.set_cons_succ]
     rfl
    refine oN 10 none fun K hK => ?_
    have aUS : VA.cell? ⟨jB, 0, none⟩ = some (.string (⟨#[]⟩ : ByteArray)) := (bC jE.1 0).trans rfl
    have aMM := eB jE.1 0
    have aAI := kR.1
    have aAJ := oJ.1
    have a90 := rE.1
    have a92 := rF.1
    have aUT : VA.cell? ⟨jB, 1, none⟩ = some (.slice none 0 0) := (bC jE.1 1).trans rfl
    have aMN := eB jE.1 1
    have aAK := kR.1
    have aAL := oJ.1
    have a94 := rE.1
    have a95 := rF.1
    have aUU : VA.cell? ⟨jB, 2, none⟩ = some (.slice none 0 0) := (bC jE.1 2).trans rfl
    have aMO := eB jE.1 2
    have aAM := kR.1
    have aAN := oJ.1
    have a96 := rE.1
    have a97 := rF.1
    refine uX (w1 := ?_) (by rfl) rfl ?_ ?_
    rotate_left
    ·go_simp
     rfl
    refine hK.out _ _ ⟨((cell_far (p := ⟨jB, _, none⟩) kR.1 _).trans (((cell_far (p := ⟨jB, _, none⟩) kR.1 _).trans (((cell_far (p := ⟨jB, _, none⟩) kR.1 _).trans (hHeld.1)))))), ((cell_far (p := ⟨jB, _, none⟩) kR.1 _).trans (((cell_far (p := ⟨jB, _, none⟩) kR.1 _).trans (((cell_far (p := ⟨jB, _, none⟩) kR.1 _).trans (hHeld.2.1)))))), ((cell_far (p := ⟨jB, _, none⟩) sf _).trans (((cell_far (p := ⟨jB, _, none⟩) sf _).trans (((cell_far (p := ⟨jB, _, none⟩) sf _).trans (hHeld.2.2))))))⟩ (fun hHeld => ?_)
    clear hK K
    refine dN ?_
    try go_wp2
    go_loopg [6, 9] k1 (fun kq v6 v9 w' => ∃ (FE : List ByteArray) (jX : Int) (ER : Int) (qG : List ByteArray) (kX : Value), v9 = .int .i64 jX ∧ aC (dH.l1 kq eF FE kW jX cW ER fK rI (rdOf ByteArray.empty eF kW) qG iI = some (r1, r2, r3)) ∧ aC (kq ≤ k1) ∧ aC (Kd.R Kd.string 9 w' w0.heap.size (fun k_ => (P1_0_ k_ ∨ w.heap.size ≤ k_) ∧ some k_ ≠ (v6 : Value).ownBlock ∧ some k_ ≠ ((.slice xY fK.length xZ) : Value).ownBlock ∧ some k_ ≠ (kX : Value).ownBlock ∧ some k_ ≠ ((.slice M7 iI.length uY) : Value).ownBlock) (.slice (some kL) eF.length lA) eF) ∧ aC (Kd.R Kd.string 9 w' w0.heap.size (fun k_ => (P1_0_ k_ ∨ w.heap.size ≤ k_) ∧ some k_ ≠ ((.slice (some kL) eF.length lA) : Value).ownBlock ∧ some k_ ≠ ((.slice xY fK.length xZ) : Value).ownBlock ∧ some k_ ≠ (kX : Value).ownBlock ∧ some k_ ≠ ((.slice M7 iI.length uY) : Value).ownBlock) v6 FE) ∧ aC (Kd.R Kd.string 9 w' w0.heap.size (fun k_ => (P1_0_ k_ ∨ w.heap.size ≤ k_) ∧ some k_ ≠ ((.slice (some kL) eF.length lA) : Value).ownBlock ∧ some k_ ≠ (v6 : Value).ownBlock ∧ some k_ ≠ (kX : Value).ownBlock ∧ some k_ ≠ ((.slice M7 iI.length uY) : Value).ownBlock) (.slice xY fK.length xZ) fK) ∧ aC (Kd.N k56 56 w' w.heap.size (fun k_ => (P1_0_ k_ ∨ w.heap.size ≤ k_) ∧ some k_ ≠ ((.slice (some kL) eF.length lA) : Value).ownBlock ∧ some k_ ≠ (v6 : Value).ownBlock ∧ some k_ ≠ ((.slice xY fK.length xZ) : Value).ownBlock ∧ some k_ ≠ (kX : Value).ownBlock ∧ some k_ ≠ ((.slice M7 iI.length uY) : Value).ownBlock ∧ k_ ≠ aT ∧ k_ ≠ aZ ∧ k_ ≠ jB ∧ k_ ≠ g) nT rI) ∧ aC (Kd.R Kd.string 9 w' w0.heap.size (fun k_ => (P1_0_ k_ ∨ w.heap.size ≤ k_) ∧ some k_ ≠ ((.slice (some kL) eF.length lA) : Value).ownBlock ∧ some k_ ≠ (v6 : Value).ownBlock ∧ some k_ ≠ ((.slice xY fK.length xZ) : Value).ownBlock ∧ some k_ ≠ ((.slice M7 iI.length uY) : Value).ownBlock) kX qG) ∧ aC (Kd.R Kd.string 9 w' w0.heap.size (fun k_ => (P1_0_ k_ ∨ w.heap.size ≤ k_) ∧ some k_ ≠ ((.slice (some kL) eF.length lA) : Value).ownBlock ∧ some k_ ≠ (v6 : Value).ownBlock ∧ some k_ ≠ ((.slice xY fK.length xZ) : Value).ownBlock ∧ some k_ ≠ (kX : Value).ownBlock) (.slice M7 iI.length uY) iI) ∧ aC (w'.heap[aT]? = some (.cells #[(.slice xY fK.length xZ), nT] 31 (0, 0))) ∧ aC (w'.heap[aZ]? = some (.cells #[(.slice none 0 0), (.slice none 0 0)] 31 (0, 0))) ∧ aC (w'.heap[jB]? = some (.cells #[.string (rdOf ByteArray.empty eF kW), kX, (.slice M7 iI.length uY)] 56 (0, 0))) ∧ aC (aD w0 w' g cW ER) ∧ aC (Kept w w' (fun k_ => (P1_0_ k_) ∨ k_ = g)) ∧ aC (Below w0.heap.size w0 w'))
    case atStart => exact ⟨(Gm), (0), (m0), (([] : List ByteArray)), (.slice none 0 0), dM, H', ⟨Nat.le_refl _⟩, ⟨by refine rR ?_; exact Kd.aM (fR (fR (fR (tR qY jE)))) (fun _ hk => ⟨hk.1.1, ⟨hk.1.2.2.2, ⟨hk.1.2.2.1, ⟨(by simp [Value.ownBlock]), hk.1.2.1⟩⟩⟩⟩)⟩, ⟨by refine rR ?_; exact Kd.aM (fR (fR (fR (tR tV jE)))) (fun _ hk => ⟨hk.1.1, ⟨hk.1.2.2.2, ⟨hk.1.2.2.1, ⟨(by simp [Value.ownBlock]), hk.1.2.1⟩⟩⟩⟩)⟩, ⟨by refine rR ?_; exact Kd.aM (fR (fR (fR (tR fH jE)))) (fun _ hk => ⟨hk.1.1, ⟨hk.1.2.2.1, ⟨hk.1.2.2.2, ⟨(by simp [Value.ownBlock]), hk.1.2.1⟩⟩⟩⟩)⟩, ⟨by refine rN ?_; exact Kd.aJ (fN (fN (fN (Kd.aJ eZ.1 (fun k_ hk => (⟨hk, hk.2.2.2.2.2.2.2.2⟩ : _ ∧ k_ ≠ jB)))))) (fun _ hk => ⟨hk.1.1, ⟨hk.1.2.2.2.1, ⟨hk.1.2.2.2.2.1, ⟨hk.1.2.2.1, ⟨(by simp [Value.ownBlock]), ⟨hk.1.2.1, ⟨hk.1.2.2.2.2.2.2.1, ⟨hk.1.2.2.2.2.2.2.2.1, ⟨hk.1.2.2.2.2.2.2.2.2, hk.1.2.2.2.2.2.1⟩⟩⟩⟩⟩⟩⟩⟩⟩)⟩, ⟨by first | exact Kd.uE _ _ _ _ _ | exact Kd.CG _ _ _ _ _ | exact Kd.CO _ _ _ _ _ | exact Kd.CJ _ _ _ _ _ | exact Kd.yU _ _ _ _ _⟩, ⟨by refine rR ?_; exact Kd.aM (fR (fR (fR (tR iM jE)))) (fun _ hk => ⟨hk.1.1, ⟨hk.1.2.2.1, ⟨hk.1.2.2.2, ⟨hk.1.2.1, (by simp [Value.ownBlock])⟩⟩⟩⟩)⟩, ⟨qF a6 kR⟩, ⟨qF aH oJ⟩, ⟨by refine rB ?_; refine bR (cs := #[.string (rdOf ByteArray.empty eF kW), .slice none 0 0, .slice none 0 0]) ?_ 2 _ rfl; refine rB ?_; refine bR (cs := #[.string (rdOf ByteArray.empty eF kW), .slice none 0 0, .slice none 0 0]) ?_ 1 _ rfl; refine rB ?_; refine bR (cs := #[.string (⟨#[]⟩ : ByteArray), .slice none 0 0, .slice none 0 0]) ?_ 0 _ rfl; refine rB ?_; exact jE.1⟩, ⟨yS⟩, ⟨P3⟩, ⟨JR⟩⟩
    case round =>
     clear H'
     try clear NL
     try clear c12
     try clear QX
     try clear Qo
     try clear WE
     try clear HU
     try clear sa sk
     obtain ⟨FE, jX, ER, qG, kX, rfl, HA, HK2, qY, tV, fH, eZ, iV, iL, a6, aH, jE, gJ, HK, HB⟩ := hrel
     cases gk with
     | zero => exact absurd HA.out (by simp [dH.l1])
     | succ k2 =>
      have H := HA.out
      clear HA
      simp only [dH.l1] at H
      refine ic H ?_ ?_ <;> clear H <;> intro a0F H
      ·obtain ⟨ck, H⟩ := cN H
       obtain ⟨LC, Nk, H⟩ := bd H
       refine tC H ?_ ?_ <;> clear H <;> intro ur H <;> subst ur
       ·have H' := am H
        repeat clear H
        have Z32 := nZ3 rE kR rF oJ yC BQ
        have zm := cz3 jE
        obtain ⟨tP, Rf, Jw, a3R, a4D⟩ := aS (am (Kd.aU iL.1).2.2) b0 jX
        cases Rf
        obtain ⟨aS4, aUA, aEO⟩ := Kd.bP tV.1
        subst aEO
        go_wp2_with (first | ((with_reducible refine gC 80 ?_); refine cQ (some 43) Try.func80 (dO.calls k2 _ _ FE (rdOf ByteArray.empty iI jX) true _ (pC (Kd.aU tV.1).2.2) ((Kd.aU tV.1).2.1) Nk.out) ?_; rintro w' ⟨nd, rfl⟩))
        go_roundg k2
        case measure => have := HK1.out; have := HK2.out; omega
        case rel => exact ⟨(FE), (wrap64 (jX + 1)), (ER), (qG), (kX), dM, H', ⟨by have := HK1.out; have := HK2.out; omega⟩, ⟨rR qY.1⟩, ⟨rR tV.1⟩, ⟨rR fH.1⟩, ⟨rN eZ.1⟩, ⟨rR iV.1⟩, ⟨rR iL.1⟩, ⟨rB a6.1⟩, ⟨rB aH.1⟩, ⟨rB jE.1⟩, ⟨yS⟩, ⟨P3⟩, ⟨JR⟩⟩
       ·obtain ⟨⟨LD, qE⟩, A37, H⟩ := bd H
        dsimp only at H
        refine iq H ?_ ?_ <;> clear H <;> intro c38 a0L aLJ H
        ·obtain ⟨xw, H⟩ := cL H
         obtain ⟨aHO, Pf⟩ := yv (FE ++ [rdOf ByteArray.empty iI jX]); first | replace H := bW Pf H | rw [← Pf.1] at H
         obtain ⟨xx, H⟩ := cL H
         obtain ⟨GJ, J9⟩ := yv (qG ++ [rdOf ByteArray.empty iI jX]); first | replace H := bW J9 H | rw [← J9.1] at H
         have H' := am H
         repeat clear H
         have Z41 := nZ3 rE kR rF oJ yC BQ
         have Z44 := cz3 jE
         obtain ⟨tP, Rf, Jw, a3R, a4D⟩ := aS (am (Kd.aU iL.1).2.2) b0 jX
         cases Rf
         obtain ⟨Aj, Bm, aEP⟩ := Kd.bP tV.1
         subst aEP
         try go_wp2_with (first | ((with_reducible refine gC 80 ?_); refine cQ (some 43) Try.func80 (dO.calls k2 _ _ FE (rdOf ByteArray.empty iI jX) false _ (pC (Kd.aU tV.1).2.2) ((Kd.aU tV.1).2.1) Nk.out) ?_; rintro w' ⟨nd, rfl⟩; (try (rw [H7 wr]; generalize hq_ : World.drewN wr _ = wr; have n0_ : aC (Kd.R Kd.string 9 wr w0.heap.size (fun k_ => (((P1_0_ k_ ∨ w.heap.size ≤ k_)) ∧ (some k_ ≠ (.slice (some kL) eF.length lA : Value).ownBlock ∧ (some k_ ≠ (.slice Aj FE.length Bm : Value).ownBlock ∧ (some k_ ≠ (kX : Value).ownBlock ∧ some k_ ≠ (.slice (some tP) iI.length uY : Value).ownBlock))))) (.slice xY fK.length xZ) fK) := ⟨by rw [← hq_]; exact DJ⟩; have n1_ : aC (Kd.N k56 56 wr w.heap.size (fun k_ => (((P1_0_ k_ ∨ w.heap.size ≤ k_)) ∧ (some k_ ≠ (.slice (some kL) eF.length lA : Value).ownBlock ∧ (some k_ ≠ (.slice Aj FE.length Bm : Value).ownBlock ∧ (some k_ ≠ (.slice xY fK.length xZ : Value).ownBlock ∧ (some k_ ≠ (kX : Value).ownBlock ∧ (some k_ ≠ (.slice (some tP) iI.length uY : Value).ownBlock ∧ (k_ ≠ aT ∧ (k_ ≠ aZ ∧ (k_ ≠ jB ∧ k_ ≠ g)))))))))) nT rI) := ⟨by rw [← hq_]; exact IK⟩; have n2_ : aC (Kd.R Kd.string 9 wr w0.heap.size (fun k_ => (((P1_0_ k_ ∨ w.heap.size ≤ k_)) ∧ (some k_ ≠ (.slice (some kL) eF.length lA : Value).ownBlock ∧ (some k_ ≠ (.slice Aj FE.length Bm : Value).ownBlock ∧ (some k_ ≠ (.slice xY fK.length xZ : Value).ownBlock ∧ some k_ ≠ (.slice (some tP) iI.length uY : Value).ownBlock))))) kX qG) := ⟨by rw [← hq_]; exact (rR iV.1)⟩; have n3_ : aC (Kd.R Kd.string 9 wr w0.heap.size (fun k_ => (((P1_0_ k_ ∨ w.heap.size ≤ k_)) ∧ (some k_ ≠ (.slice (some kL) eF.length lA : Value).ownBlock ∧ (some k_ ≠ (.slice Aj FE.length Bm : Value).ownBlock ∧ (some k_ ≠ (.slice xY fK.length xZ : Value).ownBlock ∧ some k_ ≠ (kX : Value).ownBlock))))) (.slice (some tP) iI.length uY) iI) := ⟨by rw [← hq_]; exact (rR iL.1)⟩; have n4_ : aC (Kd.R Kd.string 9 wr w0.heap.size (fun k_ => (((P1_0_ k_ ∨ w.heap.size ≤ k_)) ∧ (some k_ ≠ (.slice Aj FE.length Bm : Value).ownBlock ∧ (some k_ ≠ (.slice xY fK.length xZ : Value).ownBlock ∧ (some k_ ≠ (kX : Value).ownBlock ∧ some k_ ≠ (.slice (some tP) iI.length uY : Value).ownBlock))))) (.slice (some kL) eF.length lA) eF) := ⟨by rw [← hq_]; exact DK⟩; have n5_ : aC (Kd.R Kd.string 9 wr w0.heap.size (fun k_ => (((P1_0_ k_ ∨ w.heap.size ≤ k_)) ∧ (some k_ ≠ (.slice (some kL) eF.length lA : Value).ownBlock ∧ (some k_ ≠ (.slice xY fK.length xZ : Value).ownBlock ∧ (some k_ ≠ (kX : Value).ownBlock ∧ some k_ ≠ (.slice (some tP) iI.length uY : Value).ownBlock))))) (.slice Aj FE.length Bm) FE) := ⟨by rw [← hq_]; exact EK⟩; have n6_ : aC (wr.heap[aT]? = some (.cells #[.slice xY fK.length xZ, nT] 31 (0, 0))) := ⟨by rw [← hq_]; exact aW⟩; have n7_ : aC (wr.heap[aZ]? = some (.cells #[.slice none 0 0, .slice none 0 0] 31 (0, 0))) := ⟨by rw [← hq_]; exact cB⟩; have n8_ : aC (wr.heap[jB]? = some (.cells #[.string (rdOf ByteArray.empty eF kW), kX, .slice (some tP) iI.length uY] 56 (0, 0))) := ⟨by rw [← hq_]; exact LT⟩; have n9_ : aC (aD w0 wr g cW ER) := ⟨by rw [← hq_]; exact yS⟩; have n10_ : aC (Kept w wr (fun k_ => (P1_0_ k_) ∨ k_ = g)) := ⟨by rw [← hq_]; exact P3⟩; have n11_ : aC (Below w0.heap.size w0 wr) := ⟨by rw [← hq_]; exact JR⟩; clear fH eZ iV iL qY tV a6 aH jE gJ HK HB hq_; have fH := n0_; have eZ := n1_; have iV := n2_; have iL := n3_; have qY := n4_; have tV := n5_; have a6 := n6_; have aH := n7_; have jE := n8_; have gJ := n9_; have HK := n10_; have HB := n11_; clear n0_ n1_ n2_ n3_ n4_ n5_ n6_ n7_ n8_ n9_ n10_ n11_))) | (go_at_call 100; refine cM (bN.calls k2 g cW ER 2 LD qE w0 _ (yS) (JR) A37.out) ?_; rintro w46 ⟨hi, hb, hk⟩; replace qY := iR yS DK hk; replace tV := iR yS EK hk; replace fH := iR yS DJ hk; replace eZ := am (Kd.aJ (Kd.CF (Kd.aJ (ok := fun k_ => (((P1_0_ k_ ∨ w.heap.size ≤ k_)) ∧ (some k_ ≠ (.slice (some kL) eF.length lA : Value).ownBlock ∧ (some k_ ≠ (.slice Aj FE.length Bm : Value).ownBlock ∧ (some k_ ≠ (.slice xY fK.length xZ : Value).ownBlock ∧ (some k_ ≠ (kX : Value).ownBlock ∧ (some k_ ≠ (.slice (some tP) iI.length uY : Value).ownBlock ∧ (k_ ≠ aT ∧ (k_ ≠ aZ ∧ (k_ ≠ jB ∧ k_ ≠ g)))))))))) IK (fun k_ hk_ => (⟨hk_, hk_.2.2.2.2.2.2.2.2.2⟩ : _ ∧ k_ ≠ g))) hk (fun _ h => h.2)) (fun _ h => h.1)); replace iV := iR yS (rR iV.1) hk; replace iL := iR yS (rR iL.1) hk; replace a6 := kb aW hk fJ; replace aH := kb cB hk gX; replace jE := kb LT hk yC; replace HK := am (Kept.KX (S := (fun k_ => (P1_0_ k_) ∨ k_ = g)) P3 hk (.inl (.inr rfl))); replace HB := am hb; replace gJ := am hi; clear hb hk hi; have Z47 := cz3 jE; obtain ⟨a02, aEF, aBI, aVB, aVF⟩ := aS (am (Kd.aU iL.1).2.2) b0 jX; obtain rfl : tP = a02 := (by injection aEF)) | ((with_reducible refine o7 (b := .append) (xs := #[.tmp 50, .tmp 56]) rfl ?_); at_builtin; refine Kd.AC Kd.string (w0 := w0) w0.heap.size rfl (.tmp 50) (.tmp 56) 23 9 (.string ⟨#[]⟩) 16 rfl Try.underlying23 rY rfl (by decide) (by omega) (.slice Aj FE.length Bm) FE (rdOf ByteArray.empty iI jX) [.string (rdOf ByteArray.empty iI jX)] (fun k_ => (P1_0_ k_ ∨ w.heap.size ≤ k_) ∧ some k_ ≠ (.slice (some kL) eF.length lA : Value).ownBlock ∧ some k_ ≠ (.slice xY fK.length xZ : Value).ownBlock ∧ some k_ ≠ (kX : Value).ownBlock ∧ some k_ ≠ (.slice (some tP) iI.length uY : Value).ownBlock) (fun _ => False) rfl rfl ?aP (fun _ hk => hk.elim) ?aF ?aO ?aB ?aS ?aL ?_; (case aP => exact rfl); (case aB => exact JR); (case aF => exact (fun k_ hk => ⟨(.inr (Nat.le_trans pY9 hk)), Kd.fresh' (Kd.R_lt DK) k_ hk, Kd.fresh' (Kd.R_lt DJ) k_ hk, Kd.fresh' (Kd.R_lt (rR iV.1)) k_ hk, Kd.fresh' (Kd.R_lt (rR iL.1)) k_ hk⟩)); (case aO => exact EK); (case aS => exact (aG JR)); (case aL => have := xw.out; omega); intro Ac w48 ho hb hg hat; rw [← Pf.out] at ho; replace qY := am (Kd.nA (ok := (fun k_ => (P1_0_ k_ ∨ w.heap.size ≤ k_) ∧ some k_ ≠ (.slice xY fK.length xZ : Value).ownBlock ∧ some k_ ≠ (kX : Value).ownBlock ∧ some k_ ≠ (.slice (some tP) iI.length uY : Value).ownBlock)) (by refine rR ?_; exact Kd.aM qY.1 (fun _ hk => ⟨⟨hk.1, ⟨hk.2.2.1, ⟨hk.2.2.2.1, hk.2.2.2.2⟩⟩⟩, hk.2.1⟩)) hg hat); replace fH := am (Kd.nA (ok := (fun k_ => (P1_0_ k_ ∨ w.heap.size ≤ k_) ∧ some k_ ≠ (.slice (some kL) eF.length lA : Value).ownBlock ∧ some k_ ≠ (kX : Value).ownBlock ∧ some k_ ≠ (.slice (some tP) iI.length uY : Value).ownBlock)) (by refine rR ?_; exact Kd.aM fH.1 (fun _ hk => ⟨⟨hk.1, ⟨hk.2.1, ⟨hk.2.2.2.1, hk.2.2.2.2⟩⟩⟩, hk.2.2.1⟩)) hg hat); replace eZ := am (Kd.uD (ok := (fun k_ => (P1_0_ k_ ∨ w.heap.size ≤ k_) ∧ some k_ ≠ (.slice (some kL) eF.length lA : Value).ownBlock ∧ some k_ ≠ (.slice xY fK.length xZ : Value).ownBlock ∧ some k_ ≠ (kX : Value).ownBlock ∧ some k_ ≠ (.slice (some tP) iI.length uY : Value).ownBlock ∧ k_ ≠ aT ∧ k_ ≠ aZ ∧ k_ ≠ jB ∧ k_ ≠ g)) (by refine rN ?_; exact Kd.aJ eZ.1 (fun _ hk => ⟨⟨hk.1, ⟨hk.2.1, ⟨hk.2.2.2.1, ⟨hk.2.2.2.2.1, ⟨hk.2.2.2.2.2.1, ⟨hk.2.2.2.2.2.2.1, ⟨hk.2.2.2.2.2.2.2.1, ⟨hk.2.2.2.2.2.2.2.2.1, hk.2.2.2.2.2.2.2.2.2⟩⟩⟩⟩⟩⟩⟩⟩, hk.2.2.1⟩)) hg hat); replace iV := am (Kd.nA (ok := (fun k_ => (P1_0_ k_ ∨ w.heap.size ≤ k_) ∧ some k_ ≠ (.slice (some kL) eF.length lA : Value).ownBlock ∧ some k_ ≠ (.slice xY fK.length xZ : Value).ownBlock ∧ some k_ ≠ (.slice (some tP) iI.length uY : Value).ownBlock)) (by refine rR ?_; exact Kd.aM iV.1 (fun _ hk => ⟨⟨hk.1, ⟨hk.2.1, ⟨hk.2.2.2.1, hk.2.2.2.2⟩⟩⟩, hk.2.2.1⟩)) hg hat); replace iL := am (Kd.nA (ok := (fun k_ => (P1_0_ k_ ∨ w.heap.size ≤ k_) ∧ some k_ ≠ (.slice (some kL) eF.length lA : Value).ownBlock ∧ some k_ ≠ (.slice xY fK.length xZ : Value).ownBlock ∧ some k_ ≠ (kX : Value).ownBlock)) (by refine rR ?_; exact Kd.aM iL.1 (fun _ hk => ⟨⟨hk.1, ⟨hk.2.1, ⟨hk.2.2.2.1, hk.2.2.2.2⟩⟩⟩, hk.2.2.1⟩)) hg hat); replace a6 := gkR aW hg tV a6; replace aH := gkR cB hg tV aH; replace jE := gkR LT hg tV jE; replace gJ := am (aD.grown yS hg (aD.own_ne gJ.out tV.1 (by decide))); replace HB := am hb; replace HK := am (Kept.rZ (S := (fun k_ => (P1_0_ k_) ∨ k_ = g)) hg P3 (fun k_ e_ => Or.imp_left Or.inl ((tV.1.1 k_ e_).1))); have y9 := am ho; clear tV; clear ho hb hg hat))
         replace qY := RD qY
         replace fH := RD fH
         replace eZ := ND eZ
         replace iV := RD iV
         replace iL := RD iL
         replace y9 := RD y9
         replace a6 := BD a6
         replace aH := BD aH
         replace jE := BD jE
         replace gJ := am (aD.drew gJ.out)
         replace HK := am (Kept.drew HK.out)
         replace HB := am (aV HB.1)
         obtain ⟨a03, aEG, Jx, aVC, aVG⟩ := aS (am (Kd.aU iL.1).2.2) b0 jX
         obtain rfl : tP = a03 := (by injection aEG)
         refine sT (S := fun w' => w'.cell? ⟨jB, 0, none⟩ = some (.string (rdOf ByteArray.empty eF kW)) ∧ w'.cell? ⟨jB, 1, none⟩ = some (kX) ∧ w'.cell? ⟨jB, 2, none⟩ = some (.slice (some tP) iI.length uY) ∧ w'.cell? (tP.add (jX).toNat) = some (.string (rdOf ByteArray.empty iI jX))) [8, 10] 11 ⟨⟨(bC jE.1 0).trans rfl, (bC jE.1 1).trans rfl, (bC jE.1 2).trans rfl, Jx⟩⟩ (fun hHeld => ?_)
         refine eO dH.WU dH.PU (fun HT_ HW_ => ?_)
         generalize w48.drew = w49 at qY fH eZ iV iL y9 a6 aH jE gJ HK HB Jx hHeld ⊢
         refine pU3 0 2 4 ?_
         refine tK4 1 (some 59) ?_
         refine tK4 3 (some 61) ?_
         refine pU1 5 ?_
         refine tK4 6 (some 64) ?_
         refine oN 7 (some 65) fun K hK => ?_
         refine yQ (w1 := ?_) (v := ?_) (by rfl) rfl ?_ ?_
         rotate_left 2
         ·go_simp
          constructor
          ·rfl
          ·rfl
         refine hK.out _ _ ⟨(bC (bM jE.1 _) 0).trans rfl, (bC (bM jE.1 _) 1).trans rfl, (bC (bM jE.1 _) 2).trans rfl, (World.cell?_alloc_lt _ _ _ (World.block_lt_of_cell? _ _ (hHeld.2.2.2))).trans (hHeld.2.2.2)⟩ (fun hHeld => ?_)
         clear hK K
         refine nM ?_
         refine lN 8 (some 66) fun K hK => ?_
         refine Kd.pX Kd.string (w0 := w0) w0.heap.size (by rfl) (.tmp 59) (.tmp 65) 23 9 (.string ⟨#[]⟩) 16 rfl Try.underlying23 rY rfl (by decide) (by omega) kX qG (rdOf ByteArray.empty iI jX) [.string (rdOf ByteArray.empty iI jX)] (fun k_ => (P1_0_ k_ ∨ w.heap.size ≤ k_) ∧ some k_ ≠ (.slice (some kL) eF.length lA : Value).ownBlock ∧ some k_ ≠ (.slice xY fK.length xZ : Value).ownBlock ∧ some k_ ≠ (.slice (some tP) iI.length uY : Value).ownBlock ∧ some k_ ≠ (Ac : Value).ownBlock) (fun _ => False) rfl rfl ?aP (fun _ hk => hk.elim) ?aF ?aO ?aB ?aS ?aL ?_
         (case aP => exact rfl)
         (case aB => exact JR)
         (case aF => exact (fun k_ hk => ⟨(.inr (Nat.le_trans pY9 hk)), Kd.fresh' (Kd.R_lt DK) k_ hk, Kd.fresh' (Kd.R_lt DJ) k_ hk, Kd.fresh' (Kd.R_lt (rR iL.1)) k_ hk, Kd.fresh' (Kd.R_lt (rR y9.1)) k_ hk⟩))
         (case aO => exact (by refine rR ?_; exact Kd.aM iV.1 (fun _ hk => ⟨hk.1.1, ⟨hk.1.2.1, ⟨hk.1.2.2.1, ⟨hk.1.2.2.2, hk.2⟩⟩⟩⟩)))
         (case aS => exact (aG JR))
         (case aL => have := xx.out; omega)
         intro Ze w50 ho hb hg hat
         rw [← J9.out] at ho
         replace qY := am (Kd.nA (ok := (fun k_ => (P1_0_ k_ ∨ w.heap.size ≤ k_) ∧ some k_ ≠ (.slice xY fK.length xZ : Value).ownBlock ∧ some k_ ≠ (.slice (some tP) iI.length uY : Value).ownBlock ∧ some k_ ≠ (Ac : Value).ownBlock)) (by refine rR ?_; exact Kd.aM qY.1 (fun _ hk => ⟨⟨hk.1.1, ⟨hk.1.2.1, ⟨hk.1.2.2.2, hk.2⟩⟩⟩, hk.1.2.2.1⟩)) hg hat)
         replace fH := am (Kd.nA (ok := (fun k_ => (P1_0_ k_ ∨ w.heap.size ≤ k_) ∧ some k_ ≠ (.slice (some kL) eF.length lA : Value).ownBlock ∧ some k_ ≠ (.slice (some tP) iI.length uY : Value).ownBlock ∧ some k_ ≠ (Ac : Value).ownBlock)) (by refine rR ?_; exact Kd.aM fH.1 (fun _ hk => ⟨⟨hk.1.1, ⟨hk.1.2.1, ⟨hk.1.2.2.2, hk.2⟩⟩⟩, hk.1.2.2.1⟩)) hg hat)
         replace eZ := am (Kd.uD (ok := (fun k_ => (P1_0_ k_ ∨ w.heap.size ≤ k_) ∧ some k_ ≠ (.slice (some kL) eF.length lA : Value).ownBlock ∧ some k_ ≠ (.slice xY fK.length xZ : Value).ownBlock ∧ some k_ ≠ (.slice (some tP) iI.length uY : Value).ownBlock ∧ some k_ ≠ (Ac : Value).ownBlock ∧ k_ ≠ aT ∧ k_ ≠ aZ ∧ k_ ≠ jB ∧ k_ ≠ g)) (by refine rN ?_; exact Kd.aJ eZ.1 (fun _ hk => ⟨⟨hk.1.1, ⟨hk.1.2.1, ⟨hk.1.2.2.1, ⟨hk.1.2.2.2.2.1, ⟨hk.2, ⟨hk.1.2.2.2.2.2.1, ⟨hk.1.2.2.2.2.2.2.1, ⟨hk.1.2.2.2.2.2.2.2.1, hk.1.2.2.2.2.2.2.2.2⟩⟩⟩⟩⟩⟩⟩⟩, hk.1.2.2.2.1⟩)) hg hat)
         replace iL := am (Kd.nA (ok := (fun k_ => (P1_0_ k_ ∨ w.heap.size ≤ k_) ∧ some k_ ≠ (.slice (some kL) eF.length lA : Value).ownBlock ∧ some k_ ≠ (.slice xY fK.length xZ : Value).ownBlock ∧ some k_ ≠ (Ac : Value).ownBlock)) (by refine rR ?_; exact Kd.aM iL.1 (fun _ hk => ⟨⟨hk.1.1, ⟨hk.1.2.1, ⟨hk.1.2.2.1, hk.2⟩⟩⟩, hk.1.2.2.2⟩)) hg hat)
         replace a6 := gkR aW hg iV a6
         replace aH := gkR cB hg iV aH
         replace jE := gkR LT hg iV jE
         replace gJ := am (aD.grown yS hg (aD.own_ne gJ.out iV.1 (by decide)))
         replace y9 := am (Kd.nA (ok := (fun k_ => (P1_0_ k_ ∨ w.heap.size ≤ k_) ∧ some k_ ≠ (.slice (some kL) eF.length lA : Value).ownBlock ∧ some k_ ≠ (.slice xY fK.length xZ : Value).ownBlock ∧ some k_ ≠ (.slice (some tP) iI.length uY : Value).ownBlock)) (by refine rR ?_; exact Kd.aM y9.1 (fun _ hk => ⟨⟨hk.1, ⟨hk.2.1, ⟨hk.2.2.1, hk.2.2.2.2⟩⟩⟩, hk.2.2.2.1⟩)) hg hat)
         replace HB := am hb
         replace HK := am (Kept.rZ (S := (fun k_ => (P1_0_ k_) ∨ k_ = g)) hg P3 (fun k_ e_ => Or.imp_left Or.inl ((iV.1.1 k_ e_).1.1)))
         have NA := am ho
         clear iV
         clear ho hb hg hat
         obtain ⟨wu, a19, Xi⟩ := Kd.bP NA.1
         (first | subst Xi | (obtain ⟨f4_, f5_⟩ := sj Xi; subst f4_; subst f5_))
         refine hK.out _ _ ?_
         clear hK K
         refine nM ?_
         refine pU1 9 ?_
         refine lN 10 none fun K hK => ?_
         have aV5 : w50.cell? ⟨jB, 1, none⟩ = some (kX) := (bC jE.1 1).trans rfl
         have aMZ := eB jE.1 1
         have aB3 := kR.1
         have aB4 := oJ.1
         have a9N := rE.1
         have a9O := rF.1
         refine uX (w1 := ?_) (by rfl) rfl ?_ ?_
         rotate_left
         ·go_simp
          rfl
         refine hK.out _ _ ?_
         clear hK K
         refine dN ?_
         try go_wp2
         go_roundg k2
         case measure => have := HK1.out; have := HK2.out; omega
         case rel => exact ⟨(aHO), (wrap64 (jX + 1)), (qE), (GJ), (.slice wu GJ.length a19), dM, H', ⟨by have := HK1.out; have := HK2.out; omega⟩, ⟨by refine rR ?_; exact Kd.aM (fR (tR qY jE)) (fun _ hk => ⟨hk.1.1.1, ⟨hk.1.1.2.2.2, ⟨hk.1.1.2.1, ⟨hk.1.2, hk.1.1.2.2.1⟩⟩⟩⟩)⟩, ⟨by refine rR ?_; exact Kd.aM (fR (tR y9 jE)) (fun _ hk => ⟨hk.1.1.1, ⟨hk.1.1.2.1, ⟨hk.1.1.2.2.1, ⟨hk.1.2, hk.1.1.2.2.2⟩⟩⟩⟩)⟩, ⟨by refine rR ?_; exact Kd.aM (fR (tR fH jE)) (fun _ hk => ⟨hk.1.1.1, ⟨hk.1.1.2.1, ⟨hk.1.1.2.2.2, ⟨hk.1.2, hk.1.1.2.2.1⟩⟩⟩⟩)⟩, ⟨by refine rN ?_; exact Kd.aJ (fN (Kd.aJ eZ.1 (fun k_ hk => (⟨hk, hk.1.2.2.2.2.2.2.2.1⟩ : _ ∧ k_ ≠ jB)))) (fun _ hk => ⟨hk.1.1.1, ⟨hk.1.1.2.1, ⟨hk.1.1.2.2.2.2.1, ⟨hk.1.1.2.2.1, ⟨hk.1.2, ⟨hk.1.1.2.2.2.1, ⟨hk.1.1.2.2.2.2.2.1, ⟨hk.1.1.2.2.2.2.2.2.1, ⟨hk.1.1.2.2.2.2.2.2.2.1, hk.1.1.2.2.2.2.2.2.2.2⟩⟩⟩⟩⟩⟩⟩⟩⟩)⟩, ⟨by refine rR ?_; exact Kd.aM (fR (tR NA jE)) (fun _ hk => ⟨hk.1.1, ⟨hk.1.2.1, ⟨hk.1.2.2.2.2, ⟨hk.1.2.2.1, hk.1.2.2.2.1⟩⟩⟩⟩)⟩, ⟨by refine rR ?_; exact Kd.aM (fR (tR iL jE)) (fun _ hk => ⟨hk.1.1.1, ⟨hk.1.1.2.1, ⟨hk.1.1.2.2.2, ⟨hk.1.1.2.2.1, hk.1.2⟩⟩⟩⟩)⟩, ⟨qF a6 kR⟩, ⟨qF aH oJ⟩, ⟨by refine rB ?_; refine bR (cs := #[.string (rdOf ByteArray.empty eF kW), kX, .slice (some tP) iI.length uY]) ?_ 1 _ rfl; refine rB ?_; exact jE.1⟩, ⟨yS⟩, ⟨P3⟩, ⟨JR⟩⟩
        ·have H' := am H
         repeat clear H
         have Z53 := nZ3 rE kR rF oJ yC BQ
         have Z56 := cz3 jE
         obtain ⟨tP, Rf, Jw, a3R, a4D⟩ := aS (am (Kd.aU iL.1).2.2) b0 jX
         cases Rf
         obtain ⟨aCE, aE6, aET⟩ := Kd.bP tV.1
         subst aET
         go_wp2_with (first | ((with_reducible refine gC 80 ?_); refine cQ (some 43) Try.func80 (dO.calls k2 _ _ FE (rdOf ByteArray.empty iI jX) false _ (pC (Kd.aU tV.1).2.2) ((Kd.aU tV.1).2.1) Nk.out) ?_; rintro w' ⟨nd, rfl⟩) | (go_at_call 100; refine cM (bN.calls k2 g cW ER 2 LD qE w0 _ (yS) (JR) A37.out) ?_; rintro w58 ⟨hi, hb, hk⟩; replace qY := iR yS DK hk; replace tV := iR yS EK hk; replace fH := iR yS DJ hk; replace eZ := am (Kd.aJ (Kd.CF (Kd.aJ (ok := fun k_ => (((P1_0_ k_ ∨ w.heap.size ≤ k_)) ∧ (some k_ ≠ (.slice (some kL) eF.length lA : Value).ownBlock ∧ (some k_ ≠ (.slice aCE FE.length aE6 : Value).ownBlock ∧ (some k_ ≠ (.slice xY fK.length xZ : Value).ownBlock ∧ (some k_ ≠ (kX : Value).ownBlock ∧ (some k_ ≠ (.slice (some tP) iI.length uY : Value).ownBlock ∧ (k_ ≠ aT ∧ (k_ ≠ aZ ∧ (k_ ≠ jB ∧ k_ ≠ g)))))))))) IK (fun k_ hk_ => (⟨hk_, hk_.2.2.2.2.2.2.2.2.2⟩ : _ ∧ k_ ≠ g))) hk (fun _ h => h.2)) (fun _ h => h.1)); replace iV := iR yS (rR iV.1) hk; replace iL := iR yS (rR iL.1) hk; replace a6 := kb aW hk fJ; replace aH := kb cB hk gX; replace jE := kb LT hk yC; replace HK := am (Kept.KX (S := (fun k_ => (P1_0_ k_) ∨ k_ = g)) P3 hk (.inl (.inr rfl))); replace HB := am hb; replace gJ := am hi; clear hb hk hi))
         go_roundg k2
         case measure => have := HK1.out; have := HK2.out; omega
         case rel => exact ⟨(FE), (wrap64 (jX + 1)), (qE), (qG), (kX), dM, H', ⟨by have := HK1.out; have := HK2.out; omega⟩, ⟨rR qY.1⟩, ⟨rR tV.1⟩, ⟨rR fH.1⟩, ⟨rN eZ.1⟩, ⟨rR iV.1⟩, ⟨rR iL.1⟩, ⟨rB a6.1⟩, ⟨rB aH.1⟩, ⟨rB jE.1⟩, ⟨yS⟩, ⟨P3⟩, ⟨JR⟩⟩
      ·obtain ⟨xz, H⟩ := cL H
       obtain ⟨Dc, J6⟩ := yv (rI ++ [(⟨(rdOf ByteArray.empty eF kW), qG, iI⟩ : S56)]); first | replace H := bW J6 H | rw [← J6.1] at H
       have H' := am H
       repeat clear H
       have Z60 := nZ3 rE kR rF oJ yC BQ
       have Z63 := cz3 jE
       have Z64 := nZ2 cO cV fJ l7
       have Z66 := cz2 a6
       obtain ⟨ib, ne, pk⟩ := Kd.bP iV.1
       subst pk
       go_wp2_with (first | ((with_reducible refine o7 (b := .append) (xs := #[.tmp 69, .tmp 71]) rfl ?_); at_builtin; refine Kd.Oy k56 w.heap.size rfl (.tmp 69) (.tmp 71) 29 56 Ag0 64 rfl Try.underlying29 rC rfl (by decide) (by omega) nT rI (⟨(rdOf ByteArray.empty eF kW), qG, iI⟩ : S56) [.string (rdOf ByteArray.empty eF kW), .slice ib qG.length ne, .slice M7 iI.length uY] (fun k_ => (P1_0_ k_ ∨ w.heap.size ≤ k_) ∧ some k_ ≠ (.slice (some kL) eF.length lA : Value).ownBlock ∧ some k_ ≠ (u6 : Value).ownBlock ∧ some k_ ≠ (.slice xY fK.length xZ : Value).ownBlock ∧ k_ ≠ aT ∧ k_ ≠ aZ ∧ k_ ≠ jB ∧ k_ ≠ g) (fun k_ => ((fun k_ => (P1_0_ k_ ∨ w.heap.size ≤ k_) ∧ some k_ ≠ (.slice (some kL) eF.length lA : Value).ownBlock ∧ some k_ ≠ (u6 : Value).ownBlock ∧ some k_ ≠ (.slice xY fK.length xZ : Value).ownBlock ∧ k_ ≠ aT ∧ k_ ≠ aZ ∧ k_ ≠ jB ∧ k_ ≠ g)) k_ ∧ some k_ ≠ (nT : Value).ownBlock) rfl rfl ?aP (fun _ hk => hk) ?aF ?aO (Below.refl _ _) ?aS ?aL ?_; (case aP => exact (OP _ _ (⟨(rdOf ByteArray.empty eF kW), qG, iI⟩ : S56) (Kd.aU (Kd.aM (ok' := (fun k_ => ((fun k_ => (P1_0_ k_ ∨ w.heap.size ≤ k_) ∧ some k_ ≠ (.slice (some kL) eF.length lA : Value).ownBlock ∧ some k_ ≠ (u6 : Value).ownBlock ∧ some k_ ≠ (.slice xY fK.length xZ : Value).ownBlock ∧ k_ ≠ aT ∧ k_ ≠ aZ ∧ k_ ≠ jB ∧ k_ ≠ g)) k_ ∧ some k_ ≠ (nT : Value).ownBlock)) (aD.apart gJ.out (Kd.fQ (Kd.fQ (Kd.fQ (Kd.mJ (iV.1) (Kd.lY eZ.1) (by decide)) a6.1 (by decide)) aH.1 (by decide)) jE.1 (by decide)) (by decide)) (fun k_ hk => ⟨⟨hk.1.1.1.1.1.1, ⟨hk.1.1.1.1.1.2.1, ⟨hk.1.1.1.1.1.2.2.1, ⟨hk.1.1.1.1.1.2.2.2.1, ⟨hk.1.1.1.2, ⟨hk.1.1.2, ⟨hk.1.2, hk.2⟩⟩⟩⟩⟩⟩⟩, hk.1.1.1.1.2⟩))).2.1 (Kd.R_F (Kd.aM (ok' := (fun k_ => ((fun k_ => (P1_0_ k_ ∨ w.heap.size ≤ k_) ∧ some k_ ≠ (.slice (some kL) eF.length lA : Value).ownBlock ∧ some k_ ≠ (u6 : Value).ownBlock ∧ some k_ ≠ (.slice xY fK.length xZ : Value).ownBlock ∧ k_ ≠ aT ∧ k_ ≠ aZ ∧ k_ ≠ jB ∧ k_ ≠ g)) k_ ∧ some k_ ≠ (nT : Value).ownBlock)) (aD.apart gJ.out (Kd.fQ (Kd.fQ (Kd.fQ (Kd.mJ (iV.1) (Kd.lY eZ.1) (by decide)) a6.1 (by decide)) aH.1 (by decide)) jE.1 (by decide)) (by decide)) (fun k_ hk => ⟨⟨hk.1.1.1.1.1.1, ⟨hk.1.1.1.1.1.2.1, ⟨hk.1.1.1.1.1.2.2.1, ⟨hk.1.1.1.1.1.2.2.2.1, ⟨hk.1.1.1.2, ⟨hk.1.1.2, ⟨hk.1.2, hk.2⟩⟩⟩⟩⟩⟩⟩, hk.1.1.1.1.2⟩))) (Kd.aU (Kd.aM (ok' := (fun k_ => ((fun k_ => (P1_0_ k_ ∨ w.heap.size ≤ k_) ∧ some k_ ≠ (.slice (some kL) eF.length lA : Value).ownBlock ∧ some k_ ≠ (u6 : Value).ownBlock ∧ some k_ ≠ (.slice xY fK.length xZ : Value).ownBlock ∧ k_ ≠ aT ∧ k_ ≠ aZ ∧ k_ ≠ jB ∧ k_ ≠ g)) k_ ∧ some k_ ≠ (nT : Value).ownBlock)) (aD.apart gJ.out (Kd.fQ (Kd.fQ (Kd.fQ (Kd.mJ (iL.1) (Kd.lY eZ.1) (by decide)) a6.1 (by decide)) aH.1 (by decide)) jE.1 (by decide)) (by decide)) (fun k_ hk => ⟨⟨hk.1.1.1.1.1.1, ⟨hk.1.1.1.1.1.2.1, ⟨hk.1.1.1.1.1.2.2.1, ⟨hk.1.1.1.1.1.2.2.2.1, ⟨hk.1.1.1.2, ⟨hk.1.1.2, ⟨hk.1.2, hk.2⟩⟩⟩⟩⟩⟩⟩, hk.1.1.1.1.2⟩))).2.1 (Kd.R_F (Kd.aM (ok' := (fun k_ => ((fun k_ => (P1_0_ k_ ∨ w.heap.size ≤ k_) ∧ some k_ ≠ (.slice (some kL) eF.length lA : Value).ownBlock ∧ some k_ ≠ (u6 : Value).ownBlock ∧ some k_ ≠ (.slice xY fK.length xZ : Value).ownBlock ∧ k_ ≠ aT ∧ k_ ≠ aZ ∧ k_ ≠ jB ∧ k_ ≠ g)) k_ ∧ some k_ ≠ (nT : Value).ownBlock)) (aD.apart gJ.out (Kd.fQ (Kd.fQ (Kd.fQ (Kd.mJ (iL.1) (Kd.lY eZ.1) (by decide)) a6.1 (by decide)) aH.1 (by decide)) jE.1 (by decide)) (by decide)) (fun k_ hk => ⟨⟨hk.1.1.1.1.1.1, ⟨hk.1.1.1.1.1.2.1, ⟨hk.1.1.1.1.1.2.2.1, ⟨hk.1.1.1.1.1.2.2.2.1, ⟨hk.1.1.1.2, ⟨hk.1.1.2, ⟨hk.1.2, hk.2⟩⟩⟩⟩⟩⟩⟩, hk.1.1.1.1.2⟩))))); (case aF => exact (fun k_ hk => ⟨(.inr (Nat.le_trans pY9 hk)), Kd.fresh' (Kd.R_lt DK) k_ hk, Kd.fresh' (Kd.R_lt EK) k_ hk, Kd.fresh' (Kd.R_lt DJ) k_ hk, fB aW k_ hk, fB cB k_ hk, fB LT k_ hk, aD.fresh yS k_ hk⟩)); (case aO => exact (by refine rN ?_; exact Kd.aJ eZ.1 (fun _ hk => ⟨hk.1, ⟨hk.2.1, ⟨hk.2.2.1, ⟨hk.2.2.2.1, ⟨hk.2.2.2.2.2.2.1, ⟨hk.2.2.2.2.2.2.2.1, ⟨hk.2.2.2.2.2.2.2.2.1, hk.2.2.2.2.2.2.2.2.2⟩⟩⟩⟩⟩⟩⟩))); (case aS => exact pY9); (case aL => have := xz.out; omega); intro a4R w67 ho hb hg hat; rw [← J6.out] at ho; replace qY := am (Kd.sP DK (Kd.lY IK) (by decide) hg); replace tV := am (Kd.sP EK (Kd.lY IK) (by decide) hg); replace fH := am (Kd.sP DJ (Kd.lY IK) (by decide) hg); replace a6 := gkN aW hg eZ a6; replace aH := gkN cB hg eZ aH; replace jE := am (tH (g := jB) (o := .cells #[.string (rdOf ByteArray.empty eF kW), .slice ib qG.length ne, .slice M7 iI.length uY] 56 (0, 0)) LT hg (Kd.J5 eZ.1 (fun _ hk => hk.2.2.2.2.2.2.2.2.1))); replace HB := am (pM JR HW0.out hb); replace gJ := am (aD.grown yS hg (aD.Ke gJ.out eZ.1 (by decide))); replace HK := am (Kept.rZ (S := (fun k_ => (P1_0_ k_) ∨ k_ = g)) hg P3 (fun k_ e_ => Or.imp_left Or.inl (.inr (Kd.xG eZ.1 k_ e_)))); have BI := am ho; clear eZ; clear iV; clear iL; clear ho hb hg hat; obtain ⟨aCF, aE7, aEU⟩ := Kd.gM BI.1; subst aEU; have Z70 := cz2 a6))
       go_roundg k2
       case measure => have := HK1.out; have := HK2.out; omega
       case rel => exact ⟨(FE), (wrap64 (kW + 1)), (ER), (Dc), (.slice aCF Dc.length aE7), dM, H', ⟨by have := HK1.out; have := HK2.out; omega⟩, ⟨by refine rR ?_; exact Kd.aM (fR (tR qY a6)) (fun _ hk => ⟨hk.1.1, ⟨hk.1.2.1, hk.1.2.2.1⟩⟩)⟩, ⟨by refine rR ?_; exact Kd.aM (fR (tR tV a6)) (fun _ hk => ⟨hk.1.1, ⟨hk.1.2.1, hk.1.2.2.1⟩⟩)⟩, ⟨by refine rR ?_; exact Kd.aM (fR (tR fH a6)) (fun _ hk => ⟨hk.1.1, ⟨hk.1.2.1, hk.1.2.2.1⟩⟩)⟩, ⟨by refine rN ?_; exact Kd.aJ (fN (Kd.aJ BI.1 (fun k_ hk => (⟨hk, hk.2.2.2.2.1⟩ : _ ∧ k_ ≠ aT)))) (fun _ hk => ⟨hk.1.1, ⟨hk.1.2.1, ⟨hk.1.2.2.1, ⟨hk.1.2.2.2.1, ⟨hk.1.2.2.2.2.1, ⟨hk.1.2.2.2.2.2.1, hk.1.2.2.2.2.2.2.2⟩⟩⟩⟩⟩⟩)⟩, ⟨by refine rB ?_; refine bR (cs := #[.slice xY fK.length xZ, nT]) ?_ 1 _ rfl; refine rB ?_; exact a6.1⟩, ⟨qF aH cV⟩, ⟨yS⟩, ⟨P3⟩, ⟨JR⟩⟩
  ·obtain ⟨rfl, rfl, rfl⟩ := sZ3 H
   repeat clear H
   obtain ⟨aS9, aUH, aEV⟩ := Kd.bP qY.1
   subst aEV
   have Z72 := nZ2 cO cV fJ l7
   have Z74 := cz2 a6
   have Z75 := nZ1 gX mT
   have Z76 := cz2 aH
   obtain ⟨aCH, aE9, aEX⟩ := Kd.gM eZ.1
   subst aEX
   go_wp2
   refine cR aZ 31 #[.slice xY fK.length xZ, .slice aCH rI.length aE9] (qP aH) Try.underlying31 ?_
   exact ⟨_, _, eR, mR fH aH, by refine rN ?_; exact Kd.aJ (fN (fN (Kd.aJ eZ.1 (fun k_ hk => (⟨hk, hk.2.2.2.2.2.1⟩ : _ ∧ k_ ≠ aZ))))) (fun _ hk => ⟨hk.1.1, hk.1.2.2.2.1⟩), sL, zP, UY⟩
end Go.Proofs.Ytaofjgnhapnndaa.Q
namespace Go.Proofs.Ytaofjgnhapnndaa.Q
open Go.RowKit Go.Proofs.YtaofjgnhapnndaaW.PrintWords Go.Proofs.YtaofjgnhapnndaaW.PrintLast Go.Proofs.YtaofjgnhapnndaaW.PrintMore
set_option linter.unusedVariables false
set_option linter.unusedSimpArgs false
def iU.l0 : Nat → Int → List ByteArray → Int → List ByteArray → List (S56) → Option (Bool)
 | 0, _, _, _, _, _ => none
 | k + 1, c, d, a, e, b => if a < (b.length : Int) then (if a = c then (iU.l0 k c d (wrap64 (a + 1)) e b) else (if 0 ≤ a then ((fF.f k ((aA b a).f1) d).bind fun g => (if g = true then (some true) else (iU.l0 k c d (wrap64 (a + 1)) e b))) else (none))) else (some false)
def iU.f (k : Nat) (bF : List ByteArray) (aN : List (S56)) (a1 : Int) (l2 : List ByteArray) : Option (Bool) := iU.l0 k a1 l2 0 bF aN
theorem iU.calls (k : Nat) (eU : Option Addr) (eY : Nat) (bF : List ByteArray) (fG : Option Addr) (eQ : Nat) (aN : List (S56)) (a1 : Int) (A2 : Option Addr) (c2 : Nat) (l2 : List ByteArray) (r : Bool) (w : World) (iG : Kd.C Kd.string w eU bF.length bF) (iD : bF.length ≤ eY) (iC : Kd.C k56 w fG aN.length aN) (iE : aN.length ≤ eQ) (U2 : Kd.C Kd.string w A2 l2.length l2) (PZ : l2.length ≤ c2) (h : iU.f k bF aN a1 l2 = some r) :
  Calls Try.prog 105 #[.agg #[.slice eU bF.length eY, .slice fG aN.length eQ], .int .i64 a1, .slice A2 l2.length c2] w fun e w' => e = .returned (.bool r) ∧ Below w.heap.size w w' := by
 have hu31 := Try.underlying31
 obtain ⟨dY, dX⟩ := mZ2 iG iD
 obtain ⟨cU, f4⟩ := mZ2 iC iE
 obtain ⟨EE, zZ⟩ := mZ2 U2 PZ
 clear iG iD iC iE U2 PZ
 have HB := am (Below.refl w.heap.size w)
 unfold iU.f at h
 have H := h
 clear h
 have H' := am H
 repeat clear H
 go_enter Try.func105, Try.ntmps105
 go_wp2_with (first | ((with_reducible refine gD 3 ?_); refine bX 3 #[.slice eU bF.length eY, .slice fG aN.length eQ] 31 ?_; intro aT hg w4 hbox hb; have a6 := am hbox; have g5 := am (oS : w.heap.size ≤ aT); have iJ := g5; replace HB := bS eG hb; clear hb hbox hg))
 go_loopg [7] k (fun kq v7 w' => ∃ (kW : Int), v7 = .int .i64 kW ∧ aC (iU.l0 kq a1 l2 kW bF aN = some r) ∧ aC (kq ≤ k) ∧ aC (w'.heap[aT]? = some (.cells #[(.slice eU bF.length eY), (.slice fG aN.length eQ)] 31 (0, 0))) ∧ aC (Below w.heap.size w w'))
 case atStart => exact ⟨(0), dM, H', ⟨Nat.le_refl _⟩, ⟨rB a6.1⟩, ⟨eE⟩⟩
 clear H'
 try clear c2
 obtain ⟨kW, rfl, HA, HK1, a6, HB⟩ := hrel
 cases gk with
 | zero => exact absurd HA.out (by simp [iU.l0])
 | succ k1 =>
  have H := HA.out
  clear HA
  simp only [iU.l0] at H
  refine ic H ?_ ?_ <;> clear H <;> intro IP H
  ·refine iq H ?_ ?_ <;> clear H <;> intro c6 RQ Bi H
   ·have H' := am H
    repeat clear H
    have Z7 := cz2 a6
    go_wp2
    go_roundg k1
    case measure => have := HK1.out; omega
    case rel => exact ⟨(wrap64 (kW + 1)), dM, H', ⟨by have := HK1.out; omega⟩, ⟨rB a6.1⟩, ⟨eE⟩⟩
   ·obtain ⟨LB, H⟩ := cN H
    obtain ⟨eF, A9, H⟩ := bd H
    refine tC H ?_ ?_ <;> clear H <;> intro Ba H <;> subst Ba
    ·obtain rfl := Option.some.inj H
     repeat clear H
     have Uq := cz2 a6
     obtain ⟨pF, vA, vG, vB, vH, uK, oR, qS, qT, rP, rL, vT, vS, F7, FB⟩ := aT56 cU HB kW
     cases uK
     go_wp2_with (first | (go_at_call 72; refine cM (fF.calls k1 _ _ ((aA aN kW).f1) _ _ l2 true _ (pB rP) rL.1 (pB EE) zZ.1 A9.out) ?_; rintro w' ⟨nd, rfl⟩))
     go_ret
     exact ⟨eR, eE⟩
    ·have H' := am H
     repeat clear H
     have bv := cz2 a6
     obtain ⟨pF, vA, vG, vB, vH, uK, oR, qS, qT, rP, rL, vT, vS, F7, FB⟩ := aT56 cU HB kW
     cases uK
     go_wp2_with (first | (go_at_call 72; refine cM (fF.calls k1 _ _ ((aA aN kW).f1) _ _ l2 false _ (pB rP) rL.1 (pB EE) zZ.1 A9.out) ?_; rintro w' ⟨nd, rfl⟩))
     go_roundg k1
     case measure => have := HK1.out; omega
     case rel => exact ⟨(wrap64 (kW + 1)), dM, H', ⟨by have := HK1.out; omega⟩, ⟨rB a6.1⟩, ⟨eE⟩⟩
  ·obtain rfl := Option.some.inj H
   repeat clear H
   have La := cz2 a6
   go_wp2
   go_ret
   exact ⟨eR, eE⟩
end Go.Proofs.Ytaofjgnhapnndaa.Q
