/- Texts that the row needs: words on memory and rows, the contracts of the functions it reaches, and the plain lemmas on what they compute. -/
import Derived.Shelf.GgSortFunc.Tiny
import Derived.Test.YtaofjgnhapnndaaGreatXktak
open Go.Proofs.YtaofjgnhapnndaaGreatFkt
namespace Go.Proofs.YtaofjgnhapnndaaGreat.Q
open Go.RowKit Go.Proofs.YtaofjgnhapnndaaGreatW.PrintWords Go.Proofs.YtaofjgnhapnndaaGreatW.PrintLast Go.Proofs.YtaofjgnhapnndaaGreatW.PrintMore
set_option linter.unusedVariables false
set_option linter.unusedSimpArgs false
open Go.Shelf Go.Lib Go.Sort
theorem wD {w : World} {os : Array Obj} {k : Nat} (h : k < w.heap.size) : (Sort.grow w os).heap[k]? = w.heap[k]? := by
 unfold Sort.grow
 simp only [Array.getElem?_append, if_pos h]
set_option maxHeartbeats 4000000 in
set_option maxRecDepth 100000 in
theorem Ff {w0 w : World} {g cap gb : Nat} {P : Nat → Prop} {v0 : Value} {xs : List S52} (h : Kd.S k52 52 w w0.heap.size P (.slice (some ⟨g, 0, none⟩) xs.length cap) xs)
    (hbk : w.heap[gb]? = some (.cells #[v0, .slice (some ⟨g, 0, none⟩) xs.length cap] 26 (0, 0))) (hne : gb ≠ g) (h2 : 2 ≤ xs.length) (h12 : xs.length ≤ 12) (hB : Go.RowKit.Below w0.heap.size w0 w) :
    Calls Tryz.prog 29 #[.iface 24 (.slice (some ⟨g, 0, none⟩) xs.length cap), .func (.func 30) #[] #[.pointer (some ⟨gb, 0, none⟩)]] w fun e w' => e = .returned (.tuple #[]) ∧
      ∃ xs' : List S52, xs'.Perm xs ∧ xs'.Pairwise (fun a b => Op.bytesLess b.f0.toList a.f0.toList = false) ∧ Kd.S k52 52 w' w0.heap.size P (.slice (some ⟨g, 0, none⟩) xs.length cap) xs' ∧ Go.RowKit.Below w0.heap.size w0 w' ∧ Kept w w' (fun k => k = g) := by
 obtain ⟨hP, hb, hn, hnc, hm, cur, Z, hh, hs, hx, ht, hpw, hZ⟩ := ym h
 clear h
 have hzl : Z.length = xs.length := by rw [← hx, List.length_map]
 have hds : ((Z.map EZ.c).toArray).size = xs.length := by simp [hzl]
 have hF : (flatK encE 3 (Z.map EZ.c).toArray).toList = cur.toList.take (xs.length * 3) := by
   rw [Io, List.map_map, ht]; rfl
 have hFs : (flatK encE 3 (Z.map EZ.c).toArray).size = xs.length * 3 := by rw [size_flatK, hds]
 have hgl : g < w.heap.size := fO hh
 have hgb : gb < w.heap.size := fO hbk
 have hH : HoldsK encE 3 w g 0 (Z.map EZ.c).toArray := by
   intro j hj
   rw [hFs] at hj
   refine ⟨?_, gF hh _⟩
   rw [Nat.zero_add, bP hh j, getElem!_pos _ j (by rw [hFs]; exact hj)]
   have e : (cur.toList.take (xs.length * 3))[j]? = (flatK encE 3 (Z.map EZ.c).toArray).toList[j]? := by rw [hF]
   rw [List.getElem?_take, if_pos hj, Array.getElem?_toList, Array.getElem?_toList, Array.getElem?_eq_getElem (xs := flatK encE 3 (Z.map EZ.c).toArray) (by rw [hFs]; exact hj)] at e
   exact e
 have hless : LessReadsK Tryz.prog 30 #[.pointer (some ⟨gb, 0, none⟩)] encE 3 ltE g 0 (Z.map EZ.c).toArray.size w := by
   intro m os dk Fk i j hi hj
   rw [hds] at Fk hi hj
   have hgl2 : g < (Sort.ahead w m).heap.size := hgl
   have e : sortWorldK encE 3 w g 0 m dk os = putRowK encE 3 (Sort.grow (Sort.ahead w m) os) g 0 dk := by
     unfold sortWorldK; rw [putRowK_grow _ _ (Sort.ahead w m) _ g 0 _ hgl2]
   have hHg : HoldsK encE 3 (Sort.grow (Sort.ahead w m) os) g 0 (Z.map EZ.c).toArray := holdsK_grow _ _ _ _ g 0 _ hgl2 (holdsK_ahead _ _ _ _ _ _ _ hH)
   have hbox : (sortWorldK encE 3 w g 0 m dk os).heap[gb]? = some (.cells #[v0, .slice (some ⟨g, 0, none⟩) xs.length cap] 26 (0, 0)) := by
     unfold sortWorldK putRowK
     rw [wD (by rw [size_putRow]; exact hgb), DT hne]
     exact hbk
   refine Fa g cap gb xs.length v0 _ (fun t => dk[t]!.1) ((bP hbox 1).trans rfl) ((bP hbox 0).trans rfl) (fun t ht2 => ?_) i j hi hj (by omega)
   rw [e]
   exact ((holdsK_putRowK _ _ _ g 0 _ dk hHg (by rw [Fk, hds])).cell (i := t) (c := 0) (by omega) (by omega)).1
 have hS := Any.sort_Slice_small_cells_sorted Cc 24 52 Ip JG (by kernel_rfl) (by kernel_rfl) (by kernel_rfl) (by kernel_rfl) 25 (fun _ => by kernel_rfl) encE 3 (fun _ => rfl) (by kernel_rfl) (fun _ => by kernel_rfl)
   (fun x v hv => by simp [encE] at hv; rcases hv with rfl | rfl | rfl <;> rfl) ltE Yh 30 _
   (enters_of Tryz.func30 (by kernel_rfl) rfl) g 0 cap (Z.map EZ.c).toArray (by rw [hds]; exact h2) (by rw [hds]; exact h12) 80 (by rw [Wt _ (by rw [hds]; exact h2)]; kernel_rfl) false
   (fun args W => run_callFunc_extern Tryz.func80 (by kernel_rfl) (by kernel_rfl) (by kernel_rfl) (e := Extern.ReflectliteSwapper.swap false) (by kernel_rfl) args W) w hless hH hgl
 change Calls Tryz.prog 29 _ _ _ at hS
 rw [hds] at hS
 refine hS.mono ?_
 rintro e w' ⟨he, d', n, os, hPm, hSo, rfl⟩
 refine ⟨he, ?_⟩
 have hsz : d'.size = xs.length := hPm.1.trans hds
 have hperm : d'.toList.Perm (Z.map EZ.c) := by
   have := hPm.2.2
   rw [show d'.extract 0 xs.length = d' by rw [← hsz]; simp, show (Z.map EZ.c).toArray.extract 0 xs.length = (Z.map EZ.c).toArray by rw [← hds]; exact Array.extract_size] at this
   simpa using this
 obtain ⟨Z', hZp, hZm⟩ := VZ EZ.c hperm.symm
 have hzl' : Z'.length = xs.length := hZp.length_eq.trans hzl
 refine ⟨Z'.map EZ.x, by rw [← hx]; exact hZp.map _, ?_, ?_, ?_, ?_⟩
 ·rw [List.pairwise_map, List.pairwise_iff_getElem]
  intro i j hi hj hij
  have q := hSo i j (Nat.zero_le _) hij (by omega)
  rw [getElem!_pos d' j (by omega), getElem!_pos d' i (by omega)] at q
  have ei : d'[i]'(by omega) = Z'[i].c := by
    have : d'.toList[i]'(by rw [Array.length_toList]; omega) = (Z'.map EZ.c)[i]'(by rw [List.length_map]; exact hi) := by congr 1; exact hZm.symm
    rw [List.getElem_map] at this; rw [← this]; rfl
  have ej : d'[j]'(by omega) = Z'[j].c := by
    have : d'.toList[j]'(by rw [Array.length_toList]; omega) = (Z'.map EZ.c)[j]'(by rw [List.length_map]; exact hj) := by congr 1; exact hZm.symm
    rw [List.getElem_map] at this; rw [← this]; rfl
  rw [ei, ej] at q
  have ni := (hZ Z'[i] (hZp.subset (List.getElem_mem hi))).1
  have nj := (hZ Z'[j] (hZp.subset (List.getElem_mem hj))).1
  rw [← ni, ← nj]
  exact q
 ·have hkp : Kept w (Sort.grow (putRowK encE 3 (Sort.ahead w n) g 0 d') os) (fun k => k = g) := by
    refine ⟨?_, fun k hk hne2 => ?_⟩
    · unfold Sort.grow putRowK; simp only [Array.size_append, size_putRow]; exact Nat.le_add_right _ _
    · unfold putRowK; rw [wD (by rw [size_putRow]; exact hk), DT hne2]; rfl
  have hF' : (flatK encE 3 d').size = xs.length * 3 := by rw [size_flatK, hsz]
  have hp2 := UT (flatK encE 3 d') cur (by rw [hF', hs]; omega)
  refine yh (Z := Z') (w := w) (cur := putCells id 0 (flatK encE 3 d') cur) hP hb hzl'.symm hnc hm ?_ (hp2.2.trans hs) ?_ ((List.Perm.pairwise_iff (fun {a b} hab k h1 h2 => hab k h2 h1) hZp).2 hpw) (fun z hz => (hZ z (hZp.subset hz)).2) hkp
  ·unfold putRowK; rw [wD (by rw [size_putRow]; exact hgl)]
   exact Cr (w := Sort.ahead w n) hh
  rw [← hF', hp2.1]
  have e3 : d' = (Z'.map EZ.c).toArray := by rw [hZm]
  rw [e3, Io, List.map_map]; rfl
 ·refine ⟨hB.os, hB.tape, hB.output, ?_, fun k hk => ?_⟩
  ·unfold Sort.grow putRowK; simp only [Array.size_append, size_putRow]; exact Nat.le_trans hB.size (Nat.le_add_right _ _)
  have hk2 : k < w.heap.size := Nat.lt_of_lt_of_le hk hB.size
  unfold putRowK; rw [wD (by rw [size_putRow]; exact hk2), DT (by omega)]
  exact hB.block k hk
 refine ⟨?_, fun k hk hne2 => ?_⟩
 ·unfold Sort.grow putRowK; simp only [Array.size_append, size_putRow]; exact Nat.le_add_right _ _
 unfold putRowK; rw [wD (by rw [size_putRow]; exact hk), DT hne2]; rfl
theorem below_grow (w : World) (os : Array Obj) : Go.RowKit.Below w.heap.size w (Sort.grow w os) :=
  ⟨rfl, rfl, rfl, by unfold Sort.grow; simp only [Array.size_append]; exact Nat.le_add_right _ _, fun k hk => wD hk⟩
theorem Ri : Lib.swapperK 1 JG 25 = 2 := by simp [Lib.swapperK]
set_option maxRecDepth 100000 in
theorem TD {w0 w : World} {g cap gb : Nat} {P : Nat → Prop} {v0 : Value} {xs : List S52} (h : Kd.S k52 52 w w0.heap.size P (.slice (some ⟨g, 0, none⟩) xs.length cap) xs)
  (hbk : w.heap[gb]? = some (.cells #[v0, .slice (some ⟨g, 0, none⟩) xs.length cap] 26 (0, 0))) (hne : gb ≠ g) (h1 : 1 ≤ xs.length) (h12 : xs.length ≤ 12) (hB : Go.RowKit.Below w0.heap.size w0 w) :
  Calls Tryz.prog 29 #[.iface 24 (.slice (some ⟨g, 0, none⟩) xs.length cap), .func (.func 30) #[] #[.pointer (some ⟨gb, 0, none⟩)]] w fun e w' => e = .returned (.tuple #[]) ∧
   ∃ xs' : List S52, xs'.Perm xs ∧ xs'.Pairwise (fun a b => Op.bytesLess b.f0.toList a.f0.toList = false) ∧ Kd.S k52 52 w' w0.heap.size P (.slice (some ⟨g, 0, none⟩) xs.length cap) xs' ∧ Go.RowKit.Below w0.heap.size w0 w' ∧ Kept w w' (fun k => k = g) := by
 by_cases h2 : 2 ≤ xs.length
 ·exact Ff h hbk hne h2 h12 hB
 have e1 : xs.length = 1 := by omega
 have hS := Any.sort_Slice_tiny Cc 24 52 Ip JG (by kernel_rfl) (by kernel_rfl) (by kernel_rfl) (by kernel_rfl) 25 (fun _ => by kernel_rfl) (some ⟨g, 0, none⟩) xs.length cap (by omega) 73 (by rw [e1, Ri]; kernel_rfl) (.func 30) #[] #[.pointer (some ⟨gb, 0, none⟩)] w
 change Calls Tryz.prog 29 _ _ _ at hS
 refine hS.mono ?_
 rintro e w' ⟨he, os, rfl⟩
 have hb := below_grow w os
 refine ⟨he, xs, List.Perm.refl _, ?_, Kd.wB h hb, jB hB hb, Kept.of_below hb _⟩
 exact List.pairwise_iff_getElem.2 (fun i j hi hj hij => absurd hij (by omega))
def insK (l : List S52) (n : ByteArray) : Nat := (l.takeWhile fun b => Op.bytesLess b.f0.toList n.toList).length
def insB (l : List S52) (x : S52) : List S52 := l.take (insK l x.f0) ++ x :: l.drop (insK l x.f0)
theorem Lv (l : List S52) (x : S52) : (insB l x).Perm (l ++ [x]) := by
 unfold insB
 refine List.perm_middle.trans ?_
 rw [List.take_append_drop]
 exact (List.perm_append_comm (l₁ := [x]) (l₂ := l))
def Asc (l : List S52) : Prop := l.Pairwise fun a b => Op.bytesLess a.f0.toList b.f0.toList = true
theorem QI {a b : List UInt8} (h : Op.bytesLess a b = true) : Op.bytesLess b a = false := by
 rw [bytesLess_eq, decide_eq_true_eq] at h
 rw [bytesLess_eq, decide_eq_false_iff_not]
 exact fun h2 => List.lt_irrefl _ (List.lt_trans h h2)
theorem Ef {l t : List S52} (hp : l.Perm t) (hl : l.Pairwise fun a b => Op.bytesLess b.f0.toList a.f0.toList = false) (ht : Asc t) : l = t := by
 have ht2 : t.Pairwise fun a b => Op.bytesLess b.f0.toList a.f0.toList = false := ht.imp fun h => QI h
 have hall : ∀ a ∈ t, ∀ b ∈ t, a = b ∨ Op.bytesLess a.f0.toList b.f0.toList = true ∨ Op.bytesLess b.f0.toList a.f0.toList = true := by
  intro a ha b hb
  obtain ⟨i, hi, rfl⟩ := List.getElem_of_mem ha
  obtain ⟨j, hj, rfl⟩ := List.getElem_of_mem hb
  have hpw := List.pairwise_iff_getElem.1 ht
  rcases Nat.lt_trichotomy i j with h | h | h
  ·exact Or.inr (Or.inl (hpw i j hi hj h))
  ·subst h; exact Or.inl rfl
  ·exact Or.inr (Or.inr (hpw j i hj hi h))
 refine List.Perm.eq_of_pairwise (le := fun a b => Op.bytesLess b.f0.toList a.f0.toList = false) (fun a b ha hb h1 h2 => ?_) hl ht2 hp
 rcases hall a (hp.subset ha) b hb with h | h | h
 ·exact h
 ·rw [h] at h2; cases h2
 rw [h] at h1; cases h1
theorem BkS.far {w0 W : World} {lo hi g j t : Nat} {v0 v1 u : Value} {l0 : List ByteArray} {l1 : List S52} {cs : Array Value} (h : BkS w0 W lo hi v0 v1 l0 l1) (hb : W.heap[g]? = some (.cells cs t (0, 0))) (ht : t ≠ 9 ∧ t ≠ 52) : BkS w0 (W.setCell ⟨g, j, none⟩ u) lo hi v0 v1 l0 l1 := by
 have hk : Kept W (W.setCell ⟨g, j, none⟩ u) (fun k => k = g) := Kept.setCell (p := ⟨g, j, none⟩) (Kept.refl W (fun k => k = g)) (Or.inl rfl) u
 refine ⟨Kd.aT (Kd.C8 (Kd.sW h.1) hk (fun k hk2 e => ?_)) (fun k hk2 => hk2.1), Kd.gX (Kd.Ec (Kd.lG h.2) hk (fun k hk2 e => ?_)) (fun k hk2 => hk2.1)⟩
 ·obtain ⟨_, _, _, q, hq, cells, hc⟩ := hk2
  subst e
  rw [hb] at hc; injection hc with hc; injection hc with _ e _; subst e
  have hq2 : t ∈ [9] := hq
  exact ht.1 (by simpa using hq2)
 obtain ⟨_, _, _, q, hq, cells, hc⟩ := hk2
 subst e
 rw [hb] at hc; injection hc with hc; injection hc with _ e _; subst e
 have hq2 : t ∈ [52, 9, 9] := hq
 simp at hq2
 exact hq2.elim ht.2 ht.1
theorem BkS.appM {w0 W : World} {lo hi lo2 dv : Nat} {v0 v1 vn : Value} {l0 nd : List ByteArray} {l1 : List S52} (a1 : ByteArray) (h : BkS w0 W lo hi v0 v1 l0 l1) (hv : RwS w0 W lo2 dv vn nd) (hle : hi ≤ lo2) (hlo : lo ≤ hi) (hW : hi ≤ W.heap.size) :
  k52.M W w0.heap.size (fun k => some k = vn.ownBlock) (⟨a1, [], nd⟩ : S52) [.string a1, .slice none 0 0, vn] ∧ (∀ k, some k = vn.ownBlock → (lo ≤ k ∧ some k ≠ v0.ownBlock) ∧ some k ≠ v1.ownBlock) ∧ (∀ k, W.heap.size ≤ k → lo ≤ k ∧ some k ≠ v0.ownBlock) ∧
   Kd.S k52 52 W w0.heap.size (fun k => (lo ≤ k ∧ some k ≠ v0.ownBlock) ∧ ¬ some k = vn.ownBlock) v1 l1 := by
 refine ⟨DR _ _ _ ⟨a1, [], nd⟩ (Kd.sP _ _ _ _ _) (Kd.nA rfl hv), fun k e => ?_, fun k e => ⟨by omega, fun e2 => ?_⟩, Kd.gX h.2 (fun k e => ⟨⟨e.1.1, e.2⟩, fun e2 => ?_⟩)⟩
 ·have q := hv.1 k e.symm
  refine ⟨⟨by omega, fun e2 => ?_⟩, fun e2 => ?_⟩
  ·have := h.1.1 k e2.symm; omega
  have := ((Kd.S_R h.2).1 k e2.symm).1; omega
 ·have := h.1.1 k e2.symm; omega
 have := hv.1 k e2.symm; omega
theorem BkS.appB {w0 W W2 : World} {lo hi : Nat} {v0 v1 v2 : Value} {l0 : List ByteArray} {l1 l2 : List S52} (h : BkS w0 W lo hi v0 v1 l0 l1) (hs : Kd.S k52 52 W2 w0.heap.size (fun k => lo ≤ k ∧ some k ≠ v0.ownBlock) v2 l2) (hk : Kept W W2 (fun k => some k = v1.ownBlock)) (hW : hi ≤ W2.heap.size) : BkS w0 W2 lo W2.heap.size v0 v2 l0 l2 := by
 refine ⟨Kd.aT (Kd.C8 (Kd.nA rfl h.1) hk (fun k e e2 => ((Kd.S_R h.2).1 k e2.symm).2 e)) (fun k e => ?_), Kd.gX (Kd.lG hs) (fun k e => ⟨⟨e.1.1, e.2.2.1⟩, e.1.2⟩)⟩
 have := h.1.1 k e.symm; omega
theorem BkS.sorted {w0 W W2 : World} {lo hi g n c : Nat} {v0 : Value} {l0 : List ByteArray} {l1 l2 : List S52} (h : BkS w0 W lo hi v0 (.slice (some ⟨g, 0, none⟩) n c) l0 l1) (hs : Kd.S k52 52 W2 w0.heap.size (fun k => (lo ≤ k ∧ k < hi) ∧ some k ≠ v0.ownBlock) (.slice (some ⟨g, 0, none⟩) n c) l2) (hk : Kept W W2 (fun k => k = g)) : BkS w0 W2 lo hi v0 (.slice (some ⟨g, 0, none⟩) n c) l0 l2 :=
 ⟨Kd.aT (Kd.C8 (Kd.nA rfl h.1) hk (fun k e e2 => ((Kd.S_R h.2).1 g rfl).2 (by rw [← e2]; exact e))) (fun k e => h.1.1 k e.symm), hs⟩
open Classical in
noncomputable def p8.f (k : Nat) (l0 : List ByteArray) (l1 : List S52) (a1 : ByteArray) (l2 : List ByteArray) : Option (List ByteArray × List S52 × Int) :=
 (aM.f k l0 l1).bind fun ok => if ok = true then (dM.f k l0 l1).bind fun c => (dX.f k a1).bind fun nm => if nm = true then (iC.f k l2 l0).bind fun q => if q = true then (gH.f l0 l1 a1).bind fun i => if 0 ≤ i then some (c.1, c.2, 3) else if l1.length = 5 then some (c.1, c.2, 4) else (dW.f l2).bind fun nd => if c.2.length ≤ 11 ∧ Asc (insB c.2 ⟨a1, [], nd⟩) then some (c.1, insB c.2 ⟨a1, [], nd⟩, 0) else none else some (c.1, c.2, 2) else some (c.1, c.2, 2) else some ([], [], 1)
set_option maxHeartbeats 8000000 in
set_option maxRecDepth 100000 in
theorem p8.calls (k : Nat) (eE : Option Addr) (eF : Nat) (l0 : List ByteArray) (eV : Option Addr) (eC : Nat) (l1 : List S52) (a1 : ByteArray) (A2 : Option Addr) (c2 : Nat) (l2 : List ByteArray) (r1 : List ByteArray) (r2 : List S52) (r3 : Int) (w : World) (gP : Kd.C Kd.string w eE l0.length l0) (gN : l0.length ≤ eF) (gK : Kd.C k52 w eV l1.length l1) (gO : l1.length ≤ eC) (Q7 : Kd.C Kd.string w A2 l2.length l2) (MA : l2.length ≤ c2) (h : p8.f k l0 l1 a1 l2 = some (r1, r2, r3)) :
  Calls Tryz.prog 5 #[.agg #[.slice eE l0.length eF, .slice eV l1.length eC], .string a1, .slice A2 l2.length c2] w fun e w' => ∃ v0_ v1_ : Value, e = .returned (.tuple #[.agg #[v0_, v1_], .int .i64 r3]) ∧ Kd.R Kd.string 9 w' w.heap.size (fun _ => True) v0_ r1 ∧ Kd.S k52 52 w' w.heap.size (fun k_ => some k_ ≠ (v0_ : Value).ownBlock) v1_ r2 ∧ Below w.heap.size w w' := by
 have hu31 := Tryz.underlying26
 have hu56 := Tryz.underlying52
 obtain ⟨dT, dS⟩ := mZ2 gP gN
 obtain ⟨bV, eS⟩ := mZ2 gK gO
 obtain ⟨B0, yN⟩ := mZ2 Q7 MA
 clear gP gN gK gO Q7 MA
 have HB := am (Below.refl w.heap.size w); have NN := am trivial
 unfold p8.f at h
 have H := h
 clear h
 obtain ⟨ok, D1, H⟩ := bd H
 by_cases c1 : ok = false
 ·subst c1
  rw [if_neg (by simp)] at H
  obtain ⟨rfl, rfl, rfl⟩ := sZ3 H
  repeat clear H
  go_enter Tryz.func5, Tryz.ntmps5
  go_wp2_with (first | ((with_reducible refine gD 3 ?_); refine bX 3 #[.slice eE l0.length eF, .slice eV l1.length eC] 26 ?_; intro sJ hg_ W1 hbox hb; have hk_ : Kept w W1 (fun _ => False) := Kept.noth hb; replace NN := nn NN (show w.heap.size ≤ W1.heap.size from hk_.1); have Vf := am (show w.heap.size ≤ sJ from Nat.le_trans HB.1.size (Nat.le_of_eq hg_.symm)); replace NN := nn NN (show w.heap.size ≤ sJ from Nat.le_of_eq hg_.symm); replace NN := nn NN (show sJ < W1.heap.size from fO hbox); replace HB := bS HB.1 hb; have iH := am hbox; clear hb hbox hg_ hk_; (try clear Z3); have Z3 := cz2 iH) | ((with_reducible refine gD 6 ?_); refine bX 6 #[.slice none 0 0, .slice none 0 0] 26 ?_; intro mH hg_ W2 hbox hb; have hk_ : Kept W1 W2 (fun _ => False) := Kept.noth hb; replace NN := nn NN (show W1.heap.size ≤ W2.heap.size from hk_.1); have DB := am (show w.heap.size ≤ mH from Nat.le_trans HB.1.size (Nat.le_of_eq hg_.symm)); replace NN := nn NN (show W1.heap.size ≤ mH from Nat.le_of_eq hg_.symm); replace NN := nn NN (show mH < W2.heap.size from fO hbox); replace iH := kB iH hk_; replace HB := bS HB.1 hb; have iR := am hbox; clear hb hbox hg_ hk_; have nb6_3 : mH ≠ sJ := (by have := NN.1;  omega); have nb3_6 : sJ ≠ mH := (by have := NN.1;  omega); (try clear Z6); have Z6 := cz2 iR; (try clear Z3); have Z3 := cz2 iH) | ((with_reducible refine gC 14 ?_); refine cQ (some 10) Tryz.func14 (aM.calls k _ _ l0 _ _ l1 false _ (Kd.aU dT.1 HB.1) dS.1 (Kd.aU bV.1 HB.1) eS.1 D1.1) ?_; rintro W3 hb; have HB0 := am (show w.heap.size ≤ W2.heap.size from HB.1.size); have hk_ : Kept W2 W3 (fun _ => False) := Kept.noth hb; replace NN := nn NN (show W2.heap.size ≤ W3.heap.size from hk_.1); replace iH := kB iH hk_; replace iR := kB iR hk_; replace HB := bS HB.1 hb; clear hb hk_; (try clear Z3); have Z3 := cz2 iH; (try clear Z6); have Z6 := cz2 iR; clear HB0))
  (try simp only [Exit.inBlock, Exit.then]); refine cT mH 26 #[.slice none 0 0, .slice none 0 0] (cO (cs := #[.slice none 0 0, .slice none 0 0]) (cO (cs := #[.slice none 0 0, .slice none 0 0]) (iR.1) 0 _ rfl) 1 _ rfl) Tryz.underlying26 ?_
  exact ⟨_, _, rfl, Kd.sP _ _ _ _ _, Kd.wU _ _ _ _ _, aK (aK HB.1 DB.1) DB.1⟩
 have c1 : ok = true := by simpa using c1
 rw [if_pos c1] at H
 subst c1
 obtain ⟨⟨c1a, c1b⟩, D2, H⟩ := bd H
 obtain ⟨nm, D3, H⟩ := bd H
 dsimp only at H
 by_cases cn : nm = false
 ·subst cn
  rw [if_neg (by simp)] at H
  obtain ⟨rfl, rfl, rfl⟩ := sZ3 H
  repeat clear H
  go_enter Tryz.func5, Tryz.ntmps5
  go_wp2_with (first | ((with_reducible refine gD 3 ?_); refine bX 3 #[.slice eE l0.length eF, .slice eV l1.length eC] 26 ?_; intro sJ hg_ W1 hbox hb; have hk_ : Kept w W1 (fun _ => False) := Kept.noth hb; replace NN := nn NN (show w.heap.size ≤ W1.heap.size from hk_.1); have Vf := am (show w.heap.size ≤ sJ from Nat.le_trans HB.1.size (Nat.le_of_eq hg_.symm)); replace NN := nn NN (show w.heap.size ≤ sJ from Nat.le_of_eq hg_.symm); replace NN := nn NN (show sJ < W1.heap.size from fO hbox); replace HB := bS HB.1 hb; have iH := am hbox; clear hb hbox hg_ hk_; (try clear Z3); have Z3 := cz2 iH) | ((with_reducible refine gD 6 ?_); refine bX 6 #[.slice none 0 0, .slice none 0 0] 26 ?_; intro mH hg_ W2 hbox hb; have hk_ : Kept W1 W2 (fun _ => False) := Kept.noth hb; replace NN := nn NN (show W1.heap.size ≤ W2.heap.size from hk_.1); have DB := am (show w.heap.size ≤ mH from Nat.le_trans HB.1.size (Nat.le_of_eq hg_.symm)); replace NN := nn NN (show W1.heap.size ≤ mH from Nat.le_of_eq hg_.symm); replace NN := nn NN (show mH < W2.heap.size from fO hbox); replace iH := kB iH hk_; replace HB := bS HB.1 hb; have iR := am hbox; clear hb hbox hg_ hk_; have nb6_3 : mH ≠ sJ := (by have := NN.1;  omega); have nb3_6 : sJ ≠ mH := (by have := NN.1;  omega); (try clear Z6); have Z6 := cz2 iR; (try clear Z3); have Z3 := cz2 iH) | ((with_reducible refine gC 14 ?_); refine cQ (some 10) Tryz.func14 (aM.calls k _ _ l0 _ _ l1 true _ (Kd.aU dT.1 HB.1) dS.1 (Kd.aU bV.1 HB.1) eS.1 D1.1) ?_; rintro W3 hb; have HB0 := am (show w.heap.size ≤ W2.heap.size from HB.1.size); have hk_ : Kept W2 W3 (fun _ => False) := Kept.noth hb; replace NN := nn NN (show W2.heap.size ≤ W3.heap.size from hk_.1); replace iH := kB iH hk_; replace iR := kB iR hk_; replace HB := bS HB.1 hb; clear hb hk_; (try clear Z3); have Z3 := cz2 iH; (try clear Z6); have Z6 := cz2 iR; clear HB0) | ((with_reducible refine gC 24 ?_); refine cE (some 14) Tryz.func24 (dM.calls k _ _ l0 _ _ l1 c1a c1b _ (Kd.aU dT.1 HB.1) dS.1 (Kd.aU bV.1 HB.1) eS.1 D2.1) ?_; rintro e_ W4 ⟨_, _, rfl, eH, lW, hb⟩; refine ⟨_, rfl, ?_⟩; have HB0 := am (show w.heap.size ≤ W3.heap.size from HB.1.size); have hk_ : Kept W3 W4 (fun _ => False) := Kept.noth hb; replace NN := nn NN (show W3.heap.size ≤ W4.heap.size from hk_.1); replace iH := kB iH hk_; replace iR := kB iR hk_; replace HB := bS HB.1 hb; have KC := am (BkS.made (n := W3.heap.size) eH lW (HB0.out) (Nat.le_refl _)); clear eH lW; obtain ⟨Ac0, cc0, Ac1, cc1, e0_, e1_⟩ := KC.out.slices; subst e0_; subst e1_; clear hb hk_; (try clear Z3); have Z3 := cz2 iH; (try clear Z6); have Z6 := cz2 iR; clear HB0) | ((with_reducible refine gD 8 ?_); refine bX 8 #[.slice none 0 0, .slice none 0 0] 26 ?_; intro mN hg_ W5 hbox hb; have hk_ : Kept W4 W5 (fun _ => False) := Kept.noth hb; replace NN := nn NN (show W4.heap.size ≤ W5.heap.size from hk_.1); have H7 := am (show w.heap.size ≤ mN from Nat.le_trans HB.1.size (Nat.le_of_eq hg_.symm)); replace NN := nn NN (show W4.heap.size ≤ mN from Nat.le_of_eq hg_.symm); replace NN := nn NN (show mN < W5.heap.size from fO hbox); replace KC := am (BkS.kept KC.out hk_ (fun _ _ _ h => h)); replace iH := kB iH hk_; replace iR := kB iR hk_; replace HB := bS HB.1 hb; have mW := am hbox; clear hb hbox hg_ hk_; have nb8_3 : mN ≠ sJ := (by have := NN.1;  omega); have nb3_8 : sJ ≠ mN := (by have := NN.1;  omega); have nb8_6 : mN ≠ mH := (by have := NN.1;  omega); have nb6_8 : mH ≠ mN := (by have := NN.1;  omega); (try clear Z8); have Z8 := cz2 mW; (try clear Z3); have Z3 := cz2 iH; (try clear Z6); have Z6 := cz2 iR) | ((with_reducible refine gC 25 ?_); refine cQ (some 17) Tryz.func25 (dX.calls k a1 false _ D3.1) ?_; rintro W6 hb; obtain ⟨nd_, hd_⟩ := hb; have hb : Below ((W5.setCell ⟨mN, 0, none⟩ (.slice Ac0 c1a.length cc0)).setCell ⟨mN, 1, none⟩ (.slice Ac1 c1b.length cc1)).heap.size ((W5.setCell ⟨mN, 0, none⟩ (.slice Ac0 c1a.length cc0)).setCell ⟨mN, 1, none⟩ (.slice Ac1 c1b.length cc1)) W6 := hd_ ▸ bA (Below.refl _ _) nd_; clear hd_ nd_; have HB0 := am (show w.heap.size ≤ W5.heap.size from HB.1.size); have hk_ : Kept W5 W6 (fun k => k = mN) := (Kept.two (w := W5) (g := mN) 0 1 (.slice Ac0 c1a.length cc0) (.slice Ac1 c1b.length cc1)).below hb; replace NN := nn NN (show W5.heap.size ≤ W6.heap.size from hk_.1); replace KC := am (BkS.kept KC.out hk_ (fun k_ h1_ h2_ e_ => by have := NN.1;  omega)); replace iH := am (eB iH.1 hk_ (fun e_ => by have := NN.1;  omega)); replace iR := am (eB iR.1 hk_ (fun e_ => by have := NN.1;  omega)); replace mW := am (aX (g := mN) (o := .cells #[.slice Ac0 c1a.length cc0, .slice Ac1 c1b.length cc1] 26 (0, 0)) (cO (cs := #[.slice Ac0 c1a.length cc0, .slice none 0 0]) (cO (cs := #[.slice none 0 0, .slice none 0 0]) mW.1 0 _ rfl) 1 _ rfl) hb); replace HB := am (jB (aK (aK HB.1 H7.1) H7.1) hb); clear hb hk_; (try clear Z8); have Z8 := cz2 mW; (try clear Z6); have Z6 := cz2 iR; clear HB0))
  (try simp only [Exit.inBlock, Exit.then]); refine cT mH 26 #[.slice Ac0 c1a.length cc0, .slice Ac1 c1b.length cc1] (cO (cs := #[.slice Ac0 c1a.length cc0, .slice none 0 0]) (cO (cs := #[.slice none 0 0, .slice none 0 0]) (iR.1) 0 _ rfl) 1 _ rfl) Tryz.underlying26 ?_
  have hK_ := BkS.kept KC.out (Kept.two (w := W6) (g := mH) 0 1 (.slice Ac0 c1a.length cc0) (.slice Ac1 c1b.length cc1)) (fun k_ h1_ h2_ e_ => by have := NN.1;  omega)
  exact ⟨_, _, rfl, Kd.aT hK_.1 (fun _ _ => trivial), Kd.gX hK_.2 (fun _ h_ => h_.2), aK (aK HB.1 DB.1) DB.1⟩
 have cn : nm = true := by simpa using cn
 rw [if_pos cn] at H
 subst cn
 obtain ⟨q, D4, H⟩ := bd H
 by_cases cq : q = false
 ·subst cq
  rw [if_neg (by simp)] at H
  obtain ⟨rfl, rfl, rfl⟩ := sZ3 H
  repeat clear H
  go_enter Tryz.func5, Tryz.ntmps5
  go_wp2_with (first | ((with_reducible refine gD 3 ?_); refine bX 3 #[.slice eE l0.length eF, .slice eV l1.length eC] 26 ?_; intro sJ hg_ W1 hbox hb; have hk_ : Kept w W1 (fun _ => False) := Kept.noth hb; replace NN := nn NN (show w.heap.size ≤ W1.heap.size from hk_.1); have Vf := am (show w.heap.size ≤ sJ from Nat.le_trans HB.1.size (Nat.le_of_eq hg_.symm)); replace NN := nn NN (show w.heap.size ≤ sJ from Nat.le_of_eq hg_.symm); replace NN := nn NN (show sJ < W1.heap.size from fO hbox); replace HB := bS HB.1 hb; have iH := am hbox; clear hb hbox hg_ hk_; (try clear Z3); have Z3 := cz2 iH) | ((with_reducible refine gD 6 ?_); refine bX 6 #[.slice none 0 0, .slice none 0 0] 26 ?_; intro mH hg_ W2 hbox hb; have hk_ : Kept W1 W2 (fun _ => False) := Kept.noth hb; replace NN := nn NN (show W1.heap.size ≤ W2.heap.size from hk_.1); have DB := am (show w.heap.size ≤ mH from Nat.le_trans HB.1.size (Nat.le_of_eq hg_.symm)); replace NN := nn NN (show W1.heap.size ≤ mH from Nat.le_of_eq hg_.symm); replace NN := nn NN (show mH < W2.heap.size from fO hbox); replace iH := kB iH hk_; replace HB := bS HB.1 hb; have iR := am hbox; clear hb hbox hg_ hk_; have nb6_3 : mH ≠ sJ := (by have := NN.1;  omega); have nb3_6 : sJ ≠ mH := (by have := NN.1;  omega); (try clear Z6); have Z6 := cz2 iR; (try clear Z3); have Z3 := cz2 iH) | ((with_reducible refine gC 14 ?_); refine cQ (some 10) Tryz.func14 (aM.calls k _ _ l0 _ _ l1 true _ (Kd.aU dT.1 HB.1) dS.1 (Kd.aU bV.1 HB.1) eS.1 D1.1) ?_; rintro W3 hb; have HB0 := am (show w.heap.size ≤ W2.heap.size from HB.1.size); have hk_ : Kept W2 W3 (fun _ => False) := Kept.noth hb; replace NN := nn NN (show W2.heap.size ≤ W3.heap.size from hk_.1); replace iH := kB iH hk_; replace iR := kB iR hk_; replace HB := bS HB.1 hb; clear hb hk_; (try clear Z3); have Z3 := cz2 iH; (try clear Z6); have Z6 := cz2 iR; clear HB0) | ((with_reducible refine gC 24 ?_); refine cE (some 14) Tryz.func24 (dM.calls k _ _ l0 _ _ l1 c1a c1b _ (Kd.aU dT.1 HB.1) dS.1 (Kd.aU bV.1 HB.1) eS.1 D2.1) ?_; rintro e_ W4 ⟨_, _, rfl, eH, lW, hb⟩; refine ⟨_, rfl, ?_⟩; have HB0 := am (show w.heap.size ≤ W3.heap.size from HB.1.size); have hk_ : Kept W3 W4 (fun _ => False) := Kept.noth hb; replace NN := nn NN (show W3.heap.size ≤ W4.heap.size from hk_.1); replace iH := kB iH hk_; replace iR := kB iR hk_; replace HB := bS HB.1 hb; have KC := am (BkS.made (n := W3.heap.size) eH lW (HB0.out) (Nat.le_refl _)); clear eH lW; obtain ⟨Ac0, cc0, Ac1, cc1, e0_, e1_⟩ := KC.out.slices; subst e0_; subst e1_; clear hb hk_; (try clear Z3); have Z3 := cz2 iH; (try clear Z6); have Z6 := cz2 iR; clear HB0) | ((with_reducible refine gD 8 ?_); refine bX 8 #[.slice none 0 0, .slice none 0 0] 26 ?_; intro mN hg_ W5 hbox hb; have hk_ : Kept W4 W5 (fun _ => False) := Kept.noth hb; replace NN := nn NN (show W4.heap.size ≤ W5.heap.size from hk_.1); have H7 := am (show w.heap.size ≤ mN from Nat.le_trans HB.1.size (Nat.le_of_eq hg_.symm)); replace NN := nn NN (show W4.heap.size ≤ mN from Nat.le_of_eq hg_.symm); replace NN := nn NN (show mN < W5.heap.size from fO hbox); replace KC := am (BkS.kept KC.out hk_ (fun _ _ _ h => h)); replace iH := kB iH hk_; replace iR := kB iR hk_; replace HB := bS HB.1 hb; have mW := am hbox; clear hb hbox hg_ hk_; have nb8_3 : mN ≠ sJ := (by have := NN.1;  omega); have nb3_8 : sJ ≠ mN := (by have := NN.1;  omega); have nb8_6 : mN ≠ mH := (by have := NN.1;  omega); have nb6_8 : mH ≠ mN := (by have := NN.1;  omega); (try clear Z8); have Z8 := cz2 mW; (try clear Z3); have Z3 := cz2 iH; (try clear Z6); have Z6 := cz2 iR) | ((with_reducible refine gC 25 ?_); refine cQ (some 17) Tryz.func25 (dX.calls k a1 true _ D3.1) ?_; rintro W6 hb; obtain ⟨nd_, hd_⟩ := hb; have hb : Below ((W5.setCell ⟨mN, 0, none⟩ (.slice Ac0 c1a.length cc0)).setCell ⟨mN, 1, none⟩ (.slice Ac1 c1b.length cc1)).heap.size ((W5.setCell ⟨mN, 0, none⟩ (.slice Ac0 c1a.length cc0)).setCell ⟨mN, 1, none⟩ (.slice Ac1 c1b.length cc1)) W6 := hd_ ▸ bA (Below.refl _ _) nd_; clear hd_ nd_; have HB0 := am (show w.heap.size ≤ W5.heap.size from HB.1.size); have hk_ : Kept W5 W6 (fun k => k = mN) := (Kept.two (w := W5) (g := mN) 0 1 (.slice Ac0 c1a.length cc0) (.slice Ac1 c1b.length cc1)).below hb; replace NN := nn NN (show W5.heap.size ≤ W6.heap.size from hk_.1); replace KC := am (BkS.kept KC.out hk_ (fun k_ h1_ h2_ e_ => by have := NN.1;  omega)); replace iH := am (eB iH.1 hk_ (fun e_ => by have := NN.1;  omega)); replace iR := am (eB iR.1 hk_ (fun e_ => by have := NN.1;  omega)); replace mW := am (aX (g := mN) (o := .cells #[.slice Ac0 c1a.length cc0, .slice Ac1 c1b.length cc1] 26 (0, 0)) (cO (cs := #[.slice Ac0 c1a.length cc0, .slice none 0 0]) (cO (cs := #[.slice none 0 0, .slice none 0 0]) mW.1 0 _ rfl) 1 _ rfl) hb); replace HB := am (jB (aK (aK HB.1 H7.1) H7.1) hb); clear hb hk_; (try clear Z3); have Z3 := cz2 iH; (try clear Z8); have Z8 := cz2 mW; (try clear Z6); have Z6 := cz2 iR; clear HB0) | (go_at_call 26; refine cM (iC.calls k _ _ l2 _ _ l0 false _ (Kd.aU B0.1 HB.1) yN.1 (Kd.aU dT.1 HB.1) dS.1 D4.1) ?_; rintro W7 hb; obtain ⟨nd_, hd_⟩ := hb; have hb : Below W6.heap.size W6 W7 := hd_ ▸ bA (Below.refl _ _) nd_; clear hd_ nd_; have HB0 := am (show w.heap.size ≤ W6.heap.size from HB.1.size); have hk_ : Kept W6 W7 (fun _ => False) := Kept.noth hb; replace NN := nn NN (show W6.heap.size ≤ W7.heap.size from hk_.1); replace KC := am (BkS.kept KC.out hk_ (fun _ _ _ h => h)); replace iH := kB iH hk_; replace iR := kB iR hk_; replace mW := kB mW hk_; replace HB := bS HB.1 hb; clear hb hk_; (try clear Z8); have Z8 := cz2 mW; (try clear Z6); have Z6 := cz2 iR; clear HB0))
  (try simp only [Exit.inBlock, Exit.then]); refine cT mH 26 #[.slice Ac0 c1a.length cc0, .slice Ac1 c1b.length cc1] (cO (cs := #[.slice Ac0 c1a.length cc0, .slice none 0 0]) (cO (cs := #[.slice none 0 0, .slice none 0 0]) (iR.1) 0 _ rfl) 1 _ rfl) Tryz.underlying26 ?_
  have hK_ := BkS.kept KC.out (Kept.two (w := W7) (g := mH) 0 1 (.slice Ac0 c1a.length cc0) (.slice Ac1 c1b.length cc1)) (fun k_ h1_ h2_ e_ => by have := NN.1;  omega)
  exact ⟨_, _, rfl, Kd.aT hK_.1 (fun _ _ => trivial), Kd.gX hK_.2 (fun _ h_ => h_.2), aK (aK HB.1 DB.1) DB.1⟩
 have cq : q = true := by simpa using cq
 rw [if_pos cq] at H
 subst cq
 obtain ⟨i, D5, H⟩ := bd H
 by_cases ci : 0 ≤ i
 ·rw [if_pos ci] at H
  have ci0 : decide (0 ≤ i) = true := decide_eq_true ci
  have ci1 : decide (i < 0) = false := decide_eq_false (by omega)
  obtain ⟨rfl, rfl, rfl⟩ := sZ3 H
  repeat clear H
  go_enter Tryz.func5, Tryz.ntmps5
  go_wp2_with (first | ((with_reducible refine gD 3 ?_); refine bX 3 #[.slice eE l0.length eF, .slice eV l1.length eC] 26 ?_; intro sJ hg_ W1 hbox hb; have hk_ : Kept w W1 (fun _ => False) := Kept.noth hb; replace NN := nn NN (show w.heap.size ≤ W1.heap.size from hk_.1); have Vf := am (show w.heap.size ≤ sJ from Nat.le_trans HB.1.size (Nat.le_of_eq hg_.symm)); replace NN := nn NN (show w.heap.size ≤ sJ from Nat.le_of_eq hg_.symm); replace NN := nn NN (show sJ < W1.heap.size from fO hbox); replace HB := bS HB.1 hb; have iH := am hbox; clear hb hbox hg_ hk_; (try clear Z3); have Z3 := cz2 iH) | ((with_reducible refine gD 6 ?_); refine bX 6 #[.slice none 0 0, .slice none 0 0] 26 ?_; intro mH hg_ W2 hbox hb; have hk_ : Kept W1 W2 (fun _ => False) := Kept.noth hb; replace NN := nn NN (show W1.heap.size ≤ W2.heap.size from hk_.1); have DB := am (show w.heap.size ≤ mH from Nat.le_trans HB.1.size (Nat.le_of_eq hg_.symm)); replace NN := nn NN (show W1.heap.size ≤ mH from Nat.le_of_eq hg_.symm); replace NN := nn NN (show mH < W2.heap.size from fO hbox); replace iH := kB iH hk_; replace HB := bS HB.1 hb; have iR := am hbox; clear hb hbox hg_ hk_; have nb6_3 : mH ≠ sJ := (by have := NN.1;  omega); have nb3_6 : sJ ≠ mH := (by have := NN.1;  omega); (try clear Z6); have Z6 := cz2 iR; (try clear Z3); have Z3 := cz2 iH) | ((with_reducible refine gC 14 ?_); refine cQ (some 10) Tryz.func14 (aM.calls k _ _ l0 _ _ l1 true _ (Kd.aU dT.1 HB.1) dS.1 (Kd.aU bV.1 HB.1) eS.1 D1.1) ?_; rintro W3 hb; have HB0 := am (show w.heap.size ≤ W2.heap.size from HB.1.size); have hk_ : Kept W2 W3 (fun _ => False) := Kept.noth hb; replace NN := nn NN (show W2.heap.size ≤ W3.heap.size from hk_.1); replace iH := kB iH hk_; replace iR := kB iR hk_; replace HB := bS HB.1 hb; clear hb hk_; (try clear Z3); have Z3 := cz2 iH; (try clear Z6); have Z6 := cz2 iR; clear HB0) | ((with_reducible refine gC 24 ?_); refine cE (some 14) Tryz.func24 (dM.calls k _ _ l0 _ _ l1 c1a c1b _ (Kd.aU dT.1 HB.1) dS.1 (Kd.aU bV.1 HB.1) eS.1 D2.1) ?_; rintro e_ W4 ⟨_, _, rfl, eH, lW, hb⟩; refine ⟨_, rfl, ?_⟩; have HB0 := am (show w.heap.size ≤ W3.heap.size from HB.1.size); have hk_ : Kept W3 W4 (fun _ => False) := Kept.noth hb; replace NN := nn NN (show W3.heap.size ≤ W4.heap.size from hk_.1); replace iH := kB iH hk_; replace iR := kB iR hk_; replace HB := bS HB.1 hb; have KC := am (BkS.made (n := W3.heap.size) eH lW (HB0.out) (Nat.le_refl _)); clear eH lW; obtain ⟨Ac0, cc0, Ac1, cc1, e0_, e1_⟩ := KC.out.slices; subst e0_; subst e1_; clear hb hk_; (try clear Z3); have Z3 := cz2 iH; (try clear Z6); have Z6 := cz2 iR; clear HB0) | ((with_reducible refine gD 8 ?_); refine bX 8 #[.slice none 0 0, .slice none 0 0] 26 ?_; intro mN hg_ W5 hbox hb; have hk_ : Kept W4 W5 (fun _ => False) := Kept.noth hb; replace NN := nn NN (show W4.heap.size ≤ W5.heap.size from hk_.1); have H7 := am (show w.heap.size ≤ mN from Nat.le_trans HB.1.size (Nat.le_of_eq hg_.symm)); replace NN := nn NN (show W4.heap.size ≤ mN from Nat.le_of_eq hg_.symm); replace NN := nn NN (show mN < W5.heap.size from fO hbox); replace KC := am (BkS.kept KC.out hk_ (fun _ _ _ h => h)); replace iH := kB iH hk_; replace iR := kB iR hk_; replace HB := bS HB.1 hb; have mW := am hbox; clear hb hbox hg_ hk_; have nb8_3 : mN ≠ sJ := (by have := NN.1;  omega); have nb3_8 : sJ ≠ mN := (by have := NN.1;  omega); have nb8_6 : mN ≠ mH := (by have := NN.1;  omega); have nb6_8 : mH ≠ mN := (by have := NN.1;  omega); (try clear Z8); have Z8 := cz2 mW; (try clear Z3); have Z3 := cz2 iH; (try clear Z6); have Z6 := cz2 iR) | ((with_reducible refine gC 25 ?_); refine cQ (some 17) Tryz.func25 (dX.calls k a1 true _ D3.1) ?_; rintro W6 hb; obtain ⟨nd_, hd_⟩ := hb; have hb : Below ((W5.setCell ⟨mN, 0, none⟩ (.slice Ac0 c1a.length cc0)).setCell ⟨mN, 1, none⟩ (.slice Ac1 c1b.length cc1)).heap.size ((W5.setCell ⟨mN, 0, none⟩ (.slice Ac0 c1a.length cc0)).setCell ⟨mN, 1, none⟩ (.slice Ac1 c1b.length cc1)) W6 := hd_ ▸ bA (Below.refl _ _) nd_; clear hd_ nd_; have HB0 := am (show w.heap.size ≤ W5.heap.size from HB.1.size); have hk_ : Kept W5 W6 (fun k => k = mN) := (Kept.two (w := W5) (g := mN) 0 1 (.slice Ac0 c1a.length cc0) (.slice Ac1 c1b.length cc1)).below hb; replace NN := nn NN (show W5.heap.size ≤ W6.heap.size from hk_.1); replace KC := am (BkS.kept KC.out hk_ (fun k_ h1_ h2_ e_ => by have := NN.1;  omega)); replace iH := am (eB iH.1 hk_ (fun e_ => by have := NN.1;  omega)); replace iR := am (eB iR.1 hk_ (fun e_ => by have := NN.1;  omega)); replace mW := am (aX (g := mN) (o := .cells #[.slice Ac0 c1a.length cc0, .slice Ac1 c1b.length cc1] 26 (0, 0)) (cO (cs := #[.slice Ac0 c1a.length cc0, .slice none 0 0]) (cO (cs := #[.slice none 0 0, .slice none 0 0]) mW.1 0 _ rfl) 1 _ rfl) hb); replace HB := am (jB (aK (aK HB.1 H7.1) H7.1) hb); clear hb hk_; (try clear Z3); have Z3 := cz2 iH; (try clear Z8); have Z8 := cz2 mW; (try clear Z6); have Z6 := cz2 iR; clear HB0) | (go_at_call 26; refine cM (iC.calls k _ _ l2 _ _ l0 true _ (Kd.aU B0.1 HB.1) yN.1 (Kd.aU dT.1 HB.1) dS.1 D4.1) ?_; rintro W7 hb; obtain ⟨nd_, hd_⟩ := hb; have hb : Below W6.heap.size W6 W7 := hd_ ▸ bA (Below.refl _ _) nd_; clear hd_ nd_; have HB0 := am (show w.heap.size ≤ W6.heap.size from HB.1.size); have hk_ : Kept W6 W7 (fun _ => False) := Kept.noth hb; replace NN := nn NN (show W6.heap.size ≤ W7.heap.size from hk_.1); replace KC := am (BkS.kept KC.out hk_ (fun _ _ _ h => h)); replace iH := kB iH hk_; replace iR := kB iR hk_; replace mW := kB mW hk_; replace HB := bS HB.1 hb; clear hb hk_; (try clear Z3); have Z3 := cz2 iH; (try clear Z8); have Z8 := cz2 mW; (try clear Z6); have Z6 := cz2 iR; clear HB0) | ((with_reducible refine gC 27 ?_); refine cQ (some 30) Tryz.func27 (gH.calls _ _ l0 _ _ l1 a1 i _ (Kd.aU dT.1 HB.1) dS.1 (Kd.aU bV.1 HB.1) eS.1 D5.1) ?_; rintro W8 hb; have HB0 := am (show w.heap.size ≤ W7.heap.size from HB.1.size); have hk_ : Kept W7 W8 (fun _ => False) := Kept.noth hb; replace NN := nn NN (show W7.heap.size ≤ W8.heap.size from hk_.1); replace KC := am (BkS.kept KC.out hk_ (fun _ _ _ h => h)); replace iH := kB iH hk_; replace iR := kB iR hk_; replace mW := kB mW hk_; replace HB := bS HB.1 hb; clear hb hk_; (try clear Z8); have Z8 := cz2 mW; (try clear Z6); have Z6 := cz2 iR; clear HB0))
  (try simp only [Exit.inBlock, Exit.then]); refine cT mH 26 #[.slice Ac0 c1a.length cc0, .slice Ac1 c1b.length cc1] (cO (cs := #[.slice Ac0 c1a.length cc0, .slice none 0 0]) (cO (cs := #[.slice none 0 0, .slice none 0 0]) (iR.1) 0 _ rfl) 1 _ rfl) Tryz.underlying26 ?_
  have hK_ := BkS.kept KC.out (Kept.two (w := W8) (g := mH) 0 1 (.slice Ac0 c1a.length cc0) (.slice Ac1 c1b.length cc1)) (fun k_ h1_ h2_ e_ => by have := NN.1;  omega)
  exact ⟨_, _, rfl, Kd.aT hK_.1 (fun _ _ => trivial), Kd.gX hK_.2 (fun _ h_ => h_.2), aK (aK HB.1 DB.1) DB.1⟩
 rw [if_neg ci] at H
 have ci0 : decide (0 ≤ i) = false := decide_eq_false ci
 have ci1 : decide (i < 0) = true := decide_eq_true (by omega)
 by_cases cl : l1.length = 5
 ·rw [if_pos cl] at H
  have cl0 : ((l1.length : Int) == 5) = true := beq_iff_eq.mpr (by omega)
  clear cl
  obtain ⟨rfl, rfl, rfl⟩ := sZ3 H
  repeat clear H
  go_enter Tryz.func5, Tryz.ntmps5
  go_wp2_with (first | ((with_reducible refine gD 3 ?_); refine bX 3 #[.slice eE l0.length eF, .slice eV l1.length eC] 26 ?_; intro sJ hg_ W1 hbox hb; have hk_ : Kept w W1 (fun _ => False) := Kept.noth hb; replace NN := nn NN (show w.heap.size ≤ W1.heap.size from hk_.1); have Vf := am (show w.heap.size ≤ sJ from Nat.le_trans HB.1.size (Nat.le_of_eq hg_.symm)); replace NN := nn NN (show w.heap.size ≤ sJ from Nat.le_of_eq hg_.symm); replace NN := nn NN (show sJ < W1.heap.size from fO hbox); replace HB := bS HB.1 hb; have iH := am hbox; clear hb hbox hg_ hk_; (try clear Z3); have Z3 := cz2 iH) | ((with_reducible refine gD 6 ?_); refine bX 6 #[.slice none 0 0, .slice none 0 0] 26 ?_; intro mH hg_ W2 hbox hb; have hk_ : Kept W1 W2 (fun _ => False) := Kept.noth hb; replace NN := nn NN (show W1.heap.size ≤ W2.heap.size from hk_.1); have DB := am (show w.heap.size ≤ mH from Nat.le_trans HB.1.size (Nat.le_of_eq hg_.symm)); replace NN := nn NN (show W1.heap.size ≤ mH from Nat.le_of_eq hg_.symm); replace NN := nn NN (show mH < W2.heap.size from fO hbox); replace iH := kB iH hk_; replace HB := bS HB.1 hb; have iR := am hbox; clear hb hbox hg_ hk_; have nb6_3 : mH ≠ sJ := (by have := NN.1;  omega); have nb3_6 : sJ ≠ mH := (by have := NN.1;  omega); (try clear Z6); have Z6 := cz2 iR; (try clear Z3); have Z3 := cz2 iH) | ((with_reducible refine gC 14 ?_); refine cQ (some 10) Tryz.func14 (aM.calls k _ _ l0 _ _ l1 true _ (Kd.aU dT.1 HB.1) dS.1 (Kd.aU bV.1 HB.1) eS.1 D1.1) ?_; rintro W3 hb; have HB0 := am (show w.heap.size ≤ W2.heap.size from HB.1.size); have hk_ : Kept W2 W3 (fun _ => False) := Kept.noth hb; replace NN := nn NN (show W2.heap.size ≤ W3.heap.size from hk_.1); replace iH := kB iH hk_; replace iR := kB iR hk_; replace HB := bS HB.1 hb; clear hb hk_; (try clear Z3); have Z3 := cz2 iH; (try clear Z6); have Z6 := cz2 iR; clear HB0) | ((with_reducible refine gC 24 ?_); refine cE (some 14) Tryz.func24 (dM.calls k _ _ l0 _ _ l1 c1a c1b _ (Kd.aU dT.1 HB.1) dS.1 (Kd.aU bV.1 HB.1) eS.1 D2.1) ?_; rintro e_ W4 ⟨_, _, rfl, eH, lW, hb⟩; refine ⟨_, rfl, ?_⟩; have HB0 := am (show w.heap.size ≤ W3.heap.size from HB.1.size); have hk_ : Kept W3 W4 (fun _ => False) := Kept.noth hb; replace NN := nn NN (show W3.heap.size ≤ W4.heap.size from hk_.1); replace iH := kB iH hk_; replace iR := kB iR hk_; replace HB := bS HB.1 hb; have KC := am (BkS.made (n := W3.heap.size) eH lW (HB0.out) (Nat.le_refl _)); clear eH lW; obtain ⟨Ac0, cc0, Ac1, cc1, e0_, e1_⟩ := KC.out.slices; subst e0_; subst e1_; clear hb hk_; (try clear Z3); have Z3 := cz2 iH; (try clear Z6); have Z6 := cz2 iR; clear HB0) | ((with_reducible refine gD 8 ?_); refine bX 8 #[.slice none 0 0, .slice none 0 0] 26 ?_; intro mN hg_ W5 hbox hb; have hk_ : Kept W4 W5 (fun _ => False) := Kept.noth hb; replace NN := nn NN (show W4.heap.size ≤ W5.heap.size from hk_.1); have H7 := am (show w.heap.size ≤ mN from Nat.le_trans HB.1.size (Nat.le_of_eq hg_.symm)); replace NN := nn NN (show W4.heap.size ≤ mN from Nat.le_of_eq hg_.symm); replace NN := nn NN (show mN < W5.heap.size from fO hbox); replace KC := am (BkS.kept KC.out hk_ (fun _ _ _ h => h)); replace iH := kB iH hk_; replace iR := kB iR hk_; replace HB := bS HB.1 hb; have mW := am hbox; clear hb hbox hg_ hk_; have nb8_3 : mN ≠ sJ := (by have := NN.1;  omega); have nb3_8 : sJ ≠ mN := (by have := NN.1;  omega); have nb8_6 : mN ≠ mH := (by have := NN.1;  omega); have nb6_8 : mH ≠ mN := (by have := NN.1;  omega); (try clear Z8); have Z8 := cz2 mW; (try clear Z3); have Z3 := cz2 iH; (try clear Z6); have Z6 := cz2 iR) | ((with_reducible refine gC 25 ?_); refine cQ (some 17) Tryz.func25 (dX.calls k a1 true _ D3.1) ?_; rintro W6 hb; obtain ⟨nd_, hd_⟩ := hb; have hb : Below ((W5.setCell ⟨mN, 0, none⟩ (.slice Ac0 c1a.length cc0)).setCell ⟨mN, 1, none⟩ (.slice Ac1 c1b.length cc1)).heap.size ((W5.setCell ⟨mN, 0, none⟩ (.slice Ac0 c1a.length cc0)).setCell ⟨mN, 1, none⟩ (.slice Ac1 c1b.length cc1)) W6 := hd_ ▸ bA (Below.refl _ _) nd_; clear hd_ nd_; have HB0 := am (show w.heap.size ≤ W5.heap.size from HB.1.size); have hk_ : Kept W5 W6 (fun k => k = mN) := (Kept.two (w := W5) (g := mN) 0 1 (.slice Ac0 c1a.length cc0) (.slice Ac1 c1b.length cc1)).below hb; replace NN := nn NN (show W5.heap.size ≤ W6.heap.size from hk_.1); replace KC := am (BkS.kept KC.out hk_ (fun k_ h1_ h2_ e_ => by have := NN.1;  omega)); replace iH := am (eB iH.1 hk_ (fun e_ => by have := NN.1;  omega)); replace iR := am (eB iR.1 hk_ (fun e_ => by have := NN.1;  omega)); replace mW := am (aX (g := mN) (o := .cells #[.slice Ac0 c1a.length cc0, .slice Ac1 c1b.length cc1] 26 (0, 0)) (cO (cs := #[.slice Ac0 c1a.length cc0, .slice none 0 0]) (cO (cs := #[.slice none 0 0, .slice none 0 0]) mW.1 0 _ rfl) 1 _ rfl) hb); replace HB := am (jB (aK (aK HB.1 H7.1) H7.1) hb); clear hb hk_; (try clear Z3); have Z3 := cz2 iH; (try clear Z8); have Z8 := cz2 mW; (try clear Z6); have Z6 := cz2 iR; clear HB0) | (go_at_call 26; refine cM (iC.calls k _ _ l2 _ _ l0 true _ (Kd.aU B0.1 HB.1) yN.1 (Kd.aU dT.1 HB.1) dS.1 D4.1) ?_; rintro W7 hb; obtain ⟨nd_, hd_⟩ := hb; have hb : Below W6.heap.size W6 W7 := hd_ ▸ bA (Below.refl _ _) nd_; clear hd_ nd_; have HB0 := am (show w.heap.size ≤ W6.heap.size from HB.1.size); have hk_ : Kept W6 W7 (fun _ => False) := Kept.noth hb; replace NN := nn NN (show W6.heap.size ≤ W7.heap.size from hk_.1); replace KC := am (BkS.kept KC.out hk_ (fun _ _ _ h => h)); replace iH := kB iH hk_; replace iR := kB iR hk_; replace mW := kB mW hk_; replace HB := bS HB.1 hb; clear hb hk_; (try clear Z3); have Z3 := cz2 iH; (try clear Z8); have Z8 := cz2 mW; (try clear Z6); have Z6 := cz2 iR; clear HB0) | ((with_reducible refine gC 27 ?_); refine cQ (some 30) Tryz.func27 (gH.calls _ _ l0 _ _ l1 a1 i _ (Kd.aU dT.1 HB.1) dS.1 (Kd.aU bV.1 HB.1) eS.1 D5.1) ?_; rintro W8 hb; have HB0 := am (show w.heap.size ≤ W7.heap.size from HB.1.size); have hk_ : Kept W7 W8 (fun _ => False) := Kept.noth hb; replace NN := nn NN (show W7.heap.size ≤ W8.heap.size from hk_.1); replace KC := am (BkS.kept KC.out hk_ (fun _ _ _ h => h)); replace iH := kB iH hk_; replace iR := kB iR hk_; replace mW := kB mW hk_; replace HB := bS HB.1 hb; clear hb hk_; (try clear Z3); have Z3 := cz2 iH; (try clear Z8); have Z8 := cz2 mW; (try clear Z6); have Z6 := cz2 iR; clear HB0))
  (try simp only [Exit.inBlock, Exit.then]); refine cT mH 26 #[.slice Ac0 c1a.length cc0, .slice Ac1 c1b.length cc1] (cO (cs := #[.slice Ac0 c1a.length cc0, .slice none 0 0]) (cO (cs := #[.slice none 0 0, .slice none 0 0]) (iR.1) 0 _ rfl) 1 _ rfl) Tryz.underlying26 ?_
  have hK_ := BkS.kept KC.out (Kept.two (w := W8) (g := mH) 0 1 (.slice Ac0 c1a.length cc0) (.slice Ac1 c1b.length cc1)) (fun k_ h1_ h2_ e_ => by have := NN.1;  omega)
  exact ⟨_, _, rfl, Kd.aT hK_.1 (fun _ _ => trivial), Kd.gX hK_.2 (fun _ h_ => h_.2), aK (aK HB.1 DB.1) DB.1⟩
 rw [if_neg cl] at H
 have cl0 : ((l1.length : Int) == 5) = false := beq_eq_false_iff_ne.mpr (by omega)
 clear cl
 obtain ⟨nd, D6, H⟩ := bd H
 by_cases hca : ¬ (c1b.length ≤ 11 ∧ Asc (insB c1b ⟨a1, [], nd⟩))
 ·rw [if_neg hca] at H
  cases H
 have hca := Classical.not_not.mp hca
 rw [if_pos hca] at H
 obtain ⟨cn11, cas⟩ := hca
 obtain ⟨rfl, rfl, rfl⟩ := sZ3 H
 repeat clear H
 have CAS := am cas
 clear cas
 have LEN := am cn11
 clear cn11
 go_enter Tryz.func5, Tryz.ntmps5
 try go_wp2_with (first | ((with_reducible refine gD 3 ?_); refine bX 3 #[.slice eE l0.length eF, .slice eV l1.length eC] 26 ?_; intro sJ hg_ W1 hbox hb; have hk_ : Kept w W1 (fun _ => False) := Kept.noth hb; replace NN := nn NN (show w.heap.size ≤ W1.heap.size from hk_.1); have Vf := am (show w.heap.size ≤ sJ from Nat.le_trans HB.1.size (Nat.le_of_eq hg_.symm)); replace NN := nn NN (show w.heap.size ≤ sJ from Nat.le_of_eq hg_.symm); replace NN := nn NN (show sJ < W1.heap.size from fO hbox); replace HB := bS HB.1 hb; have iH := am hbox; clear hb hbox hg_ hk_; (try clear Z3); have Z3 := cz2 iH) | ((with_reducible refine gD 6 ?_); refine bX 6 #[.slice none 0 0, .slice none 0 0] 26 ?_; intro mH hg_ W2 hbox hb; have hk_ : Kept W1 W2 (fun _ => False) := Kept.noth hb; replace NN := nn NN (show W1.heap.size ≤ W2.heap.size from hk_.1); have DB := am (show w.heap.size ≤ mH from Nat.le_trans HB.1.size (Nat.le_of_eq hg_.symm)); replace NN := nn NN (show W1.heap.size ≤ mH from Nat.le_of_eq hg_.symm); replace NN := nn NN (show mH < W2.heap.size from fO hbox); replace iH := kB iH hk_; replace HB := bS HB.1 hb; have iR := am hbox; clear hb hbox hg_ hk_; have nb6_3 : mH ≠ sJ := (by have := NN.1;  omega); have nb3_6 : sJ ≠ mH := (by have := NN.1;  omega); (try clear Z6); have Z6 := cz2 iR; (try clear Z3); have Z3 := cz2 iH) | ((with_reducible refine gC 14 ?_); refine cQ (some 10) Tryz.func14 (aM.calls k _ _ l0 _ _ l1 true _ (Kd.aU dT.1 HB.1) dS.1 (Kd.aU bV.1 HB.1) eS.1 D1.1) ?_; rintro W3 hb; have HB0 := am (show w.heap.size ≤ W2.heap.size from HB.1.size); have hk_ : Kept W2 W3 (fun _ => False) := Kept.noth hb; replace NN := nn NN (show W2.heap.size ≤ W3.heap.size from hk_.1); replace iH := kB iH hk_; replace iR := kB iR hk_; replace HB := bS HB.1 hb; clear hb hk_; (try clear Z3); have Z3 := cz2 iH; (try clear Z6); have Z6 := cz2 iR; clear HB0) | ((with_reducible refine gC 24 ?_); refine cE (some 14) Tryz.func24 (dM.calls k _ _ l0 _ _ l1 c1a c1b _ (Kd.aU dT.1 HB.1) dS.1 (Kd.aU bV.1 HB.1) eS.1 D2.1) ?_; rintro e_ W4 ⟨_, _, rfl, eH, lW, hb⟩; refine ⟨_, rfl, ?_⟩; have HB0 := am (show w.heap.size ≤ W3.heap.size from HB.1.size); have hk_ : Kept W3 W4 (fun _ => False) := Kept.noth hb; replace NN := nn NN (show W3.heap.size ≤ W4.heap.size from hk_.1); replace iH := kB iH hk_; replace iR := kB iR hk_; replace HB := bS HB.1 hb; have KC := am (BkS.made (n := W3.heap.size) eH lW (HB0.out) (Nat.le_refl _)); clear eH lW; obtain ⟨Ac0, cc0, Ac1, cc1, e0_, e1_⟩ := KC.out.slices; subst e0_; subst e1_; clear hb hk_; (try clear Z3); have Z3 := cz2 iH; (try clear Z6); have Z6 := cz2 iR; clear HB0) | ((with_reducible refine gD 8 ?_); refine bX 8 #[.slice none 0 0, .slice none 0 0] 26 ?_; intro mN hg_ W5 hbox hb; have hk_ : Kept W4 W5 (fun _ => False) := Kept.noth hb; replace NN := nn NN (show W4.heap.size ≤ W5.heap.size from hk_.1); have H7 := am (show w.heap.size ≤ mN from Nat.le_trans HB.1.size (Nat.le_of_eq hg_.symm)); replace NN := nn NN (show W4.heap.size ≤ mN from Nat.le_of_eq hg_.symm); replace NN := nn NN (show mN < W5.heap.size from fO hbox); replace KC := am (BkS.kept KC.out hk_ (fun _ _ _ h => h)); replace iH := kB iH hk_; replace iR := kB iR hk_; replace HB := bS HB.1 hb; have mW := am hbox; clear hb hbox hg_ hk_; have nb8_3 : mN ≠ sJ := (by have := NN.1;  omega); have nb3_8 : sJ ≠ mN := (by have := NN.1;  omega); have nb8_6 : mN ≠ mH := (by have := NN.1;  omega); have nb6_8 : mH ≠ mN := (by have := NN.1;  omega); (try clear Z8); have Z8 := cz2 mW; (try clear Z3); have Z3 := cz2 iH; (try clear Z6); have Z6 := cz2 iR) | ((with_reducible refine gC 25 ?_); refine cQ (some 17) Tryz.func25 (dX.calls k a1 true _ D3.1) ?_; rintro W6 hb; obtain ⟨nd_, hd_⟩ := hb; have hb : Below ((W5.setCell ⟨mN, 0, none⟩ (.slice Ac0 c1a.length cc0)).setCell ⟨mN, 1, none⟩ (.slice Ac1 c1b.length cc1)).heap.size ((W5.setCell ⟨mN, 0, none⟩ (.slice Ac0 c1a.length cc0)).setCell ⟨mN, 1, none⟩ (.slice Ac1 c1b.length cc1)) W6 := hd_ ▸ bA (Below.refl _ _) nd_; clear hd_ nd_; have HB0 := am (show w.heap.size ≤ W5.heap.size from HB.1.size); have hk_ : Kept W5 W6 (fun k => k = mN) := (Kept.two (w := W5) (g := mN) 0 1 (.slice Ac0 c1a.length cc0) (.slice Ac1 c1b.length cc1)).below hb; replace NN := nn NN (show W5.heap.size ≤ W6.heap.size from hk_.1); replace KC := am (BkS.kept KC.out hk_ (fun k_ h1_ h2_ e_ => by have := NN.1;  omega)); replace iH := am (eB iH.1 hk_ (fun e_ => by have := NN.1;  omega)); replace iR := am (eB iR.1 hk_ (fun e_ => by have := NN.1;  omega)); replace mW := am (aX (g := mN) (o := .cells #[.slice Ac0 c1a.length cc0, .slice Ac1 c1b.length cc1] 26 (0, 0)) (cO (cs := #[.slice Ac0 c1a.length cc0, .slice none 0 0]) (cO (cs := #[.slice none 0 0, .slice none 0 0]) mW.1 0 _ rfl) 1 _ rfl) hb); replace HB := am (jB (aK (aK HB.1 H7.1) H7.1) hb); clear hb hk_; (try clear Z3); have Z3 := cz2 iH; (try clear Z8); have Z8 := cz2 mW; (try clear Z6); have Z6 := cz2 iR; clear HB0) | (go_at_call 26; refine cM (iC.calls k _ _ l2 _ _ l0 true _ (Kd.aU B0.1 HB.1) yN.1 (Kd.aU dT.1 HB.1) dS.1 D4.1) ?_; rintro W7 hb; obtain ⟨nd_, hd_⟩ := hb; have hb : Below W6.heap.size W6 W7 := hd_ ▸ bA (Below.refl _ _) nd_; clear hd_ nd_; have HB0 := am (show w.heap.size ≤ W6.heap.size from HB.1.size); have hk_ : Kept W6 W7 (fun _ => False) := Kept.noth hb; replace NN := nn NN (show W6.heap.size ≤ W7.heap.size from hk_.1); replace KC := am (BkS.kept KC.out hk_ (fun _ _ _ h => h)); replace iH := kB iH hk_; replace iR := kB iR hk_; replace mW := kB mW hk_; replace HB := bS HB.1 hb; clear hb hk_; (try clear Z3); have Z3 := cz2 iH; (try clear Z8); have Z8 := cz2 mW; (try clear Z6); have Z6 := cz2 iR; clear HB0) | ((with_reducible refine gC 27 ?_); refine cQ (some 30) Tryz.func27 (gH.calls _ _ l0 _ _ l1 a1 i _ (Kd.aU dT.1 HB.1) dS.1 (Kd.aU bV.1 HB.1) eS.1 D5.1) ?_; rintro W8 hb; have HB0 := am (show w.heap.size ≤ W7.heap.size from HB.1.size); have hk_ : Kept W7 W8 (fun _ => False) := Kept.noth hb; replace NN := nn NN (show W7.heap.size ≤ W8.heap.size from hk_.1); replace KC := am (BkS.kept KC.out hk_ (fun _ _ _ h => h)); replace iH := kB iH hk_; replace iR := kB iR hk_; replace mW := kB mW hk_; replace HB := bS HB.1 hb; clear hb hk_; (try clear Z3); have Z3 := cz2 iH; (try clear Z8); have Z8 := cz2 mW; clear HB0))
 have n0_ := am (BkS.kept KC.out (w' := W8.drew) (Kept.noth (aY (Below.refl _ _))) (fun _ _ _ h => h))
 have n1_ := BD iH
 have n2_ := BD iR
 have n3_ := BD mW
 have n4_ := am (aY HB.1)
 have nle_ := am (show W8.heap.size ≤ W8.drew.heap.size from Nat.le_refl _)
 clear KC iH iR mW HB
 have KC := n0_
 have iH := n1_
 have iR := n2_
 have mW := n3_
 have HB := n4_
 clear n0_ n1_ n2_ n3_ n4_
 refine sT [9] 10 (uA2 mW) (fun hHeld => ?_)
 generalize W8.drew = W9 at KC iH iR mW HB nle_ hHeld ⊢
 have X1 := nle_
 clear nle_
 refine pU0 0 (some 39) ?_
 refine pU0 2 (some 41) ?_
 refine pU0 3 (some 42) ?_
 refine tK2_ 1 (some 40) ?_
 refine oM 4 (some 43) fun K hK => ?_
 refine gE Tryz.func28 (dW.calls _ _ l2 nd _ (Kd.aU B0.1 HB.1) yN.1 D6.1) ?_
 rintro e_ W10 ⟨_, rfl, eH, hb⟩
 refine ⟨_, rfl, ?_⟩
 have HB0 := am (show w.heap.size ≤ W9.heap.size from HB.1.size)
 have hk_ : Kept W9 W10 (fun _ => False) := Kept.noth hb
 have Ho := am (show W9.heap.size ≤ W10.heap.size from hk_.1); replace NN := nn NN Ho.1
 replace KC := am (BkS.kept KC.out hk_ (fun _ _ _ h => h))
 replace iH := kB iH hk_
 replace iR := kB iR hk_
 replace mW := kB mW hk_
 replace HB := bS HB.1 hb
 have KN := am (RwS.made (n := W9.heap.size) eH (HB0.out) (Nat.le_refl _))
 clear eH
 obtain ⟨An0, cn0, e0_⟩ := KN.out.slices
 subst e0_
 clear hb hk_ HB0
 refine nK hK (uA2 mW).1 fun hHeld => ?_
 clear hK K
 refine pU0 5 (some 44) ?_
 refine oM 6 (some 45) fun K hK => ?_
 refine M6 (w1 := ?_) (v := ?_) (by rfl) rfl ?_ ?_
 rotate_left 2
 ·go_simp
  constructor
  ·rfl
  rfl
 refine hK.out _ _ ⟨(bP (bF mW.1 _) 0).trans rfl, (bP (bF mW.1 _) 1).trans rfl⟩ (fun hHeld => ?_)
 clear hK K
 refine nM ?_
 have hAP := am (BkS.appM a1 KC.out KN.out (by have := NN.1; have := X1.1; have := Ho.1;  omega) (by have := NN.1; have := X1.1; have := Ho.1;  omega) (by have := NN.1; have := X1.1; have := Ho.1;  omega))
 refine oM 7 (some 46) fun K hK => ?_
 refine Kd.E8 k52 (w0 := w) w.heap.size (by rfl) (.tmp 40) (.tmp 45) 24 52 Ag0 64 rfl Tryz.underlying24 tZ rfl (by decide) (by omega) (.slice Ac1 c1b.length cc1) c1b (⟨a1, [], nd⟩ : S52) [.string a1, .slice none 0 0, .slice An0 nd.length cn0] (fun k => W3.heap.size ≤ k ∧ some k ≠ (.slice Ac0 c1a.length cc0 : Value).ownBlock) (fun k => some k = (.slice An0 nd.length cn0 : Value).ownBlock) rfl rfl hAP.out.1 hAP.out.2.1 hAP.out.2.2.1 hAP.out.2.2.2 HB.1 HB.1.size (by have := LEN.out; omega) ?_
 intro v_ W11 ho_ hb_ hg_ hat_
 have hk_ : Kept W10 W11 (fun k => some k = (.slice Ac1 c1b.length cc1 : Value).ownBlock) := Kept.F5 hg_ (Kept.refl W10 _) (fun k e => Or.inl e.symm)
 replace NN := nn NN (show W10.heap.size ≤ W11.heap.size from hk_.1)
 have nk_ := am (BkS.appB KC.out ho_ hk_ (by have := NN.1; have := X1.1; have := NN.1;  omega))
 have nb3_ := am (eB iH.1 hk_ (fun e_ => Kd.S_ne KC.out.2 iH.1 (by decide) e_))
 have nb6_ := am (eB iR.1 hk_ (fun e_ => Kd.S_ne KC.out.2 iR.1 (by decide) e_))
 have nb8_ := am (eB mW.1 hk_ (fun e_ => Kd.S_ne KC.out.2 mW.1 (by decide) e_))
 clear KC KN HB hAP hat_ ho_ hg_ iH iR mW
 have KC := nk_
 have HB := am hb_
 have iH := nb3_
 have iR := nb6_
 have mW := nb8_
 clear nk_ hb_ hk_ nb3_ nb6_ nb8_
 generalize hyy : c1b ++ [(⟨a1, [], nd⟩ : S52)] = y at KC
 have HYY := am hyy
 clear hyy
 have HYL : aC (y.length = c1b.length + 1) := ⟨by rw [← HYY.out, List.length_append]; rfl⟩
 obtain ⟨ge, ce, ee_, _, _, _⟩ := Kd.SL KC.out.2 (by have := HYL.out; omega)
 subst ee_
 refine nK hK (uA2 mW).1 fun hHeld => ?_
 clear hK K
 refine pU0 8 (some 47) ?_
 refine Sk (i := 9) (N := none) (bz 10 1023) rfl rfl (by kernel_rfl) (by decide) (fun K hK => ?_)
 have hs8 : W11.cell? ⟨mN, 1, none⟩ = some (.slice Ac1 c1b.length cc1) := (bP mW.1 1).trans rfl
 have aEA := gF mW.1 1
 refine AC (w1 := (W11.setCell ⟨mN, 1, none⟩ (.slice (some ⟨ge, 0, none⟩) y.length ce))) (by rfl) rfl ?_ ?_
 ·go_simp
  (try rfl)
 refine hK.out _ _ ?_
 clear hK K
 refine VM (by kernel_rfl) ?_
 clear hs8 aEA
 have nk_ := am (BkS.far (g := mN) (j := 1) (u := .slice (some ⟨ge, 0, none⟩) y.length ce) KC.out mW.1 (by decide))
 have hk_ : Kept W11 (W11.setCell ⟨mN, 1, none⟩ (.slice (some ⟨ge, 0, none⟩) y.length ce)) (fun k => k = mN) := Kept.setCell (p := ⟨mN, 1, none⟩) (Kept.refl W11 (fun k => k = mN)) (Or.inl rfl) _
 have nb3_ := am (eB iH.1 hk_ (fun e_ => nb3_8 e_))
 have nb6_ := am (eB iR.1 hk_ (fun e_ => nb6_8 e_))
 have nb8_ := am (cO (cs := #[.slice Ac0 c1a.length cc0, .slice Ac1 c1b.length cc1]) mW.1 1 (.slice (some ⟨ge, 0, none⟩) y.length ce) rfl)
 have nB_ : aC (Below w.heap.size w (W11.setCell ⟨mN, 1, none⟩ (.slice (some ⟨ge, 0, none⟩) y.length ce))) := ⟨aK HB.1 H7.1⟩
 have nle_ := am (show W11.heap.size ≤ (W11.setCell ⟨mN, 1, none⟩ (.slice (some ⟨ge, 0, none⟩) y.length ce)).heap.size from hk_.1)
 clear KC HB hk_ iH iR mW
 have KC := nk_
 have HB := nB_
 have iH := nb3_
 have iR := nb6_
 have mW := nb8_
 clear nk_ nB_ nb3_ nb6_ nb8_
 change aC ((W11.setCell ⟨mN, 1, none⟩ (.slice (some ⟨ge, 0, none⟩) y.length ce)).heap[mN]? = some (.cells #[.slice Ac0 c1a.length cc0, .slice (some ⟨ge, 0, none⟩) y.length ce] 26 (0, 0))) at mW
 generalize (W11.setCell ⟨mN, 1, none⟩ (.slice (some ⟨ge, 0, none⟩) y.length ce)) = W12 at KC HB nle_ iH iR mW ⊢
 have aH5 := nle_
 clear nle_
 (try clear Z8)
 have Z8 := cz2 mW
 go_wp2_with (first | ((with_reducible refine gC 29 ?_); refine cQ (some 52) Tryz.func29 (TD KC.out.2 mW.1 (fun e_ => by have h_ := Kd.S_ne KC.out.2 mW.1 (by decide); exact h_ (by rw [e_]; rfl)) (by have := HYL.out; omega) (by have := LEN.out; have := HYL.out; omega) HB.1) ?_; rintro W13 ⟨xs, hpm, hpw, hs_, hb_, hk_⟩; have hxs : xs = insB c1b ⟨a1, [], nd⟩ := Ef (hpm.trans (by rw [← HYY.out]; exact (Lv c1b ⟨a1, [], nd⟩).symm)) hpw CAS.out; replace NN := nn NN (show W12.heap.size ≤ W13.heap.size from hk_.1); have nk_ := am (BkS.sorted KC.out hs_ hk_); have nb3_ := am (eB iH.1 hk_ (fun e_ => by have h_ := Kd.S_ne KC.out.2 iH.1 (by decide); exact h_ (by rw [e_]; rfl))); have nb6_ := am (eB iR.1 hk_ (fun e_ => by have h_ := Kd.S_ne KC.out.2 iR.1 (by decide); exact h_ (by rw [e_]; rfl))); have nb8_ := am (eB mW.1 hk_ (fun e_ => by have h_ := Kd.S_ne KC.out.2 mW.1 (by decide); exact h_ (by rw [e_]; rfl))); clear KC HB hs_ hk_ hpm hpw iH iR mW; have KC := nk_; have HB := am hb_; clear nk_ hb_; have iH := nb3_; have iR := nb6_; have mW := nb8_; clear nb3_ nb6_ nb8_; (try clear Z8); have Z8 := cz2 mW; (try clear Z6); have Z6 := cz2 iR))
 (try simp only [Exit.inBlock, Exit.then]); refine cT mH 26 #[.slice Ac0 c1a.length cc0, .slice (some ⟨ge, 0, none⟩) y.length ce] (cO (cs := #[.slice Ac0 c1a.length cc0, .slice none 0 0]) (cO (cs := #[.slice none 0 0, .slice none 0 0]) (iR.1) 0 _ rfl) 1 _ rfl) Tryz.underlying26 ?_
 have k1_ := am (BkS.far (g := mH) (j := 0) (u := .slice Ac0 c1a.length cc0) KC.out iR.1 (by decide))
 have k2_ := BkS.far (g := mH) (j := 1) (u := .slice (some ⟨ge, 0, none⟩) y.length ce) k1_.out (cO (cs := #[.slice none 0 0, .slice none 0 0]) iR.1 0 (.slice Ac0 c1a.length cc0) rfl) (by decide)
 rw [hxs] at k2_
 exact ⟨_, _, rfl, Kd.aT k2_.1 (fun _ _ => trivial), Kd.gX k2_.2 (fun _ h_ => h_.2), aK (aK HB.1 DB.1) DB.1⟩
end Go.Proofs.YtaofjgnhapnndaaGreat.Q
