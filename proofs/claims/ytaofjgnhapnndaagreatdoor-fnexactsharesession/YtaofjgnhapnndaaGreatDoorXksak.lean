/- Texts that the row needs: words on memory and rows, the contracts of the functions it reaches, and the plain lemmas on what they compute. -/
import Derived.Shelf.GgSortFunc.Tiny
import Derived.Test.YtaofjgnhapnndaaGreatDoorXksaj
set_option maxHeartbeats 8000000
set_option maxRecDepth 100000
open Go.Proofs.YtaofjgnhapnndaaGreatDoorFks
namespace Go.Proofs.YtaofjgnhapnndaaGreatDoor.Q
open Go.RowKit Go.Proofs.YtaofjgnhapnndaaGreatDoorW.PrintWords Go.Proofs.YtaofjgnhapnndaaGreatDoorW.PrintLast Go.Proofs.YtaofjgnhapnndaaGreatDoorW.PrintMore
set_option linter.unusedVariables false
set_option linter.unusedSimpArgs false
open Go.Shelf Go.Lib Go.Sort
theorem rD {w : World} {os : Array Obj} {k : Nat} (h : k < w.heap.size) : (Sort.grow w os).heap[k]? = w.heap[k]? := by
 unfold Sort.grow
 simp only [Array.getElem?_append, if_pos h]
set_option maxHeartbeats 4000000 in
theorem YB {w0 w : World} {g cap gb : Nat} {P : Nat → Prop} {v0 : Value} {xs : List S66} (h : Kd.S k66 66 w w0.heap.size P (.slice (some ⟨g, 0, none⟩) xs.length cap) xs)
    (hbk : w.heap[gb]? = some (.cells #[v0, .slice (some ⟨g, 0, none⟩) xs.length cap] 31 (0, 0))) (hne : gb ≠ g) (h2 : 2 ≤ xs.length) (h12 : xs.length ≤ 12) (hB : Go.RowKit.Below w0.heap.size w0 w) :
    Calls Tryz.prog 73 #[.iface 29 (.slice (some ⟨g, 0, none⟩) xs.length cap), .func (.func 74) #[] #[.pointer (some ⟨gb, 0, none⟩)]] w fun e w' => e = .returned (.tuple #[]) ∧
      ∃ xs' : List S66, xs'.Perm xs ∧ xs'.Pairwise (fun a b => Op.bytesLess b.f0.toList a.f0.toList = false) ∧ Kd.S k66 66 w' w0.heap.size P (.slice (some ⟨g, 0, none⟩) xs.length cap) xs' ∧ Go.RowKit.Below w0.heap.size w0 w' ∧ Kept w w' (fun k => k = g) := by
 obtain ⟨hP, hb, hn, hnc, hm, cur, Z, hh, hs, hx, ht, hpw, hZ⟩ := dx h
 clear h
 have hzl : Z.length = xs.length := by rw [← hx, List.length_map]
 have hds : ((Z.map EZ.c).toArray).size = xs.length := by simp [hzl]
 have hF : (flatK encE 3 (Z.map EZ.c).toArray).toList = cur.toList.take (xs.length * 3) := by
   rw [Be, List.map_map, ht]; rfl
 have hFs : (flatK encE 3 (Z.map EZ.c).toArray).size = xs.length * 3 := by rw [size_flatK, hds]
 have hgl : g < w.heap.size := dU hh
 have hgb : gb < w.heap.size := dU hbk
 have hH : HoldsK encE 3 w g 0 (Z.map EZ.c).toArray := by
   intro j hj
   rw [hFs] at hj
   refine ⟨?_, bL hh _⟩
   rw [Nat.zero_add, aH hh j, getElem!_pos _ j (by rw [hFs]; exact hj)]
   have e : (cur.toList.take (xs.length * 3))[j]? = (flatK encE 3 (Z.map EZ.c).toArray).toList[j]? := by rw [hF]
   rw [List.getElem?_take, if_pos hj, Array.getElem?_toList, Array.getElem?_toList, Array.getElem?_eq_getElem (xs := flatK encE 3 (Z.map EZ.c).toArray) (by rw [hFs]; exact hj)] at e
   exact e
 have hless : LessReadsK Tryz.prog 74 #[.pointer (some ⟨gb, 0, none⟩)] encE 3 ltE g 0 (Z.map EZ.c).toArray.size w := by
   intro m os dk CX i j hi hj
   rw [hds] at CX hi hj
   have hgl2 : g < (Sort.ahead w m).heap.size := hgl
   have e : sortWorldK encE 3 w g 0 m dk os = putRowK encE 3 (Sort.grow (Sort.ahead w m) os) g 0 dk := by
     unfold sortWorldK; rw [putRowK_grow _ _ (Sort.ahead w m) _ g 0 _ hgl2]
   have hHg : HoldsK encE 3 (Sort.grow (Sort.ahead w m) os) g 0 (Z.map EZ.c).toArray := holdsK_grow _ _ _ _ g 0 _ hgl2 (holdsK_ahead _ _ _ _ _ _ _ hH)
   have hbox : (sortWorldK encE 3 w g 0 m dk os).heap[gb]? = some (.cells #[v0, .slice (some ⟨g, 0, none⟩) xs.length cap] 31 (0, 0)) := by
     unfold sortWorldK putRowK
     rw [rD (by rw [size_putRow]; exact hgb), yP hne]
     exact hbk
   refine Y9 g cap gb xs.length v0 _ (fun t => dk[t]!.1) ((aH hbox 1).trans rfl) ((aH hbox 0).trans rfl) (fun t ht2 => ?_) i j hi hj (by omega)
   rw [e]
   exact ((holdsK_putRowK _ _ _ g 0 _ dk hHg (by rw [CX, hds])).cell (i := t) (c := 0) (by omega) (by omega)).1
 have hS := Any.sort_Slice_small_cells_sorted WR 29 66 Bf DU (by kernel_rfl) (by kernel_rfl) (by kernel_rfl) (by kernel_rfl) 25 (fun _ => by kernel_rfl) encE 3 (fun _ => rfl) (by kernel_rfl) (fun _ => by kernel_rfl)
   (fun x v hv => by simp [encE] at hv; rcases hv with rfl | rfl | rfl <;> rfl) ltE Pq 74 _
   (enters_of Tryz.func74 (by kernel_rfl) rfl) g 0 cap (Z.map EZ.c).toArray (by rw [hds]; exact h2) (by rw [hds]; exact h12) 117 (by rw [Oa _ (by rw [hds]; exact h2)]; kernel_rfl) false
   (fun args W => run_callFunc_extern Tryz.func117 (by kernel_rfl) (by kernel_rfl) (by kernel_rfl) (e := Extern.ReflectliteSwapper.swap false) (by kernel_rfl) args W) w hless hH hgl
 change Calls Tryz.prog 73 _ _ _ at hS
 rw [hds] at hS
 refine hS.mono ?_
 rintro e w' ⟨he, d', n, os, hPm, hSo, rfl⟩
 refine ⟨he, ?_⟩
 have hsz : d'.size = xs.length := hPm.1.trans hds
 have hperm : d'.toList.Perm (Z.map EZ.c) := by
   have := hPm.2.2
   rw [show d'.extract 0 xs.length = d' by rw [← hsz]; simp, show (Z.map EZ.c).toArray.extract 0 xs.length = (Z.map EZ.c).toArray by rw [← hds]; exact Array.extract_size] at this
   simpa using this
 obtain ⟨Z', hZp, hZm⟩ := RI EZ.c hperm.symm
 have hzl' : Z'.length = xs.length := hZp.length_eq.trans hzl
 refine ⟨Z'.map EZ.x, by rw [← hx]; exact hZp.map _, ?_, ?_, ?_, ?_⟩
 ·rw [List.pairwise_map, List.pairwise_iff_getElem]
  intro i j hi hj hij
  have q := hSo i j (Nat.zero_le _) hij (by omega)
  rw [getElem!_pos d' j (by omega), getElem!_pos d' i (by omega)] at q
  have ei : d'[i]'(by omega) = Z'[i].c := by
    have : d'.toList[i]'(by rw [Array.length_toList]; omega) = (Z'.map EZ.c)[i]'(by rw [List.length_map]; exact hi) := by congr 1; exact hZm.symm
    rw [List.getElem_map] at this; rw [← this]; rfl
  have ej : d'[j]'(by omega) = Z'[j].c := by
    have : d'.toList[j]'(by rw [Array.length_toList]; omega) = (Z'.map EZ.c)[j]'(by rw [List.length_map]; exact hj) := by congr 1; exact hZm.symm
    rw [List.getElem_map] at this; rw [← this]; rfl
  rw [ei, ej] at q
  have ni := (hZ Z'[i] (hZp.subset (List.getElem_mem hi))).1
  have nj := (hZ Z'[j] (hZp.subset (List.getElem_mem hj))).1
  rw [← ni, ← nj]
  exact q
 ·have hkp : Kept w (Sort.grow (putRowK encE 3 (Sort.ahead w n) g 0 d') os) (fun k => k = g) := by
    refine ⟨?_, fun k hk hne2 => ?_⟩
    · unfold Sort.grow putRowK; simp only [Array.size_append, size_putRow]; exact Nat.le_add_right _ _
    · unfold putRowK; rw [rD (by rw [size_putRow]; exact hk), yP hne2]; rfl
  have hF' : (flatK encE 3 d').size = xs.length * 3 := by rw [size_flatK, hsz]
  have hp2 := Q0 (flatK encE 3 d') cur (by rw [hF', hs]; omega)
  refine dm (Z := Z') (w := w) (cur := putCells id 0 (flatK encE 3 d') cur) hP hb hzl'.symm hnc hm ?_ (hp2.2.trans hs) ?_ ((List.Perm.pairwise_iff (fun {a b} hab k h1 h2 => hab k h2 h1) hZp).2 hpw) (fun z hz => (hZ z (hZp.subset hz)).2) hkp
  ·unfold putRowK; rw [rD (by rw [size_putRow]; exact hgl)]
   exact WZ (w := Sort.ahead w n) hh
  rw [← hF', hp2.1]
  have e3 : d' = (Z'.map EZ.c).toArray := by rw [hZm]
  rw [e3, Be, List.map_map]; rfl
 ·refine ⟨hB.os, hB.tape, hB.output, ?_, fun k hk => ?_⟩
  ·unfold Sort.grow putRowK; simp only [Array.size_append, size_putRow]; exact Nat.le_trans hB.size (Nat.le_add_right _ _)
  have hk2 : k < w.heap.size := Nat.lt_of_lt_of_le hk hB.size
  unfold putRowK; rw [rD (by rw [size_putRow]; exact hk2), yP (by omega)]
  exact hB.block k hk
 refine ⟨?_, fun k hk hne2 => ?_⟩
 ·unfold Sort.grow putRowK; simp only [Array.size_append, size_putRow]; exact Nat.le_add_right _ _
 unfold putRowK; rw [rD (by rw [size_putRow]; exact hk), yP hne2]; rfl
theorem below_grow (w : World) (os : Array Obj) : Go.RowKit.Below w.heap.size w (Sort.grow w os) :=
  ⟨rfl, rfl, rfl, by unfold Sort.grow; simp only [Array.size_append]; exact Nat.le_add_right _ _, fun k hk => rD hk⟩
theorem Ir : Lib.swapperK 1 DU 25 = 2 := by simp [Lib.swapperK]
theorem O1 {w0 w : World} {g cap gb : Nat} {P : Nat → Prop} {v0 : Value} {xs : List S66} (h : Kd.S k66 66 w w0.heap.size P (.slice (some ⟨g, 0, none⟩) xs.length cap) xs)
  (hbk : w.heap[gb]? = some (.cells #[v0, .slice (some ⟨g, 0, none⟩) xs.length cap] 31 (0, 0))) (hne : gb ≠ g) (h1 : 1 ≤ xs.length) (h12 : xs.length ≤ 12) (hB : Go.RowKit.Below w0.heap.size w0 w) :
  Calls Tryz.prog 73 #[.iface 29 (.slice (some ⟨g, 0, none⟩) xs.length cap), .func (.func 74) #[] #[.pointer (some ⟨gb, 0, none⟩)]] w fun e w' => e = .returned (.tuple #[]) ∧
   ∃ xs' : List S66, xs'.Perm xs ∧ xs'.Pairwise (fun a b => Op.bytesLess b.f0.toList a.f0.toList = false) ∧ Kd.S k66 66 w' w0.heap.size P (.slice (some ⟨g, 0, none⟩) xs.length cap) xs' ∧ Go.RowKit.Below w0.heap.size w0 w' ∧ Kept w w' (fun k => k = g) := by
 by_cases h2 : 2 ≤ xs.length
 ·exact YB h hbk hne h2 h12 hB
 have e1 : xs.length = 1 := by omega
 have hS := Any.sort_Slice_tiny WR 29 66 Bf DU (by kernel_rfl) (by kernel_rfl) (by kernel_rfl) (by kernel_rfl) 25 (fun _ => by kernel_rfl) (some ⟨g, 0, none⟩) xs.length cap (by omega) 110 (by rw [e1, Ir]; kernel_rfl) (.func 74) #[] #[.pointer (some ⟨gb, 0, none⟩)] w
 change Calls Tryz.prog 73 _ _ _ at hS
 refine hS.mono ?_
 rintro e w' ⟨he, os, rfl⟩
 have hb := below_grow w os
 refine ⟨he, xs, List.Perm.refl _, ?_, Kd.rA h hb, dG hB hb, Kept.of_below hb _⟩
 exact List.pairwise_iff_getElem.2 (fun i j hi hj hij => absurd hij (by omega))
def insK (l : List S66) (n : ByteArray) : Nat := (l.takeWhile fun b => Op.bytesLess b.f0.toList n.toList).length
def insB (l : List S66) (x : S66) : List S66 := l.take (insK l x.f0) ++ x :: l.drop (insK l x.f0)
theorem Dt (l : List S66) (x : S66) : (insB l x).Perm (l ++ [x]) := by
 unfold insB
 refine List.perm_middle.trans ?_
 rw [List.take_append_drop]
 exact (List.perm_append_comm (l₁ := [x]) (l₂ := l))
def Asc (l : List S66) : Prop := l.Pairwise fun a b => Op.bytesLess a.f0.toList b.f0.toList = true
theorem LQ {a b : List UInt8} (h : Op.bytesLess a b = true) : Op.bytesLess b a = false := by
 rw [bytesLess_eq, decide_eq_true_eq] at h
 rw [bytesLess_eq, decide_eq_false_iff_not]
 exact fun h2 => List.lt_irrefl _ (List.lt_trans h h2)
theorem XX {l t : List S66} (hp : l.Perm t) (hl : l.Pairwise fun a b => Op.bytesLess b.f0.toList a.f0.toList = false) (ht : Asc t) : l = t := by
 have ht2 : t.Pairwise fun a b => Op.bytesLess b.f0.toList a.f0.toList = false := ht.imp fun h => LQ h
 have hall : ∀ a ∈ t, ∀ b ∈ t, a = b ∨ Op.bytesLess a.f0.toList b.f0.toList = true ∨ Op.bytesLess b.f0.toList a.f0.toList = true := by
  intro a ha b hb
  obtain ⟨i, hi, rfl⟩ := List.getElem_of_mem ha
  obtain ⟨j, hj, rfl⟩ := List.getElem_of_mem hb
  have hpw := List.pairwise_iff_getElem.1 ht
  rcases Nat.lt_trichotomy i j with h | h | h
  ·exact Or.inr (Or.inl (hpw i j hi hj h))
  ·subst h; exact Or.inl rfl
  ·exact Or.inr (Or.inr (hpw j i hj hi h))
 refine List.Perm.eq_of_pairwise (le := fun a b => Op.bytesLess b.f0.toList a.f0.toList = false) (fun a b ha hb h1 h2 => ?_) hl ht2 hp
 rcases hall a (hp.subset ha) b hb with h | h | h
 ·exact h
 ·rw [h] at h2; cases h2
 rw [h] at h1; cases h1
mutual
def bZ.j0 : Nat → ByteArray → List ByteArray → Bool → List ByteArray → List (S66) → List ByteArray → List (S66) → Option (List ByteArray × (List (S66)) × Int)
 | 0, _, _, _, _, _, _, _ => none
 | k + 1, c, e, g, h, d, a, b => if g = true then (some (a, b, 2)) else ((gG.f k h d c).bind fun i => (if i ≥ 0 then (some (a, b, 3)) else (if (d.length : Int) ≥ 5 then (some (a, b, 4)) else (bZ.l0 k c e 0 a b))))
def bZ.l0 : Nat → ByteArray → List ByteArray → Int → List ByteArray → List (S66) → Option (List ByteArray × (List (S66)) × Int)
 | 0, _, _, _, _, _ => none
 | k + 1, c, d, a, e, b => if a < (b.length : Int) then (if 0 ≤ a then (if (Op.bytesLess (((aA b a).f0).toList) c.toList) = true then (bZ.l0 k c d (wrap64 (a + 1)) e b) else ((some (([] : List (S66)) : List (S66))).bind fun g => (if a ≤ (b.length : Int) then ((some (b.take (a : Int).toNat : List (S66))).bind fun h => (if g.length + h.length < 2199023255552 then ((some (g ++ h : List (S66))).bind fun i => ((iD.f d).bind fun u => (if i.length < 2199023255552 then ((some (i ++ [(⟨c, ([] : List ByteArray), u⟩ : S66)] : List (S66))).bind fun j => ((some (b.drop (a : Int).toNat : List (S66))).bind fun l => (if j.length + l.length < 2199023255552 then ((dA.f k e (j ++ l)).bind fun m => (some (m.1, m.2, 0))) else (none)))) else (none)))) else (none))) else (none)))) else (none)) else ((some (([] : List (S66)) : List (S66))).bind fun n => (if 0 ≤ a then (if a ≤ (b.length : Int) then ((some (b.take (a : Int).toNat : List (S66))).bind fun o => (if n.length + o.length < 2199023255552 then ((some (n ++ o : List (S66))).bind fun p => ((iD.f d).bind fun v => (if p.length < 2199023255552 then ((some (p ++ [(⟨c, ([] : List ByteArray), v⟩ : S66)] : List (S66))).bind fun q => ((some (b.drop (a : Int).toNat : List (S66))).bind fun r => (if q.length + r.length < 2199023255552 then ((dA.f k e (q ++ r)).bind fun s => (some (s.1, s.2, 0))) else (none)))) else (none)))) else (none))) else (none)) else (none)))
end
def bZ.f (k : Nat) (aQ : List ByteArray) (aE : List (S66)) (a1 : ByteArray) (l2 : List ByteArray) : Option (List ByteArray × (List (S66)) × Int) := (aG.f k aQ aE).bind fun b => (if b = true then ((dA.f k aQ aE).bind fun a => ((bT.f k a1).bind fun c => (if c = true then ((bV.f k l2 aQ).bind fun d => (bZ.j0 k a1 l2 (!d) aQ aE a.1 a.2)) else (bZ.j0 k a1 l2 true aQ aE a.1 a.2)))) else (some (([] : List ByteArray), ([] : List (S66)), 1)))
def bZ.T13 : Bool × List (List Nat × List Nat) := (true, [([], []), ([], []), ([1], [1]), ([], []), ([2, 3], [2, 3]), ([0, 4], [0, 4]), ([], []), ([], []), ([7, 5], [7]), ([6, 8], [6, 8]), ([9], [9]), ([5, 10, 8], [5, 10]), ([], []), ([12], [12]), ([], []), ([13, 14], [13, 14]), ([11, 15, 11], [11, 15]), ([0, 1, 2, 3, 4, 5, 6, 7, 8, 9, 10, 11, 12, 13, 14, 15, 16], []), ([17, 16, 16, 0, 1, 2, 3, 4, 5, 6, 7, 8, 9, 10, 11, 12, 13, 14, 15, 16], [16, 17])])
def bZ.B13 : List Nat := [0, 0, 2, 0, 14, 31, 0, 0, 191, 511, 1023, 2047, 0, 4096, 0, 28672, 65535, 131071, 262143]
theorem bZ.Sq : rtab .any (opsOf Tryz.f24 13) = bZ.T13 := by kernel_rfl
theorem bZ.Hq : nV bZ.T13.2 bZ.B13 = true := by kernel_rfl
theorem bZ.calls (k : Nat) (dD : Option Addr) (dE : Nat) (aQ : List ByteArray) (dS : Option Addr) (dB : Nat) (aE : List (S66)) (a1 : ByteArray) (A2 : Option Addr) (c2 : Nat) (l2 : List ByteArray) (r1 : List ByteArray) (r2 : List (S66)) (r3 : Int) (w : World) (fL : Kd.C Kd.string w dD aQ.length aQ) (fJ : aQ.length ≤ dE) (fH : Kd.C k66 w dS aE.length aE) (fK : aE.length ≤ dB) (rP : Kd.C Kd.string w A2 l2.length l2) (mH : l2.length ≤ c2) (h : bZ.f k aQ aE a1 l2 = some (r1, r2, r3)) :
  Calls Tryz.prog 24 #[.agg #[.slice dD aQ.length dE, .slice dS aE.length dB], .string a1, .slice A2 l2.length c2] w fun e w' => ∃ v0_ v1_ : Value, e = .returned (.tuple #[.agg #[v0_, v1_], .int .i64 r3]) ∧ Kd.R Kd.string 9 w' w.heap.size (fun k_ => (w.heap.size ≤ k_)) v0_ r1 ∧ Kd.N k66 66 w' w.heap.size (F10 w v0_) v1_ r2 ∧ Below w.heap.size w w' := by
 have hu31 := Tryz.underlying31
 have hu66 := Tryz.underlying66
 obtain ⟨cS, cO⟩ := mZ2 fL fJ
 obtain ⟨bE, dL⟩ := mZ2 fH fK
 obtain ⟨pL, pK⟩ := mZ2 rP mH
 clear fL fJ fH fK rP mH
 have HB := am (Below.refl w.heap.size w)
 unfold bZ.f at h
 have H := h
 clear h
 obtain ⟨mQ, A4, H⟩ := bd H
 refine tC H ?_ ?_ <;> clear H <;> intro c5 H <;> subst c5
 ·obtain ⟨⟨bR, dI⟩, A6, H⟩ := bd H
  dsimp only at H
  have oa := am H
  clear H
  go_enter Tryz.func24, Tryz.ntmps24
  go_upto_region 4 with (first | ((with_reducible refine gD 3 ?_); refine bX 3 #[.slice dD aQ.length dE, .slice dS aE.length dB] 31 ?_; intro aZ hg w8 hbox hb; have aC := am hbox; have gU := am (nS : w.heap.size ≤ aZ); have iL := gU; replace HB := bS gL hb; clear hb hbox hg) | ((with_reducible refine gD 6 ?_); refine bX 6 #[.slice none 0 0, .slice none 0 0] 31 ?_; intro bF hg w9 hbox hb; have aT := am hbox; have qC := am (vA : w.heap.size ≤ bF); have pM := qC; replace HB := bS dQ hb; have dY := nL bJ hg; have eI := nG bJ hg; replace aC := bB bJ hb; clear hb hbox hg; have kw := nZ1 dY eI; have Lz := cz2 aC) | ((with_reducible refine gC 21 ?_); refine cQ (some 11) Tryz.func21 (aG.calls k _ _ aQ _ _ aE true _ (pB cS) cO.1 (pB bE) dL.1 A4.out) ?_; rintro w12 hb; replace aC := bB bJ hb; replace aT := bB fF hb; replace HB := bS jY hb; clear hb; have Nl := cz2 aC) | ((with_reducible refine gC 22 ?_); refine cE (some 15) Tryz.func22 (dA.calls k _ _ aQ _ _ aE bR dI _ (pB cS) cO.1 (pB bE) dL.1 A6.out) ?_; rintro e Yu ⟨v105, CG, rfl, hD, pP, hb⟩; refine ⟨_, rfl, ?_⟩; have fQ := am (Kd.eF (Kd.qN (M := fun k_ => (w.heap.size ≤ k_)) hD (aK jY) (fun k_ h_ => h_)) (aK jY)); have eU := am (Kd.pE (Kd.bQ (ok' := F12 w v105 aZ bF) (Kd.S_N (Kd.lC pP)) (fun k_ hk_ => ⟨(Nat.le_trans (aK jY) hk_.2.1), hk_.1, (fB bJ k_ hk_.2.1), (fB fF k_ hk_.2.1)⟩)) (aK jY)); replace aC := bB bJ hb; replace aT := bB fF hb; replace HB := bS jY hb; clear hb hD pP) | ((with_reducible refine gD 8 ?_); refine bX 8 #[.slice none 0 0, .slice none 0 0] 31 ?_; intro bM hg te hbox hb; replace fQ := RB wC hb; replace eU := am (Kd.l9 (Kd.vN CD bM (Nat.le_of_eq hg.symm)) hb); have aY := am hbox; have zG := am (UC : w.heap.size ≤ bM); have wH := zG; replace HB := bS jY hb; have eZ := nL bJ hg; have fP := nG bJ hg; replace aC := bB bJ hb; have fI := nL fF hg; have gW := nG fF hg; replace aT := bB fF hb; clear hb hbox hg; obtain ⟨jE, jB, px⟩ := Kd.cB fQ.1; subst px; have kx := nZ2 fP eZ gW fI; have ov := cz2 aY; obtain ⟨uP, lJ, YC⟩ := Kd.kN eU.1; subst YC))
  (try simp only [Act.put, List.setIfInBounds_toArray, List.set_cons_zero, List.set_cons_succ])
  go_cut [25] (fun v25 wc => ∃ (kq : Nat) (Lr : Bool), v25 = .bool Lr ∧ aD (bZ.j0 kq a1 l2 Lr aQ aE bR dI = some (r1, r2, r3)) ∧ aD (kq ≤ k) ∧ aD (Kd.R Kd.string 9 wc w.heap.size (fun k_ => (w.heap.size ≤ k_)) (.slice jE bR.length jB) bR) ∧ aD (Kd.N k66 66 wc w.heap.size (F13 w (.slice jE bR.length jB) aZ bF bM) (.slice uP dI.length lJ) dI) ∧ aD (wc.heap[aZ]? = some (.cells #[(.slice dD aQ.length dE), (.slice dS aE.length dB)] 31 (0, 0))) ∧ aD (wc.heap[bF]? = some (.cells #[(.slice none 0 0), (.slice none 0 0)] 31 (0, 0))) ∧ aD (wc.heap[bM]? = some (.cells #[(.slice jE bR.length jB), (.slice uP dI.length lJ)] 31 (0, 0))) ∧ aD (Below w.heap.size w wc))
  case first =>
   have H := oa.1
   clear oa
   obtain ⟨bO, Yx, H⟩ := bd H
   refine tC H ?_ ?_ <;> clear H <;> intro pf H <;> subst pf
   ·obtain ⟨P7, S4, H⟩ := bd H
    have H' := am H
    repeat clear H
    go_wp2_with (first | ((with_reducible refine gC 51 ?_); refine cQ (some 17) Tryz.func51 (bT.calls k a1 true _ Yx.out) ?_; rintro w' ⟨nd, rfl⟩; have ky := nZ2 dY eI eZ fP; have ox := cz2 aC) | (go_at_call 52; refine cM (bV.calls k _ _ l2 _ _ aQ P7 _ (Kd.aM pL.1 fE) pK.1 (Kd.aM cS.1 fE) cO.1 S4.out) ?_; rintro w' ⟨nd, rfl⟩))
    go_meet
    exact ⟨_, (!P7), eS, H', ⟨by first | omega | exact Nat.le_refl _⟩, ⟨mR fQ aY⟩, ⟨by refine rN ?_; exact Kd.bQ (fN (fN (Kd.bQ eU.1 (fun k_ hk => (⟨hk, hk.2⟩ : _ ∧ k_ ≠ bM))))) (fun _ hk => ⟨hk.1.1.1, ⟨hk.1.1.2.1, ⟨hk.1.1.2.2.1, ⟨hk.1.1.2.2.2, hk.1.2⟩⟩⟩⟩)⟩, ⟨qF aC eZ⟩, ⟨qF aT fI⟩, ⟨qP aY⟩, ⟨fE⟩⟩
   have H' := am H
   repeat clear H
   go_wp2_with (first | ((with_reducible refine gC 51 ?_); refine cQ (some 17) Tryz.func51 (bT.calls k a1 false _ Yx.out) ?_; rintro w' ⟨nd, rfl⟩))
   go_meet
   exact ⟨_, (true), eS, H', ⟨by first | omega | exact Nat.le_refl _⟩, ⟨mR fQ aY⟩, ⟨by refine rN ?_; exact Kd.bQ (fN (fN (Kd.bQ eU.1 (fun k_ hk => (⟨hk, hk.2⟩ : _ ∧ k_ ≠ bM))))) (fun _ hk => ⟨hk.1.1.1, ⟨hk.1.1.2.1, ⟨hk.1.1.2.2.1, ⟨hk.1.1.2.2.2, hk.1.2⟩⟩⟩⟩)⟩, ⟨qF aC eZ⟩, ⟨qF aT fI⟩, ⟨qP aY⟩, ⟨fE⟩⟩
  clear oa
  try clear c2
  try clear c5
  try clear Lz
  try clear Nl
  try clear ov
  obtain ⟨kq, Lr, rfl, HA, HJ6, aX, aN, aC, aT, aY, HB⟩ := hcut
  cases kq with
  | zero => exact absurd HA.out (by simp [bZ.j0])
  | succ kj6 =>
   have H := HA.out
   clear HA
   simp only [bZ.j0] at H
   refine tC H ?_ ?_ <;> (repeat clear H) <;> intro yj H <;> subst yj
   obtain ⟨rfl, rfl, rfl⟩ := sZ3 H
   repeat clear H
   have vd := nZ2 fP eZ gW fI
   have ve := cz2 aY
   have vh := nZ1 eI dY
   have vi := cz2 aT
   rotate_left
   obtain ⟨EM, nf, H⟩ := bd H
   by_cases Vi : EM ≥ 0
   rw [if_pos Vi] at H
   have Rs : decide (0 ≤ EM) = true := decide_eq_true Vi
   clear Vi
   obtain ⟨rfl, rfl, rfl⟩ := sZ3 H
   repeat clear H
   have oy := nZ2 dY eI eZ fP
   have Z37 := cz2 aC
   have bv := trivial
   rotate_left
   rw [if_neg Vi] at H
   have Rs : decide (0 ≤ EM) = false := decide_eq_false Vi
   clear Vi
   by_cases Vj : (aE.length : Int) ≥ 5
   rw [if_pos Vj] at H
   have Ii : decide (5 ≤ (aE.length : Int)) = true := decide_eq_true Vj
   have Rt : decide (5 ≤ aE.length) = true := decide_eq_true (by omega)
   clear Vj
   obtain ⟨rfl, rfl, rfl⟩ := sZ3 H
   repeat clear H
   have wj := nZ2 dY eI eZ fP
   have oz := cz2 aC
   have bw := trivial
   rotate_left
   rw [if_neg Vj] at H
   have Ii : decide (5 ≤ (aE.length : Int)) = false := decide_eq_false Vj
   have Rt : decide (5 ≤ aE.length) = false := decide_eq_false (by omega)
   clear Vj
   have H' := am H
   repeat clear H
   have Z51 := nZ2 dY eI eZ fP
   have xg := cz2 aC
   have bx := trivial
   rotate_left
   all_goals
    go_wp2_with (first | ((with_reducible refine gC 48 ?_); revert bv; intro bv; refine cQ (some 29) Tryz.func48 (gG.calls kj6 _ _ aQ _ _ aE a1 EM _ (pB cS) cO.1 (pB bE) dL.1 nf.out) ?_; rintro a0O hb; replace aX := RB kS hb; replace aN := NE wW hb; replace aC := bB bJ hb; replace aT := bB fF hb; replace aY := bB jO hb; replace HB := bS fE hb; clear hb; have vk := nZ1 gW fI; have vl := cz2 aY; have vm := cz2 aT) | ((with_reducible refine gC 48 ?_); revert bw; intro bw; refine cQ (some 29) Tryz.func48 (gG.calls kj6 _ _ aQ _ _ aE a1 EM _ (pB cS) cO.1 (pB bE) dL.1 nf.out) ?_; rintro a0P hb; replace aX := RB kS hb; replace aN := NE wW hb; replace aC := bB bJ hb; replace aT := bB fF hb; replace aY := bB jO hb; replace HB := bS fE hb; clear hb; have vo := cz2 aC; have vp := nZ1 gW fI; have vq := cz2 aY; have vr := cz2 aT) | ((with_reducible refine gC 48 ?_); revert bx; intro bx; refine cQ (some 29) Tryz.func48 (gG.calls kj6 _ _ aQ _ _ aE a1 EM _ (pB cS) cO.1 (pB bE) dL.1 nf.out) ?_; rintro a0R hb; replace aX := RB kS hb; replace aN := NE wW hb; replace aC := bB bJ hb; replace aT := bB fF hb; replace aY := bB jO hb; replace HB := bS fE hb; clear hb; have ee := cz2 aC))
   ·refine cT bF 31 #[.slice jE bR.length jB, .slice uP dI.length lJ] (qP aT) Tryz.underlying31 ?_
    exact ⟨_, _, eR, mR aX aT, by refine rN ?_; exact Kd.bQ (fN (fN (Kd.bQ aN.1 (fun k_ hk => (⟨hk, hk.2.2.2.1⟩ : _ ∧ k_ ≠ bF))))) (fun _ hk => ⟨hk.1.1, hk.1.2.1⟩), fE⟩
   ·refine cT bF 31 #[.slice jE bR.length jB, .slice uP dI.length lJ] (qP aT) Tryz.underlying31 ?_
    exact ⟨_, _, eR, mR aX aT, by refine rN ?_; exact Kd.bQ (fN (fN (Kd.bQ aN.1 (fun k_ hk => (⟨hk, hk.2.2.2.1⟩ : _ ∧ k_ ≠ bF))))) (fun _ hk => ⟨hk.1.1, hk.1.2.1⟩), fE⟩
   ·refine cT bF 31 #[.slice jE bR.length jB, .slice uP dI.length lJ] (qP aT) Tryz.underlying31 ?_
    exact ⟨_, _, eR, mR aX aT, by refine rN ?_; exact Kd.bQ (fN (fN (Kd.bQ aN.1 (fun k_ hk => (⟨hk, hk.2.2.2.1⟩ : _ ∧ k_ ≠ bF))))) (fun _ hk => ⟨hk.1.1, hk.1.2.1⟩), fE⟩
   ·go_loopg [9] kj6 (fun kq v9 w' => ∃ (lG : Int), v9 = .int .i64 lG ∧ aD (bZ.l0 kq a1 l2 lG bR dI = some (r1, r2, r3)) ∧ aD (kq ≤ kj6) ∧ aD (Kd.R Kd.string 9 w' w.heap.size (fun k_ => (w.heap.size ≤ k_)) (.slice jE bR.length jB) bR) ∧ aD (Kd.N k66 66 w' w.heap.size (F13 w (.slice jE bR.length jB) aZ bF bM) (.slice uP dI.length lJ) dI) ∧ aD (w'.heap[aZ]? = some (.cells #[(.slice dD aQ.length dE), (.slice dS aE.length dB)] 31 (0, 0))) ∧ aD (w'.heap[bF]? = some (.cells #[(.slice none 0 0), (.slice none 0 0)] 31 (0, 0))) ∧ aD (w'.heap[bM]? = some (.cells #[(.slice jE bR.length jB), (.slice uP dI.length lJ)] 31 (0, 0))) ∧ aD (Below w.heap.size w w'))
    case atStart => exact ⟨(0), eS, H', ⟨Nat.le_refl _⟩, ⟨rR aX.1⟩, ⟨rN aN.1⟩, ⟨rB aC.1⟩, ⟨rB aT.1⟩, ⟨rB aY.1⟩, ⟨fE⟩⟩
    case round =>
     clear H'
     try clear c2
     try clear c5
     try clear yj
     try clear Vi
     try clear Rs
     try clear Vj
     try clear Ii
     try clear Rt
     try clear Lz
     try clear Nl
     try clear ov
     try clear xg
     try clear ee
     obtain ⟨lG, rfl, HA, HK2, aX, aN, aC, aT, aY, HB⟩ := hrel
     cases gk with
     | zero => exact absurd HA.out (by simp [bZ.l0])
     | succ k2 =>
      have H := HA.out
      clear HA
      simp only [bZ.l0] at H
      refine ic H ?_ ?_ <;> clear H <;> intro gf H
      ·obtain ⟨yz, H⟩ := cN H
       refine tC H ?_ ?_ <;> clear H <;> intro za H
       ·have H' := am H
        repeat clear H
        have Z59 := nZ2 fP eZ gW fI
        have Z61 := cz2 aY
        have LR : 0 ≤ (lG : Int) := oT
        have LT : lG < (dI.length : Int) := oT
        obtain ⟨oH, FE, FO, JE, JX, TN, MU, E3, E4, IC, I9, ID, IA⟩ := AY (Kd.gT aN.1).2.2 lG LR LT
        cases TN
        obtain ⟨ce114, hce114, hMe114, hcc114⟩ := Kd.Gp aN.1 z66 lG LR (by first | exact LT | exact oT | (have e_ := (Kd.gT aN.1).1; omega))
        obtain ⟨ua114_1, uc114_1, ua114_2, uc114_2, rfl, BV, BI, BX, BJ⟩ := rJ hMe114
        have wR := hcc114 1 _ rfl
        rw [sU _ _ 1 (by omega)] at wR
        replace wR := Option.some.inj (wR.symm.trans E3)
        injection wR with hva_ hvn_ hvc_
        rw [hva_] at BI
        rw [hvc_] at BV
        have o0 := am (show Kd.V Kd.string 9 _ w.heap.size _ _ ((aA dI lG).f1) from Kd.V_mk BV BI)
        clear hva_ hvn_ hvc_ BI BV
        have wS := hcc114 2 _ rfl
        rw [sU _ _ 2 (by omega)] at wS
        replace wS := Option.some.inj (wS.symm.trans E4)
        injection wS with hva_ hvn_ hvc_
        rw [hva_] at BJ
        rw [hvc_] at BX
        have o5 := am (show Kd.V Kd.string 9 _ w.heap.size _ _ ((aA dI lG).f2) from Kd.V_mk BX BJ)
        clear hva_ hvn_ hvc_ BJ BX
        clear hcc114 hce114
        have sD := am I9
        have DM := am IC
        clear I9 IC
        have vI := am IA
        have MA := am ID
        clear IA ID
        replace LR := eq_true LR
        replace LT := eq_true LT
        go_wp2
        go_roundg k2
        case measure => have := HJ6.out; have := HK2.out; omega
        case rel => exact ⟨(wrap64 (lG + 1)), eS, H', ⟨by have := HJ6.out; have := HK2.out; omega⟩, ⟨rR aX.1⟩, ⟨rN aN.1⟩, ⟨rB aC.1⟩, ⟨rB aT.1⟩, ⟨rB aY.1⟩, ⟨fE⟩⟩
       ·obtain ⟨GM, hy115⟩ : ∃ y_ : List (S66), y_ = (([] : List (S66))) := ⟨_, rfl⟩
        replace H : (if lG ≤ (dI.length : Int) then ((some (dI.take (lG : Int).toNat : List (S66))).bind fun QC => (if GM.length + QC.length < 2199023255552 then ((some (GM ++ QC : List (S66))).bind fun y7 => ((iD.f l2).bind fun GL => (if y7.length < 2199023255552 then ((some (y7 ++ [(⟨a1, ([] : List ByteArray), GL⟩ : S66)] : List (S66))).bind fun GN => ((some (dI.drop (lG : Int).toNat : List (S66))).bind fun M5 => (if GN.length + M5.length < 2199023255552 then ((dA.f k2 bR (GN ++ M5)).bind fun Rj => (some (Rj.1, Rj.2, 0))) else (none)))) else (none)))) else (none))) else (none)) = some (r1, r2, r3) := by first | (rw [hy115]; with_reducible exact H) | (have H2_ := (Option.bind_some _ _).symm.trans H; rw [hy115]; with_reducible exact H2_) | (have H2_ := (Option.bind_some _ _).symm.trans H; with_reducible exact H2_) | with_reducible exact H | (rw [hy115]; exact H) | exact H
        have H5 := am hy115
        clear hy115
        have zb := eq_true (oT : 0 ≤ lG)
        obtain ⟨gh, zc, H⟩ := cP H
        obtain ⟨QC, KS, H⟩ := bY H
        obtain ⟨ar, H⟩ := cL H
        obtain ⟨y7, KT, H⟩ := bY H
        obtain ⟨GL, A65, H⟩ := bd H
        obtain ⟨au, H⟩ := cL H
        obtain ⟨GN, Gv, H⟩ := bY H
        have zd := eq_true (oT : 0 ≤ lG)
        have ze := eq_true (oT : lG ≤ (dI.length : Int))
        obtain ⟨M5, Rb, H⟩ := bY H
        obtain ⟨av, H⟩ := cL H
        obtain ⟨QE, Gy⟩ := yv (GN ++ M5); first | replace H := bW Gy H | rw [← Gy.1] at H
        obtain ⟨⟨jv, jw⟩, A70, H⟩ := bd H
        dsimp only at H
        obtain ⟨rfl, rfl, rfl⟩ := sZ3 H
        repeat clear H
        have Z71 := nZ2 fP eZ gW fI
        have Z73 := cz2 aY
        have LR : 0 ≤ (lG : Int) := oT
        have LT : lG < (dI.length : Int) := oT
        obtain ⟨oH, FE, FO, JE, JX, TN, MU, E3, E4, IC, I9, ID, IA⟩ := AY (Kd.gT aN.1).2.2 lG LR LT
        cases TN
        obtain ⟨ce114, hce114, hMe114, hcc114⟩ := Kd.Gp aN.1 z66 lG LR (by first | exact LT | exact oT | (have e_ := (Kd.gT aN.1).1; omega))
        obtain ⟨ua114_1, uc114_1, ua114_2, uc114_2, rfl, BV, BI, BX, BJ⟩ := rJ hMe114
        have wR := hcc114 1 _ rfl
        rw [sU _ _ 1 (by omega)] at wR
        replace wR := Option.some.inj (wR.symm.trans E3)
        injection wR with hva_ hvn_ hvc_
        rw [hva_] at BI
        rw [hvc_] at BV
        have o0 := am (show Kd.V Kd.string 9 _ w.heap.size _ _ ((aA dI lG).f1) from Kd.V_mk BV BI)
        clear hva_ hvn_ hvc_ BI BV
        have wS := hcc114 2 _ rfl
        rw [sU _ _ 2 (by omega)] at wS
        replace wS := Option.some.inj (wS.symm.trans E4)
        injection wS with hva_ hvn_ hvc_
        rw [hva_] at BJ
        rw [hvc_] at BX
        have o5 := am (show Kd.V Kd.string 9 _ w.heap.size _ _ ((aA dI lG).f2) from Kd.V_mk BX BJ)
        clear hva_ hvn_ hvc_ BJ BX
        clear hcc114 hce114
        have sD := am I9
        have DM := am IC
        clear I9 IC
        have vI := am IA
        have MA := am ID
        clear IA ID
        replace LR := eq_true LR
        replace LT := eq_true LT
        try go_wp2
        replace aX := RD aX
        replace aN := ND aN
        replace o0 := am (Kd.SQ o0.out)
        replace o5 := am (Kd.SQ o5.out)
        replace aC := BD aC
        replace aT := BD aT
        replace aY := BD aY
        replace sD := am (Kd.mK sD.1)
        replace vI := am (Kd.mK vI.1)
        replace HB := am (aU HB.1)
        have sa : (lG : Int) ≤ ((dI.length : Int) : Int) := oT
        obtain ⟨i075, Sf, _, hsz75, _⟩ := info_parts pJ
        have hroom75 : dI.length ≤ lJ := (Kd.gT aN.1).2.1
        have hC75 : Kd.F k66 _ _ (some oH) dI.length dI := (Kd.V_at (base := w.heap.size) (Kd.N_V aN.1)).2.2
        have hcut75 := CQ (P := Tryz.prog) 29 66 .i64 Tryz.underlying29 Sf (some oH) dI.length lJ lG (oT) sa hroom75
        have Xk := Kd.XN (m := (lG : Int).toNat) hC75 (by omega)
        have hy75 : QC.length = (lG : Int).toNat := (by rw [KS.out, List.length_take]; omega)
        rw [← KS.out] at Xk
        rw [← hy75] at hcut75
        have eA := am (show Kd.V k66 66 _ w.heap.size _ (.slice (some oH) QC.length lJ) QC from Kd.V_mk (by omega) Xk)
        have ub := am (show QC.length ≤ lJ from by omega)
        clear Xk hC75 hroom75 Sf hsz75
        have KY75 := am hy75
        clear hy75
        replace sa := eq_true sa
        have sb : (lG : Int) ≤ ((dI.length : Int) : Int) := oT
        obtain ⟨i076, Sg, _, hsz76, _⟩ := info_parts pJ
        have hroom76 : dI.length ≤ lJ := (Kd.gT aN.1).2.1
        have hC76 : Kd.F k66 _ _ (some oH) dI.length dI := (Kd.V_at (base := w.heap.size) (Kd.N_V aN.1)).2.2
        have rq : (0 : Int) ≤ (lG : Int) := oT
        have hcut76 := I7 (P := Tryz.prog) 29 66 .i64 Tryz.underlying29 Sg 3 hsz76 (some oH) dI.length lJ lG rq sb
        have Jg := Kd.Fs (m := (lG : Int).toNat) (c := lJ) hC76 (by omega) hroom76
        obtain ⟨tr, hA76⟩ : ∃ A1, A1 = (if lJ = (lG : Int).toNat then (some oH) else ((some oH) : Option Addr).map (·.add ((lG : Int).toNat * 3))) := ⟨_, rfl⟩
        obtain ⟨zg, Of⟩ : ∃ c1, c1 = lJ - (lG : Int).toNat := ⟨_, rfl⟩
        have hy76 : M5.length = dI.length - (lG : Int).toNat := (by rw [Rb.out, List.length_drop] <;> omega)
        rw [show (dI).drop (lG : Int).toNat = M5 from Rb.out.symm] at Jg
        replace Jg : Kd.F k66 _ _ tr M5.length M5 := (by rw [hA76]; exact Jg)
        rw [← hy76, ← hA76, ← Of] at hcut76
        have tP := am (show Kd.V k66 66 _ w.heap.size _ (.slice tr M5.length zg) M5 from Kd.V_mk (by rw [hy76, Of]; exact Nat.sub_le_sub_right hroom76 _) Jg)
        have uf := am (show M5.length ≤ zg from by rw [hy76, Of]; exact Nat.sub_le_sub_right hroom76 _)
        clear Jg hC76 hroom76 Sg hsz76 Of
        have KY76 := am hy76
        have KA76 := am hA76
        clear hy76 hA76
        replace sb := eq_true sb
        refine sT [18] 19 (uA2 aY) (fun hHeld => ?_)
        refine gH bZ.Sq bZ.Hq (fun HT_ HW_ => ?_)
        generalize wr.drew = w74 at aX aN o0 o5 aC aT aY sD vI HB eA tP hHeld ⊢
        refine pU6 1 3 6 7 12 14 ?_
        refine tK2 2 (some 56) ?_
        refine pU1 4 ?_
        refine tK2 13 (some 67) ?_
        refine pU1 15 ?_
        refine oN 0 (some 54) fun K hK => ?_
        refine Kd.FJ k66 _ 66 ?hg (N' := 54) ?hd (xs := ([] : List (S66))) (inner := []) (ok := (F23 w (.slice jE bR.length jB) (.slice (some oH) dI.length lJ) aZ bF bM)) (okp := (F23 w (.slice jE bR.length jB) (.slice (some oH) dI.length lJ) aZ bF bM)) ?hr ?hp (fun _ hk => hk) ((show ∀ k_, w74.heap.size ≤ k_ → (F23 w (.slice jE bR.length jB) (.slice (some oH) dI.length lJ) aZ bF bM) k_ from fun k_ hk => ⟨(Nat.le_trans (aK fE) hk), Kd.fresh' (Kd.R_lt kS) k_ hk, Kd.fresh' (Kd.N_lt wW) k_ hk, fB bJ k_ hk, fB fF k_ hk, fB jO k_ hk⟩) _ (Nat.le_refl _)) (Below.refl _ _) (Nat.le_refl _) (by simp) ?_; (case hd => rfl); (case hg => rfl); (case hr => first | (go_simp; done) | (go_simp; rfl)); (case hp => exact (Reps.none _ _))
        intro Ex mv FV hb hg_ hnew_
        clear hg_ hnew_
        (first | rw [← H5.out] at FV | (simp only [Int.reduceToNat] at FV; rw [← H5.out] at FV))
        replace aX := RB kS hb
        replace aN := am (Kd.qL wW (by first | exact Kd.vV FV | exact Kd.zA FV) hb)
        replace o0 := am (Kd.lY (rV o0.out) (by first | exact Kd.vV FV | exact Kd.zA FV) hb)
        replace o5 := am (Kd.lY (rV o5.out) (by first | exact Kd.vV FV | exact Kd.zA FV) hb)
        replace eA := am (Kd.lY (rV eA.1) (by first | exact Kd.vV FV | exact Kd.zA FV) hb)
        replace tP := am (Kd.lY (rV tP.1) (by first | exact Kd.vV FV | exact Kd.zA FV) hb)
        have yB := am (Kd.pE FV (aK fE))
        replace aC := bB bJ hb
        replace aT := bB fF hb
        replace aY := bB jO hb
        replace sD := am (Kd.aM (by repeat (first | (with_reducible exact sD.1) | (with_reducible refine Kd.l7 ?_ _) | (with_reducible refine Kd.l8 ?_ _) | (with_reducible refine Kd.mK ?_) | exact sD.1)) hb)
        replace vI := am (Kd.aM (by repeat (first | (with_reducible exact vI.1) | (with_reducible refine Kd.l7 ?_ _) | (with_reducible refine Kd.l8 ?_ _) | (with_reducible refine Kd.mK ?_) | exact vI.1)) hb)
        replace HB := bS fE hb
        clear hb FV
        refine nK hK (uA2 aY).1 fun hHeld => ?_
        clear hK K
        refine oN 5 (some 59) fun K hK => ?_
        refine Kd.l5 k66 (w0 := w) w.heap.size (by rfl) (.tmp 54) (.tmp 58) 29 66 Ag0 64 rfl Tryz.underlying29 pJ rfl (by decide) (by omega) Ex GM QC _ _ _ (F13 w (.slice jE bR.length jB) aZ bF bM) (FA (F13 w (.slice jE bR.length jB) aZ bF bM) Ex) rfl rfl ?aO ?aR (fun _ hk => hk) ?aF ?aB ?aS ?aL ?_
        (case aR => exact (by skip; exact Kd.V_F (Kd.iC (ok' := (FA (F13 w (.slice jE bR.length jB) aZ bF bM) Ex)) (eA.1) (fun k_ hk => ⟨⟨hk.1.1, ⟨hk.1.2.1, ⟨hk.1.2.2.1, ⟨hk.1.2.2.2.1, hk.1.2.2.2.2⟩⟩⟩⟩, hk.2⟩))))
        (case aB => exact fE)
        (case aF => exact (fun k_ hk => ⟨(Nat.le_trans (aK fE) hk), Kd.fresh' (Kd.R_lt kS) k_ hk, fB bJ k_ hk, fB fF k_ hk, fB jO k_ hk⟩))
        (case aO => exact (by refine rN ?_; exact Kd.bQ yB.1 (fun _ hk => ⟨hk.1, ⟨hk.2.1, ⟨hk.2.2.2.1, ⟨hk.2.2.2.2.1, hk.2.2.2.2.2⟩⟩⟩⟩)))
        (case aS => exact (aK fE))
        (case aL => have := ar.out; omega)
        intro Lh w79 ho hb hg hat
        rw [← KT.out] at ho
        replace aX := am (Kd.tV kS (Kd.nQ (rN yB.1)) (by decide) hg)
        replace aN := am (Kd.tT (ok := (F13 w (.slice jE bR.length jB) aZ bF bM)) wW hg hat)
        replace aC := gkN bJ hg yB aC
        replace aT := gkN fF hg yB aT
        replace aY := gkN jO hg yB aY
        replace o0 := am (Kd.jR (ok := (F23 w (.slice jE bR.length jB) (.slice (some oH) dI.length lJ) aZ bF bM)) (by refine rV ?_; exact Kd.iC o0.out (fun _ hk => ⟨⟨hk.1.1.1, ⟨hk.1.1.2.1, ⟨hk.1.2, ⟨hk.1.1.2.2.1, ⟨hk.1.1.2.2.2.1, hk.1.1.2.2.2.2⟩⟩⟩⟩⟩, hk.2⟩)) hg hat)
        replace o5 := am (Kd.jR (ok := (F23 w (.slice jE bR.length jB) (.slice (some oH) dI.length lJ) aZ bF bM)) (by refine rV ?_; exact Kd.iC o5.out (fun _ hk => ⟨⟨hk.1.1.1, ⟨hk.1.1.2.1, ⟨hk.1.2, ⟨hk.1.1.2.2.1, ⟨hk.1.1.2.2.2.1, hk.1.1.2.2.2.2⟩⟩⟩⟩⟩, hk.2⟩)) hg hat)
        replace eA := am (Kd.jR (ok := (F13 w (.slice jE bR.length jB) aZ bF bM)) (rV eA.1) hg hat)
        replace tP := am (Kd.jR (ok := (F13 w (.slice jE bR.length jB) aZ bF bM)) (rV tP.1) hg hat)
        replace HB := am hb
        have C3 := am ho
        clear yB
        clear ho hb hg hat
        refine nK hK (uA2 aY).1 fun hHeld => ?_
        clear hK K
        refine oN 8 (some 62) fun K hK => ?_
        refine gE Tryz.func54 (iD.calls _ _ l2 GL _ (pB pL) pK.1 A65.out) ?_
        rintro e w80 ⟨v127, rfl, hD, hb⟩
        refine ⟨_, rfl, ?_⟩
        replace aN := am (Kd.qL wW (Kd.eO hD) hb)
        replace o0 := am (Kd.lY (rV o0.out) (Kd.eO hD) hb)
        replace o5 := am (Kd.lY (rV o5.out) (Kd.eO hD) hb)
        replace eA := am (Kd.lY (rV eA.1) (Kd.eO hD) hb)
        replace tP := am (Kd.lY (rV tP.1) (Kd.eO hD) hb)
        replace C3 := am (Kd.qL (rN C3.1) (Kd.eO hD) hb)
        have NC := am (Kd.eF (Kd.jQ (Kd.qN (M := fun k_ => (w.heap.size ≤ k_)) hD (aK fE) (fun k_ h_ => h_)) (Kd.R_lt kS)) (aK fE))
        replace aX := am (Kd.gZ kS (Kd.eO hD) hb)
        replace aC := bB bJ hb
        replace aT := bB fF hb
        replace aY := bB jO hb
        replace HB := bS fE hb
        clear hb hD
        obtain ⟨Cn, Di, iv⟩ := Kd.cB NC.1
        (first | subst iv | (obtain ⟨f4_, f5_⟩ := sj iv; subst f4_; subst f5_))
        refine nK hK (uA2 aY).1 fun hHeld => ?_
        clear hK K
        refine pU1 9 ?_
        refine oN 10 (some 64) fun K hK => ?_
        refine P9 (w1 := ?_) (v := ?_) (by rfl) rfl ?_ ?_
        rotate_left 2
        ·go_simp
         constructor
         ·rfl
         ·rfl
        refine hK.out _ _ ⟨(aH (bP aY.1 _) 0).trans rfl, (aH (bP aY.1 _) 1).trans rfl⟩ (fun hHeld => ?_)
        clear hK K
        refine nM ?_
        refine oN 11 (some 65) fun K hK => ?_
        refine Kd.EQ k66 (w0 := w) w.heap.size (by rfl) (.tmp 59) (.tmp 64) 29 66 Ag0 64 rfl Tryz.underlying29 pJ rfl (by decide) (by omega) Lh y7 (⟨a1, ([] : List ByteArray), GL⟩ : S66) [.string a1, .slice none 0 0, .slice Cn GL.length Di] (F13 w (.slice jE bR.length jB) aZ bF bM) (FA (F13 w (.slice jE bR.length jB) aZ bF bM) Lh) rfl rfl ?aP (fun _ hk => hk) ?aF ?aO ?aB ?aS ?aL ?_
        (case aP => exact (MV _ _ (⟨a1, ([] : List ByteArray), GL⟩ : S66) (Nat.le_refl _) (Kd.Fw _ _ _) (Kd.bI (Kd.bG (ok' := (FA (F13 w (.slice jE bR.length jB) aZ bF bM) Lh)) (Kd.iX (Kd.iX (Kd.iX (Kd.iR (NC.1) (Kd.nQ C3.1) (by decide)) aC.1 (by decide)) aT.1 (by decide)) aY.1 (by decide)) (fun k_ hk => ⟨⟨hk.1.1.1.1.1.1, ⟨hk.1.1.1.1.2, ⟨hk.1.1.2, ⟨hk.1.2, hk.2⟩⟩⟩⟩, hk.1.1.1.2⟩))).2.1 (Kd.R_F (Kd.bG (ok' := (FA (F13 w (.slice jE bR.length jB) aZ bF bM) Lh)) (Kd.iX (Kd.iX (Kd.iX (Kd.iR (NC.1) (Kd.nQ C3.1) (by decide)) aC.1 (by decide)) aT.1 (by decide)) aY.1 (by decide)) (fun k_ hk => ⟨⟨hk.1.1.1.1.1.1, ⟨hk.1.1.1.1.2, ⟨hk.1.1.2, ⟨hk.1.2, hk.2⟩⟩⟩⟩, hk.1.1.1.2⟩)))))
        (case aB => exact fE)
        (case aF => exact (fun k_ hk => ⟨(Nat.le_trans (aK fE) hk), Kd.fresh' (Kd.R_lt kS) k_ hk, fB bJ k_ hk, fB fF k_ hk, fB jO k_ hk⟩))
        (case aO => exact (by refine rN ?_; exact Kd.bQ C3.1 (fun _ hk => ⟨hk.1.1, ⟨hk.1.2.1, ⟨hk.1.2.2.1, ⟨hk.1.2.2.2.1, hk.1.2.2.2.2⟩⟩⟩⟩)))
        (case aS => exact (aK fE))
        (case aL => have := au.out; omega)
        intro Yq w82 ho hb hg hat
        rw [← Gv.out] at ho
        replace aX := am (Kd.tV kS (Kd.nQ (rN C3.1)) (by decide) hg)
        replace aN := am (Kd.tT (ok := (F23 w (.slice jE bR.length jB) (.slice Cn GL.length Di) aZ bF bM)) (by refine rN ?_; exact Kd.bQ aN.1 (fun _ hk => ⟨⟨hk.1.1.1, ⟨hk.1.1.2.1, ⟨hk.2, ⟨hk.1.1.2.2.1, ⟨hk.1.1.2.2.2.1, hk.1.1.2.2.2.2⟩⟩⟩⟩⟩, hk.1.2⟩)) hg hat)
        replace aC := gkN bJ hg C3 aC
        replace aT := gkN fF hg C3 aT
        replace aY := gkN jO hg C3 aY
        replace o0 := am (Kd.jR (ok := (F33 w (.slice jE bR.length jB) (.slice (some oH) dI.length lJ) (.slice Cn GL.length Di) aZ bF bM)) (by refine rV ?_; exact Kd.iC o0.out (fun _ hk => ⟨⟨hk.1.1.1, ⟨hk.1.1.2.1, ⟨hk.1.1.2.2.1, ⟨hk.2, ⟨hk.1.1.2.2.2.1, ⟨hk.1.1.2.2.2.2.1, hk.1.1.2.2.2.2.2⟩⟩⟩⟩⟩⟩, hk.1.2⟩)) hg hat)
        replace o5 := am (Kd.jR (ok := (F33 w (.slice jE bR.length jB) (.slice (some oH) dI.length lJ) (.slice Cn GL.length Di) aZ bF bM)) (by refine rV ?_; exact Kd.iC o5.out (fun _ hk => ⟨⟨hk.1.1.1, ⟨hk.1.1.2.1, ⟨hk.1.1.2.2.1, ⟨hk.2, ⟨hk.1.1.2.2.2.1, ⟨hk.1.1.2.2.2.2.1, hk.1.1.2.2.2.2.2⟩⟩⟩⟩⟩⟩, hk.1.2⟩)) hg hat)
        replace eA := am (Kd.jR (ok := (F23 w (.slice jE bR.length jB) (.slice Cn GL.length Di) aZ bF bM)) (by refine rV ?_; exact Kd.iC eA.1 (fun _ hk => ⟨⟨hk.1.1.1, ⟨hk.1.1.2.1, ⟨hk.2, ⟨hk.1.1.2.2.1, ⟨hk.1.1.2.2.2.1, hk.1.1.2.2.2.2⟩⟩⟩⟩⟩, hk.1.2⟩)) hg hat)
        replace tP := am (Kd.jR (ok := (F23 w (.slice jE bR.length jB) (.slice Cn GL.length Di) aZ bF bM)) (by refine rV ?_; exact Kd.iC tP.1 (fun _ hk => ⟨⟨hk.1.1.1, ⟨hk.1.1.2.1, ⟨hk.2, ⟨hk.1.1.2.2.1, ⟨hk.1.1.2.2.2.1, hk.1.1.2.2.2.2⟩⟩⟩⟩⟩, hk.1.2⟩)) hg hat)
        replace HB := am hb
        have QH := am ho
        clear C3
        clear NC
        clear ho hb hg hat
        refine nK hK (uA2 aY).1 fun hHeld => ?_
        clear hK K
        refine oN 16 (some 70) fun K hK => ?_
        refine Kd.l5 k66 (w0 := w) w.heap.size (by rfl) (.tmp 65) (.tmp 69) 29 66 Ag0 64 rfl Tryz.underlying29 pJ rfl (by decide) (by omega) Yq GN M5 _ _ _ (F13 w (.slice jE bR.length jB) aZ bF bM) (FA (F13 w (.slice jE bR.length jB) aZ bF bM) Yq) rfl rfl ?aO ?aR (fun _ hk => hk) ?aF ?aB ?aS ?aL ?_
        (case aR => exact (by skip; exact Kd.V_F (Kd.iC (ok' := (FA (F13 w (.slice jE bR.length jB) aZ bF bM) Yq)) (tP.1) (fun k_ hk => ⟨⟨hk.1.1, ⟨hk.1.2.1, ⟨hk.1.2.2.2.1, ⟨hk.1.2.2.2.2.1, hk.1.2.2.2.2.2⟩⟩⟩⟩, hk.2⟩))))
        (case aB => exact fE)
        (case aF => exact (fun k_ hk => ⟨(Nat.le_trans (aK fE) hk), Kd.fresh' (Kd.R_lt kS) k_ hk, fB bJ k_ hk, fB fF k_ hk, fB jO k_ hk⟩))
        (case aO => exact (rN QH.1))
        (case aS => exact (aK fE))
        (case aL => have := av.out; omega)
        intro v138 w83 ho hb hg hat
        rw [← Gy.out] at ho
        replace aX := am (Kd.tV kS (Kd.nQ (rN QH.1)) (by decide) hg)
        replace aN := am (Kd.tT (ok := (F13 w (.slice jE bR.length jB) aZ bF bM)) (by refine rN ?_; exact Kd.bQ aN.1 (fun _ hk => ⟨⟨hk.1.1, ⟨hk.1.2.1, ⟨hk.1.2.2.2.1, ⟨hk.1.2.2.2.2.1, hk.1.2.2.2.2.2⟩⟩⟩⟩, hk.2⟩)) hg hat)
        replace aC := gkN bJ hg QH aC
        replace aT := gkN fF hg QH aT
        replace aY := gkN jO hg QH aY
        replace o0 := am (Kd.jR (ok := (F23 w (.slice jE bR.length jB) (.slice (some oH) dI.length lJ) aZ bF bM)) (by refine rV ?_; exact Kd.iC o0.out (fun _ hk => ⟨⟨hk.1.1, ⟨hk.1.2.1, ⟨hk.1.2.2.1, ⟨hk.1.2.2.2.2.1, ⟨hk.1.2.2.2.2.2.1, hk.1.2.2.2.2.2.2⟩⟩⟩⟩⟩, hk.2⟩)) hg hat)
        replace o5 := am (Kd.jR (ok := (F23 w (.slice jE bR.length jB) (.slice (some oH) dI.length lJ) aZ bF bM)) (by refine rV ?_; exact Kd.iC o5.out (fun _ hk => ⟨⟨hk.1.1, ⟨hk.1.2.1, ⟨hk.1.2.2.1, ⟨hk.1.2.2.2.2.1, ⟨hk.1.2.2.2.2.2.1, hk.1.2.2.2.2.2.2⟩⟩⟩⟩⟩, hk.2⟩)) hg hat)
        replace eA := am (Kd.jR (ok := (F13 w (.slice jE bR.length jB) aZ bF bM)) (by refine rV ?_; exact Kd.iC eA.1 (fun _ hk => ⟨⟨hk.1.1, ⟨hk.1.2.1, ⟨hk.1.2.2.2.1, ⟨hk.1.2.2.2.2.1, hk.1.2.2.2.2.2⟩⟩⟩⟩, hk.2⟩)) hg hat)
        replace tP := am (Kd.jR (ok := (F13 w (.slice jE bR.length jB) aZ bF bM)) (by refine rV ?_; exact Kd.iC tP.1 (fun _ hk => ⟨⟨hk.1.1, ⟨hk.1.2.1, ⟨hk.1.2.2.2.1, ⟨hk.1.2.2.2.2.1, hk.1.2.2.2.2.2⟩⟩⟩⟩, hk.2⟩)) hg hat)
        replace HB := am hb
        have QI := am ho
        clear QH
        clear ho hb hg hat
        obtain ⟨V1, TJ, iw⟩ := Kd.kN QI.1
        (first | subst iw | (obtain ⟨f4_, f5_⟩ := sj iw; subst f4_; subst f5_))
        refine nK hK (uA2 aY).1 fun hHeld => ?_
        clear hK K
        refine pU1 17 ?_
        refine lN 18 none fun K hK => ?_
        have a5W : w83.cell? ⟨bM, 1, none⟩ = some (.slice (some oH) dI.length lJ) := (aH aY.1 1).trans rfl
        have zx := bL aY.1 1
        have mh := eZ.1
        have mi := fI.1
        have lu := fP.1
        have lv := gW.1
        refine qJ (w1 := ?_) (by rfl) rfl ?_ ?_
        rotate_left
        ·go_simp
         rfl
        refine hK.out _ _ ?_
        clear hK K
        refine dN ?_
        have Z86 := cz2 aY
        try go_wp2_with (first | ((with_reducible refine qR (f := 22) rfl ?_); refine BK (some 73) rfl rfl Tryz.func22 (by kernel_rfl) rfl #[.agg #[.slice jE bR.length jB, .slice V1 QE.length TJ]] rfl n7 ?_; (with_reducible refine (dA.calls k2 _ _ bR _ _ QE jv jw _ ?side1 ?side2 ?side3 ?side4 A70.out).mono ?_); (case side1 => refine (Kd.bI (e := 9) (base := w.heap.size) (ok := fun k_ => (w.heap.size ≤ k_)) (n := bR.length) (c := jB) ?_).2.2; exact (by refine rR ?_; exact Kd.bG (fR (tR aX aY)) (fun _ hk => hk.1.1))); (case side2 => exact (Kd.bI aX.1).2.1); (case side3 => refine (Kd.gT (e := 66) (base := w.heap.size) (ok := fun k_ => ((w.heap.size ≤ k_) ∧ (some k_ ≠ (.slice jE bR.length jB : Value).ownBlock ∧ (k_ ≠ aZ ∧ (k_ ≠ bF ∧ k_ ≠ bM))))) (n := QE.length) (c := TJ) ?_).2.2; exact (by refine rN ?_; exact (Kd.bQ (fN (Kd.bQ QI.1 (fun k_ hk => (⟨hk, hk.2.2.2.2⟩ : _ ∧ k_ ≠ bM)))) (fun _ h_ => h_.1)))); (case side4 => exact (Kd.gT QI.1).2.1); rintro e w87 ⟨su, a6J, rfl, hD, pP, hb⟩; refine ⟨_, rfl, ?_⟩; replace o0 := am (Kd.iC (Kd.vW (Kd.vW (Kd.QR (by refine rV ?_; exact (Kd.iC (Kd.KU (p := ⟨bM, 1, none⟩) (Kd.iC o0.out (fun k_ hk => (⟨hk, hk.1.2.2.2.2.2⟩ : _ ∧ k_ ≠ bM))) (fun _ hk => hk.2) (.slice V1 QE.length TJ)) (fun _ h_ => h_.1))) hb) (Kd.eO hD)) EK) (fun _ h_ => h_.1)); replace o5 := am (Kd.iC (Kd.vW (Kd.vW (Kd.QR (by refine rV ?_; exact (Kd.iC (Kd.KU (p := ⟨bM, 1, none⟩) (Kd.iC o5.out (fun k_ hk => (⟨hk, hk.1.2.2.2.2.2⟩ : _ ∧ k_ ≠ bM))) (fun _ hk => hk.2) (.slice V1 QE.length TJ)) (fun _ h_ => h_.1))) hb) (Kd.eO hD)) EK) (fun _ h_ => h_.1)); replace eA := am (Kd.iC (Kd.vW (Kd.vW (Kd.QR (by refine rV ?_; exact (Kd.iC (Kd.KU (p := ⟨bM, 1, none⟩) (Kd.iC eA.1 (fun k_ hk => (⟨hk, hk.1.2.2.2.2⟩ : _ ∧ k_ ≠ bM))) (fun _ hk => hk.2) (.slice V1 QE.length TJ)) (fun _ h_ => h_.1))) hb) (Kd.eO hD)) EK) (fun _ h_ => h_.1)); replace tP := am (Kd.iC (Kd.vW (Kd.vW (Kd.QR (by refine rV ?_; exact (Kd.iC (Kd.KU (p := ⟨bM, 1, none⟩) (Kd.iC tP.1 (fun k_ hk => (⟨hk, hk.1.2.2.2.2⟩ : _ ∧ k_ ≠ bM))) (fun _ hk => hk.2) (.slice V1 QE.length TJ)) (fun _ h_ => h_.1))) hb) (Kd.eO hD)) EK) (fun _ h_ => h_.1)); have Qo := am (Kd.eF (Kd.jQ (Kd.qN (M := fun k_ => (w.heap.size ≤ k_)) hD (aK fE) (fun k_ h_ => h_)) (Kd.R_lt (by refine rR ?_; exact (Kd.bG (fR (tR aX aY)) (fun _ h_ => h_.1))))) (aK fE)); have Qp := am (Kd.pE (Kd.bQ (ok' := F43 w su (.slice jE bR.length jB) (.slice (some oH) dI.length lJ) (.slice V1 QE.length TJ) aZ bF bM) (Kd.S_N (Kd.lC pP)) (fun k_ hk_ => ⟨(Nat.le_trans (aK fE) hk_.2.1), hk_.1, (Kd.fresh' (Kd.R_lt (by refine rR ?_; exact (Kd.bG (fR (tR aX aY)) (fun _ h_ => h_.1)))) k_ hk_.2.1), (Kd.fresh' (Kd.N_lt (by refine rN ?_; exact (Kd.bQ (fN (Kd.bQ aN.1 (fun k_ hk => (⟨hk, hk.1.2.2.2.2⟩ : _ ∧ k_ ≠ bM)))) (fun _ h_ => h_.1)))) k_ hk_.2.1), (Kd.fresh' (Kd.N_lt (by refine rN ?_; exact (Kd.bQ (fN (Kd.bQ QI.1 (fun k_ hk => (⟨hk, hk.2.2.2.2⟩ : _ ∧ k_ ≠ bM)))) (fun _ h_ => h_.1)))) k_ hk_.2.1), (Kd.FR (g := aZ) (o := .cells #[.slice dD aQ.length dE, .slice dS aE.length dB] 31 (0, 0)) Pi k_ hk_.2.1), (Kd.FR (g := bF) (o := .cells #[.slice none 0 0, .slice none 0 0] 31 (0, 0)) Pj k_ hk_.2.1), (Kd.FR (g := bM) (o := .cells #[.slice jE bR.length jB, .slice V1 QE.length TJ] 31 (0, 0)) (by refine rB ?_; refine bD (cs := #[.slice jE bR.length jB, .slice (some oH) dI.length lJ]) ?_ 1 _ rfl; refine rB ?_; exact aY.1) k_ hk_.2.1)⟩)) (aK fE)); replace aX := am (Kd.gZ (by refine rR ?_; exact (Kd.bG (fR (tR aX aY)) (fun _ h_ => h_.1))) (Kd.eO hD) hb); replace aN := am (Kd.bQ (Kd.oG (Kd.oG (Kd.ER (by refine rN ?_; exact (Kd.bQ (fN (Kd.bQ aN.1 (fun k_ hk => (⟨hk, hk.1.2.2.2.2⟩ : _ ∧ k_ ≠ bM)))) (fun _ h_ => h_.1))) hb) (Kd.eO hD)) EK) (fun _ h_ => h_.1)); replace QI := am (Kd.bQ (Kd.oG (Kd.oG (Kd.ER (by refine rN ?_; exact (Kd.bQ (fN (Kd.bQ QI.1 (fun k_ hk => (⟨hk, hk.2.2.2.2⟩ : _ ∧ k_ ≠ bM)))) (fun _ h_ => h_.1))) hb) (Kd.eO hD)) EK) (fun _ h_ => h_.1)); replace aC := am (aV (g := aZ) (o := .cells #[.slice dD aQ.length dE, .slice dS aE.length dB] 31 (0, 0)) Pi hb); replace aT := am (aV (g := bF) (o := .cells #[.slice none 0 0, .slice none 0 0] 31 (0, 0)) Pj hb); replace aY := am (aV (g := bM) (o := .cells #[.slice jE bR.length jB, .slice V1 QE.length TJ] 31 (0, 0)) (by refine rB ?_; refine bD (cs := #[.slice jE bR.length jB, .slice (some oH) dI.length lJ]) ?_ 1 _ rfl; refine rB ?_; exact aY.1) hb); replace HB := bS fE hb; clear hb hD pP; obtain ⟨nx, pq, qn⟩ := Kd.cB Qo.1; subst qn; have Z89 := nZ1 eI dY; have Z90 := cz2 aT; obtain ⟨XL, Y5, Wu⟩ := Kd.kN Qp.1; subst Wu))
        refine cT bF 31 #[.slice nx jv.length pq, .slice XL jw.length Y5] (qP aT) Tryz.underlying31 ?_
        exact ⟨_, _, eR, mR Qo aT, by refine rN ?_; exact Kd.bQ (fN (fN (Kd.bQ Qp.1 (fun k_ hk => (⟨hk, hk.2.2.2.2.2.2.1⟩ : _ ∧ k_ ≠ bF))))) (fun _ hk => ⟨hk.1.1, hk.1.2.1⟩), fE⟩
      ·obtain ⟨Yv, hy146⟩ : ∃ y_ : List (S66), y_ = (([] : List (S66))) := ⟨_, rfl⟩
       replace H : (if 0 ≤ lG then (if lG ≤ (dI.length : Int) then ((some (dI.take (lG : Int).toNat : List (S66))).bind fun XG => (if Yv.length + XG.length < 2199023255552 then ((some (Yv ++ XG : List (S66))).bind fun Qd => ((iD.f l2).bind fun UU => (if Qd.length < 2199023255552 then ((some (Qd ++ [(⟨a1, ([] : List ByteArray), UU⟩ : S66)] : List (S66))).bind fun Lv => ((some (dI.drop (lG : Int).toNat : List (S66))).bind fun M6 => (if Lv.length + M6.length < 2199023255552 then ((dA.f k2 bR (Lv ++ M6)).bind fun Rk => (some (Rk.1, Rk.2, 0))) else (none)))) else (none)))) else (none))) else (none)) else (none)) = some (r1, r2, r3) := by first | (rw [hy146]; with_reducible exact H) | (have H2_ := (Option.bind_some _ _).symm.trans H; rw [hy146]; with_reducible exact H2_) | (have H2_ := (Option.bind_some _ _).symm.trans H; with_reducible exact H2_) | with_reducible exact H | (rw [hy146]; exact H) | exact H
       have Rc := am hy146
       clear hy146
       obtain ⟨zl, zm, H⟩ := cP H
       obtain ⟨zn, zo, H⟩ := cP H
       obtain ⟨XG, Rd, H⟩ := bY H
       obtain ⟨ax, H⟩ := cL H
       obtain ⟨Qd, cp, H⟩ := bY H
       obtain ⟨UU, A95, H⟩ := bd H
       obtain ⟨az, H⟩ := cL H
       obtain ⟨Lv, cr, H⟩ := bY H
       have zp := eq_true (oT : 0 ≤ lG)
       have zq := eq_true (oT : lG ≤ (dI.length : Int))
       obtain ⟨M6, Re, H⟩ := bY H
       obtain ⟨ba, H⟩ := cL H
       obtain ⟨XH, Gz⟩ := yv (Lv ++ M6); first | replace H := bW Gz H | rw [← Gz.1] at H
       obtain ⟨⟨t171, jx⟩, mx, H⟩ := bd H
       dsimp only at H
       obtain ⟨rfl, rfl, rfl⟩ := sZ3 H
       repeat clear H
       have a3A := nZ2 fP eZ gW fI
       have ol := cz2 aY
       try go_wp2
       replace aX := RD aX
       replace aN := ND aN
       replace aC := BD aC
       replace aT := BD aT
       replace aY := BD aY
       replace HB := am (aU HB.1)
       have OQ : (lG : Int) ≤ ((dI.length : Int) : Int) := oT
       obtain ⟨i0105, Iz, _, hsz105, _⟩ := info_parts pJ
       have hroom105 : dI.length ≤ lJ := (Kd.gT aN.1).2.1
       have hC105 : Kd.F k66 _ _ uP dI.length dI := (Kd.V_at (base := w.heap.size) (Kd.N_V aN.1)).2.2
       have hcut105 := CQ (P := Tryz.prog) 29 66 .i64 Tryz.underlying29 Iz uP dI.length lJ lG (oT) OQ hroom105
       have Je := Kd.XN (m := (lG : Int).toNat) hC105 (by omega)
       have hy105 : XG.length = (lG : Int).toNat := (by rw [Rd.out, List.length_take]; omega)
       rw [← Rd.out] at Je
       rw [← hy105] at hcut105
       have yD := am (show Kd.V k66 66 _ w.heap.size _ (.slice uP XG.length lJ) XG from Kd.V_mk (by omega) Je)
       have ug := am (show XG.length ≤ lJ from by omega)
       clear Je hC105 hroom105 Iz hsz105
       have KY105 := am hy105
       clear hy105
       replace OQ := eq_true OQ
       have J5 : (lG : Int) ≤ ((dI.length : Int) : Int) := oT
       obtain ⟨i0106, Ja, _, hsz106, _⟩ := info_parts pJ
       have hroom106 : dI.length ≤ lJ := (Kd.gT aN.1).2.1
       have hC106 : Kd.F k66 _ _ uP dI.length dI := (Kd.V_at (base := w.heap.size) (Kd.N_V aN.1)).2.2
       have jn : (0 : Int) ≤ (lG : Int) := oT
       have hcut106 := I7 (P := Tryz.prog) 29 66 .i64 Tryz.underlying29 Ja 3 hsz106 uP dI.length lJ lG jn J5
       have WD := Kd.Fs (m := (lG : Int).toNat) (c := lJ) hC106 (by omega) hroom106
       obtain ⟨Zd, hA106⟩ : ∃ A1, A1 = (if lJ = (lG : Int).toNat then uP else (uP : Option Addr).map (·.add ((lG : Int).toNat * 3))) := ⟨_, rfl⟩
       obtain ⟨fg, Bm⟩ : ∃ c1, c1 = lJ - (lG : Int).toNat := ⟨_, rfl⟩
       have hy106 : M6.length = dI.length - (lG : Int).toNat := (by rw [Re.out, List.length_drop] <;> omega)
       rw [show (dI).drop (lG : Int).toNat = M6 from Re.out.symm] at WD
       replace WD : Kd.F k66 _ _ Zd M6.length M6 := (by rw [hA106]; exact WD)
       rw [← hy106, ← hA106, ← Bm] at hcut106
       have yE := am (show Kd.V k66 66 _ w.heap.size _ (.slice Zd M6.length fg) M6 from Kd.V_mk (by rw [hy106, Bm]; exact Nat.sub_le_sub_right hroom106 _) WD)
       have uh := am (show M6.length ≤ fg from by rw [hy106, Bm]; exact Nat.sub_le_sub_right hroom106 _)
       clear WD hC106 hroom106 Ja hsz106 Bm
       have KY106 := am hy106
       have KA106 := am hA106
       clear hy106 hA106
       replace J5 := eq_true J5
       refine sT [18] 19 (uA2 aY) (fun hHeld => ?_)
       refine gH bZ.Sq bZ.Hq (fun HT_ HW_ => ?_)
       generalize wr.drew = JC at aX aN aC aT aY HB yD yE hHeld ⊢
       refine pU6 1 3 6 7 12 14 ?_
       refine tK2 2 (some 56) ?_
       refine pU1 4 ?_
       refine tK2 13 (some 67) ?_
       refine pU1 15 ?_
       refine oN 0 (some 54) fun K hK => ?_
       refine Kd.FJ k66 _ 66 ?hg (N' := 54) ?hd (xs := ([] : List (S66))) (inner := []) (ok := (F23 w (.slice jE bR.length jB) (.slice uP dI.length lJ) aZ bF bM)) (okp := (F23 w (.slice jE bR.length jB) (.slice uP dI.length lJ) aZ bF bM)) ?hr ?hp (fun _ hk => hk) ((show ∀ k_, JC.heap.size ≤ k_ → (F23 w (.slice jE bR.length jB) (.slice uP dI.length lJ) aZ bF bM) k_ from fun k_ hk => ⟨(Nat.le_trans (aK fE) hk), Kd.fresh' (Kd.R_lt kS) k_ hk, Kd.fresh' (Kd.N_lt wW) k_ hk, fB bJ k_ hk, fB fF k_ hk, fB jO k_ hk⟩) _ (Nat.le_refl _)) (Below.refl _ _) (Nat.le_refl _) (by simp) ?_; (case hd => rfl); (case hg => rfl); (case hr => first | (go_simp; done) | (go_simp; rfl)); (case hp => exact (Reps.none _ _))
       intro Ys a6Z CW hb hg_ hnew_
       clear hg_ hnew_
       (first | rw [← Rc.out] at CW | (simp only [Int.reduceToNat] at CW; rw [← Rc.out] at CW))
       replace aX := RB kS hb
       replace aN := am (Kd.qL wW (by first | exact Kd.vV CW | exact Kd.zA CW) hb)
       replace yD := am (Kd.lY (rV yD.1) (by first | exact Kd.vV CW | exact Kd.zA CW) hb)
       replace yE := am (Kd.lY (rV yE.1) (by first | exact Kd.vV CW | exact Kd.zA CW) hb)
       have QJ := am (Kd.pE CW (aK fE))
       replace aC := bB bJ hb
       replace aT := bB fF hb
       replace aY := bB jO hb
       replace HB := bS fE hb
       clear hb CW
       refine nK hK (uA2 aY).1 fun hHeld => ?_
       clear hK K
       refine oN 5 (some 59) fun K hK => ?_
       refine Kd.l5 k66 (w0 := w) w.heap.size (by rfl) (.tmp 54) (.tmp 58) 29 66 Ag0 64 rfl Tryz.underlying29 pJ rfl (by decide) (by omega) Ys Yv XG _ _ _ (F13 w (.slice jE bR.length jB) aZ bF bM) (FA (F13 w (.slice jE bR.length jB) aZ bF bM) Ys) rfl rfl ?aO ?aR (fun _ hk => hk) ?aF ?aB ?aS ?aL ?_
       (case aR => exact (by skip; exact Kd.V_F (Kd.iC (ok' := (FA (F13 w (.slice jE bR.length jB) aZ bF bM) Ys)) (yD.1) (fun k_ hk => ⟨⟨hk.1.1, ⟨hk.1.2.1, ⟨hk.1.2.2.1, ⟨hk.1.2.2.2.1, hk.1.2.2.2.2⟩⟩⟩⟩, hk.2⟩))))
       (case aB => exact fE)
       (case aF => exact (fun k_ hk => ⟨(Nat.le_trans (aK fE) hk), Kd.fresh' (Kd.R_lt kS) k_ hk, fB bJ k_ hk, fB fF k_ hk, fB jO k_ hk⟩))
       (case aO => exact (by refine rN ?_; exact Kd.bQ QJ.1 (fun _ hk => ⟨hk.1, ⟨hk.2.1, ⟨hk.2.2.2.1, ⟨hk.2.2.2.2.1, hk.2.2.2.2.2⟩⟩⟩⟩)))
       (case aS => exact (aK fE))
       (case aL => have := ax.out; omega)
       intro Px a7B ho hb hg hat
       rw [← cp.out] at ho
       replace aX := am (Kd.tV kS (Kd.nQ (rN QJ.1)) (by decide) hg)
       replace aN := am (Kd.tT (ok := (F13 w (.slice jE bR.length jB) aZ bF bM)) wW hg hat)
       replace aC := gkN bJ hg QJ aC
       replace aT := gkN fF hg QJ aT
       replace aY := gkN jO hg QJ aY
       replace yD := am (Kd.jR (ok := (F13 w (.slice jE bR.length jB) aZ bF bM)) (rV yD.1) hg hat)
       replace yE := am (Kd.jR (ok := (F13 w (.slice jE bR.length jB) aZ bF bM)) (rV yE.1) hg hat)
       replace HB := am hb
       have EP := am ho
       clear QJ
       clear ho hb hg hat
       refine nK hK (uA2 aY).1 fun hHeld => ?_
       clear hK K
       refine oN 8 (some 62) fun K hK => ?_
       refine gE Tryz.func54 (iD.calls _ _ l2 UU _ (pB pL) pK.1 A95.out) ?_
       rintro e tc ⟨a6L, rfl, hD, hb⟩
       refine ⟨_, rfl, ?_⟩
       replace aN := am (Kd.qL wW (Kd.eO hD) hb)
       replace yD := am (Kd.lY (rV yD.1) (Kd.eO hD) hb)
       replace yE := am (Kd.lY (rV yE.1) (Kd.eO hD) hb)
       replace EP := am (Kd.qL (rN EP.1) (Kd.eO hD) hb)
       have ZZ := am (Kd.eF (Kd.jQ (Kd.qN (M := fun k_ => (w.heap.size ≤ k_)) hD (aK fE) (fun k_ h_ => h_)) (Kd.R_lt kS)) (aK fE))
       replace aX := am (Kd.gZ kS (Kd.eO hD) hb)
       replace aC := bB bJ hb
       replace aT := bB fF hb
       replace aY := bB jO hb
       replace HB := bS fE hb
       clear hb hD
       obtain ⟨ZR, Bc, Rw⟩ := Kd.cB ZZ.1
       (first | subst Rw | (obtain ⟨f4_, f5_⟩ := sj Rw; subst f4_; subst f5_))
       refine nK hK (uA2 aY).1 fun hHeld => ?_
       clear hK K
       refine pU1 9 ?_
       refine oN 10 (some 64) fun K hK => ?_
       refine P9 (w1 := ?_) (v := ?_) (by rfl) rfl ?_ ?_
       rotate_left 2
       ·go_simp
        constructor
        ·rfl
        ·rfl
       refine hK.out _ _ ⟨(aH (bP aY.1 _) 0).trans rfl, (aH (bP aY.1 _) 1).trans rfl⟩ (fun hHeld => ?_)
       clear hK K
       refine nM ?_
       refine oN 11 (some 65) fun K hK => ?_
       refine Kd.EQ k66 (w0 := w) w.heap.size (by rfl) (.tmp 59) (.tmp 64) 29 66 Ag0 64 rfl Tryz.underlying29 pJ rfl (by decide) (by omega) Px Qd (⟨a1, ([] : List ByteArray), UU⟩ : S66) [.string a1, .slice none 0 0, .slice ZR UU.length Bc] (F13 w (.slice jE bR.length jB) aZ bF bM) (FA (F13 w (.slice jE bR.length jB) aZ bF bM) Px) rfl rfl ?aP (fun _ hk => hk) ?aF ?aO ?aB ?aS ?aL ?_
       (case aP => exact (MV _ _ (⟨a1, ([] : List ByteArray), UU⟩ : S66) (Nat.le_refl _) (Kd.Fw _ _ _) (Kd.bI (Kd.bG (ok' := (FA (F13 w (.slice jE bR.length jB) aZ bF bM) Px)) (Kd.iX (Kd.iX (Kd.iX (Kd.iR (ZZ.1) (Kd.nQ EP.1) (by decide)) aC.1 (by decide)) aT.1 (by decide)) aY.1 (by decide)) (fun k_ hk => ⟨⟨hk.1.1.1.1.1.1, ⟨hk.1.1.1.1.2, ⟨hk.1.1.2, ⟨hk.1.2, hk.2⟩⟩⟩⟩, hk.1.1.1.2⟩))).2.1 (Kd.R_F (Kd.bG (ok' := (FA (F13 w (.slice jE bR.length jB) aZ bF bM) Px)) (Kd.iX (Kd.iX (Kd.iX (Kd.iR (ZZ.1) (Kd.nQ EP.1) (by decide)) aC.1 (by decide)) aT.1 (by decide)) aY.1 (by decide)) (fun k_ hk => ⟨⟨hk.1.1.1.1.1.1, ⟨hk.1.1.1.1.2, ⟨hk.1.1.2, ⟨hk.1.2, hk.2⟩⟩⟩⟩, hk.1.1.1.2⟩)))))
       (case aB => exact fE)
       (case aF => exact (fun k_ hk => ⟨(Nat.le_trans (aK fE) hk), Kd.fresh' (Kd.R_lt kS) k_ hk, fB bJ k_ hk, fB fF k_ hk, fB jO k_ hk⟩))
       (case aO => exact (by refine rN ?_; exact Kd.bQ EP.1 (fun _ hk => ⟨hk.1.1, ⟨hk.1.2.1, ⟨hk.1.2.2.1, ⟨hk.1.2.2.2.1, hk.1.2.2.2.2⟩⟩⟩⟩)))
       (case aS => exact (aK fE))
       (case aL => have := az.out; omega)
       intro Yt a7C ho hb hg hat
       rw [← cr.out] at ho
       replace aX := am (Kd.tV kS (Kd.nQ (rN EP.1)) (by decide) hg)
       replace aN := am (Kd.tT (ok := (F23 w (.slice jE bR.length jB) (.slice ZR UU.length Bc) aZ bF bM)) (by refine rN ?_; exact Kd.bQ aN.1 (fun _ hk => ⟨⟨hk.1.1.1, ⟨hk.1.1.2.1, ⟨hk.2, ⟨hk.1.1.2.2.1, ⟨hk.1.1.2.2.2.1, hk.1.1.2.2.2.2⟩⟩⟩⟩⟩, hk.1.2⟩)) hg hat)
       replace aC := gkN bJ hg EP aC
       replace aT := gkN fF hg EP aT
       replace aY := gkN jO hg EP aY
       replace yD := am (Kd.jR (ok := (F23 w (.slice jE bR.length jB) (.slice ZR UU.length Bc) aZ bF bM)) (by refine rV ?_; exact Kd.iC yD.1 (fun _ hk => ⟨⟨hk.1.1.1, ⟨hk.1.1.2.1, ⟨hk.2, ⟨hk.1.1.2.2.1, ⟨hk.1.1.2.2.2.1, hk.1.1.2.2.2.2⟩⟩⟩⟩⟩, hk.1.2⟩)) hg hat)
       replace yE := am (Kd.jR (ok := (F23 w (.slice jE bR.length jB) (.slice ZR UU.length Bc) aZ bF bM)) (by refine rV ?_; exact Kd.iC yE.1 (fun _ hk => ⟨⟨hk.1.1.1, ⟨hk.1.1.2.1, ⟨hk.2, ⟨hk.1.1.2.2.1, ⟨hk.1.1.2.2.2.1, hk.1.1.2.2.2.2⟩⟩⟩⟩⟩, hk.1.2⟩)) hg hat)
       replace HB := am hb
       have QK := am ho
       clear EP
       clear ZZ
       clear ho hb hg hat
       refine nK hK (uA2 aY).1 fun hHeld => ?_
       clear hK K
       refine oN 16 (some 70) fun K hK => ?_
       refine Kd.l5 k66 (w0 := w) w.heap.size (by rfl) (.tmp 65) (.tmp 69) 29 66 Ag0 64 rfl Tryz.underlying29 pJ rfl (by decide) (by omega) Yt Lv M6 _ _ _ (F13 w (.slice jE bR.length jB) aZ bF bM) (FA (F13 w (.slice jE bR.length jB) aZ bF bM) Yt) rfl rfl ?aO ?aR (fun _ hk => hk) ?aF ?aB ?aS ?aL ?_
       (case aR => exact (by skip; exact Kd.V_F (Kd.iC (ok' := (FA (F13 w (.slice jE bR.length jB) aZ bF bM) Yt)) (yE.1) (fun k_ hk => ⟨⟨hk.1.1, ⟨hk.1.2.1, ⟨hk.1.2.2.2.1, ⟨hk.1.2.2.2.2.1, hk.1.2.2.2.2.2⟩⟩⟩⟩, hk.2⟩))))
       (case aB => exact fE)
       (case aF => exact (fun k_ hk => ⟨(Nat.le_trans (aK fE) hk), Kd.fresh' (Kd.R_lt kS) k_ hk, fB bJ k_ hk, fB fF k_ hk, fB jO k_ hk⟩))
       (case aO => exact (rN QK.1))
       (case aS => exact (aK fE))
       (case aL => have := ba.out; omega)
       intro a6M td ho hb hg hat
       rw [← Gz.out] at ho
       replace aX := am (Kd.tV kS (Kd.nQ (rN QK.1)) (by decide) hg)
       replace aN := am (Kd.tT (ok := (F13 w (.slice jE bR.length jB) aZ bF bM)) (by refine rN ?_; exact Kd.bQ aN.1 (fun _ hk => ⟨⟨hk.1.1, ⟨hk.1.2.1, ⟨hk.1.2.2.2.1, ⟨hk.1.2.2.2.2.1, hk.1.2.2.2.2.2⟩⟩⟩⟩, hk.2⟩)) hg hat)
       replace aC := gkN bJ hg QK aC
       replace aT := gkN fF hg QK aT
       replace aY := gkN jO hg QK aY
       replace yD := am (Kd.jR (ok := (F13 w (.slice jE bR.length jB) aZ bF bM)) (by refine rV ?_; exact Kd.iC yD.1 (fun _ hk => ⟨⟨hk.1.1, ⟨hk.1.2.1, ⟨hk.1.2.2.2.1, ⟨hk.1.2.2.2.2.1, hk.1.2.2.2.2.2⟩⟩⟩⟩, hk.2⟩)) hg hat)
       replace yE := am (Kd.jR (ok := (F13 w (.slice jE bR.length jB) aZ bF bM)) (by refine rV ?_; exact Kd.iC yE.1 (fun _ hk => ⟨⟨hk.1.1, ⟨hk.1.2.1, ⟨hk.1.2.2.2.1, ⟨hk.1.2.2.2.2.1, hk.1.2.2.2.2.2⟩⟩⟩⟩, hk.2⟩)) hg hat)
       replace HB := am hb
       have QL := am ho
       clear QK
       clear ho hb hg hat
       obtain ⟨QF, NW, Rx⟩ := Kd.kN QL.1
       (first | subst Rx | (obtain ⟨f4_, f5_⟩ := sj Rx; subst f4_; subst f5_))
       refine nK hK (uA2 aY).1 fun hHeld => ?_
       clear hK K
       refine pU1 17 ?_
       refine lN 18 none fun K hK => ?_
       have zy : td.cell? ⟨bM, 1, none⟩ = some (.slice uP dI.length lJ) := (aH aY.1 1).trans rfl
       have qv := bL aY.1 1
       have jd := eZ.1
       have je := fI.1
       have iz := fP.1
       have ja := gW.1
       refine qJ (w1 := ?_) (by rfl) rfl ?_ ?_
       rotate_left
       ·go_simp
        rfl
       refine hK.out _ _ ?_
       clear hK K
       refine dN ?_
       have oq := cz2 aY
       try go_wp2_with (first | ((with_reducible refine qR (f := 22) rfl ?_); refine BK (some 73) rfl rfl Tryz.func22 (by kernel_rfl) rfl #[.agg #[.slice jE bR.length jB, .slice QF XH.length NW]] rfl n7 ?_; (with_reducible refine (dA.calls k2 _ _ bR _ _ XH t171 jx _ ?side1 ?side2 ?side3 ?side4 mx.out).mono ?_); (case side1 => refine (Kd.bI (e := 9) (base := w.heap.size) (ok := fun k_ => (w.heap.size ≤ k_)) (n := bR.length) (c := jB) ?_).2.2; exact (by refine rR ?_; exact Kd.bG (fR (tR aX aY)) (fun _ hk => hk.1.1))); (case side2 => exact (Kd.bI aX.1).2.1); (case side3 => refine (Kd.gT (e := 66) (base := w.heap.size) (ok := fun k_ => ((w.heap.size ≤ k_) ∧ (some k_ ≠ (.slice jE bR.length jB : Value).ownBlock ∧ (k_ ≠ aZ ∧ (k_ ≠ bF ∧ k_ ≠ bM))))) (n := XH.length) (c := NW) ?_).2.2; exact (by refine rN ?_; exact (Kd.bQ (fN (Kd.bQ QL.1 (fun k_ hk => (⟨hk, hk.2.2.2.2⟩ : _ ∧ k_ ≠ bM)))) (fun _ h_ => h_.1)))); (case side4 => exact (Kd.gT QL.1).2.1); rintro e a7D ⟨sw, a6N, rfl, hD, pP, hb⟩; refine ⟨_, rfl, ?_⟩; replace yD := am (Kd.iC (Kd.vW (Kd.vW (Kd.QR (by refine rV ?_; exact (Kd.iC (Kd.KU (p := ⟨bM, 1, none⟩) (Kd.iC yD.1 (fun k_ hk => (⟨hk, hk.1.2.2.2.2⟩ : _ ∧ k_ ≠ bM))) (fun _ hk => hk.2) (.slice QF XH.length NW)) (fun _ h_ => h_.1))) hb) (Kd.eO hD)) EK) (fun _ h_ => h_.1)); replace yE := am (Kd.iC (Kd.vW (Kd.vW (Kd.QR (by refine rV ?_; exact (Kd.iC (Kd.KU (p := ⟨bM, 1, none⟩) (Kd.iC yE.1 (fun k_ hk => (⟨hk, hk.1.2.2.2.2⟩ : _ ∧ k_ ≠ bM))) (fun _ hk => hk.2) (.slice QF XH.length NW)) (fun _ h_ => h_.1))) hb) (Kd.eO hD)) EK) (fun _ h_ => h_.1)); have Qq := am (Kd.eF (Kd.jQ (Kd.qN (M := fun k_ => (w.heap.size ≤ k_)) hD (aK fE) (fun k_ h_ => h_)) (Kd.R_lt (by refine rR ?_; exact (Kd.bG (fR (tR aX aY)) (fun _ h_ => h_.1))))) (aK fE)); have Qr := am (Kd.pE (Kd.bQ (ok' := F43 w sw (.slice jE bR.length jB) (.slice uP dI.length lJ) (.slice QF XH.length NW) aZ bF bM) (Kd.S_N (Kd.lC pP)) (fun k_ hk_ => ⟨(Nat.le_trans (aK fE) hk_.2.1), hk_.1, (Kd.fresh' (Kd.R_lt (by refine rR ?_; exact (Kd.bG (fR (tR aX aY)) (fun _ h_ => h_.1)))) k_ hk_.2.1), (Kd.fresh' (Kd.N_lt (by refine rN ?_; exact (Kd.bQ (fN (Kd.bQ aN.1 (fun k_ hk => (⟨hk, hk.1.2.2.2.2⟩ : _ ∧ k_ ≠ bM)))) (fun _ h_ => h_.1)))) k_ hk_.2.1), (Kd.fresh' (Kd.N_lt (by refine rN ?_; exact (Kd.bQ (fN (Kd.bQ QL.1 (fun k_ hk => (⟨hk, hk.2.2.2.2⟩ : _ ∧ k_ ≠ bM)))) (fun _ h_ => h_.1)))) k_ hk_.2.1), (Kd.FR (g := aZ) (o := .cells #[.slice dD aQ.length dE, .slice dS aE.length dB] 31 (0, 0)) Pi k_ hk_.2.1), (Kd.FR (g := bF) (o := .cells #[.slice none 0 0, .slice none 0 0] 31 (0, 0)) Pj k_ hk_.2.1), (Kd.FR (g := bM) (o := .cells #[.slice jE bR.length jB, .slice QF XH.length NW] 31 (0, 0)) (by refine rB ?_; refine bD (cs := #[.slice jE bR.length jB, .slice uP dI.length lJ]) ?_ 1 _ rfl; refine rB ?_; exact aY.1) k_ hk_.2.1)⟩)) (aK fE)); replace aX := am (Kd.gZ (by refine rR ?_; exact (Kd.bG (fR (tR aX aY)) (fun _ h_ => h_.1))) (Kd.eO hD) hb); replace aN := am (Kd.bQ (Kd.oG (Kd.oG (Kd.ER (by refine rN ?_; exact (Kd.bQ (fN (Kd.bQ aN.1 (fun k_ hk => (⟨hk, hk.1.2.2.2.2⟩ : _ ∧ k_ ≠ bM)))) (fun _ h_ => h_.1))) hb) (Kd.eO hD)) EK) (fun _ h_ => h_.1)); replace QL := am (Kd.bQ (Kd.oG (Kd.oG (Kd.ER (by refine rN ?_; exact (Kd.bQ (fN (Kd.bQ QL.1 (fun k_ hk => (⟨hk, hk.2.2.2.2⟩ : _ ∧ k_ ≠ bM)))) (fun _ h_ => h_.1))) hb) (Kd.eO hD)) EK) (fun _ h_ => h_.1)); replace aC := am (aV (g := aZ) (o := .cells #[.slice dD aQ.length dE, .slice dS aE.length dB] 31 (0, 0)) Pi hb); replace aT := am (aV (g := bF) (o := .cells #[.slice none 0 0, .slice none 0 0] 31 (0, 0)) Pj hb); replace aY := am (aV (g := bM) (o := .cells #[.slice jE bR.length jB, .slice QF XH.length NW] 31 (0, 0)) (by refine rB ?_; refine bD (cs := #[.slice jE bR.length jB, .slice uP dI.length lJ]) ?_ 1 _ rfl; refine rB ?_; exact aY.1) hb); replace HB := bS fE hb; clear hb hD pP; obtain ⟨Zg, gl, ij⟩ := Kd.cB Qq.1; subst ij; have a3H := nZ1 eI dY; have a3I := cz2 aT; obtain ⟨Zh, gm, ik⟩ := Kd.kN Qr.1; subst ik))
       refine cT bF 31 #[.slice Zg t171.length gl, .slice Zh jx.length gm] (qP aT) Tryz.underlying31 ?_
       exact ⟨_, _, eR, mR Qq aT, by refine rN ?_; exact Kd.bQ (fN (fN (Kd.bQ Qr.1 (fun k_ hk => (⟨hk, hk.2.2.2.2.2.2.1⟩ : _ ∧ k_ ≠ bF))))) (fun _ hk => ⟨hk.1.1, hk.1.2.1⟩), fE⟩
 obtain ⟨rfl, rfl, rfl⟩ := sZ3 H
 repeat clear H
 go_enter Tryz.func24, Tryz.ntmps24
 go_wp2_with (first | ((with_reducible refine gD 3 ?_); refine bX 3 #[.slice dD aQ.length dE, .slice dS aE.length dB] 31 ?_; intro aZ hg a7E hbox hb; have aC := am hbox; have gU := am (nS : w.heap.size ≤ aZ); have iL := gU; replace HB := bS gL hb; clear hb hbox hg) | ((with_reducible refine gD 6 ?_); refine bX 6 #[.slice none 0 0, .slice none 0 0] 31 ?_; intro bF hg a7F hbox hb; have aT := am hbox; have qC := am (vA : w.heap.size ≤ bF); have pM := qC; replace HB := bS dQ hb; have dY := nL bJ hg; have eI := nG bJ hg; replace aC := bB bJ hb; clear hb hbox hg; have a3J := nZ1 dY eI; have a3K := cz2 aC) | ((with_reducible refine gC 21 ?_); refine cQ (some 11) Tryz.func21 (aG.calls k _ _ aQ _ _ aE false _ (pB cS) cO.1 (pB bE) dL.1 A4.out) ?_; rintro a7G hb; replace aC := bB bJ hb; replace aT := bB fF hb; replace HB := bS jY hb; clear hb; have a3M := cz2 aT))
 refine cT bF 31 #[.slice none 0 0, .slice none 0 0] jm Tryz.underlying31 ?_
 exact ⟨_, _, eR, by first | exact Kd.oQ _ _ _ _ _ | exact Kd.wI _ _ _ _ _ | exact Kd.sS _ _ _ _ _ | exact Kd.wK _ _ _ _ _ | exact Kd.tX _ _ _ _ _, by first | exact Kd.tX _ _ _ _ _ | exact Kd.wI _ _ _ _ _ | exact Kd.sS _ _ _ _ _ | exact Kd.wK _ _ _ _ _ | exact Kd.oQ _ _ _ _ _, jY⟩
end Go.Proofs.YtaofjgnhapnndaaGreatDoor.Q
namespace Go.Proofs.YtaofjgnhapnndaaGreatDoor.Q
open Go.RowKit Go.Proofs.YtaofjgnhapnndaaGreatDoorW.PrintWords Go.Proofs.YtaofjgnhapnndaaGreatDoorW.PrintLast Go.Proofs.YtaofjgnhapnndaaGreatDoorW.PrintMore
set_option linter.unusedVariables false
set_option linter.unusedSimpArgs false
theorem BkS.far {w0 W : World} {lo hi g j t : Nat} {v0 v1 u : Value} {l0 : List ByteArray} {l1 : List S66} {cs : Array Value} (h : BkS w0 W lo hi v0 v1 l0 l1) (hb : W.heap[g]? = some (.cells cs t (0, 0))) (ht : t ≠ 9 ∧ t ≠ 66) : BkS w0 (W.setCell ⟨g, j, none⟩ u) lo hi v0 v1 l0 l1 := by
 have hk : Kept W (W.setCell ⟨g, j, none⟩ u) (fun k => k = g) := Kept.setCell (p := ⟨g, j, none⟩) (Kept.refl W (fun k => k = g)) (Or.inl rfl) u
 refine ⟨Kd.bG (Kd.sK (Kd.lL h.1) hk (fun k hk2 e => ?_)) (fun k hk2 => hk2.1), Kd.fU (Kd.SL (Kd.lC h.2) hk (fun k hk2 e => ?_)) (fun k hk2 => hk2.1)⟩
 ·obtain ⟨_, _, _, q, hq, cells, hc⟩ := hk2
  subst e
  rw [hb] at hc; injection hc with hc; injection hc with _ e _; subst e
  have hq2 : t ∈ [9] := hq
  exact ht.1 (by simpa using hq2)
 obtain ⟨_, _, _, q, hq, cells, hc⟩ := hk2
 subst e
 rw [hb] at hc; injection hc with hc; injection hc with _ e _; subst e
 have hq2 : t ∈ [66, 9, 9] := hq
 simp at hq2
 exact hq2.elim ht.2 ht.1
theorem BkS.appM {w0 W : World} {lo hi lo2 Fc : Nat} {v0 v1 vn : Value} {l0 nd : List ByteArray} {l1 : List S66} (a1 : ByteArray) (h : BkS w0 W lo hi v0 v1 l0 l1) (hv : RwS w0 W lo2 Fc vn nd) (hle : hi ≤ lo2) (hlo : lo ≤ hi) (hW : hi ≤ W.heap.size) :
  k66.M W w0.heap.size (fun k => some k = vn.ownBlock) (⟨a1, [], nd⟩ : S66) [.string a1, .slice none 0 0, vn] ∧ (∀ k, some k = vn.ownBlock → (lo ≤ k ∧ some k ≠ v0.ownBlock) ∧ some k ≠ v1.ownBlock) ∧ (∀ k, W.heap.size ≤ k → lo ≤ k ∧ some k ≠ v0.ownBlock) ∧
   Kd.S k66 66 W w0.heap.size (fun k => (lo ≤ k ∧ some k ≠ v0.ownBlock) ∧ ¬ some k = vn.ownBlock) v1 l1 := by
 refine ⟨yO _ _ _ ⟨a1, [], nd⟩ (Kd.oQ _ _ _ _ _) (Kd.kP rfl hv), fun k e => ?_, fun k e => ⟨by omega, fun e2 => ?_⟩, Kd.fU h.2 (fun k e => ⟨⟨e.1.1, e.2⟩, fun e2 => ?_⟩)⟩
 ·have q := hv.1 k e.symm
  refine ⟨⟨by omega, fun e2 => ?_⟩, fun e2 => ?_⟩
  ·have := h.1.1 k e2.symm; omega
  have := ((Kd.S_R h.2).1 k e2.symm).1; omega
 ·have := h.1.1 k e2.symm; omega
 have := hv.1 k e2.symm; omega
theorem BkS.appB {w0 W W2 : World} {lo hi : Nat} {v0 v1 v2 : Value} {l0 : List ByteArray} {l1 l2 : List S66} (h : BkS w0 W lo hi v0 v1 l0 l1) (hs : Kd.S k66 66 W2 w0.heap.size (fun k => lo ≤ k ∧ some k ≠ v0.ownBlock) v2 l2) (hk : Kept W W2 (fun k => some k = v1.ownBlock)) (hW : hi ≤ W2.heap.size) : BkS w0 W2 lo W2.heap.size v0 v2 l0 l2 := by
 refine ⟨Kd.bG (Kd.sK (Kd.kP rfl h.1) hk (fun k e e2 => ((Kd.S_R h.2).1 k e2.symm).2 e)) (fun k e => ?_), Kd.fU (Kd.lC hs) (fun k e => ⟨⟨e.1.1, e.2.2.1⟩, e.1.2⟩)⟩
 have := h.1.1 k e.symm; omega
theorem BkS.sorted {w0 W W2 : World} {lo hi g n c : Nat} {v0 : Value} {l0 : List ByteArray} {l1 l2 : List S66} (h : BkS w0 W lo hi v0 (.slice (some ⟨g, 0, none⟩) n c) l0 l1) (hs : Kd.S k66 66 W2 w0.heap.size (fun k => (lo ≤ k ∧ k < hi) ∧ some k ≠ v0.ownBlock) (.slice (some ⟨g, 0, none⟩) n c) l2) (hk : Kept W W2 (fun k => k = g)) : BkS w0 W2 lo hi v0 (.slice (some ⟨g, 0, none⟩) n c) l0 l2 :=
 ⟨Kd.bG (Kd.sK (Kd.kP rfl h.1) hk (fun k e e2 => ((Kd.S_R h.2).1 g rfl).2 (by rw [← e2]; exact e))) (fun k e => h.1.1 k e.symm), hs⟩
open Classical in
noncomputable def nH.f (k : Nat) (l0 : List ByteArray) (l1 : List S66) (a1 : ByteArray) (l2 : List ByteArray) : Option (List ByteArray × List S66 × Int) :=
 (aI.f k l0 l1).bind fun ok => if ok = true then (d9.f k l0 l1).bind fun c => (dC.f k a1).bind fun nm => if nm = true then (gP.f k l2 l0).bind fun q => if q = true then (eP.f l0 l1 a1).bind fun i => if 0 ≤ i then some (c.1, c.2, 3) else if l1.length = 5 then some (c.1, c.2, 4) else (bU.f l2).bind fun nd => if c.2.length ≤ 11 ∧ Asc (insB c.2 ⟨a1, [], nd⟩) then some (c.1, insB c.2 ⟨a1, [], nd⟩, 0) else none else some (c.1, c.2, 2) else some (c.1, c.2, 2) else some ([], [], 1)
theorem nH.calls (k : Nat) (dD : Option Addr) (dE : Nat) (l0 : List ByteArray) (dS : Option Addr) (dB : Nat) (l1 : List S66) (a1 : ByteArray) (A2 : Option Addr) (c2 : Nat) (l2 : List ByteArray) (r1 : List ByteArray) (r2 : List S66) (r3 : Int) (w : World) (fL : Kd.C Kd.string w dD l0.length l0) (fJ : l0.length ≤ dE) (fH : Kd.C k66 w dS l1.length l1) (fK : l1.length ≤ dB) (rP : Kd.C Kd.string w A2 l2.length l2) (mH : l2.length ≤ c2) (h : nH.f k l0 l1 a1 l2 = some (r1, r2, r3)) :
  Calls Tryz.prog 38 #[.agg #[.slice dD l0.length dE, .slice dS l1.length dB], .string a1, .slice A2 l2.length c2] w fun e w' => ∃ v0_ v1_ : Value, e = .returned (.tuple #[.agg #[v0_, v1_], .int .i64 r3]) ∧ Kd.R Kd.string 9 w' w.heap.size (fun _ => True) v0_ r1 ∧ Kd.S k66 66 w' w.heap.size (fun k_ => some k_ ≠ (v0_ : Value).ownBlock) v1_ r2 ∧ Below w.heap.size w w' := by
 have hu31 := Tryz.underlying31
 have hu56 := Tryz.underlying66
 obtain ⟨cS, cO⟩ := mZ2 fL fJ
 obtain ⟨bE, dL⟩ := mZ2 fH fK
 obtain ⟨pL, pK⟩ := mZ2 rP mH
 clear fL fJ fH fK rP mH
 have HB := am (Below.refl w.heap.size w); have NN := am trivial
 unfold nH.f at h
 have H := h
 clear h
 obtain ⟨ok, D1, H⟩ := bd H
 by_cases c1 : ok = false
 ·subst c1
  rw [if_neg (by simp)] at H
  obtain ⟨rfl, rfl, rfl⟩ := sZ3 H
  repeat clear H
  go_enter Tryz.func38, Tryz.ntmps38
  go_wp2_with (first | ((with_reducible refine gD 3 ?_); refine bX 3 #[.slice dD l0.length dE, .slice dS l1.length dB] 31 ?_; intro nX hg_ W1 hbox hb; have hk_ : Kept w W1 (fun _ => False) := Kept.noth hb; replace NN := nn NN (show w.heap.size ≤ W1.heap.size from hk_.1); have Mi := am (show w.heap.size ≤ nX from Nat.le_trans HB.1.size (Nat.le_of_eq hg_.symm)); replace NN := nn NN (show w.heap.size ≤ nX from Nat.le_of_eq hg_.symm); replace NN := nn NN (show nX < W1.heap.size from dU hbox); replace HB := bS HB.1 hb; have gR := am hbox; clear hb hbox hg_ hk_; (try clear Z3); have Z3 := cz2 gR) | ((with_reducible refine gD 6 ?_); refine bX 6 #[.slice none 0 0, .slice none 0 0] 31 ?_; intro kE hg_ W2 hbox hb; have hk_ : Kept W1 W2 (fun _ => False) := Kept.noth hb; replace NN := nn NN (show W1.heap.size ≤ W2.heap.size from hk_.1); have y8 := am (show w.heap.size ≤ kE from Nat.le_trans HB.1.size (Nat.le_of_eq hg_.symm)); replace NN := nn NN (show W1.heap.size ≤ kE from Nat.le_of_eq hg_.symm); replace NN := nn NN (show kE < W2.heap.size from dU hbox); replace gR := kB gR hk_; replace HB := bS HB.1 hb; have gY := am hbox; clear hb hbox hg_ hk_; have nb6_3 : kE ≠ nX := (by have := NN.1;  omega); have nb3_6 : nX ≠ kE := (by have := NN.1;  omega); (try clear Z6); have Z6 := cz2 gY; (try clear Z3); have Z3 := cz2 gR) | ((with_reducible refine gC 36 ?_); refine cQ (some 10) Tryz.func36 (aI.calls k _ _ l0 _ _ l1 false _ (Kd.aM cS.1 HB.1) cO.1 (Kd.aM bE.1 HB.1) dL.1 D1.1) ?_; rintro W3 hb; have HB0 := am (show w.heap.size ≤ W2.heap.size from HB.1.size); have hk_ : Kept W2 W3 (fun _ => False) := Kept.noth hb; replace NN := nn NN (show W2.heap.size ≤ W3.heap.size from hk_.1); replace gR := kB gR hk_; replace gY := kB gY hk_; replace HB := bS HB.1 hb; clear hb hk_; (try clear Z3); have Z3 := cz2 gR; (try clear Z6); have Z6 := cz2 gY; clear HB0))
  (try simp only [Exit.inBlock, Exit.then]); refine cT kE 31 #[.slice none 0 0, .slice none 0 0] (bD (cs := #[.slice none 0 0, .slice none 0 0]) (bD (cs := #[.slice none 0 0, .slice none 0 0]) (gY.1) 0 _ rfl) 1 _ rfl) Tryz.underlying31 ?_
  exact ⟨_, _, rfl, Kd.oQ _ _ _ _ _, Kd.tX _ _ _ _ _, aJ (aJ HB.1 y8.1) y8.1⟩
 have c1 : ok = true := by simpa using c1
 rw [if_pos c1] at H
 subst c1
 obtain ⟨⟨c1a, c1b⟩, D2, H⟩ := bd H
 obtain ⟨nm, D3, H⟩ := bd H
 dsimp only at H
 by_cases cn : nm = false
 ·subst cn
  rw [if_neg (by simp)] at H
  obtain ⟨rfl, rfl, rfl⟩ := sZ3 H
  repeat clear H
  go_enter Tryz.func38, Tryz.ntmps38
  go_wp2_with (first | ((with_reducible refine gD 3 ?_); refine bX 3 #[.slice dD l0.length dE, .slice dS l1.length dB] 31 ?_; intro nX hg_ W1 hbox hb; have hk_ : Kept w W1 (fun _ => False) := Kept.noth hb; replace NN := nn NN (show w.heap.size ≤ W1.heap.size from hk_.1); have Mi := am (show w.heap.size ≤ nX from Nat.le_trans HB.1.size (Nat.le_of_eq hg_.symm)); replace NN := nn NN (show w.heap.size ≤ nX from Nat.le_of_eq hg_.symm); replace NN := nn NN (show nX < W1.heap.size from dU hbox); replace HB := bS HB.1 hb; have gR := am hbox; clear hb hbox hg_ hk_; (try clear Z3); have Z3 := cz2 gR) | ((with_reducible refine gD 6 ?_); refine bX 6 #[.slice none 0 0, .slice none 0 0] 31 ?_; intro kE hg_ W2 hbox hb; have hk_ : Kept W1 W2 (fun _ => False) := Kept.noth hb; replace NN := nn NN (show W1.heap.size ≤ W2.heap.size from hk_.1); have y8 := am (show w.heap.size ≤ kE from Nat.le_trans HB.1.size (Nat.le_of_eq hg_.symm)); replace NN := nn NN (show W1.heap.size ≤ kE from Nat.le_of_eq hg_.symm); replace NN := nn NN (show kE < W2.heap.size from dU hbox); replace gR := kB gR hk_; replace HB := bS HB.1 hb; have gY := am hbox; clear hb hbox hg_ hk_; have nb6_3 : kE ≠ nX := (by have := NN.1;  omega); have nb3_6 : nX ≠ kE := (by have := NN.1;  omega); (try clear Z6); have Z6 := cz2 gY; (try clear Z3); have Z3 := cz2 gR) | ((with_reducible refine gC 36 ?_); refine cQ (some 10) Tryz.func36 (aI.calls k _ _ l0 _ _ l1 true _ (Kd.aM cS.1 HB.1) cO.1 (Kd.aM bE.1 HB.1) dL.1 D1.1) ?_; rintro W3 hb; have HB0 := am (show w.heap.size ≤ W2.heap.size from HB.1.size); have hk_ : Kept W2 W3 (fun _ => False) := Kept.noth hb; replace NN := nn NN (show W2.heap.size ≤ W3.heap.size from hk_.1); replace gR := kB gR hk_; replace gY := kB gY hk_; replace HB := bS HB.1 hb; clear hb hk_; (try clear Z3); have Z3 := cz2 gR; (try clear Z6); have Z6 := cz2 gY; clear HB0) | ((with_reducible refine gC 71 ?_); refine cE (some 14) Tryz.func71 (d9.calls k _ _ l0 _ _ l1 c1a c1b _ (Kd.aM cS.1 HB.1) cO.1 (Kd.aM bE.1 HB.1) dL.1 D2.1) ?_; rintro e_ W4 ⟨_, _, rfl, hD, pP, hb⟩; refine ⟨_, rfl, ?_⟩; have HB0 := am (show w.heap.size ≤ W3.heap.size from HB.1.size); have hk_ : Kept W3 W4 (fun _ => False) := Kept.noth hb; replace NN := nn NN (show W3.heap.size ≤ W4.heap.size from hk_.1); replace gR := kB gR hk_; replace gY := kB gY hk_; replace HB := bS HB.1 hb; have KC := am (BkS.made (n := W3.heap.size) hD pP (HB0.out) (Nat.le_refl _)); clear hD pP; obtain ⟨Ac0, cc0, Ac1, cc1, e0_, e1_⟩ := KC.out.slices; subst e0_; subst e1_; clear hb hk_; (try clear Z3); have Z3 := cz2 gR; (try clear Z6); have Z6 := cz2 gY; clear HB0) | ((with_reducible refine gD 8 ?_); refine bX 8 #[.slice none 0 0, .slice none 0 0] 31 ?_; intro kI hg_ W5 hbox hb; have hk_ : Kept W4 W5 (fun _ => False) := Kept.noth hb; replace NN := nn NN (show W4.heap.size ≤ W5.heap.size from hk_.1); have CH := am (show w.heap.size ≤ kI from Nat.le_trans HB.1.size (Nat.le_of_eq hg_.symm)); replace NN := nn NN (show W4.heap.size ≤ kI from Nat.le_of_eq hg_.symm); replace NN := nn NN (show kI < W5.heap.size from dU hbox); replace KC := am (BkS.kept KC.out hk_ (fun _ _ _ h => h)); replace gR := kB gR hk_; replace gY := kB gY hk_; replace HB := bS HB.1 hb; have kO := am hbox; clear hb hbox hg_ hk_; have nb8_3 : kI ≠ nX := (by have := NN.1;  omega); have nb3_8 : nX ≠ kI := (by have := NN.1;  omega); have nb8_6 : kI ≠ kE := (by have := NN.1;  omega); have nb6_8 : kE ≠ kI := (by have := NN.1;  omega); (try clear Z8); have Z8 := cz2 kO; (try clear Z3); have Z3 := cz2 gR; (try clear Z6); have Z6 := cz2 gY) | ((with_reducible refine gC 68 ?_); refine cQ (some 17) Tryz.func68 (dC.calls k a1 false _ D3.1) ?_; rintro W6 hb; obtain ⟨nd_, hd_⟩ := hb; have hb : Below ((W5.setCell ⟨kI, 0, none⟩ (.slice Ac0 c1a.length cc0)).setCell ⟨kI, 1, none⟩ (.slice Ac1 c1b.length cc1)).heap.size ((W5.setCell ⟨kI, 0, none⟩ (.slice Ac0 c1a.length cc0)).setCell ⟨kI, 1, none⟩ (.slice Ac1 c1b.length cc1)) W6 := hd_ ▸ bK (Below.refl _ _) nd_; clear hd_ nd_; have HB0 := am (show w.heap.size ≤ W5.heap.size from HB.1.size); have hk_ : Kept W5 W6 (fun k => k = kI) := (Kept.two (w := W5) (g := kI) 0 1 (.slice Ac0 c1a.length cc0) (.slice Ac1 c1b.length cc1)).below hb; replace NN := nn NN (show W5.heap.size ≤ W6.heap.size from hk_.1); replace KC := am (BkS.kept KC.out hk_ (fun k_ h1_ h2_ e_ => by have := NN.1;  omega)); replace gR := am (dO gR.1 hk_ (fun e_ => by have := NN.1;  omega)); replace gY := am (dO gY.1 hk_ (fun e_ => by have := NN.1;  omega)); replace kO := am (aV (g := kI) (o := .cells #[.slice Ac0 c1a.length cc0, .slice Ac1 c1b.length cc1] 31 (0, 0)) (bD (cs := #[.slice Ac0 c1a.length cc0, .slice none 0 0]) (bD (cs := #[.slice none 0 0, .slice none 0 0]) kO.1 0 _ rfl) 1 _ rfl) hb); replace HB := am (dG (aJ (aJ HB.1 CH.1) CH.1) hb); clear hb hk_; (try clear Z8); have Z8 := cz2 kO; (try clear Z6); have Z6 := cz2 gY; clear HB0))
  (try simp only [Exit.inBlock, Exit.then]); refine cT kE 31 #[.slice Ac0 c1a.length cc0, .slice Ac1 c1b.length cc1] (bD (cs := #[.slice Ac0 c1a.length cc0, .slice none 0 0]) (bD (cs := #[.slice none 0 0, .slice none 0 0]) (gY.1) 0 _ rfl) 1 _ rfl) Tryz.underlying31 ?_
  have hK_ := BkS.kept KC.out (Kept.two (w := W6) (g := kE) 0 1 (.slice Ac0 c1a.length cc0) (.slice Ac1 c1b.length cc1)) (fun k_ h1_ h2_ e_ => by have := NN.1;  omega)
  exact ⟨_, _, rfl, Kd.bG hK_.1 (fun _ _ => trivial), Kd.fU hK_.2 (fun _ h_ => h_.2), aJ (aJ HB.1 y8.1) y8.1⟩
 have cn : nm = true := by simpa using cn
 rw [if_pos cn] at H
 subst cn
 obtain ⟨q, D4, H⟩ := bd H
 by_cases cq : q = false
 ·subst cq
  rw [if_neg (by simp)] at H
  obtain ⟨rfl, rfl, rfl⟩ := sZ3 H
  repeat clear H
  go_enter Tryz.func38, Tryz.ntmps38
  go_wp2_with (first | ((with_reducible refine gD 3 ?_); refine bX 3 #[.slice dD l0.length dE, .slice dS l1.length dB] 31 ?_; intro nX hg_ W1 hbox hb; have hk_ : Kept w W1 (fun _ => False) := Kept.noth hb; replace NN := nn NN (show w.heap.size ≤ W1.heap.size from hk_.1); have Mi := am (show w.heap.size ≤ nX from Nat.le_trans HB.1.size (Nat.le_of_eq hg_.symm)); replace NN := nn NN (show w.heap.size ≤ nX from Nat.le_of_eq hg_.symm); replace NN := nn NN (show nX < W1.heap.size from dU hbox); replace HB := bS HB.1 hb; have gR := am hbox; clear hb hbox hg_ hk_; (try clear Z3); have Z3 := cz2 gR) | ((with_reducible refine gD 6 ?_); refine bX 6 #[.slice none 0 0, .slice none 0 0] 31 ?_; intro kE hg_ W2 hbox hb; have hk_ : Kept W1 W2 (fun _ => False) := Kept.noth hb; replace NN := nn NN (show W1.heap.size ≤ W2.heap.size from hk_.1); have y8 := am (show w.heap.size ≤ kE from Nat.le_trans HB.1.size (Nat.le_of_eq hg_.symm)); replace NN := nn NN (show W1.heap.size ≤ kE from Nat.le_of_eq hg_.symm); replace NN := nn NN (show kE < W2.heap.size from dU hbox); replace gR := kB gR hk_; replace HB := bS HB.1 hb; have gY := am hbox; clear hb hbox hg_ hk_; have nb6_3 : kE ≠ nX := (by have := NN.1;  omega); have nb3_6 : nX ≠ kE := (by have := NN.1;  omega); (try clear Z6); have Z6 := cz2 gY; (try clear Z3); have Z3 := cz2 gR) | ((with_reducible refine gC 36 ?_); refine cQ (some 10) Tryz.func36 (aI.calls k _ _ l0 _ _ l1 true _ (Kd.aM cS.1 HB.1) cO.1 (Kd.aM bE.1 HB.1) dL.1 D1.1) ?_; rintro W3 hb; have HB0 := am (show w.heap.size ≤ W2.heap.size from HB.1.size); have hk_ : Kept W2 W3 (fun _ => False) := Kept.noth hb; replace NN := nn NN (show W2.heap.size ≤ W3.heap.size from hk_.1); replace gR := kB gR hk_; replace gY := kB gY hk_; replace HB := bS HB.1 hb; clear hb hk_; (try clear Z3); have Z3 := cz2 gR; (try clear Z6); have Z6 := cz2 gY; clear HB0) | ((with_reducible refine gC 71 ?_); refine cE (some 14) Tryz.func71 (d9.calls k _ _ l0 _ _ l1 c1a c1b _ (Kd.aM cS.1 HB.1) cO.1 (Kd.aM bE.1 HB.1) dL.1 D2.1) ?_; rintro e_ W4 ⟨_, _, rfl, hD, pP, hb⟩; refine ⟨_, rfl, ?_⟩; have HB0 := am (show w.heap.size ≤ W3.heap.size from HB.1.size); have hk_ : Kept W3 W4 (fun _ => False) := Kept.noth hb; replace NN := nn NN (show W3.heap.size ≤ W4.heap.size from hk_.1); replace gR := kB gR hk_; replace gY := kB gY hk_; replace HB := bS HB.1 hb; have KC := am (BkS.made (n := W3.heap.size) hD pP (HB0.out) (Nat.le_refl _)); clear hD pP; obtain ⟨Ac0, cc0, Ac1, cc1, e0_, e1_⟩ := KC.out.slices; subst e0_; subst e1_; clear hb hk_; (try clear Z3); have Z3 := cz2 gR; (try clear Z6); have Z6 := cz2 gY; clear HB0) | ((with_reducible refine gD 8 ?_); refine bX 8 #[.slice none 0 0, .slice none 0 0] 31 ?_; intro kI hg_ W5 hbox hb; have hk_ : Kept W4 W5 (fun _ => False) := Kept.noth hb; replace NN := nn NN (show W4.heap.size ≤ W5.heap.size from hk_.1); have CH := am (show w.heap.size ≤ kI from Nat.le_trans HB.1.size (Nat.le_of_eq hg_.symm)); replace NN := nn NN (show W4.heap.size ≤ kI from Nat.le_of_eq hg_.symm); replace NN := nn NN (show kI < W5.heap.size from dU hbox); replace KC := am (BkS.kept KC.out hk_ (fun _ _ _ h => h)); replace gR := kB gR hk_; replace gY := kB gY hk_; replace HB := bS HB.1 hb; have kO := am hbox; clear hb hbox hg_ hk_; have nb8_3 : kI ≠ nX := (by have := NN.1;  omega); have nb3_8 : nX ≠ kI := (by have := NN.1;  omega); have nb8_6 : kI ≠ kE := (by have := NN.1;  omega); have nb6_8 : kE ≠ kI := (by have := NN.1;  omega); (try clear Z8); have Z8 := cz2 kO; (try clear Z3); have Z3 := cz2 gR; (try clear Z6); have Z6 := cz2 gY) | ((with_reducible refine gC 68 ?_); refine cQ (some 17) Tryz.func68 (dC.calls k a1 true _ D3.1) ?_; rintro W6 hb; obtain ⟨nd_, hd_⟩ := hb; have hb : Below ((W5.setCell ⟨kI, 0, none⟩ (.slice Ac0 c1a.length cc0)).setCell ⟨kI, 1, none⟩ (.slice Ac1 c1b.length cc1)).heap.size ((W5.setCell ⟨kI, 0, none⟩ (.slice Ac0 c1a.length cc0)).setCell ⟨kI, 1, none⟩ (.slice Ac1 c1b.length cc1)) W6 := hd_ ▸ bK (Below.refl _ _) nd_; clear hd_ nd_; have HB0 := am (show w.heap.size ≤ W5.heap.size from HB.1.size); have hk_ : Kept W5 W6 (fun k => k = kI) := (Kept.two (w := W5) (g := kI) 0 1 (.slice Ac0 c1a.length cc0) (.slice Ac1 c1b.length cc1)).below hb; replace NN := nn NN (show W5.heap.size ≤ W6.heap.size from hk_.1); replace KC := am (BkS.kept KC.out hk_ (fun k_ h1_ h2_ e_ => by have := NN.1;  omega)); replace gR := am (dO gR.1 hk_ (fun e_ => by have := NN.1;  omega)); replace gY := am (dO gY.1 hk_ (fun e_ => by have := NN.1;  omega)); replace kO := am (aV (g := kI) (o := .cells #[.slice Ac0 c1a.length cc0, .slice Ac1 c1b.length cc1] 31 (0, 0)) (bD (cs := #[.slice Ac0 c1a.length cc0, .slice none 0 0]) (bD (cs := #[.slice none 0 0, .slice none 0 0]) kO.1 0 _ rfl) 1 _ rfl) hb); replace HB := am (dG (aJ (aJ HB.1 CH.1) CH.1) hb); clear hb hk_; (try clear Z3); have Z3 := cz2 gR; (try clear Z8); have Z8 := cz2 kO; (try clear Z6); have Z6 := cz2 gY; clear HB0) | (go_at_call 65; refine cM (gP.calls k _ _ l2 _ _ l0 false _ (Kd.aM pL.1 HB.1) pK.1 (Kd.aM cS.1 HB.1) cO.1 D4.1) ?_; rintro W7 hb; obtain ⟨nd_, hd_⟩ := hb; have hb : Below W6.heap.size W6 W7 := hd_ ▸ bK (Below.refl _ _) nd_; clear hd_ nd_; have HB0 := am (show w.heap.size ≤ W6.heap.size from HB.1.size); have hk_ : Kept W6 W7 (fun _ => False) := Kept.noth hb; replace NN := nn NN (show W6.heap.size ≤ W7.heap.size from hk_.1); replace KC := am (BkS.kept KC.out hk_ (fun _ _ _ h => h)); replace gR := kB gR hk_; replace gY := kB gY hk_; replace kO := kB kO hk_; replace HB := bS HB.1 hb; clear hb hk_; (try clear Z8); have Z8 := cz2 kO; (try clear Z6); have Z6 := cz2 gY; clear HB0))
  (try simp only [Exit.inBlock, Exit.then]); refine cT kE 31 #[.slice Ac0 c1a.length cc0, .slice Ac1 c1b.length cc1] (bD (cs := #[.slice Ac0 c1a.length cc0, .slice none 0 0]) (bD (cs := #[.slice none 0 0, .slice none 0 0]) (gY.1) 0 _ rfl) 1 _ rfl) Tryz.underlying31 ?_
  have hK_ := BkS.kept KC.out (Kept.two (w := W7) (g := kE) 0 1 (.slice Ac0 c1a.length cc0) (.slice Ac1 c1b.length cc1)) (fun k_ h1_ h2_ e_ => by have := NN.1;  omega)
  exact ⟨_, _, rfl, Kd.bG hK_.1 (fun _ _ => trivial), Kd.fU hK_.2 (fun _ h_ => h_.2), aJ (aJ HB.1 y8.1) y8.1⟩
 have cq : q = true := by simpa using cq
 rw [if_pos cq] at H
 subst cq
 obtain ⟨i, D5, H⟩ := bd H
 by_cases ci : 0 ≤ i
 ·rw [if_pos ci] at H
  have ci0 : decide (0 ≤ i) = true := decide_eq_true ci
  have ci1 : decide (i < 0) = false := decide_eq_false (by omega)
  obtain ⟨rfl, rfl, rfl⟩ := sZ3 H
  repeat clear H
  go_enter Tryz.func38, Tryz.ntmps38
  go_wp2_with (first | ((with_reducible refine gD 3 ?_); refine bX 3 #[.slice dD l0.length dE, .slice dS l1.length dB] 31 ?_; intro nX hg_ W1 hbox hb; have hk_ : Kept w W1 (fun _ => False) := Kept.noth hb; replace NN := nn NN (show w.heap.size ≤ W1.heap.size from hk_.1); have Mi := am (show w.heap.size ≤ nX from Nat.le_trans HB.1.size (Nat.le_of_eq hg_.symm)); replace NN := nn NN (show w.heap.size ≤ nX from Nat.le_of_eq hg_.symm); replace NN := nn NN (show nX < W1.heap.size from dU hbox); replace HB := bS HB.1 hb; have gR := am hbox; clear hb hbox hg_ hk_; (try clear Z3); have Z3 := cz2 gR) | ((with_reducible refine gD 6 ?_); refine bX 6 #[.slice none 0 0, .slice none 0 0] 31 ?_; intro kE hg_ W2 hbox hb; have hk_ : Kept W1 W2 (fun _ => False) := Kept.noth hb; replace NN := nn NN (show W1.heap.size ≤ W2.heap.size from hk_.1); have y8 := am (show w.heap.size ≤ kE from Nat.le_trans HB.1.size (Nat.le_of_eq hg_.symm)); replace NN := nn NN (show W1.heap.size ≤ kE from Nat.le_of_eq hg_.symm); replace NN := nn NN (show kE < W2.heap.size from dU hbox); replace gR := kB gR hk_; replace HB := bS HB.1 hb; have gY := am hbox; clear hb hbox hg_ hk_; have nb6_3 : kE ≠ nX := (by have := NN.1;  omega); have nb3_6 : nX ≠ kE := (by have := NN.1;  omega); (try clear Z6); have Z6 := cz2 gY; (try clear Z3); have Z3 := cz2 gR) | ((with_reducible refine gC 36 ?_); refine cQ (some 10) Tryz.func36 (aI.calls k _ _ l0 _ _ l1 true _ (Kd.aM cS.1 HB.1) cO.1 (Kd.aM bE.1 HB.1) dL.1 D1.1) ?_; rintro W3 hb; have HB0 := am (show w.heap.size ≤ W2.heap.size from HB.1.size); have hk_ : Kept W2 W3 (fun _ => False) := Kept.noth hb; replace NN := nn NN (show W2.heap.size ≤ W3.heap.size from hk_.1); replace gR := kB gR hk_; replace gY := kB gY hk_; replace HB := bS HB.1 hb; clear hb hk_; (try clear Z3); have Z3 := cz2 gR; (try clear Z6); have Z6 := cz2 gY; clear HB0) | ((with_reducible refine gC 71 ?_); refine cE (some 14) Tryz.func71 (d9.calls k _ _ l0 _ _ l1 c1a c1b _ (Kd.aM cS.1 HB.1) cO.1 (Kd.aM bE.1 HB.1) dL.1 D2.1) ?_; rintro e_ W4 ⟨_, _, rfl, hD, pP, hb⟩; refine ⟨_, rfl, ?_⟩; have HB0 := am (show w.heap.size ≤ W3.heap.size from HB.1.size); have hk_ : Kept W3 W4 (fun _ => False) := Kept.noth hb; replace NN := nn NN (show W3.heap.size ≤ W4.heap.size from hk_.1); replace gR := kB gR hk_; replace gY := kB gY hk_; replace HB := bS HB.1 hb; have KC := am (BkS.made (n := W3.heap.size) hD pP (HB0.out) (Nat.le_refl _)); clear hD pP; obtain ⟨Ac0, cc0, Ac1, cc1, e0_, e1_⟩ := KC.out.slices; subst e0_; subst e1_; clear hb hk_; (try clear Z3); have Z3 := cz2 gR; (try clear Z6); have Z6 := cz2 gY; clear HB0) | ((with_reducible refine gD 8 ?_); refine bX 8 #[.slice none 0 0, .slice none 0 0] 31 ?_; intro kI hg_ W5 hbox hb; have hk_ : Kept W4 W5 (fun _ => False) := Kept.noth hb; replace NN := nn NN (show W4.heap.size ≤ W5.heap.size from hk_.1); have CH := am (show w.heap.size ≤ kI from Nat.le_trans HB.1.size (Nat.le_of_eq hg_.symm)); replace NN := nn NN (show W4.heap.size ≤ kI from Nat.le_of_eq hg_.symm); replace NN := nn NN (show kI < W5.heap.size from dU hbox); replace KC := am (BkS.kept KC.out hk_ (fun _ _ _ h => h)); replace gR := kB gR hk_; replace gY := kB gY hk_; replace HB := bS HB.1 hb; have kO := am hbox; clear hb hbox hg_ hk_; have nb8_3 : kI ≠ nX := (by have := NN.1;  omega); have nb3_8 : nX ≠ kI := (by have := NN.1;  omega); have nb8_6 : kI ≠ kE := (by have := NN.1;  omega); have nb6_8 : kE ≠ kI := (by have := NN.1;  omega); (try clear Z8); have Z8 := cz2 kO; (try clear Z3); have Z3 := cz2 gR; (try clear Z6); have Z6 := cz2 gY) | ((with_reducible refine gC 68 ?_); refine cQ (some 17) Tryz.func68 (dC.calls k a1 true _ D3.1) ?_; rintro W6 hb; obtain ⟨nd_, hd_⟩ := hb; have hb : Below ((W5.setCell ⟨kI, 0, none⟩ (.slice Ac0 c1a.length cc0)).setCell ⟨kI, 1, none⟩ (.slice Ac1 c1b.length cc1)).heap.size ((W5.setCell ⟨kI, 0, none⟩ (.slice Ac0 c1a.length cc0)).setCell ⟨kI, 1, none⟩ (.slice Ac1 c1b.length cc1)) W6 := hd_ ▸ bK (Below.refl _ _) nd_; clear hd_ nd_; have HB0 := am (show w.heap.size ≤ W5.heap.size from HB.1.size); have hk_ : Kept W5 W6 (fun k => k = kI) := (Kept.two (w := W5) (g := kI) 0 1 (.slice Ac0 c1a.length cc0) (.slice Ac1 c1b.length cc1)).below hb; replace NN := nn NN (show W5.heap.size ≤ W6.heap.size from hk_.1); replace KC := am (BkS.kept KC.out hk_ (fun k_ h1_ h2_ e_ => by have := NN.1;  omega)); replace gR := am (dO gR.1 hk_ (fun e_ => by have := NN.1;  omega)); replace gY := am (dO gY.1 hk_ (fun e_ => by have := NN.1;  omega)); replace kO := am (aV (g := kI) (o := .cells #[.slice Ac0 c1a.length cc0, .slice Ac1 c1b.length cc1] 31 (0, 0)) (bD (cs := #[.slice Ac0 c1a.length cc0, .slice none 0 0]) (bD (cs := #[.slice none 0 0, .slice none 0 0]) kO.1 0 _ rfl) 1 _ rfl) hb); replace HB := am (dG (aJ (aJ HB.1 CH.1) CH.1) hb); clear hb hk_; (try clear Z3); have Z3 := cz2 gR; (try clear Z8); have Z8 := cz2 kO; (try clear Z6); have Z6 := cz2 gY; clear HB0) | (go_at_call 65; refine cM (gP.calls k _ _ l2 _ _ l0 true _ (Kd.aM pL.1 HB.1) pK.1 (Kd.aM cS.1 HB.1) cO.1 D4.1) ?_; rintro W7 hb; obtain ⟨nd_, hd_⟩ := hb; have hb : Below W6.heap.size W6 W7 := hd_ ▸ bK (Below.refl _ _) nd_; clear hd_ nd_; have HB0 := am (show w.heap.size ≤ W6.heap.size from HB.1.size); have hk_ : Kept W6 W7 (fun _ => False) := Kept.noth hb; replace NN := nn NN (show W6.heap.size ≤ W7.heap.size from hk_.1); replace KC := am (BkS.kept KC.out hk_ (fun _ _ _ h => h)); replace gR := kB gR hk_; replace gY := kB gY hk_; replace kO := kB kO hk_; replace HB := bS HB.1 hb; clear hb hk_; (try clear Z3); have Z3 := cz2 gR; (try clear Z8); have Z8 := cz2 kO; (try clear Z6); have Z6 := cz2 gY; clear HB0) | ((with_reducible refine gC 72 ?_); refine cQ (some 30) Tryz.func72 (eP.calls _ _ l0 _ _ l1 a1 i _ (Kd.aM cS.1 HB.1) cO.1 (Kd.aM bE.1 HB.1) dL.1 D5.1) ?_; rintro W8 hb; have HB0 := am (show w.heap.size ≤ W7.heap.size from HB.1.size); have hk_ : Kept W7 W8 (fun _ => False) := Kept.noth hb; replace NN := nn NN (show W7.heap.size ≤ W8.heap.size from hk_.1); replace KC := am (BkS.kept KC.out hk_ (fun _ _ _ h => h)); replace gR := kB gR hk_; replace gY := kB gY hk_; replace kO := kB kO hk_; replace HB := bS HB.1 hb; clear hb hk_; (try clear Z8); have Z8 := cz2 kO; (try clear Z6); have Z6 := cz2 gY; clear HB0))
  (try simp only [Exit.inBlock, Exit.then]); refine cT kE 31 #[.slice Ac0 c1a.length cc0, .slice Ac1 c1b.length cc1] (bD (cs := #[.slice Ac0 c1a.length cc0, .slice none 0 0]) (bD (cs := #[.slice none 0 0, .slice none 0 0]) (gY.1) 0 _ rfl) 1 _ rfl) Tryz.underlying31 ?_
  have hK_ := BkS.kept KC.out (Kept.two (w := W8) (g := kE) 0 1 (.slice Ac0 c1a.length cc0) (.slice Ac1 c1b.length cc1)) (fun k_ h1_ h2_ e_ => by have := NN.1;  omega)
  exact ⟨_, _, rfl, Kd.bG hK_.1 (fun _ _ => trivial), Kd.fU hK_.2 (fun _ h_ => h_.2), aJ (aJ HB.1 y8.1) y8.1⟩
 rw [if_neg ci] at H
 have ci0 : decide (0 ≤ i) = false := decide_eq_false ci
 have ci1 : decide (i < 0) = true := decide_eq_true (by omega)
 by_cases cl : l1.length = 5
 ·rw [if_pos cl] at H
  have cl0 : ((l1.length : Int) == 5) = true := beq_iff_eq.mpr (by omega)
  clear cl
  obtain ⟨rfl, rfl, rfl⟩ := sZ3 H
  repeat clear H
  go_enter Tryz.func38, Tryz.ntmps38
  go_wp2_with (first | ((with_reducible refine gD 3 ?_); refine bX 3 #[.slice dD l0.length dE, .slice dS l1.length dB] 31 ?_; intro nX hg_ W1 hbox hb; have hk_ : Kept w W1 (fun _ => False) := Kept.noth hb; replace NN := nn NN (show w.heap.size ≤ W1.heap.size from hk_.1); have Mi := am (show w.heap.size ≤ nX from Nat.le_trans HB.1.size (Nat.le_of_eq hg_.symm)); replace NN := nn NN (show w.heap.size ≤ nX from Nat.le_of_eq hg_.symm); replace NN := nn NN (show nX < W1.heap.size from dU hbox); replace HB := bS HB.1 hb; have gR := am hbox; clear hb hbox hg_ hk_; (try clear Z3); have Z3 := cz2 gR) | ((with_reducible refine gD 6 ?_); refine bX 6 #[.slice none 0 0, .slice none 0 0] 31 ?_; intro kE hg_ W2 hbox hb; have hk_ : Kept W1 W2 (fun _ => False) := Kept.noth hb; replace NN := nn NN (show W1.heap.size ≤ W2.heap.size from hk_.1); have y8 := am (show w.heap.size ≤ kE from Nat.le_trans HB.1.size (Nat.le_of_eq hg_.symm)); replace NN := nn NN (show W1.heap.size ≤ kE from Nat.le_of_eq hg_.symm); replace NN := nn NN (show kE < W2.heap.size from dU hbox); replace gR := kB gR hk_; replace HB := bS HB.1 hb; have gY := am hbox; clear hb hbox hg_ hk_; have nb6_3 : kE ≠ nX := (by have := NN.1;  omega); have nb3_6 : nX ≠ kE := (by have := NN.1;  omega); (try clear Z6); have Z6 := cz2 gY; (try clear Z3); have Z3 := cz2 gR) | ((with_reducible refine gC 36 ?_); refine cQ (some 10) Tryz.func36 (aI.calls k _ _ l0 _ _ l1 true _ (Kd.aM cS.1 HB.1) cO.1 (Kd.aM bE.1 HB.1) dL.1 D1.1) ?_; rintro W3 hb; have HB0 := am (show w.heap.size ≤ W2.heap.size from HB.1.size); have hk_ : Kept W2 W3 (fun _ => False) := Kept.noth hb; replace NN := nn NN (show W2.heap.size ≤ W3.heap.size from hk_.1); replace gR := kB gR hk_; replace gY := kB gY hk_; replace HB := bS HB.1 hb; clear hb hk_; (try clear Z3); have Z3 := cz2 gR; (try clear Z6); have Z6 := cz2 gY; clear HB0) | ((with_reducible refine gC 71 ?_); refine cE (some 14) Tryz.func71 (d9.calls k _ _ l0 _ _ l1 c1a c1b _ (Kd.aM cS.1 HB.1) cO.1 (Kd.aM bE.1 HB.1) dL.1 D2.1) ?_; rintro e_ W4 ⟨_, _, rfl, hD, pP, hb⟩; refine ⟨_, rfl, ?_⟩; have HB0 := am (show w.heap.size ≤ W3.heap.size from HB.1.size); have hk_ : Kept W3 W4 (fun _ => False) := Kept.noth hb; replace NN := nn NN (show W3.heap.size ≤ W4.heap.size from hk_.1); replace gR := kB gR hk_; replace gY := kB gY hk_; replace HB := bS HB.1 hb; have KC := am (BkS.made (n := W3.heap.size) hD pP (HB0.out) (Nat.le_refl _)); clear hD pP; obtain ⟨Ac0, cc0, Ac1, cc1, e0_, e1_⟩ := KC.out.slices; subst e0_; subst e1_; clear hb hk_; (try clear Z3); have Z3 := cz2 gR; (try clear Z6); have Z6 := cz2 gY; clear HB0) | ((with_reducible refine gD 8 ?_); refine bX 8 #[.slice none 0 0, .slice none 0 0] 31 ?_; intro kI hg_ W5 hbox hb; have hk_ : Kept W4 W5 (fun _ => False) := Kept.noth hb; replace NN := nn NN (show W4.heap.size ≤ W5.heap.size from hk_.1); have CH := am (show w.heap.size ≤ kI from Nat.le_trans HB.1.size (Nat.le_of_eq hg_.symm)); replace NN := nn NN (show W4.heap.size ≤ kI from Nat.le_of_eq hg_.symm); replace NN := nn NN (show kI < W5.heap.size from dU hbox); replace KC := am (BkS.kept KC.out hk_ (fun _ _ _ h => h)); replace gR := kB gR hk_; replace gY := kB gY hk_; replace HB := bS HB.1 hb; have kO := am hbox; clear hb hbox hg_ hk_; have nb8_3 : kI ≠ nX := (by have := NN.1;  omega); have nb3_8 : nX ≠ kI := (by have := NN.1;  omega); have nb8_6 : kI ≠ kE := (by have := NN.1;  omega); have nb6_8 : kE ≠ kI := (by have := NN.1;  omega); (try clear Z8); have Z8 := cz2 kO; (try clear Z3); have Z3 := cz2 gR; (try clear Z6); have Z6 := cz2 gY) | ((with_reducible refine gC 68 ?_); refine cQ (some 17) Tryz.func68 (dC.calls k a1 true _ D3.1) ?_; rintro W6 hb; obtain ⟨nd_, hd_⟩ := hb; have hb : Below ((W5.setCell ⟨kI, 0, none⟩ (.slice Ac0 c1a.length cc0)).setCell ⟨kI, 1, none⟩ (.slice Ac1 c1b.length cc1)).heap.size ((W5.setCell ⟨kI, 0, none⟩ (.slice Ac0 c1a.length cc0)).setCell ⟨kI, 1, none⟩ (.slice Ac1 c1b.length cc1)) W6 := hd_ ▸ bK (Below.refl _ _) nd_; clear hd_ nd_; have HB0 := am (show w.heap.size ≤ W5.heap.size from HB.1.size); have hk_ : Kept W5 W6 (fun k => k = kI) := (Kept.two (w := W5) (g := kI) 0 1 (.slice Ac0 c1a.length cc0) (.slice Ac1 c1b.length cc1)).below hb; replace NN := nn NN (show W5.heap.size ≤ W6.heap.size from hk_.1); replace KC := am (BkS.kept KC.out hk_ (fun k_ h1_ h2_ e_ => by have := NN.1;  omega)); replace gR := am (dO gR.1 hk_ (fun e_ => by have := NN.1;  omega)); replace gY := am (dO gY.1 hk_ (fun e_ => by have := NN.1;  omega)); replace kO := am (aV (g := kI) (o := .cells #[.slice Ac0 c1a.length cc0, .slice Ac1 c1b.length cc1] 31 (0, 0)) (bD (cs := #[.slice Ac0 c1a.length cc0, .slice none 0 0]) (bD (cs := #[.slice none 0 0, .slice none 0 0]) kO.1 0 _ rfl) 1 _ rfl) hb); replace HB := am (dG (aJ (aJ HB.1 CH.1) CH.1) hb); clear hb hk_; (try clear Z3); have Z3 := cz2 gR; (try clear Z8); have Z8 := cz2 kO; (try clear Z6); have Z6 := cz2 gY; clear HB0) | (go_at_call 65; refine cM (gP.calls k _ _ l2 _ _ l0 true _ (Kd.aM pL.1 HB.1) pK.1 (Kd.aM cS.1 HB.1) cO.1 D4.1) ?_; rintro W7 hb; obtain ⟨nd_, hd_⟩ := hb; have hb : Below W6.heap.size W6 W7 := hd_ ▸ bK (Below.refl _ _) nd_; clear hd_ nd_; have HB0 := am (show w.heap.size ≤ W6.heap.size from HB.1.size); have hk_ : Kept W6 W7 (fun _ => False) := Kept.noth hb; replace NN := nn NN (show W6.heap.size ≤ W7.heap.size from hk_.1); replace KC := am (BkS.kept KC.out hk_ (fun _ _ _ h => h)); replace gR := kB gR hk_; replace gY := kB gY hk_; replace kO := kB kO hk_; replace HB := bS HB.1 hb; clear hb hk_; (try clear Z3); have Z3 := cz2 gR; (try clear Z8); have Z8 := cz2 kO; (try clear Z6); have Z6 := cz2 gY; clear HB0) | ((with_reducible refine gC 72 ?_); refine cQ (some 30) Tryz.func72 (eP.calls _ _ l0 _ _ l1 a1 i _ (Kd.aM cS.1 HB.1) cO.1 (Kd.aM bE.1 HB.1) dL.1 D5.1) ?_; rintro W8 hb; have HB0 := am (show w.heap.size ≤ W7.heap.size from HB.1.size); have hk_ : Kept W7 W8 (fun _ => False) := Kept.noth hb; replace NN := nn NN (show W7.heap.size ≤ W8.heap.size from hk_.1); replace KC := am (BkS.kept KC.out hk_ (fun _ _ _ h => h)); replace gR := kB gR hk_; replace gY := kB gY hk_; replace kO := kB kO hk_; replace HB := bS HB.1 hb; clear hb hk_; (try clear Z3); have Z3 := cz2 gR; (try clear Z8); have Z8 := cz2 kO; (try clear Z6); have Z6 := cz2 gY; clear HB0))
  (try simp only [Exit.inBlock, Exit.then]); refine cT kE 31 #[.slice Ac0 c1a.length cc0, .slice Ac1 c1b.length cc1] (bD (cs := #[.slice Ac0 c1a.length cc0, .slice none 0 0]) (bD (cs := #[.slice none 0 0, .slice none 0 0]) (gY.1) 0 _ rfl) 1 _ rfl) Tryz.underlying31 ?_
  have hK_ := BkS.kept KC.out (Kept.two (w := W8) (g := kE) 0 1 (.slice Ac0 c1a.length cc0) (.slice Ac1 c1b.length cc1)) (fun k_ h1_ h2_ e_ => by have := NN.1;  omega)
  exact ⟨_, _, rfl, Kd.bG hK_.1 (fun _ _ => trivial), Kd.fU hK_.2 (fun _ h_ => h_.2), aJ (aJ HB.1 y8.1) y8.1⟩
 rw [if_neg cl] at H
 have cl0 : ((l1.length : Int) == 5) = false := beq_eq_false_iff_ne.mpr (by omega)
 clear cl
 obtain ⟨nd, D6, H⟩ := bd H
 by_cases hca : ¬ (c1b.length ≤ 11 ∧ Asc (insB c1b ⟨a1, [], nd⟩))
 ·rw [if_neg hca] at H
  cases H
 have hca := Classical.not_not.mp hca
 rw [if_pos hca] at H
 obtain ⟨cn11, cas⟩ := hca
 obtain ⟨rfl, rfl, rfl⟩ := sZ3 H
 repeat clear H
 have CAS := am cas
 clear cas
 have LEN := am cn11
 clear cn11
 go_enter Tryz.func38, Tryz.ntmps38
 try go_wp2_with (first | ((with_reducible refine gD 3 ?_); refine bX 3 #[.slice dD l0.length dE, .slice dS l1.length dB] 31 ?_; intro nX hg_ W1 hbox hb; have hk_ : Kept w W1 (fun _ => False) := Kept.noth hb; replace NN := nn NN (show w.heap.size ≤ W1.heap.size from hk_.1); have Mi := am (show w.heap.size ≤ nX from Nat.le_trans HB.1.size (Nat.le_of_eq hg_.symm)); replace NN := nn NN (show w.heap.size ≤ nX from Nat.le_of_eq hg_.symm); replace NN := nn NN (show nX < W1.heap.size from dU hbox); replace HB := bS HB.1 hb; have gR := am hbox; clear hb hbox hg_ hk_; (try clear Z3); have Z3 := cz2 gR) | ((with_reducible refine gD 6 ?_); refine bX 6 #[.slice none 0 0, .slice none 0 0] 31 ?_; intro kE hg_ W2 hbox hb; have hk_ : Kept W1 W2 (fun _ => False) := Kept.noth hb; replace NN := nn NN (show W1.heap.size ≤ W2.heap.size from hk_.1); have y8 := am (show w.heap.size ≤ kE from Nat.le_trans HB.1.size (Nat.le_of_eq hg_.symm)); replace NN := nn NN (show W1.heap.size ≤ kE from Nat.le_of_eq hg_.symm); replace NN := nn NN (show kE < W2.heap.size from dU hbox); replace gR := kB gR hk_; replace HB := bS HB.1 hb; have gY := am hbox; clear hb hbox hg_ hk_; have nb6_3 : kE ≠ nX := (by have := NN.1;  omega); have nb3_6 : nX ≠ kE := (by have := NN.1;  omega); (try clear Z6); have Z6 := cz2 gY; (try clear Z3); have Z3 := cz2 gR) | ((with_reducible refine gC 36 ?_); refine cQ (some 10) Tryz.func36 (aI.calls k _ _ l0 _ _ l1 true _ (Kd.aM cS.1 HB.1) cO.1 (Kd.aM bE.1 HB.1) dL.1 D1.1) ?_; rintro W3 hb; have HB0 := am (show w.heap.size ≤ W2.heap.size from HB.1.size); have hk_ : Kept W2 W3 (fun _ => False) := Kept.noth hb; replace NN := nn NN (show W2.heap.size ≤ W3.heap.size from hk_.1); replace gR := kB gR hk_; replace gY := kB gY hk_; replace HB := bS HB.1 hb; clear hb hk_; (try clear Z3); have Z3 := cz2 gR; (try clear Z6); have Z6 := cz2 gY; clear HB0) | ((with_reducible refine gC 71 ?_); refine cE (some 14) Tryz.func71 (d9.calls k _ _ l0 _ _ l1 c1a c1b _ (Kd.aM cS.1 HB.1) cO.1 (Kd.aM bE.1 HB.1) dL.1 D2.1) ?_; rintro e_ W4 ⟨_, _, rfl, hD, pP, hb⟩; refine ⟨_, rfl, ?_⟩; have HB0 := am (show w.heap.size ≤ W3.heap.size from HB.1.size); have hk_ : Kept W3 W4 (fun _ => False) := Kept.noth hb; replace NN := nn NN (show W3.heap.size ≤ W4.heap.size from hk_.1); replace gR := kB gR hk_; replace gY := kB gY hk_; replace HB := bS HB.1 hb; have KC := am (BkS.made (n := W3.heap.size) hD pP (HB0.out) (Nat.le_refl _)); clear hD pP; obtain ⟨Ac0, cc0, Ac1, cc1, e0_, e1_⟩ := KC.out.slices; subst e0_; subst e1_; clear hb hk_; (try clear Z3); have Z3 := cz2 gR; (try clear Z6); have Z6 := cz2 gY; clear HB0) | ((with_reducible refine gD 8 ?_); refine bX 8 #[.slice none 0 0, .slice none 0 0] 31 ?_; intro kI hg_ W5 hbox hb; have hk_ : Kept W4 W5 (fun _ => False) := Kept.noth hb; replace NN := nn NN (show W4.heap.size ≤ W5.heap.size from hk_.1); have CH := am (show w.heap.size ≤ kI from Nat.le_trans HB.1.size (Nat.le_of_eq hg_.symm)); replace NN := nn NN (show W4.heap.size ≤ kI from Nat.le_of_eq hg_.symm); replace NN := nn NN (show kI < W5.heap.size from dU hbox); replace KC := am (BkS.kept KC.out hk_ (fun _ _ _ h => h)); replace gR := kB gR hk_; replace gY := kB gY hk_; replace HB := bS HB.1 hb; have kO := am hbox; clear hb hbox hg_ hk_; have nb8_3 : kI ≠ nX := (by have := NN.1;  omega); have nb3_8 : nX ≠ kI := (by have := NN.1;  omega); have nb8_6 : kI ≠ kE := (by have := NN.1;  omega); have nb6_8 : kE ≠ kI := (by have := NN.1;  omega); (try clear Z8); have Z8 := cz2 kO; (try clear Z3); have Z3 := cz2 gR; (try clear Z6); have Z6 := cz2 gY) | ((with_reducible refine gC 68 ?_); refine cQ (some 17) Tryz.func68 (dC.calls k a1 true _ D3.1) ?_; rintro W6 hb; obtain ⟨nd_, hd_⟩ := hb; have hb : Below ((W5.setCell ⟨kI, 0, none⟩ (.slice Ac0 c1a.length cc0)).setCell ⟨kI, 1, none⟩ (.slice Ac1 c1b.length cc1)).heap.size ((W5.setCell ⟨kI, 0, none⟩ (.slice Ac0 c1a.length cc0)).setCell ⟨kI, 1, none⟩ (.slice Ac1 c1b.length cc1)) W6 := hd_ ▸ bK (Below.refl _ _) nd_; clear hd_ nd_; have HB0 := am (show w.heap.size ≤ W5.heap.size from HB.1.size); have hk_ : Kept W5 W6 (fun k => k = kI) := (Kept.two (w := W5) (g := kI) 0 1 (.slice Ac0 c1a.length cc0) (.slice Ac1 c1b.length cc1)).below hb; replace NN := nn NN (show W5.heap.size ≤ W6.heap.size from hk_.1); replace KC := am (BkS.kept KC.out hk_ (fun k_ h1_ h2_ e_ => by have := NN.1;  omega)); replace gR := am (dO gR.1 hk_ (fun e_ => by have := NN.1;  omega)); replace gY := am (dO gY.1 hk_ (fun e_ => by have := NN.1;  omega)); replace kO := am (aV (g := kI) (o := .cells #[.slice Ac0 c1a.length cc0, .slice Ac1 c1b.length cc1] 31 (0, 0)) (bD (cs := #[.slice Ac0 c1a.length cc0, .slice none 0 0]) (bD (cs := #[.slice none 0 0, .slice none 0 0]) kO.1 0 _ rfl) 1 _ rfl) hb); replace HB := am (dG (aJ (aJ HB.1 CH.1) CH.1) hb); clear hb hk_; (try clear Z3); have Z3 := cz2 gR; (try clear Z8); have Z8 := cz2 kO; (try clear Z6); have Z6 := cz2 gY; clear HB0) | (go_at_call 65; refine cM (gP.calls k _ _ l2 _ _ l0 true _ (Kd.aM pL.1 HB.1) pK.1 (Kd.aM cS.1 HB.1) cO.1 D4.1) ?_; rintro W7 hb; obtain ⟨nd_, hd_⟩ := hb; have hb : Below W6.heap.size W6 W7 := hd_ ▸ bK (Below.refl _ _) nd_; clear hd_ nd_; have HB0 := am (show w.heap.size ≤ W6.heap.size from HB.1.size); have hk_ : Kept W6 W7 (fun _ => False) := Kept.noth hb; replace NN := nn NN (show W6.heap.size ≤ W7.heap.size from hk_.1); replace KC := am (BkS.kept KC.out hk_ (fun _ _ _ h => h)); replace gR := kB gR hk_; replace gY := kB gY hk_; replace kO := kB kO hk_; replace HB := bS HB.1 hb; clear hb hk_; (try clear Z3); have Z3 := cz2 gR; (try clear Z8); have Z8 := cz2 kO; (try clear Z6); have Z6 := cz2 gY; clear HB0) | ((with_reducible refine gC 72 ?_); refine cQ (some 30) Tryz.func72 (eP.calls _ _ l0 _ _ l1 a1 i _ (Kd.aM cS.1 HB.1) cO.1 (Kd.aM bE.1 HB.1) dL.1 D5.1) ?_; rintro W8 hb; have HB0 := am (show w.heap.size ≤ W7.heap.size from HB.1.size); have hk_ : Kept W7 W8 (fun _ => False) := Kept.noth hb; replace NN := nn NN (show W7.heap.size ≤ W8.heap.size from hk_.1); replace KC := am (BkS.kept KC.out hk_ (fun _ _ _ h => h)); replace gR := kB gR hk_; replace gY := kB gY hk_; replace kO := kB kO hk_; replace HB := bS HB.1 hb; clear hb hk_; (try clear Z3); have Z3 := cz2 gR; (try clear Z8); have Z8 := cz2 kO; clear HB0))
 have n0_ := am (BkS.kept KC.out (w' := W8.drew) (Kept.noth (aU (Below.refl _ _))) (fun _ _ _ h => h))
 have n1_ := BD gR
 have n2_ := BD gY
 have n3_ := BD kO
 have n4_ := am (aU HB.1)
 have nle_ := am (show W8.heap.size ≤ W8.drew.heap.size from Nat.le_refl _)
 clear KC gR gY kO HB
 have KC := n0_
 have gR := n1_
 have gY := n2_
 have kO := n3_
 have HB := n4_
 clear n0_ n1_ n2_ n3_ n4_
 refine sT [9] 10 (uA2 kO) (fun hHeld => ?_)
 generalize W8.drew = W9 at KC gR gY kO HB nle_ hHeld ⊢
 have SF := nle_
 clear nle_
 refine pU0 0 (some 39) ?_
 refine pU0 2 (some 41) ?_
 refine pU0 3 (some 42) ?_
 refine tK2_ 1 (some 40) ?_
 refine oM 4 (some 43) fun K hK => ?_
 refine gE Tryz.func35 (bU.calls _ _ l2 nd _ (Kd.aM pL.1 HB.1) pK.1 D6.1) ?_
 rintro e_ W10 ⟨_, rfl, hD, hb⟩
 refine ⟨_, rfl, ?_⟩
 have HB0 := am (show w.heap.size ≤ W9.heap.size from HB.1.size)
 have hk_ : Kept W9 W10 (fun _ => False) := Kept.noth hb
 have Ae := am (show W9.heap.size ≤ W10.heap.size from hk_.1); replace NN := nn NN Ae.1
 replace KC := am (BkS.kept KC.out hk_ (fun _ _ _ h => h))
 replace gR := kB gR hk_
 replace gY := kB gY hk_
 replace kO := kB kO hk_
 replace HB := bS HB.1 hb
 have KN := am (RwS.made (n := W9.heap.size) hD (HB0.out) (Nat.le_refl _))
 clear hD
 obtain ⟨An0, cn0, e0_⟩ := KN.out.slices
 subst e0_
 clear hb hk_ HB0
 refine nK hK (uA2 kO).1 fun hHeld => ?_
 clear hK K
 refine pU0 5 (some 44) ?_
 refine oM 6 (some 45) fun K hK => ?_
 refine P9 (w1 := ?_) (v := ?_) (by rfl) rfl ?_ ?_
 rotate_left 2
 ·go_simp
  constructor
  ·rfl
  rfl
 refine hK.out _ _ ⟨(aH (bP kO.1 _) 0).trans rfl, (aH (bP kO.1 _) 1).trans rfl⟩ (fun hHeld => ?_)
 clear hK K
 refine nM ?_
 have hAP := am (BkS.appM a1 KC.out KN.out (by have := NN.1; have := SF.1; have := Ae.1;  omega) (by have := NN.1; have := SF.1; have := Ae.1;  omega) (by have := NN.1; have := SF.1; have := Ae.1;  omega))
 refine oM 7 (some 46) fun K hK => ?_
 refine Kd.z8 k66 (w0 := w) w.heap.size (by rfl) (.tmp 40) (.tmp 45) 29 66 Ag0 64 rfl Tryz.underlying29 pJ rfl (by decide) (by omega) (.slice Ac1 c1b.length cc1) c1b (⟨a1, [], nd⟩ : S66) [.string a1, .slice none 0 0, .slice An0 nd.length cn0] (fun k => W3.heap.size ≤ k ∧ some k ≠ (.slice Ac0 c1a.length cc0 : Value).ownBlock) (fun k => some k = (.slice An0 nd.length cn0 : Value).ownBlock) rfl rfl hAP.out.1 hAP.out.2.1 hAP.out.2.2.1 hAP.out.2.2.2 HB.1 HB.1.size (by have := LEN.out; omega) ?_
 intro v_ W11 ho_ hb_ hg_ hat_
 have hk_ : Kept W10 W11 (fun k => some k = (.slice Ac1 c1b.length cc1 : Value).ownBlock) := Kept.Jy hg_ (Kept.refl W10 _) (fun k e => Or.inl e.symm)
 replace NN := nn NN (show W10.heap.size ≤ W11.heap.size from hk_.1)
 have nk_ := am (BkS.appB KC.out ho_ hk_ (by have := NN.1; have := SF.1; have := NN.1;  omega))
 have nb3_ := am (dO gR.1 hk_ (fun e_ => Kd.S_ne KC.out.2 gR.1 (by decide) e_))
 have nb6_ := am (dO gY.1 hk_ (fun e_ => Kd.S_ne KC.out.2 gY.1 (by decide) e_))
 have nb8_ := am (dO kO.1 hk_ (fun e_ => Kd.S_ne KC.out.2 kO.1 (by decide) e_))
 clear KC KN HB hAP hat_ ho_ hg_ gR gY kO
 have KC := nk_
 have HB := am hb_
 have gR := nb3_
 have gY := nb6_
 have kO := nb8_
 clear nk_ hb_ hk_ nb3_ nb6_ nb8_
 generalize hyy : c1b ++ [(⟨a1, [], nd⟩ : S66)] = y at KC
 have HYY := am hyy
 clear hyy
 have HYL : aD (y.length = c1b.length + 1) := ⟨by rw [← HYY.out, List.length_append]; rfl⟩
 obtain ⟨ge, ce, ee_, _, _, _⟩ := Kd.NM KC.out.2 (by have := HYL.out; omega)
 subst ee_
 refine nK hK (uA2 kO).1 fun hHeld => ?_
 clear hK K
 refine pU0 8 (some 47) ?_
 refine R9 (i := 9) (N := none) (bz 10 1023) rfl rfl (by kernel_rfl) (by decide) (fun K hK => ?_)
 have hs8 : W11.cell? ⟨kI, 1, none⟩ = some (.slice Ac1 c1b.length cc1) := (aH kO.1 1).trans rfl
 have qw := bL kO.1 1
 refine qJ (w1 := (W11.setCell ⟨kI, 1, none⟩ (.slice (some ⟨ge, 0, none⟩) y.length ce))) (by rfl) rfl ?_ ?_
 ·go_simp
  (try rfl)
 refine hK.out _ _ ?_
 clear hK K
 refine qO (by kernel_rfl) ?_
 clear hs8 qw
 have nk_ := am (BkS.far (g := kI) (j := 1) (u := .slice (some ⟨ge, 0, none⟩) y.length ce) KC.out kO.1 (by decide))
 have hk_ : Kept W11 (W11.setCell ⟨kI, 1, none⟩ (.slice (some ⟨ge, 0, none⟩) y.length ce)) (fun k => k = kI) := Kept.setCell (p := ⟨kI, 1, none⟩) (Kept.refl W11 (fun k => k = kI)) (Or.inl rfl) _
 have nb3_ := am (dO gR.1 hk_ (fun e_ => nb3_8 e_))
 have nb6_ := am (dO gY.1 hk_ (fun e_ => nb6_8 e_))
 have nb8_ := am (bD (cs := #[.slice Ac0 c1a.length cc0, .slice Ac1 c1b.length cc1]) kO.1 1 (.slice (some ⟨ge, 0, none⟩) y.length ce) rfl)
 have nB_ : aD (Below w.heap.size w (W11.setCell ⟨kI, 1, none⟩ (.slice (some ⟨ge, 0, none⟩) y.length ce))) := ⟨aJ HB.1 CH.1⟩
 have nle_ := am (show W11.heap.size ≤ (W11.setCell ⟨kI, 1, none⟩ (.slice (some ⟨ge, 0, none⟩) y.length ce)).heap.size from hk_.1)
 clear KC HB hk_ gR gY kO
 have KC := nk_
 have HB := nB_
 have gR := nb3_
 have gY := nb6_
 have kO := nb8_
 clear nk_ nB_ nb3_ nb6_ nb8_
 change aD ((W11.setCell ⟨kI, 1, none⟩ (.slice (some ⟨ge, 0, none⟩) y.length ce)).heap[kI]? = some (.cells #[.slice Ac0 c1a.length cc0, .slice (some ⟨ge, 0, none⟩) y.length ce] 31 (0, 0))) at kO
 generalize (W11.setCell ⟨kI, 1, none⟩ (.slice (some ⟨ge, 0, none⟩) y.length ce)) = W12 at KC HB nle_ gR gY kO ⊢
 have ui := nle_
 clear nle_
 (try clear Z8)
 have Z8 := cz2 kO
 go_wp2_with (first | ((with_reducible refine gC 73 ?_); refine cQ (some 52) Tryz.func73 (O1 KC.out.2 kO.1 (fun e_ => by have h_ := Kd.S_ne KC.out.2 kO.1 (by decide); exact h_ (by rw [e_]; rfl)) (by have := HYL.out; omega) (by have := LEN.out; have := HYL.out; omega) HB.1) ?_; rintro W13 ⟨xs, hpm, hpw, hs_, hb_, hk_⟩; have hxs : xs = insB c1b ⟨a1, [], nd⟩ := XX (hpm.trans (by rw [← HYY.out]; exact (Dt c1b ⟨a1, [], nd⟩).symm)) hpw CAS.out; replace NN := nn NN (show W12.heap.size ≤ W13.heap.size from hk_.1); have nk_ := am (BkS.sorted KC.out hs_ hk_); have nb3_ := am (dO gR.1 hk_ (fun e_ => by have h_ := Kd.S_ne KC.out.2 gR.1 (by decide); exact h_ (by rw [e_]; rfl))); have nb6_ := am (dO gY.1 hk_ (fun e_ => by have h_ := Kd.S_ne KC.out.2 gY.1 (by decide); exact h_ (by rw [e_]; rfl))); have nb8_ := am (dO kO.1 hk_ (fun e_ => by have h_ := Kd.S_ne KC.out.2 kO.1 (by decide); exact h_ (by rw [e_]; rfl))); clear KC HB hs_ hk_ hpm hpw gR gY kO; have KC := nk_; have HB := am hb_; clear nk_ hb_; have gR := nb3_; have gY := nb6_; have kO := nb8_; clear nb3_ nb6_ nb8_; (try clear Z8); have Z8 := cz2 kO; (try clear Z6); have Z6 := cz2 gY))
 (try simp only [Exit.inBlock, Exit.then]); refine cT kE 31 #[.slice Ac0 c1a.length cc0, .slice (some ⟨ge, 0, none⟩) y.length ce] (bD (cs := #[.slice Ac0 c1a.length cc0, .slice none 0 0]) (bD (cs := #[.slice none 0 0, .slice none 0 0]) (gY.1) 0 _ rfl) 1 _ rfl) Tryz.underlying31 ?_
 have k1_ := am (BkS.far (g := kE) (j := 0) (u := .slice Ac0 c1a.length cc0) KC.out gY.1 (by decide))
 have k2_ := BkS.far (g := kE) (j := 1) (u := .slice (some ⟨ge, 0, none⟩) y.length ce) k1_.out (bD (cs := #[.slice none 0 0, .slice none 0 0]) gY.1 0 (.slice Ac0 c1a.length cc0) rfl) (by decide)
 rw [hxs] at k2_
 exact ⟨_, _, rfl, Kd.bG k2_.1 (fun _ _ => trivial), Kd.fU k2_.2 (fun _ h_ => h_.2), aJ (aJ HB.1 y8.1) y8.1⟩
def jL (ts : List ByteArray) (bs : List IB) (n : ByteArray) (needs : List ByteArray) : List ByteArray × List IB × Int :=
  if iY ts bs = true then
    (if qU n = true then (if kG needs ts = true then (if 0 ≤ atI bs n then (ts, bs, 3) else if 5 ≤ bs.length then (ts, bs, 4) else (ts, insB bs ⟨n, [], needs⟩, 0)) else (ts, bs, 2)) else (ts, bs, 2))
  else ([], [], 1)
theorem Xp (l : List IB) (x : IB) : kM (insB l x) = kM l + (1 + x.f1.length + x.f2.length) := by
 unfold insB
 rw [wY, xX]
 have : kM l = kM (l.take (insK l x.f0)) + kM (l.drop (insK l x.f0)) := by rw [← wY, List.take_append_drop]
 omega
theorem Le (p : IB → Bool) : ∀ (L : List IB), ∀ a ∈ L.take (L.takeWhile p).length, p a = true
  | [], a, h => by simp at h
  | b :: L, a, h => by
    cases hp : p b with
    | false => rw [List.takeWhile_cons, hp] at h; simp at h
    | true =>
      rw [List.takeWhile_cons, hp, if_pos rfl, List.length_cons, List.take_succ_cons] at h
      rcases List.mem_cons.1 h with rfl | h
      · exact hp
      · exact Le p L a h
theorem Cj (p : IB → Bool) : ∀ (L : List IB) (h : (L.takeWhile p).length < L.length), p L[(L.takeWhile p).length] = false
  | [], h => by simp at h
  | b :: L, h => by
    cases hp : p b with
    | false =>
      have e : (b :: L).takeWhile p = [] := by rw [List.takeWhile_cons, hp]; rfl
      simp only [e, List.length_nil, List.getElem_cons_zero, hp]
    | true =>
      have e : (b :: L).takeWhile p = b :: L.takeWhile p := by rw [List.takeWhile_cons, hp]; rfl
      simp only [e, List.length_cons, List.getElem_cons_succ]
      rw [e, List.length_cons, List.length_cons] at h
      exact Cj p L (by omega)
theorem zO {a b c : List UInt8} (h1 : Op.bytesLess a b = true) (h2 : Op.bytesLess b c = true) : Op.bytesLess a c = true := by
 rw [bytesLess_eq, decide_eq_true_eq] at *
 exact List.lt_trans h1 h2
theorem Aw {a b : List UInt8} (h1 : Op.bytesLess a b = false) (hne : a ≠ b) : Op.bytesLess b a = true := by
 rw [bytesLess_eq, decide_eq_false_iff_not] at h1
 rw [bytesLess_eq, decide_eq_true_eq]
 by_cases h : b < a
 ·exact h
 exact (hne (List.le_antisymm (List.not_lt.1 h) (List.not_lt.1 h1))).elim
theorem VH {ts : List ByteArray} {bs : List IB} (h : iY ts bs = true) : Asc bs := by
 unfold iY at h
 simp only [Bool.and_eq_true, decide_eq_true_eq] at h
 have hall := (pO _ _ _).1 h.2.2
 have hstep : ∀ i (hi : i + 1 < bs.length), Op.bytesLess (bs[i]'(by omega)).f0.toList bs[i + 1].f0.toList = true := by
  intro i hi
  have q := hall (i + 1) (by omega) hi
  simp only [Bool.and_eq_true] at q
  have q2 := q.1
  unfold q8 at q2
  simp only [Bool.and_eq_true, Bool.or_eq_true, decide_eq_true_eq] at q2
  have q3 := q2.2.1
  rcases q3 with q3 | q3
  ·omega
  ·unfold ltB gB at q3
   rw [getD_lt bs _ (show i + 1 - 1 < bs.length by omega), getD_lt bs _ hi] at q3
   exact q3
 unfold Asc
 rw [List.pairwise_iff_getElem]
 have go : ∀ (d i : Nat) (hd : i + d + 1 < bs.length), Op.bytesLess (bs[i]'(by omega)).f0.toList (bs[i + d + 1]'hd).f0.toList = true := by
  intro d
  induction d with
  | zero => intro i hd; exact hstep i hd
  | succ d ih => intro i hd; exact zO (ih i (by omega)) (hstep (i + d + 1) (by omega))
 intro i j hi hj hij
 have := go (j - i - 1) i (by omega)
 simpa only [show i + (j - i - 1) + 1 = j by omega] using this
theorem Au {bs : List IB} {n : ByteArray} (h : ¬ 0 ≤ atI bs n) : ∀ b ∈ bs, b.f0.toList ≠ n.toList := by
 intro b hb e
 unfold atI idxI at h
 cases hf : uA (fun i => (fun s => s.toList == n.toList) (gB bs i).f0) bs.length 0 with
 | some i => rw [hf] at h; simp at h
 | none =>
  unfold uA at hf
  rw [List.find?_eq_none] at hf
  obtain ⟨i, hi, rfl⟩ := List.getElem_of_mem hb
  have q := hf i (by rw [List.mem_range'_1]; omega)
  unfold gB at q
  rw [getD_lt bs _ hi] at q
  simp [e] at q
theorem WI {bs : List IB} {x : IB} (ha : Asc bs) (hn : ∀ b ∈ bs, b.f0.toList ≠ x.f0.toList) : Asc (insB bs x) := by
 have hpw := List.pairwise_iff_getElem.1 ha
 have hdrop : ∀ b ∈ bs.drop (insK bs x.f0), Op.bytesLess x.f0.toList b.f0.toList = true := by
  intro b hb
  obtain ⟨j, hj, rfl⟩ := List.getElem_of_mem hb
  rw [List.length_drop] at hj
  rw [List.getElem_drop]
  have hk : insK bs x.f0 < bs.length := by omega
  have hs : Op.bytesLess (bs[insK bs x.f0]'hk).f0.toList x.f0.toList = false := Cj _ bs hk
  have h1 := Aw hs (hn _ (List.getElem_mem hk))
  by_cases h0 : j = 0
  ·subst h0; exact h1
  ·exact zO h1 (hpw _ _ hk (by omega) (by omega))
 have htake : ∀ a ∈ bs.take (insK bs x.f0), Op.bytesLess a.f0.toList x.f0.toList = true := fun a h => Le (fun b => Op.bytesLess b.f0.toList x.f0.toList) bs a h
 unfold insB Asc
 rw [List.pairwise_append]
 refine ⟨List.Pairwise.sublist (List.take_sublist _ _) ha, List.pairwise_cons.2 ⟨hdrop, List.Pairwise.sublist (List.drop_sublist _ _) ha⟩, fun a h1 b h2 => ?_⟩
 rcases List.mem_cons.1 h2 with rfl | h2
 ·exact htake a h1
 exact zO (htake a h1) (hdrop b h2)
def kfrom (bs : List IB) (n : ByteArray) (i : Nat) : Nat := i + ((bs.drop i).takeWhile fun b => Op.bytesLess b.f0.toList n.toList).length
theorem Dw (bs : List IB) (n : ByteArray) : kfrom bs n bs.length = bs.length := by simp [kfrom]
theorem YO {bs : List IB} {n : ByteArray} {i : Nat} (hi : i < bs.length) : kfrom bs n i = if Op.bytesLess (gB bs i).f0.toList n.toList = true then kfrom bs n (i + 1) else i := by
 have e : gB bs i = bs[i] := by unfold gB; rw [getD_lt bs _ hi]
 unfold kfrom
 rw [List.drop_eq_getElem_cons hi, List.takeWhile_cons, e]
 cases hp : Op.bytesLess bs[i].f0.toList n.toList with
 | true => rw [if_pos rfl, if_pos rfl, List.length_cons]; omega
 | false => rw [if_neg (by simp), if_neg (by simp), List.length_nil]; omega
theorem YA (ts : List ByteArray) (bs : List IB) (n : ByteArray) (needs : List ByteArray) (h : ts.length + kM bs ≤ 1048576) (hn : needs.length ≤ 1048576) : Ev (fun k => bZ.l0 k n needs 0 ts bs) (ts, insB bs ⟨n, [], needs⟩, 0) := by
 have hz := J4 h
 have hl := hz.bs
 have hw := Xp bs ⟨n, [], needs⟩
 have hcopy : Ev (fun k => dA.f k ts (insB bs ⟨n, [], needs⟩)) (ts, insB bs ⟨n, [], needs⟩) := kC ts _ (by unfold Bz; rw [hw]; simp only [List.length_nil]; omega)
 have hend : ∀ i, i ≤ bs.length → kfrom bs n i = i → kfrom bs n 0 = i → bs.take i ++ [(⟨n, [], needs⟩ : IB)] ++ bs.drop i = insB bs ⟨n, [], needs⟩ := by
  intro i hi _ h0
  have e : insK bs n = i := by rw [← h0]; unfold kfrom insK; rw [List.drop_zero, Nat.zero_add]
  unfold insB
  rw [show insK bs (⟨n, [], needs⟩ : IB).f0 = i from e, List.append_assoc]; rfl
 have go : ∀ (d i : Nat), bs.length - i = d → i ≤ bs.length → kfrom bs n i = kfrom bs n 0 → Ev (fun k => bZ.l0 k n needs (i : Int) ts bs) (ts, insB bs ⟨n, [], needs⟩, 0) := by
  intro d
  induction d with
  | zero =>
   intro i hd hi hk
   have hie : i = bs.length := by omega
   have hke : kfrom bs n i = i := by rw [hie]; exact Dw bs n
   have he := hend i hi hke (by rw [← hk]; exact hke)
   refine Ev.step (fun k => bZ.l0.eq_2 _ _ _ _ _ k) (Ev.neg (by omega) ?_)
   refine Ev.bind (Ev.ret rfl) (Ev.pos (by omega) (Ev.pos (by omega) (Ev.bind (Ev.ret rfl) ?_)))
   rw [Int.toNat_natCast]
   refine Ev.pos (by simp only [List.length_nil, List.length_take]; omega) (Ev.bind (Ev.ret rfl) (Ev.bind (uZ needs (by omega)) ?_))
   refine Ev.pos (by simp only [List.nil_append, List.length_take]; omega) (Ev.bind (Ev.ret rfl) (Ev.bind (Ev.ret rfl) (Ev.pos (by simp only [List.nil_append, List.length_append, List.length_take, List.length_drop, List.length_cons, List.length_nil]; omega) ?_)))
   rw [List.nil_append, he]
   exact Ev.bind hcopy (Ev.ret rfl)
  | succ d ih =>
   intro i hd hi hk
   have hlt : i < bs.length := by omega
   have hs := YO (n := n) hlt
   refine Ev.step (fun k => bZ.l0.eq_2 _ _ _ _ _ k) (Ev.pos (by omega) (Ev.pos (by omega) ?_))
   rw [gF, iQ hlt (by omega)]
   refine Ev.prop (fun hp => ?_) (fun hp => ?_)
   ·rw [if_pos hp] at hs
    exact ih (i + 1) (by omega) (by omega) (by rw [← hs]; exact hk)
   ·rw [if_neg hp] at hs
    have he := hend i hi hs (by rw [← hk]; exact hs)
    refine Ev.bind (Ev.ret rfl) (Ev.pos (by omega) (Ev.bind (Ev.ret rfl) ?_))
    rw [Int.toNat_natCast]
    refine Ev.pos (by simp only [List.length_nil, List.length_take]; omega) (Ev.bind (Ev.ret rfl) (Ev.bind (uZ needs (by omega)) ?_))
    refine Ev.pos (by simp only [List.nil_append, List.length_take]; omega) (Ev.bind (Ev.ret rfl) (Ev.bind (Ev.ret rfl) (Ev.pos (by simp only [List.nil_append, List.length_append, List.length_take, List.length_drop, List.length_cons, List.length_nil]; omega) ?_)))
    rw [List.nil_append, he]
    exact Ev.bind hcopy (Ev.ret rfl)
 exact go bs.length 0 (by omega) (by omega) rfl
theorem VT (ts : List ByteArray) (bs : List IB) (n : ByteArray) (needs : List ByteArray) (b : Bool) (h : ts.length + kM bs ≤ 1048576) (hn : needs.length ≤ 1048576) : Ev (fun k => bZ.j0 k n needs b ts bs ts bs) (if b = true then (ts, bs, 2) else if 0 ≤ atI bs n then (ts, bs, 3) else if 5 ≤ bs.length then (ts, bs, 4) else (ts, insB bs ⟨n, [], needs⟩, 0)) := by
 have hz := J4 h
 have hl := hz.bs
 refine Ev.step (fun k => bZ.j0.eq_2 _ _ _ _ _ _ _ k) (Ev.test b (fun hb => Ev.ret (by rw [if_pos hb])) (fun hb => ?_))
 rw [if_neg (by simp [hb])]
 refine Ev.bind (uG ts bs n (by omega)) (Ev.prop (fun hc => Ev.ret (by rw [if_pos hc])) (fun hc => ?_))
 rw [if_neg hc]
 refine Ev.prop (fun h5 => Ev.ret (by rw [if_pos (by omega)])) (fun h5 => ?_)
 rw [if_neg (by omega)]
 exact YA ts bs n needs h hn
theorem GG (ts : List ByteArray) (bs : List IB) (n : ByteArray) (needs : List ByteArray) (h : ts.length + kM bs ≤ 1048576) (hn : needs.length ≤ 1048576) : Ev (fun k => bZ.f k ts bs n needs) (jL ts bs n needs) := by
 have hz := J4 h
 have hl := hz.bs
 have ht := hz.ts
 unfold bZ.f jL
 refine Ev.bind (iW ts bs (by omega) (by omega) hz.bok) (Ev.test _ (fun hb => ?_) (fun hb => Ev.ret (by simp [hb])))
 rw [if_pos hb]
 refine Ev.bind (kC ts bs hz) (Ev.bind (rO n) ?_)
 dsimp only
 refine Ev.test _ (fun hnm => ?_) (fun hnm => ?_)
 ·rw [if_pos hnm]
  refine Ev.bind (nU needs ts (by omega) (by omega)) ?_
  refine Ev.sub (VT ts bs n needs _ h hn) ?_
  cases kG needs ts <;> rfl
 exact Ev.sub (VT ts bs n needs true h hn) (by simp [hnm])
theorem Ev.posI {α : Type} {c : Prop} {inst : Decidable c} {a b : Nat → Option α} {r : α} (h : c) (H : Ev a r) : Ev (fun k => @ite _ c inst (a k) (b k)) r := Ev.pos h H
theorem FW (ts : List ByteArray) (bs : List IB) (n : ByteArray) (needs : List ByteArray) (h : ts.length + kM bs ≤ 1048576) (hn : needs.length ≤ 1048576) : Ev (fun k => nH.f k ts bs n needs) (jL ts bs n needs) := by
 have hz := J4 h
 have hl := hz.bs
 have ht := hz.ts
 unfold nH.f jL
 refine Ev.bind (iV ts bs (by omega) (by omega) hz.bok) (Ev.test _ (fun hb => ?_) (fun hb => Ev.ret (by simp [hb])))
 rw [if_pos hb]
 have h5 := sV hb
 refine Ev.bind (oL ts bs hz) (Ev.bind (Cf n) ?_)
 dsimp only
 refine Ev.test _ (fun hnm => ?_) (fun hnm => Ev.ret (by simp [hnm]))
 rw [if_pos hnm]
 refine Ev.bind (uY needs ts (by omega) (by omega)) (Ev.test _ (fun hq => ?_) (fun hq => Ev.ret (by simp [hq])))
 rw [if_pos hq]
 refine Ev.bind (Ev.ret (s := atI bs n) rfl) (Ev.prop (fun hc => Ev.ret (by rw [if_pos hc])) (fun hc => ?_))
 rw [if_neg hc]
 refine Ev.prop (fun h6 => Ev.ret (by rw [if_pos (by omega)])) (fun h6 => ?_)
 rw [if_neg (by omega)]
 refine Ev.bind (zR needs (by omega)) (Ev.posI ⟨by omega, WI (VH hb) (Au hc)⟩ (Ev.ret rfl))
end Go.Proofs.YtaofjgnhapnndaaGreatDoor.Q
