/- Texts that the row needs: words on memory and rows, the contracts of the functions it reaches, and the plain lemmas on what they compute. -/
import Derived.Deep.RegionLaw
import Derived.Test.YtaofjgnhapnndaaGreatDoorXksam
set_option maxHeartbeats 8000000
set_option maxRecDepth 100000
open Go.Proofs.YtaofjgnhapnndaaGreatDoorFks
namespace Go.Proofs.YtaofjgnhapnndaaGreatDoor.Q
open Go.RowKit Go.Proofs.YtaofjgnhapnndaaGreatDoorW.PrintWords Go.Proofs.YtaofjgnhapnndaaGreatDoorW.PrintLast Go.Proofs.YtaofjgnhapnndaaGreatDoorW.PrintMore
set_option linter.unusedVariables false
set_option linter.unusedSimpArgs false
theorem Q3 (w : World) (t e ty : TypeId) (z : Value) (u0 u1 u2 : Value) (ht : Tryz.prog.underlying t = some (.slice e)) (hv : ∀ w, (zeroValue e).run Tryz.prog w = .ok z w) (hz : z.cells = #[u0, u1, u2]) (h1 : ∀ u ∈ [u0, u1, u2], u.oneCell' = true) (b o c : Nat)
  (hc : ∀ j, j < 3 → (w.cell? ⟨b, o + j, none⟩).isSome = true) (hf : ∀ j, j < 3 → w.frozen? ⟨b, o + j, none⟩ = false) :
  (Builtin.clear_ #[t] ty #[.slice (some ⟨b, o, none⟩) 1 c]).run Tryz.prog w = .ok (.tuple #[]) (w.setCells b o [u0, u1, u2]) := by
 have hzc : (Builtin.zeroCells z.cells 1).toList = [u0, u1, u2] := by
  rw [hz]
  simp only [Builtin.zeroCells]
  simp
  apply List.ext_getElem
  ·simp
  ·intro i h1 h2
   simp only [List.length_cons, List.length_nil] at h2
   obtain rfl | rfl | rfl : i = 0 ∨ i = 1 ∨ i = 2 := by omega
   all_goals simp
 have hst := run_storeCells_cells (P := Tryz.prog) b o [u0, u1, u2] 0 w (by simpa using hc) (by simpa using hf) h1
 simp only [Nat.add_zero] at hst
 simp [Builtin.clear_, run_underlying ht, hv, hzc, hst]
theorem gy (i : Nat) : ((i : Int) == (i : Int) + 1) = false := beq_eq_false_iff_ne.2 (fun e => by omega)
theorem gz {i n : Nat} (h : i < n) : (i : Int) + 1 ≤ (n : Int) := by omega
theorem ib {i n c : Nat} (h : i < n) (hn : n ≤ c) (hc : c ≤ 9223372036854775807) : wrap64 ((i : Int) + 1) = (i : Int) + 1 := by unfold wrap64; omega
theorem Ny {i n c : Nat} (h : i < n) (hn : n ≤ c) : i + (n - (i + 1)) ≤ c := by omega
theorem dh {w w' : World} {base : Nat} {P : Nat → Prop} {g cap i : Nat} {xs : List S66} {f : Nat → Nat} {inner : List Value} {cur' : Array Value} (hi : i < xs.length)
  (h0 : P g) (hb : base ≤ g) (hn : xs.length ≤ cap) (hm : cap ≤ maxLen) (hr : Reps ((Kd.tag f k66).M w base (fun k => P k ∧ some k ≠ some g)) 3 xs.zipIdx inner)
  (hH : w'.heap[g]? = some (.cells cur' 66 (0, 0))) (hs : cur'.size = cap * 3) (ht : cur'.toList.take ((xs.length - 1) * 3) = inner.take (i * 3) ++ inner.drop ((i + 1) * 3))
  (hK : Kept w w' (fun k => k = g)) : Kd.S k66 66 w' base P (.slice (some ⟨g, 0, none⟩) (xs.length - 1) cap) (xs.eraseIdx i) := by
 have hl : (xs.eraseIdx i).length = xs.length - 1 := List.length_eraseIdx_of_lt hi
 have hil : inner.length = xs.length * 3 := by have := hr.1; rwa [List.length_zipIdx] at this
 refine ⟨fun k => if i < f k then f k - 1 else f k, fun k hk => by (have e : g = k := by simpa [Value.ownBlock] using hk); subst e; exact h0, inner.take (i * 3) ++ inner.drop ((i + 1) * 3), ⟨?_, ?_⟩, ?_, ?_⟩
 ·rw [List.length_append, List.length_take, List.length_drop, List.length_zipIdx, hl, hil]
  show _ = (xs.length - 1) * 3
  omega
 ·refine .inr ⟨g, cap, cur', ?_, hb, hH, ?_, hm, hs, ?_⟩
  ·rw [List.length_zipIdx, hl]
  ·rw [List.length_zipIdx, hl]; omega
  rw [List.length_zipIdx, hl]; exact ht
 ·rw [List.length_append, List.length_take, List.length_drop, List.length_zipIdx, hl, hil]
  show _ = (xs.length - 1) * 3
  omega
 intro j p hj
 rw [List.getElem?_zipIdx] at hj
 obtain ⟨x, hx, rfl⟩ := Option.map_eq_some_iff.mp hj
 have hjl : j < (xs.eraseIdx i).length := (List.getElem?_eq_some_iff.1 hx).1
 rw [List.getElem?_eraseIdx] at hx
 by_cases hji : j < i
 ·rw [if_pos hji] at hx
  have hM := hr.2 j (x, j) (Kd.wG hx)
  have e : ((inner.take (i * 3) ++ inner.drop ((i + 1) * 3)).drop (j * 3)).take 3 = (inner.drop (j * 3)).take 3 := by
   rw [List.drop_append_of_le_length (by rw [List.length_take, hil]; omega), List.take_append_of_le_length (by rw [List.length_drop, List.length_take, hil]; omega), List.drop_take, List.take_take, Nat.min_eq_left (by omega)]
  show (Kd.tag _ _).M _ _ _ _ (((inner.take (i * 3) ++ inner.drop ((i + 1) * 3)).drop (j * 3)).take 3)
  rw [e]
  refine (Kd.tag _ k66).M_mono (ok := fun k => (P k ∧ some k ≠ some g) ∧ f k = j) (fun k hk => ?_) (Kd.JF (d := Kd.tag _ k66) (w := w) ?_ (fun k hk hlt => hK.2 k hlt (fun e => hk.1.2 (by rw [e]))))
  ·exact ⟨hk.1.1, fun e => hk.1.2 (by simpa [Value.ownBlock] using e)⟩
  refine k66.M_mono (fun k hk => ⟨⟨hk.1, hk.2⟩, ?_⟩) hM
  have := hk.2
  show (if i < f k then f k - 1 else f k) = _
  simp only at this
  rw [this, if_neg (by omega)]; omega
 rw [if_neg hji] at hx
 have hM := hr.2 (j + 1) (x, j + 1) (Kd.wG hx)
 have e : ((inner.take (i * 3) ++ inner.drop ((i + 1) * 3)).drop (j * 3)).take 3 = (inner.drop ((j + 1) * 3)).take 3 := by
  rw [List.drop_append, List.drop_eq_nil_of_le (by rw [List.length_take, hil]; omega), List.nil_append, List.length_take, hil, Nat.min_eq_left (by omega), List.drop_drop]
  congr 2; omega
 show (Kd.tag _ _).M _ _ _ _ (((inner.take (i * 3) ++ inner.drop ((i + 1) * 3)).drop (j * 3)).take 3)
 rw [e]
 refine (Kd.tag _ k66).M_mono (ok := fun k => (P k ∧ some k ≠ some g) ∧ f k = j + 1) (fun k hk => ?_) (Kd.JF (d := Kd.tag _ k66) (w := w) ?_ (fun k hk hlt => hK.2 k hlt (fun e => hk.1.2 (by rw [e]))))
 ·exact ⟨hk.1.1, fun e => hk.1.2 (by simpa [Value.ownBlock] using e)⟩
 refine k66.M_mono (fun k hk => ⟨⟨hk.1, hk.2⟩, ?_⟩) hM
 have := hk.2
 show (if i < f k then f k - 1 else f k) = _
 simp only at this
 rw [this, if_pos (by omega)]; omega
set_option maxHeartbeats 4000000 in
set_option maxRecDepth 1000000 in
theorem slices_Delete.one (w0 w : World) (P : Nat → Prop) (A : Option Addr) (c : Nat) (xs : List S66) (i : Nat) (hi : i < xs.length) (hB : Below w0.heap.size w0 w) (h : Kd.S k66 66 w w0.heap.size P (.slice A xs.length c) xs) :
  Calls Tryz.prog 80 #[.slice A xs.length c, .int .i64 i, .int .i64 ((i : Int) + 1)] w fun e w' => e = .returned (.slice A (xs.length - 1) c) ∧ Kd.S k66 66 w' w0.heap.size P (.slice A (xs.length - 1) c) (xs.eraseIdx i) ∧ Below w0.heap.size w0 w' ∧ Kept w w' P := by
 obtain ⟨f, h0, inner, ho, hr⟩ := h
 obtain ⟨hil, ho⟩ := ho
 rw [List.length_zipIdx] at hil
 rcases ho with ⟨_, ho⟩ | ⟨g, cap, cur, hv, hbase, hheap, hncap, hcapm, hcur, htake⟩
 ·rw [List.length_zipIdx] at ho; omega
 rw [List.length_zipIdx] at hv hncap htake
 injection hv with ha _ hc
 subst ha; subst hc
 have hP : P g := h0 g rfl
 have hr' : Reps ((Kd.tag f k66).M w w0.heap.size (fun k => P k ∧ some k ≠ some g)) 3 xs.zipIdx inner := hr
 have hil' : inner.length = xs.length * 3 := hil
 have hcur' : cur.size = c * 3 := hcur
 have htake' : cur.toList.take (xs.length * 3) = inner := htake
 have hone : ∀ u ∈ inner, u.oneCell' = true := by
  intro u hu
  obtain ⟨j, hj, rfl⟩ := List.getElem_of_mem hu
  have hjx : j / 3 < xs.length := by omega
  have hM := hr'.2 (j / 3) (xs[j / 3], j / 3) (Kd.wG (List.getElem?_eq_getElem hjx))
  refine k66.K_one (k66.K_of_M hM) _ ?_
  refine List.mem_of_getElem? (i := j % 3) ?_
  rw [List.getElem?_take, if_pos (by omega), List.getElem?_drop, show j / 3 * 3 + j % 3 = j by omega, List.getElem?_eq_getElem hj]
 have hcell : ∀ j, j < xs.length * 3 → w.cell? ⟨g, j, none⟩ = inner[j]? := by
  intro j hj
  rw [aH hheap j, ← htake', List.getElem?_take, if_pos hj, Array.getElem?_toList]
 have hfr : ∀ j, w.frozen? ⟨g, j, none⟩ = false := fun j => bL hheap j
 clear h0 hr hil hcur htake
 obtain ⟨news, hnews⟩ : ∃ news, news = inner.drop ((i + 1) * 3) := ⟨_, rfl⟩
 have hlen : news.length = (xs.length - (i + 1)) * 3 := by rw [hnews, List.length_drop, hil']; omega
 obtain ⟨B, hA, hsrc⟩ : ∃ B : Addr, (if c = i + 1 then some (⟨g, 0, none⟩ : Addr) else some ⟨g, (i + 1) * 3, none⟩) = some B ∧ Hid (∀ t u, news[t]? = some u → w.drew.cell? (B.add t) = some u) := by
  by_cases h : c = i + 1
  ·refine ⟨⟨g, 0, none⟩, by simp [h], fun t u hu => ?_⟩
   have h0 : news.length = 0 := by rw [hlen]; omega
   rw [List.length_eq_zero_iff.1 h0] at hu
   simp at hu
  ·refine ⟨⟨g, (i + 1) * 3, none⟩, by simp [h], fun t u hu => ?_⟩
   have ht : t < (xs.length - (i + 1)) * 3 := by
    have := (List.getElem?_eq_some_iff.1 hu).1
    rwa [hlen] at this
   rw [Addr.add_lit]
   show w.cell? _ = _
   rw [hcell _ (by omega), ← hu, hnews, List.getElem?_drop]
 have s2 : Hid (∀ u ∈ news, u.oneCell' = true) := by
  intro u hu
  rw [hnews] at hu
  exact hone u (List.mem_of_mem_drop hu)
 have s1 : Hid (news.length = (xs.length - (i + 1)) * 3) := hlen
 have s3 : Hid (∀ t, t < news.length → (w.drew.cell? ⟨g, 0 + i * 3 + t, none⟩).isSome = true ∧ w.drew.frozen? ⟨g, 0 + i * 3 + t, none⟩ = false) := by
  intro t ht
  rw [hlen] at ht
  refine ⟨?_, hfr _⟩
  show (w.cell? _).isSome = true
  rw [hcell _ (by omega), List.getElem?_eq_getElem (by omega)]
  rfl
 obtain ⟨i0, YF, hz0, hz1, hz2⟩ := info_parts pJ
 obtain ⟨W1, hW1⟩ : ∃ W1, W1 = w.drew.setCells g (0 + i * 3) news := ⟨_, rfl⟩
 obtain ⟨cur1, hh1, Oq, ht1⟩ := uF (e := 66) news (0 + i * 3) w.drew cur hheap (by rw [hlen, hcur']; omega)
 rw [← hW1] at hh1
 have hcl : ∀ ty, (Builtin.clear_ #[29] ty #[.slice (some ⟨g, (i + (xs.length - (i + 1))) * 3, none⟩) (xs.length - (i + (xs.length - (i + 1)))) (c - (i + (xs.length - (i + 1))))]).run Tryz.prog W1 = .ok (.tuple #[]) (W1.setCells g ((i + (xs.length - (i + 1))) * 3) [.string ByteArray.empty, .slice none 0 0, .slice none 0 0]) := by
  intro ty
  rw [show xs.length - (i + (xs.length - (i + 1))) = 1 by omega]
  refine Q3 W1 _ 66 ty (.agg #[.string ByteArray.empty, .slice none 0 0, .slice none 0 0]) _ _ _ Tryz.underlying29 Tryz.zeroValue66 rfl (by simp [Value.oneCell']) g _ _ (fun t ht => ?_) (fun t ht => bL hh1 _)
  rw [aH hh1, Array.getElem?_eq_getElem (by rw [Oq, hcur']; omega)]
  rfl
 obtain ⟨W2, hW2⟩ : ∃ W2, W2 = W1.setCells g ((i + (xs.length - (i + 1))) * 3) [.string ByteArray.empty, .slice none 0 0, .slice none 0 0] := ⟨_, rfl⟩
 obtain ⟨cur2, hh2, CX, ht2⟩ := uF (e := 66) [.string ByteArray.empty, .slice none 0 0, .slice none 0 0] ((i + (xs.length - (i + 1))) * 3) W1 cur1 hh1 (by rw [Oq, hcur']; simp only [List.length_cons, List.length_nil]; omega)
 rw [← hW2] at hh2
 have hK : Kept w W2 (fun k => k = g) := by
  rw [hW2, hW1]
  refine ⟨by rw [(mF g _ _ _).2.2.2, (mF g _ _ _).2.2.2]; exact Nat.le_refl _, fun k hk hne => ?_⟩
  rw [rM _ _ _ hne, rM _ _ _ hne]
  rfl
 have hBe : Below w0.heap.size w0 W2 := by
  have q2 := mF g [.string ByteArray.empty, .slice none 0 0, .slice none 0 0] ((i + (xs.length - (i + 1))) * 3) W1
  have q1 := mF g news (0 + i * 3) w.drew
  rw [← hW2] at q2; rw [← hW1] at q1
  refine ⟨by rw [q2.1, q1.1]; exact (aU hB).os, by rw [q2.2.1, q1.2.1]; exact (aU hB).tape, by rw [q2.2.2.1, q1.2.2.1]; exact (aU hB).output, Nat.le_trans hB.size hK.1, fun k hk => ?_⟩
  have hne : k ≠ g := by omega
  exact (hK.2 k (Nat.lt_of_lt_of_le hk hB.size) hne).trans (hB.block k hk)
 have htk : cur2.toList.take ((xs.length - 1) * 3) = inner.take (i * 3) ++ inner.drop ((i + 1) * 3) := by
  have e0 : i + (xs.length - (i + 1)) = xs.length - 1 := by omega
  have l1 : (cur1.toList.take ((xs.length - 1) * 3)).length = (xs.length - 1) * 3 := by rw [List.length_take, show cur1.toList.length = cur1.size from Array.length_toList, Oq, hcur']; omega
  rw [ht2, e0, List.append_assoc, List.take_append_of_le_length (by omega), List.take_take, Nat.min_self, ht1, ← hnews]
  have l2 : (cur.toList.take (0 + i * 3)).length = i * 3 := by rw [List.length_take, show cur.toList.length = cur.size from Array.length_toList, hcur']; omega
  have l3 : (cur.toList.take (0 + i * 3) ++ news).length = (xs.length - 1) * 3 := by rw [List.length_append, l2, hlen]; omega
  rw [List.take_append_of_le_length (by omega), List.take_of_length_le (by omega), Nat.zero_add, ← htake', List.take_take, Nat.min_eq_left (by omega)]
 have hS := dh (w' := W2) hi hP hbase hncap hcapm hr' hh2 (by rw [CX, Oq, hcur']) htk hK
 have hcm : c ≤ 9223372036854775807 := hcapm
 clear hcapm
 have HS := am hS
 have HB := am hBe
 have HK := am (Kept.mono hK (S' := P) (fun k e => e ▸ hP))
 have hwr : wrap64 ((i : Int) + 1) = (i : Int) + 1 := ib hi hncap hcm
 have hic : i ≤ c := Nat.le_trans (Nat.le_of_lt hi) hncap
 have hne : ((i : Int) == (i : Int) + 1) = false := gy i
 have hp0 : (0 : Int) ≤ (i : Int) + 1 := Int.natCast_nonneg (i + 1)
 have hp1 : (i : Int) + 1 ≤ (xs.length : Int) := gz hi
 have hp2 : ((i : Int) + 1).toNat = i + 1 := Int.toNat_natCast (i + 1)
 have MQ : xs.length ≤ c := hncap
 have hHW1 : Hid (W1 = w.drew.setCells g (0 + i * 3) news) := hW1
 have hHW2 : Hid (W2 = W1.setCells g ((i + (xs.length - (i + 1))) * 3) [.string ByteArray.empty, .slice none 0 0, .slice none 0 0]) := hW2
 clear hcm
 clear hS hBe hK htk hh2 CX ht2 hh1 Oq ht1 hW1 hW2 hr' hil' hcur' htake' hone hcell hfr hnews hlen hheap hbase hncap hB hP
 go_enter Tryz.func80, Tryz.ntmps80
 go_wp2_with fail
 go_region_law (refine step_append_room rfl (.tmp 22) (.tmp 25) 29 rfl 66 i0 3 Tryz.underlying29 YF hz1 g 0 i c (by simp [Act.eval, Act.put]) B (xs.length - (i + 1)) (c - (i + 1)) news (by simp [Act.eval, Act.put]) s1.out hsrc.out s2.out (Ny hi MQ) s3.out ?_; rw [← hHW1.out])
 go_wp2
 go_ret
 rw [← hHW2.out]
 exact ⟨by rw [show i + (xs.length - (i + 1)) = xs.length - 1 by omega]; rfl, HS.out, HB.1, HK.out⟩
def nI.f (k : Nat) (l0 : List ByteArray) (l1 : List S66) (a1 : ByteArray) : Option (List ByteArray × List S66 × Int) :=
 (aI.f k l0 l1).bind fun ok => if ok = true then (d9.f k l0 l1).bind fun c => (eP.f l0 l1 a1).bind fun i => if i < 0 then some (c.1, c.2, 3) else if i.toNat < c.2.length ∧ c.2.length ≤ 9223372036854775806 then some (c.1, c.2.eraseIdx i.toNat, 0) else none else some ([], [], 1)
theorem BkS.del {w0 w : World} {lo hi : Nat} {v0 : Value} {A : Option Addr} {c : Nat} {l0 : List ByteArray} {l1 : List S66} (h : BkS w0 w lo hi v0 (.slice A l1.length c) l0 l1) (hB : Below w0.heap.size w0 w) (i : Nat) (Fc : i < l1.length) :
  Calls Tryz.prog 80 #[.slice A l1.length c, .int .i64 i, .int .i64 ((i : Int) + 1)] w fun e w' => e = .returned (.slice A (l1.eraseIdx i).length c) ∧ BkS w0 w' lo hi v0 (.slice A (l1.eraseIdx i).length c) l0 (l1.eraseIdx i) ∧ Below w0.heap.size w0 w' ∧ Kept w w' (fun k => lo ≤ k ∧ k < hi) := by
 refine (slices_Delete.one w0 w _ A c l1 i Fc hB h.2).mono ?_
 rintro e w' ⟨he, hs, hb, hk⟩
 have e1 : (l1.eraseIdx i).length = l1.length - 1 := List.length_eraseIdx_of_lt Fc
 rw [e1]
 exact ⟨he, ⟨Kd.sK (Kd.kP rfl h.1) hk (fun k e hk2 => hk2.2 e) |> (fun q => Kd.bG q (fun k e => h.1.1 k e.symm)), hs⟩, hb, Kept.mono hk (fun k hk => hk.1)⟩
theorem nI.calls (k : Nat) (dD : Option Addr) (dE : Nat) (l0 : List ByteArray) (dS : Option Addr) (dB : Nat) (l1 : List S66) (a1 : ByteArray) (r1 : List ByteArray) (r2 : List S66) (r3 : Int) (w : World) (fL : Kd.C Kd.string w dD l0.length l0) (fJ : l0.length ≤ dE) (fH : Kd.C k66 w dS l1.length l1) (fK : l1.length ≤ dB) (h : nI.f k l0 l1 a1 = some (r1, r2, r3)) :
  Calls Tryz.prog 41 #[.agg #[.slice dD l0.length dE, .slice dS l1.length dB], .string a1] w fun e w' => ∃ v0_ v1_ : Value, e = .returned (.tuple #[.agg #[v0_, v1_], .int .i64 r3]) ∧ Kd.R Kd.string 9 w' w.heap.size (fun _ => True) v0_ r1 ∧ Kd.S k66 66 w' w.heap.size (fun k_ => some k_ ≠ (v0_ : Value).ownBlock) v1_ r2 ∧ Below w.heap.size w w' := by
 have hu31 := Tryz.underlying31
 obtain ⟨cS, cO⟩ := mZ2 fL fJ
 obtain ⟨bE, dL⟩ := mZ2 fH fK
 clear fL fJ fH fK
 have HB := am (Below.refl w.heap.size w); have NN := am trivial
 unfold nI.f at h
 have H := h
 clear h
 obtain ⟨ok, D1, H⟩ := bd H
 by_cases c1 : ok = false
 ·subst c1
  rw [if_neg (by simp)] at H
  obtain ⟨rfl, rfl, rfl⟩ := sZ3 H
  repeat clear H
  go_enter Tryz.func41, Tryz.ntmps41
  go_wp2_with (first | ((with_reducible refine gD 2 ?_); refine bX 2 #[.slice dD l0.length dE, .slice dS l1.length dB] 31 ?_; intro PQ hg_ W1 hbox hb; have hk_ : Kept w W1 (fun _ => False) := Kept.noth hb; replace NN := nn NN (show w.heap.size ≤ W1.heap.size from hk_.1); have XO := am (show w.heap.size ≤ PQ from Nat.le_trans HB.1.size (Nat.le_of_eq hg_.symm)); replace NN := nn NN (show w.heap.size ≤ PQ from Nat.le_of_eq hg_.symm); replace NN := nn NN (show PQ < W1.heap.size from dU hbox); replace HB := bS HB.1 hb; have zE := am hbox; clear hb hbox hg_ hk_; (try clear Z2); have Z2 := cz2 zE) | ((with_reducible refine gD 4 ?_); refine bX 4 #[.slice none 0 0, .slice none 0 0] 31 ?_; intro FU hg_ W2 hbox hb; have hk_ : Kept W1 W2 (fun _ => False) := Kept.noth hb; replace NN := nn NN (show W1.heap.size ≤ W2.heap.size from hk_.1); have uQ := am (show w.heap.size ≤ FU from Nat.le_trans HB.1.size (Nat.le_of_eq hg_.symm)); replace NN := nn NN (show W1.heap.size ≤ FU from Nat.le_of_eq hg_.symm); replace NN := nn NN (show FU < W2.heap.size from dU hbox); replace zE := kB zE hk_; replace HB := bS HB.1 hb; have C1 := am hbox; clear hb hbox hg_ hk_; have nb4_2 : FU ≠ PQ := (by have := NN.1;  omega); have nb2_4 : PQ ≠ FU := (by have := NN.1;  omega); (try clear Z4); have Z4 := cz2 C1; (try clear Z2); have Z2 := cz2 zE) | ((with_reducible refine gC 36 ?_); refine cQ (some 9) Tryz.func36 (aI.calls k _ _ l0 _ _ l1 false _ (Kd.aM cS.1 HB.1) cO.1 (Kd.aM bE.1 HB.1) dL.1 D1.1) ?_; rintro W3 hb; have HB0 := am (show w.heap.size ≤ W2.heap.size from HB.1.size); have hk_ : Kept W2 W3 (fun _ => False) := Kept.noth hb; replace NN := nn NN (show W2.heap.size ≤ W3.heap.size from hk_.1); replace zE := kB zE hk_; replace C1 := kB C1 hk_; replace HB := bS HB.1 hb; clear hb hk_; (try clear Z2); have Z2 := cz2 zE; (try clear Z4); have Z4 := cz2 C1; clear HB0))
  (try simp only [Exit.inBlock, Exit.then]); refine cT FU 31 #[.slice none 0 0, .slice none 0 0] (bD (cs := #[.slice none 0 0, .slice none 0 0]) (bD (cs := #[.slice none 0 0, .slice none 0 0]) (C1.1) 0 _ rfl) 1 _ rfl) Tryz.underlying31 ?_
  exact ⟨_, _, rfl, Kd.oQ _ _ _ _ _, Kd.tX _ _ _ _ _, aJ (aJ HB.1 uQ.1) uQ.1⟩
 have c1 : ok = true := by simpa using c1
 rw [if_pos c1] at H
 subst c1
 obtain ⟨⟨c1a, c1b⟩, D2, H⟩ := bd H
 obtain ⟨i, D3, H⟩ := bd H
 dsimp only at H
 by_cases c2 : i < 0
 ·rw [if_pos c2] at H
  have VM : decide (i < 0) = true := decide_eq_true c2
  obtain ⟨rfl, rfl, rfl⟩ := sZ3 H
  repeat clear H
  go_enter Tryz.func41, Tryz.ntmps41
  go_wp2_with (first | ((with_reducible refine gD 2 ?_); refine bX 2 #[.slice dD l0.length dE, .slice dS l1.length dB] 31 ?_; intro PQ hg_ W1 hbox hb; have hk_ : Kept w W1 (fun _ => False) := Kept.noth hb; replace NN := nn NN (show w.heap.size ≤ W1.heap.size from hk_.1); have XO := am (show w.heap.size ≤ PQ from Nat.le_trans HB.1.size (Nat.le_of_eq hg_.symm)); replace NN := nn NN (show w.heap.size ≤ PQ from Nat.le_of_eq hg_.symm); replace NN := nn NN (show PQ < W1.heap.size from dU hbox); replace HB := bS HB.1 hb; have zE := am hbox; clear hb hbox hg_ hk_; (try clear Z2); have Z2 := cz2 zE) | ((with_reducible refine gD 4 ?_); refine bX 4 #[.slice none 0 0, .slice none 0 0] 31 ?_; intro FU hg_ W2 hbox hb; have hk_ : Kept W1 W2 (fun _ => False) := Kept.noth hb; replace NN := nn NN (show W1.heap.size ≤ W2.heap.size from hk_.1); have uQ := am (show w.heap.size ≤ FU from Nat.le_trans HB.1.size (Nat.le_of_eq hg_.symm)); replace NN := nn NN (show W1.heap.size ≤ FU from Nat.le_of_eq hg_.symm); replace NN := nn NN (show FU < W2.heap.size from dU hbox); replace zE := kB zE hk_; replace HB := bS HB.1 hb; have C1 := am hbox; clear hb hbox hg_ hk_; have nb4_2 : FU ≠ PQ := (by have := NN.1;  omega); have nb2_4 : PQ ≠ FU := (by have := NN.1;  omega); (try clear Z4); have Z4 := cz2 C1; (try clear Z2); have Z2 := cz2 zE) | ((with_reducible refine gC 36 ?_); refine cQ (some 9) Tryz.func36 (aI.calls k _ _ l0 _ _ l1 true _ (Kd.aM cS.1 HB.1) cO.1 (Kd.aM bE.1 HB.1) dL.1 D1.1) ?_; rintro W3 hb; have HB0 := am (show w.heap.size ≤ W2.heap.size from HB.1.size); have hk_ : Kept W2 W3 (fun _ => False) := Kept.noth hb; replace NN := nn NN (show W2.heap.size ≤ W3.heap.size from hk_.1); replace zE := kB zE hk_; replace C1 := kB C1 hk_; replace HB := bS HB.1 hb; clear hb hk_; (try clear Z2); have Z2 := cz2 zE; (try clear Z4); have Z4 := cz2 C1; clear HB0) | ((with_reducible refine gC 71 ?_); refine cE (some 13) Tryz.func71 (d9.calls k _ _ l0 _ _ l1 c1a c1b _ (Kd.aM cS.1 HB.1) cO.1 (Kd.aM bE.1 HB.1) dL.1 D2.1) ?_; rintro e_ W4 ⟨_, _, rfl, hD, pP, hb⟩; refine ⟨_, rfl, ?_⟩; have HB0 := am (show w.heap.size ≤ W3.heap.size from HB.1.size); have hk_ : Kept W3 W4 (fun _ => False) := Kept.noth hb; replace NN := nn NN (show W3.heap.size ≤ W4.heap.size from hk_.1); replace zE := kB zE hk_; replace C1 := kB C1 hk_; replace HB := bS HB.1 hb; have KC := am (BkS.made (n := W3.heap.size) hD pP (HB0.out) (Nat.le_refl _)); clear hD pP; obtain ⟨Ac0, cc0, Ac1, cc1, e0_, e1_⟩ := KC.out.slices; subst e0_; subst e1_; clear hb hk_; (try clear Z2); have Z2 := cz2 zE; (try clear Z4); have Z4 := cz2 C1; clear HB0) | ((with_reducible refine gD 6 ?_); refine bX 6 #[.slice none 0 0, .slice none 0 0] 31 ?_; intro kE hg_ W5 hbox hb; have hk_ : Kept W4 W5 (fun _ => False) := Kept.noth hb; replace NN := nn NN (show W4.heap.size ≤ W5.heap.size from hk_.1); have y8 := am (show w.heap.size ≤ kE from Nat.le_trans HB.1.size (Nat.le_of_eq hg_.symm)); replace NN := nn NN (show W4.heap.size ≤ kE from Nat.le_of_eq hg_.symm); replace NN := nn NN (show kE < W5.heap.size from dU hbox); replace KC := am (BkS.kept KC.out hk_ (fun _ _ _ h => h)); replace zE := kB zE hk_; replace C1 := kB C1 hk_; replace HB := bS HB.1 hb; have gY := am hbox; clear hb hbox hg_ hk_; have nb6_2 : kE ≠ PQ := (by have := NN.1;  omega); have nb2_6 : PQ ≠ kE := (by have := NN.1;  omega); have nb6_4 : kE ≠ FU := (by have := NN.1;  omega); have nb4_6 : FU ≠ kE := (by have := NN.1;  omega); (try clear Z6); have Z6 := cz2 gY; (try clear Z2); have Z2 := cz2 zE; (try clear Z4); have Z4 := cz2 C1) | ((with_reducible refine gC 72 ?_); refine cQ (some 16) Tryz.func72 (eP.calls _ _ l0 _ _ l1 a1 i _ (Kd.aM cS.1 (aJ (aJ HB.1 y8.1) y8.1)) cO.1 (Kd.aM bE.1 (aJ (aJ HB.1 y8.1) y8.1)) dL.1 D3.1) ?_; rintro W6 hb; have HB0 := am (show w.heap.size ≤ W5.heap.size from HB.1.size); have hk_ : Kept W5 W6 (fun k => k = kE) := (Kept.two (w := W5) (g := kE) 0 1 (.slice Ac0 c1a.length cc0) (.slice Ac1 c1b.length cc1)).below hb; replace NN := nn NN (show W5.heap.size ≤ W6.heap.size from hk_.1); replace KC := am (BkS.kept KC.out hk_ (fun k_ h1_ h2_ e_ => by have := NN.1;  omega)); replace zE := am (dO zE.1 hk_ (fun e_ => by have := NN.1;  omega)); replace C1 := am (dO C1.1 hk_ (fun e_ => by have := NN.1;  omega)); replace gY := am (aV (g := kE) (o := .cells #[.slice Ac0 c1a.length cc0, .slice Ac1 c1b.length cc1] 31 (0, 0)) (bD (cs := #[.slice Ac0 c1a.length cc0, .slice none 0 0]) (bD (cs := #[.slice none 0 0, .slice none 0 0]) gY.1 0 _ rfl) 1 _ rfl) hb); replace HB := am (dG (aJ (aJ HB.1 y8.1) y8.1) hb); clear hb hk_; (try clear Z6); have Z6 := cz2 gY; (try clear Z4); have Z4 := cz2 C1; clear HB0))
  (try simp only [Exit.inBlock, Exit.then]); refine cT FU 31 #[.slice Ac0 c1a.length cc0, .slice Ac1 c1b.length cc1] (bD (cs := #[.slice Ac0 c1a.length cc0, .slice none 0 0]) (bD (cs := #[.slice none 0 0, .slice none 0 0]) (C1.1) 0 _ rfl) 1 _ rfl) Tryz.underlying31 ?_
  have hK_ := BkS.kept KC.out (Kept.two (w := W6) (g := FU) 0 1 (.slice Ac0 c1a.length cc0) (.slice Ac1 c1b.length cc1)) (fun k_ h1_ h2_ e_ => by have := NN.1;  omega)
  exact ⟨_, _, rfl, Kd.bG hK_.1 (fun _ _ => trivial), Kd.fU hK_.2 (fun _ h_ => h_.2), aJ (aJ HB.1 uQ.1) uQ.1⟩
 rw [if_neg c2] at H
 have VM : decide (i < 0) = false := decide_eq_false c2
 obtain ⟨n, rfl⟩ := Int.eq_ofNat_of_zero_le (Int.not_lt.mp c2)
 rw [Int.toNat_natCast] at H
 obtain ⟨⟨c3, c3b⟩, H⟩ := WL H
 obtain ⟨rfl, rfl, rfl⟩ := sZ3 H
 repeat clear H
 have hwr : wrap64 ((n : Int) + 1) = (n : Int) + 1 := by
  unfold wrap64; omega
 go_enter Tryz.func41, Tryz.ntmps41
 go_wp2_with (first | ((with_reducible refine gD 2 ?_); refine bX 2 #[.slice dD l0.length dE, .slice dS l1.length dB] 31 ?_; intro PQ hg_ W1 hbox hb; have hk_ : Kept w W1 (fun _ => False) := Kept.noth hb; replace NN := nn NN (show w.heap.size ≤ W1.heap.size from hk_.1); have XO := am (show w.heap.size ≤ PQ from Nat.le_trans HB.1.size (Nat.le_of_eq hg_.symm)); replace NN := nn NN (show w.heap.size ≤ PQ from Nat.le_of_eq hg_.symm); replace NN := nn NN (show PQ < W1.heap.size from dU hbox); replace HB := bS HB.1 hb; have zE := am hbox; clear hb hbox hg_ hk_; (try clear Z2); have Z2 := cz2 zE) | ((with_reducible refine gD 4 ?_); refine bX 4 #[.slice none 0 0, .slice none 0 0] 31 ?_; intro FU hg_ W2 hbox hb; have hk_ : Kept W1 W2 (fun _ => False) := Kept.noth hb; replace NN := nn NN (show W1.heap.size ≤ W2.heap.size from hk_.1); have uQ := am (show w.heap.size ≤ FU from Nat.le_trans HB.1.size (Nat.le_of_eq hg_.symm)); replace NN := nn NN (show W1.heap.size ≤ FU from Nat.le_of_eq hg_.symm); replace NN := nn NN (show FU < W2.heap.size from dU hbox); replace zE := kB zE hk_; replace HB := bS HB.1 hb; have C1 := am hbox; clear hb hbox hg_ hk_; have nb4_2 : FU ≠ PQ := (by have := NN.1;  omega); have nb2_4 : PQ ≠ FU := (by have := NN.1;  omega); (try clear Z4); have Z4 := cz2 C1; (try clear Z2); have Z2 := cz2 zE) | ((with_reducible refine gC 36 ?_); refine cQ (some 9) Tryz.func36 (aI.calls k _ _ l0 _ _ l1 true _ (Kd.aM cS.1 HB.1) cO.1 (Kd.aM bE.1 HB.1) dL.1 D1.1) ?_; rintro W3 hb; have HB0 := am (show w.heap.size ≤ W2.heap.size from HB.1.size); have hk_ : Kept W2 W3 (fun _ => False) := Kept.noth hb; replace NN := nn NN (show W2.heap.size ≤ W3.heap.size from hk_.1); replace zE := kB zE hk_; replace C1 := kB C1 hk_; replace HB := bS HB.1 hb; clear hb hk_; (try clear Z2); have Z2 := cz2 zE; (try clear Z4); have Z4 := cz2 C1; clear HB0) | ((with_reducible refine gC 71 ?_); refine cE (some 13) Tryz.func71 (d9.calls k _ _ l0 _ _ l1 c1a c1b _ (Kd.aM cS.1 HB.1) cO.1 (Kd.aM bE.1 HB.1) dL.1 D2.1) ?_; rintro e_ W4 ⟨_, _, rfl, hD, pP, hb⟩; refine ⟨_, rfl, ?_⟩; have HB0 := am (show w.heap.size ≤ W3.heap.size from HB.1.size); have hk_ : Kept W3 W4 (fun _ => False) := Kept.noth hb; replace NN := nn NN (show W3.heap.size ≤ W4.heap.size from hk_.1); replace zE := kB zE hk_; replace C1 := kB C1 hk_; replace HB := bS HB.1 hb; have KC := am (BkS.made (n := W3.heap.size) hD pP (HB0.out) (Nat.le_refl _)); clear hD pP; obtain ⟨Ac0, cc0, Ac1, cc1, e0_, e1_⟩ := KC.out.slices; subst e0_; subst e1_; clear hb hk_; (try clear Z2); have Z2 := cz2 zE; (try clear Z4); have Z4 := cz2 C1; clear HB0) | ((with_reducible refine gD 6 ?_); refine bX 6 #[.slice none 0 0, .slice none 0 0] 31 ?_; intro kE hg_ W5 hbox hb; have hk_ : Kept W4 W5 (fun _ => False) := Kept.noth hb; replace NN := nn NN (show W4.heap.size ≤ W5.heap.size from hk_.1); have y8 := am (show w.heap.size ≤ kE from Nat.le_trans HB.1.size (Nat.le_of_eq hg_.symm)); replace NN := nn NN (show W4.heap.size ≤ kE from Nat.le_of_eq hg_.symm); replace NN := nn NN (show kE < W5.heap.size from dU hbox); replace KC := am (BkS.kept KC.out hk_ (fun _ _ _ h => h)); replace zE := kB zE hk_; replace C1 := kB C1 hk_; replace HB := bS HB.1 hb; have gY := am hbox; clear hb hbox hg_ hk_; have nb6_2 : kE ≠ PQ := (by have := NN.1;  omega); have nb2_6 : PQ ≠ kE := (by have := NN.1;  omega); have nb6_4 : kE ≠ FU := (by have := NN.1;  omega); have nb4_6 : FU ≠ kE := (by have := NN.1;  omega); (try clear Z6); have Z6 := cz2 gY; (try clear Z2); have Z2 := cz2 zE; (try clear Z4); have Z4 := cz2 C1) | ((with_reducible refine gC 72 ?_); refine cQ (some 16) Tryz.func72 (eP.calls _ _ l0 _ _ l1 a1 (n : Int) _ (Kd.aM cS.1 (aJ (aJ HB.1 y8.1) y8.1)) cO.1 (Kd.aM bE.1 (aJ (aJ HB.1 y8.1) y8.1)) dL.1 D3.1) ?_; rintro W6 hb; have HB0 := am (show w.heap.size ≤ W5.heap.size from HB.1.size); have hk_ : Kept W5 W6 (fun k => k = kE) := (Kept.two (w := W5) (g := kE) 0 1 (.slice Ac0 c1a.length cc0) (.slice Ac1 c1b.length cc1)).below hb; replace NN := nn NN (show W5.heap.size ≤ W6.heap.size from hk_.1); replace KC := am (BkS.kept KC.out hk_ (fun k_ h1_ h2_ e_ => by have := NN.1;  omega)); replace zE := am (dO zE.1 hk_ (fun e_ => by have := NN.1;  omega)); replace C1 := am (dO C1.1 hk_ (fun e_ => by have := NN.1;  omega)); replace gY := am (aV (g := kE) (o := .cells #[.slice Ac0 c1a.length cc0, .slice Ac1 c1b.length cc1] 31 (0, 0)) (bD (cs := #[.slice Ac0 c1a.length cc0, .slice none 0 0]) (bD (cs := #[.slice none 0 0, .slice none 0 0]) gY.1 0 _ rfl) 1 _ rfl) hb); replace HB := am (dG (aJ (aJ HB.1 y8.1) y8.1) hb); clear hb hk_; (try clear Z6); have Z6 := cz2 gY; (try clear Z4); have Z4 := cz2 C1; clear HB0) | ((with_reducible refine gC 80 ?_); refine cQ (some 25) Tryz.func80 (BkS.del KC.out HB.1 n c3) ?_; rintro W7 ⟨hy, hbb, hkk⟩; have HB0 := am (show w.heap.size ≤ W6.heap.size from HB.1.size); have hk_ := hkk; replace NN := nn NN (show W6.heap.size ≤ W7.heap.size from hk_.1); replace zE := am (dO zE.1 hk_ (fun e_ => by obtain ⟨e1_, e2_⟩ := e_; have := NN.1;  omega)); replace C1 := am (dO C1.1 hk_ (fun e_ => by obtain ⟨e1_, e2_⟩ := e_; have := NN.1;  omega)); replace gY := am (dO gY.1 hk_ (fun e_ => by obtain ⟨e1_, e2_⟩ := e_; have := NN.1;  omega)); clear KC; replace HB := am hbb; have KC := am hy; clear hy; clear hk_ hkk hbb; (try clear Z6); have Z6 := cz2 gY; (try clear Z4); have Z4 := cz2 C1; clear HB0))
 (try simp only [Exit.inBlock, Exit.then]); refine cT FU 31 #[.slice Ac0 c1a.length cc0, .slice Ac1 (c1b.eraseIdx n).length cc1] (bD (cs := #[.slice Ac0 c1a.length cc0, .slice none 0 0]) (bD (cs := #[.slice none 0 0, .slice none 0 0]) (eX C1.1 nb4_6 _) 0 _ rfl) 1 _ rfl) Tryz.underlying31 ?_
 have hk_ : Kept W7 (((W7.setCell ⟨kE, 1, none⟩ _).setCell ⟨FU, 0, none⟩ _).setCell ⟨FU, 1, none⟩ _) (fun k => k = kE ∨ k = FU) := Kept.setCell (p := ⟨FU, 1, none⟩) (Kept.setCell (p := ⟨FU, 0, none⟩) (Kept.setCell (p := ⟨kE, 1, none⟩) (Kept.refl W7 (fun k => k = kE ∨ k = FU)) (Or.inl (Or.inl rfl)) (.slice Ac1 (c1b.eraseIdx n).length cc1)) (Or.inl (Or.inr rfl)) (.slice Ac0 c1a.length cc0)) (Or.inl (Or.inr rfl)) (.slice Ac1 (c1b.eraseIdx n).length cc1)
 have hK_ := BkS.kept KC.out hk_ (fun k_ h1_ h2_ e_ => by have := NN.1;  omega)
 exact ⟨_, _, rfl, Kd.bG hK_.1 (fun _ _ => trivial), Kd.fU hK_.2 (fun _ h_ => h_.2), aJ (aJ (aJ HB.1 y8.1) uQ.1) uQ.1⟩
def jN (ts : List ByteArray) (bs : List IB) (n : ByteArray) : List ByteArray × List IB × Int :=
  if iY ts bs = true then (if atI bs n < 0 then (ts, bs, 3) else (ts, bs.eraseIdx (atI bs n).toNat, 0)) else ([], [], 1)
theorem CO (bs : List IB) (n : ByteArray) (h : ¬ atI bs n < 0) : ∃ i : Nat, atI bs n = (i : Int) ∧ i < bs.length := by
 unfold atI idxI at h ⊢
 cases hf : uA (fun i => (fun s => s.toList == n.toList) (gB bs i).f0) bs.length 0 with
 | none => rw [hf] at h; simp at h
 | some i => exact ⟨i, by simp, (CR hf).2.1⟩
theorem GH (ts : List ByteArray) (bs : List IB) (n : ByteArray) (h : Bz ts bs) : Ev (fun k => iA.f k ts bs n) (jN ts bs n) := by
 have hl := h.bs
 unfold iA.f jN
 refine Ev.bind (iW ts bs (by have := h.ts; omega) (by omega) h.bok) (Ev.test _ (fun hb => ?_) (fun hb => Ev.ret (by simp [hb])))
 rw [if_pos hb]
 refine Ev.bind (kC ts bs h) (Ev.bind (uG ts bs n (by omega)) ?_)
 refine Ev.prop (fun hc => Ev.ret (by rw [if_pos hc])) (fun hc => ?_)
 rw [if_neg hc]
 obtain ⟨i, e, hi⟩ := CO bs n hc
 rw [e, Int.toNat_natCast, iQ hi (by omega)]
 dsimp only
 refine Ev.bind (Ev.ret rfl) (Ev.pos (by omega) (Ev.pos (by omega) (Ev.bind (Ev.ret rfl) (Ev.pos (by simp only [List.length_nil, List.length_take]; omega) (Ev.bind (Ev.ret rfl) (Ev.pos (by omega) (Ev.pos (by omega) (Ev.bind (Ev.ret rfl) (Ev.pos (by simp only [List.nil_append, List.length_take, List.length_drop]; omega) (Ev.ret ?_))))))))))
 rw [List.nil_append, Int.toNat_natCast, List.eraseIdx_eq_take_drop_succ]
theorem FX (ts : List ByteArray) (bs : List IB) (n : ByteArray) (h : Bz ts bs) : Ev (fun k => nI.f k ts bs n) (jN ts bs n) := by
 have hl := h.bs
 unfold nI.f jN
 refine Ev.bind (iV ts bs (by have := h.ts; omega) (by omega) h.bok) (Ev.test _ (fun hb => ?_) (fun hb => Ev.ret (by simp [hb])))
 rw [if_pos hb]
 refine Ev.bind (oL ts bs h) (Ev.bind (Ev.ret (s := atI bs n) rfl) ?_)
 refine Ev.prop (fun hc => Ev.ret (by rw [if_pos hc])) (fun hc => ?_)
 rw [if_neg hc]
 obtain ⟨i, e, hi⟩ := CO bs n hc
 rw [e, Int.toNat_natCast]
 exact Ev.pos ⟨hi, by dsimp only; omega⟩ (Ev.ret rfl)
theorem Jp (W : World) (ok : Nat → Prop) (x : S66) {A1 : Option Addr} {c1 e base : Nat} {v2 : Value} (l1 : x.f1.length ≤ c1) (g1 : Kd.F Kd.string W ok A1 x.f1.length x.f1) (h : Kd.R Kd.string e W base ok v2 x.f2) : Kd.FK k66 W ok x [.string x.f0, .slice A1 x.f1.length c1, v2] := by
 obtain ⟨A, c, rfl⟩ := Kd.cB h
 exact MV W ok x l1 g1 (Kd.bI h).2.1 (Kd.R_F h)
theorem WN (W : World) (ok : Nat → Prop) (x : S66) {A2 : Option Addr} {c2 e base : Nat} {v1 : Value} (h : Kd.R Kd.string e W base ok v1 x.f1) (l2 : x.f2.length ≤ c2) (g2 : Kd.F Kd.string W ok A2 x.f2.length x.f2) : Kd.FK k66 W ok x [.string x.f0, v1, .slice A2 x.f2.length c2] := by
 obtain ⟨A, c, rfl⟩ := Kd.cB h
 exact MV W ok x (Kd.bI h).2.1 (Kd.R_F h) l2 g2
def eD.l0 : Nat → List ByteArray → Int → List ByteArray → Int → List ByteArray → List (S66) → List ByteArray → List (S66) → Option (List ByteArray × (List (S66)) × Int)
 | 0, _, _, _, _, _, _, _, _ => none
 | k + 1, e, a, g, b, j, c, h, d => if 0 ≤ a then (if a < (c.length : Int) then (if b < (((aA c a).f1).length : Int) then (if 0 ≤ b then ((cZ.f k e (rdOf ByteArray.empty ((aA c a).f1) b)).bind fun m => (if m = true then (if g.length < 8796093022208 then (eD.l0 k e a (g ++ [rdOf ByteArray.empty ((aA c a).f1) b]) (wrap64 (b + 1)) j c h d) else (none)) else (eD.l0 k e a g (wrap64 (b + 1)) j c h d))) else (none)) else ((iD.f e).bind fun n => (if a < (d.length : Int) then ((some (d.set (a : Int).toNat (⟨(aA d a).f0, (aA d a).f1, n⟩ : S66) : List (S66))).bind fun i => ((dA.f k h (i.set (a : Int).toNat (⟨(aA i a).f0, g, (aA i a).f2⟩ : S66))).bind fun l => (some (l.1, l.2, 0)))) else (none)))) else (none)) else (none)
def eD.f (k : Nat) (aQ : List ByteArray) (aE : List (S66)) (a1 : ByteArray) (l2 : List ByteArray) : Option (List ByteArray × (List (S66)) × Int) := (aG.f k aQ aE).bind fun c => (if c = true then ((dA.f k aQ aE).bind fun a => ((gG.f k aQ aE a1).bind fun b => (if b < 0 then (some (a.1, a.2, 3)) else (if 0 ≤ b then (if b < (aE.length : Int) then ((bV.f k l2 ((aA aE b).f2)).bind fun d => (if d = true then (eD.l0 k l2 b (([] : List ByteArray)) 0 aQ aE a.1 a.2) else (some (a.1, a.2, 2)))) else (none)) else (none))))) else (some (([] : List ByteArray), ([] : List (S66)), 1)))
def eD.T15 : Bool × List (List Nat × List Nat) := (true, [([], []), ([0], [0]), ([], []), ([], []), ([3], [3]), ([1, 2, 0, 1, 2, 3, 4], [1, 2]), ([5, 0, 1, 2, 3, 4], [5]), ([6, 4, 4, 0, 1, 2, 3, 4], [4, 6])])
def eD.B15 : List Nat := [0, 1, 0, 0, 8, 31, 63, 127]
theorem eD.Lb : rtab .any (opsOf Tryz.f26 15) = eD.T15 := by kernel_rfl
theorem eD.XZ : nV eD.T15.2 eD.B15 = true := by kernel_rfl
theorem eD.calls (k : Nat) (dD : Option Addr) (dE : Nat) (aQ : List ByteArray) (dS : Option Addr) (dB : Nat) (aE : List (S66)) (a1 : ByteArray) (A2 : Option Addr) (c2 : Nat) (l2 : List ByteArray) (r1 : List ByteArray) (r2 : List (S66)) (r3 : Int) (w : World) (fL : Kd.C Kd.string w dD aQ.length aQ) (fJ : aQ.length ≤ dE) (fH : Kd.C k66 w dS aE.length aE) (fK : aE.length ≤ dB) (rP : Kd.C Kd.string w A2 l2.length l2) (mH : l2.length ≤ c2) (h : eD.f k aQ aE a1 l2 = some (r1, r2, r3)) :
  Calls Tryz.prog 26 #[.agg #[.slice dD aQ.length dE, .slice dS aE.length dB], .string a1, .slice A2 l2.length c2] w fun e w' => ∃ v0_ v1_ : Value, e = .returned (.tuple #[.agg #[v0_, v1_], .int .i64 r3]) ∧ Kd.R Kd.string 9 w' w.heap.size (fun k_ => (w.heap.size ≤ k_)) v0_ r1 ∧ Kd.N k66 66 w' w.heap.size (F10 w v0_) v1_ r2 ∧ Below w.heap.size w w' := by
 have hu31 := Tryz.underlying31
 obtain ⟨cS, cO⟩ := mZ2 fL fJ
 obtain ⟨bE, dL⟩ := mZ2 fH fK
 obtain ⟨pL, pK⟩ := mZ2 rP mH
 clear fL fJ fH fK rP mH
 have HB := am (Below.refl w.heap.size w)
 unfold eD.f at h
 have H := h
 clear h
 obtain ⟨mQ, A4, H⟩ := bd H
 refine tC H ?_ ?_ <;> clear H <;> intro c5 H <;> subst c5
 ·obtain ⟨⟨bR, dI⟩, A6, H⟩ := bd H
  dsimp only at H
  obtain ⟨bO, A7, H⟩ := bd H
  refine ic H ?_ ?_ <;> clear H <;> intro EH H
  ·obtain ⟨rfl, rfl, rfl⟩ := sZ3 H
   repeat clear H
   go_enter Tryz.func26, Tryz.ntmps26
   go_wp2_with (first | ((with_reducible refine dF (N := 3) rfl ?_); refine dX ?hg (N := 3) ?hd (cs := #[.slice dD aQ.length dE, .slice dS aE.length dB]) (t := 31) ?hr ?_; (case hd => rfl); (case hg => rfl); (case hr => (try (obtain ⟨Az_, cz_, ez_⟩ := Kd.cB n8.1; subst ez_)); first | (go_simp; done) | (go_simp; rfl)); intro aZ hg w9 hbox hb; have aC := am hbox; have gU := am (nS : w.heap.size ≤ aZ); have iL := gU; replace HB := bS gL hb; clear hb hbox hg) | ((with_reducible refine dF (N := 6) rfl ?_); refine dX ?hg (N := 6) ?hd (cs := #[.slice none 0 0, .slice none 0 0]) (t := 31) ?hr ?_; (case hd => rfl); (case hg => rfl); (case hr => (try (obtain ⟨Az_, cz_, ez_⟩ := Kd.cB n8.1; subst ez_)); first | (go_simp; done) | (go_simp; rfl)); intro bF hg tb hbox hb; have aT := am hbox; have qC := am (vA : w.heap.size ≤ bF); have pM := qC; replace HB := bS dQ hb; have dY := nL bJ hg; have eI := nG bJ hg; replace aC := bB bJ hb; clear hb hbox hg; have Lz := nZ1 dY eI; have Nk := cz2 aC) | ((with_reducible refine gC 21 ?_); refine cQ (some 13) Tryz.func21 (aG.calls k _ _ aQ _ _ aE true _ (pB cS) cO.1 (pB bE) dL.1 A4.out) ?_; rintro UZ hb; replace aC := bB bJ hb; replace aT := bB fF hb; replace HB := bS jY hb; clear hb; have Z14 := cz2 aC) | ((with_reducible refine gC 22 ?_); refine cE (some 17) Tryz.func22 (dA.calls k _ _ aQ _ _ aE bR dI _ (pB cS) cO.1 (pB bE) dL.1 A6.out) ?_; rintro e te ⟨v105, CG, rfl, hD, pP, hb⟩; refine ⟨_, rfl, ?_⟩; have fQ := am (Kd.eF (Kd.qN (M := fun k_ => (w.heap.size ≤ k_)) hD (aK jY) (fun k_ h_ => h_)) (aK jY)); have eU := am (Kd.pE (Kd.bQ (ok' := F12 w v105 aZ bF) (Kd.S_N (Kd.lC pP)) (fun k_ hk_ => ⟨(Nat.le_trans (aK jY) hk_.2.1), hk_.1, (fB bJ k_ hk_.2.1), (fB fF k_ hk_.2.1)⟩)) (aK jY)); replace aC := bB bJ hb; replace aT := bB fF hb; replace HB := bS jY hb; clear hb hD pP) | ((with_reducible refine dF (N := 8) rfl ?_); refine dX ?hg (N := 8) ?hd (cs := #[.slice none 0 0, .slice none 0 0]) (t := 31) ?hr ?_; (case hd => rfl); (case hg => rfl); (case hr => (try (obtain ⟨Az_, cz_, ez_⟩ := Kd.cB n8.1; subst ez_)); first | (go_simp; done) | (go_simp; rfl)); intro bM hg w16 hbox hb; replace fQ := RB wC hb; replace eU := am (Kd.l9 (Kd.vN CD bM (Nat.le_of_eq hg.symm)) hb); have aY := am hbox; have zG := am (UC : w.heap.size ≤ bM); have wH := zG; replace HB := bS jY hb; have eZ := nL bJ hg; have fP := nG bJ hg; replace aC := bB bJ hb; have fI := nL fF hg; have gW := nG fF hg; replace aT := bB fF hb; clear hb hbox hg; obtain ⟨Zi, gn, py⟩ := Kd.cB fQ.1; subst py; have ot := nZ2 fP eZ gW fI; have uv := cz2 aY; obtain ⟨Zj, gp, pz⟩ := Kd.kN eU.1; subst pz; have uw := cz2 aC) | ((with_reducible refine gC 48 ?_); refine cQ (some 20) Tryz.func48 (gG.calls k _ _ aQ _ _ aE a1 bO _ (Kd.aM cS.1 fE) cO.1 (Kd.aM bE.1 fE) dL.1 A7.out) ?_; rintro tg hb; replace fQ := am (Kd.iI (by refine rR ?_; exact (Kd.bG (fR (fR (tR fQ aY))) (fun _ h_ => h_.1))) hb); replace eU := am (Kd.l9 (by refine rN ?_; exact (Kd.bQ (fN (fN (Kd.bQ eU.1 (fun k_ hk => (⟨hk, hk.2⟩ : _ ∧ k_ ≠ bM))))) (fun _ h_ => h_.1))) hb); replace aC := am (aV (g := aZ) (o := .cells #[.slice dD aQ.length dE, .slice dS aE.length dB] 31 (0, 0)) Pk hb); replace aT := am (aV (g := bF) (o := .cells #[.slice none 0 0, .slice none 0 0] 31 (0, 0)) UA hb); replace aY := am (aV (g := bM) (o := .cells #[.slice Zi bR.length gn, .slice Zj dI.length gp] 31 (0, 0)) (qP aY) hb); replace HB := bS fE hb; clear hb; have ky := cz2 aY; have Z25 := cz2 aT))
   refine cT bF 31 #[.slice Zi bR.length gn, .slice Zj dI.length gp] (qP aT) Tryz.underlying31 ?_
   exact ⟨_, _, eR, mR fQ aT, by refine rN ?_; exact Kd.bQ (fN (fN (Kd.bQ eU.1 (fun k_ hk => (⟨hk, hk.1.2.2.2⟩ : _ ∧ k_ ≠ bF))))) (fun _ hk => ⟨hk.1.1.1, hk.1.1.2.1⟩), fE⟩
  obtain ⟨NU, H⟩ := cN H
  obtain ⟨KX, H⟩ := cN H
  obtain ⟨EM, Qe, H⟩ := bd H
  refine tC H ?_ ?_ <;> clear H <;> intro Rq H <;> subst Rq
  ·obtain ⟨Qc, hy114⟩ : ∃ y_ : List ByteArray, y_ = (([] : List ByteArray)) := ⟨_, rfl⟩
   replace H : (eD.l0 k l2 bO Qc 0 aQ aE bR dI) = some (r1, r2, r3) := by first | (rw [hy114]; with_reducible exact H) | (have H2_ := (Option.bind_some _ _).symm.trans H; rw [hy114]; with_reducible exact H2_) | (have H2_ := (Option.bind_some _ _).symm.trans H; with_reducible exact H2_) | with_reducible exact H | (rw [hy114]; exact H) | exact H
   have KR := am hy114
   clear hy114
   have H' := am H
   repeat clear H
   go_enter Tryz.func26, Tryz.ntmps26
   go_wp2_with (first | ((with_reducible refine dF (N := 3) rfl ?_); refine dX ?hg (N := 3) ?hd (cs := #[.slice dD aQ.length dE, .slice dS aE.length dB]) (t := 31) ?hr ?_; (case hd => rfl); (case hg => rfl); (case hr => (try (obtain ⟨Az_, cz_, ez_⟩ := Kd.cB n8.1; subst ez_)); first | (go_simp; done) | (go_simp; rfl)); intro aZ hg mn hbox hb; have aC := am hbox; have gU := am (nS : w.heap.size ≤ aZ); have iL := gU; replace HB := bS gL hb; clear hb hbox hg) | ((with_reducible refine dF (N := 6) rfl ?_); refine dX ?hg (N := 6) ?hd (cs := #[.slice none 0 0, .slice none 0 0]) (t := 31) ?hr ?_; (case hd => rfl); (case hg => rfl); (case hr => (try (obtain ⟨Az_, cz_, ez_⟩ := Kd.cB n8.1; subst ez_)); first | (go_simp; done) | (go_simp; rfl)); intro bF hg kd hbox hb; have aT := am hbox; have qC := am (vA : w.heap.size ≤ bF); have pM := qC; replace HB := bS dQ hb; have dY := nL bJ hg; have eI := nG bJ hg; replace aC := bB bJ hb; clear hb hbox hg; have vi := nZ1 dY eI; have vj := cz2 aC) | ((with_reducible refine gC 21 ?_); refine cQ (some 13) Tryz.func21 (aG.calls k _ _ aQ _ _ aE true _ (pB cS) cO.1 (pB bE) dL.1 A4.out) ?_; rintro w34 hb; replace aC := bB bJ hb; replace aT := bB fF hb; replace HB := bS jY hb; clear hb; have oy := cz2 aC) | ((with_reducible refine gC 22 ?_); refine cE (some 17) Tryz.func22 (dA.calls k _ _ aQ _ _ aE bR dI _ (pB cS) cO.1 (pB bE) dL.1 A6.out) ?_; rintro e Zb ⟨v105, CG, rfl, hD, pP, hb⟩; refine ⟨_, rfl, ?_⟩; have fQ := am (Kd.eF (Kd.qN (M := fun k_ => (w.heap.size ≤ k_)) hD (aK jY) (fun k_ h_ => h_)) (aK jY)); have eU := am (Kd.pE (Kd.bQ (ok' := F12 w v105 aZ bF) (Kd.S_N (Kd.lC pP)) (fun k_ hk_ => ⟨(Nat.le_trans (aK jY) hk_.2.1), hk_.1, (fB bJ k_ hk_.2.1), (fB fF k_ hk_.2.1)⟩)) (aK jY)); replace aC := bB bJ hb; replace aT := bB fF hb; replace HB := bS jY hb; clear hb hD pP) | ((with_reducible refine dF (N := 8) rfl ?_); refine dX ?hg (N := 8) ?hd (cs := #[.slice none 0 0, .slice none 0 0]) (t := 31) ?hr ?_; (case hd => rfl); (case hg => rfl); (case hr => (try (obtain ⟨Az_, cz_, ez_⟩ := Kd.cB n8.1; subst ez_)); first | (go_simp; done) | (go_simp; rfl)); intro bM hg Zc hbox hb; replace fQ := RB wC hb; replace eU := am (Kd.l9 (Kd.vN CD bM (Nat.le_of_eq hg.symm)) hb); have aY := am hbox; have zG := am (UC : w.heap.size ≤ bM); have wH := zG; replace HB := bS jY hb; have eZ := nL bJ hg; have fP := nG bJ hg; replace aC := bB bJ hb; have fI := nL fF hg; have gW := nG fF hg; replace aT := bB fF hb; clear hb hbox hg; obtain ⟨zD, zS, qf⟩ := Kd.cB fQ.1; subst qf; have Z39 := nZ2 fP eZ gW fI; have Z41 := cz2 aY; obtain ⟨Fj, I5, Wd⟩ := Kd.kN eU.1; subst Wd; have wj := cz2 aC) | ((with_reducible refine gC 48 ?_); refine cQ (some 20) Tryz.func48 (gG.calls k _ _ aQ _ _ aE a1 bO _ (Kd.aM cS.1 fE) cO.1 (Kd.aM bE.1 fE) dL.1 A7.out) ?_; rintro mu hb; replace fQ := am (Kd.iI (by refine rR ?_; exact (Kd.bG (fR (fR (tR fQ aY))) (fun _ h_ => h_.1))) hb); replace eU := am (Kd.l9 (by refine rN ?_; exact (Kd.bQ (fN (fN (Kd.bQ eU.1 (fun k_ hk => (⟨hk, hk.2⟩ : _ ∧ k_ ≠ bM))))) (fun _ h_ => h_.1))) hb); replace aC := am (aV (g := aZ) (o := .cells #[.slice dD aQ.length dE, .slice dS aE.length dB] 31 (0, 0)) Pk hb); replace aT := am (aV (g := bF) (o := .cells #[.slice none 0 0, .slice none 0 0] 31 (0, 0)) UA hb); replace aY := am (aV (g := bM) (o := .cells #[.slice zD bR.length zS, .slice Fj dI.length I5] 31 (0, 0)) (qP aY) hb); replace HB := bS fE hb; clear hb; have oz := cz2 aC; obtain ⟨mL, S0, TE, S1, TF, TM, yK, wU, wV, H0, M9, sC, tN, YZ, ZD⟩ := aT66 bE HB bO; cases TM) | ((with_reducible refine gC 52 ?_); refine cQ (some 31) Tryz.func52 (bV.calls k _ _ l2 _ _ ((aA aE bO).f2) true _ (pB pL) pK.1 (pB sC) tN.1 Qe.out) ?_; rintro w' ⟨nd, rfl⟩) | ((with_reducible refine dF (N := 34) rfl ?_); refine Kd.H6 Kd.string _ 9 ?hg (N := 34) ?hd (xs := ([] : List ByteArray)) (inner := []) (ok := fun _ => True) (okp := fun _ => True) ?hr ?hp (fun _ hk => hk) trivial (Below.refl _ _) (Nat.le_refl _) (by simp) ?_; (case hd => rfl); (case hg => rfl); (case hr => (try (obtain ⟨Az_, cz_, ez_⟩ := Kd.cB n8.1; subst ez_)); first | (go_simp; done) | (go_simp; rfl)); (case hp => exact (Reps.none _ _)); intro Yo w46 YI hb hg_ hnew_; clear hg_ hnew_; (first | rw [← KR.out] at YI | (simp only [Int.reduceToNat] at YI; rw [← KR.out] at YI)); replace eU := am (Kd.qL CD (Kd.eO YI) hb); have V4 := am (Kd.eF (Kd.jQ (Kd.qN (M := fun k_ => (w.heap.size ≤ k_)) YI (aK fE) (fun k_ h_ => h_)) (Kd.R_lt wC)) (aK fE)); replace fQ := am (Kd.gZ wC (Kd.eO YI) hb); replace aC := bB bJ hb; replace aT := bB fF hb; replace aY := bB jO hb; replace HB := bS fE hb; clear hb YI))
   go_loopg [10, 11] k (fun kq si sl w' => ∃ (FB : List ByteArray) (nW : Int), sl = .int .i64 nW ∧ aD (eD.l0 kq l2 bO FB nW aQ aE bR dI = some (r1, r2, r3)) ∧ aD (kq ≤ k) ∧ aD (Kd.R Kd.string 9 w' w.heap.size (F10 w (.slice zD bR.length zS)) si FB) ∧ aD (Kd.R Kd.string 9 w' w.heap.size (F10 w si) (.slice zD bR.length zS) bR) ∧ aD (Kd.N k66 66 w' w.heap.size (F23 w si (.slice zD bR.length zS) aZ bF bM) (.slice Fj dI.length I5) dI) ∧ aD (w'.heap[aZ]? = some (.cells #[(.slice dD aQ.length dE), (.slice (some mL) aE.length dB)] 31 (0, 0))) ∧ aD (w'.heap[bF]? = some (.cells #[(.slice none 0 0), (.slice none 0 0)] 31 (0, 0))) ∧ aD (w'.heap[bM]? = some (.cells #[(.slice zD bR.length zS), (.slice Fj dI.length I5)] 31 (0, 0))) ∧ aD (Below w.heap.size w w'))
   case atStart => exact ⟨(Qc), (0), eS, H', ⟨Nat.le_refl _⟩, ⟨by refine rR ?_; exact Kd.bG V4.1 (fun _ hk => ⟨hk.1.1, hk.2⟩)⟩, ⟨by refine rR ?_; exact Kd.bG fQ.1 (fun _ hk => ⟨hk.1.1, hk.2⟩)⟩, ⟨by refine rN ?_; exact Kd.bQ eU.1 (fun _ hk => ⟨hk.1.1.1, ⟨hk.2, ⟨hk.1.1.2.1, ⟨hk.1.1.2.2.1, ⟨hk.1.1.2.2.2, hk.1.2⟩⟩⟩⟩⟩)⟩, ⟨rB aC.1⟩, ⟨rB aT.1⟩, ⟨rB aY.1⟩, ⟨fE⟩⟩
   clear H'
   try clear c2
   try clear c5
   try clear EH
   try clear NU
   try clear KX
   try clear Rq
   try clear vj
   try clear oy
   try clear Z41
   try clear wj
   try clear oz
   try clear yK wU wV
   try clear YZ ZD
   obtain ⟨FB, nW, rfl, HA, HK1, n8, aX, aN, aC, aT, aY, HB⟩ := hrel
   cases gk with
   | zero => exact absurd HA.out (by simp [eD.l0])
   | succ k1 =>
    have H := HA.out
    clear HA
    simp only [eD.l0] at H
    obtain ⟨fy, H⟩ := cN H
    obtain ⟨VN, H⟩ := cN H
    refine ic H ?_ ?_ <;> clear H <;> intro Ru H
    ·obtain ⟨yw, H⟩ := cN H
     obtain ⟨kZ, km, H⟩ := bd H
     refine tC H ?_ ?_ <;> clear H <;> intro c53 H <;> subst c53
     ·obtain ⟨aq, H⟩ := cL H
      obtain ⟨y7, KT⟩ := yv (FB ++ [rdOf ByteArray.empty ((aA aE bO).f1) nW]); first | replace H := bW KT H | rw [← KT.1] at H
      have H' := am H
      repeat clear H
      have Z55 := nZ2 dY eI eZ fP
      have Z57 := cz2 aC
      obtain ⟨CN, Fg, Ic, Fh, Ie, NZ, IQ, IR, IU, Ab, ZW, Ac, ZX, Ki, Km⟩ := aT66 bE HB bO
      obtain rfl : mL = CN := (by injection NZ)
      obtain ⟨Hj, Ta, Ve, Tb, Vf, Vy, Ow, U2, U3, SE, Mm, Ms, Mn, rf, ru⟩ := aT66 bE HB bO
      obtain rfl : mL = Hj := (by injection Vy)
      obtain ⟨ea_, ec_⟩ := eZ2 IR U2
      subst ea_
      subst ec_
      obtain ⟨ea_, ec_⟩ := eZ2 IU U3
      subst ea_
      subst ec_
      obtain ⟨ez, Vz, Ox, rg, rv⟩ := aS SE HB nW
      cases Vz
      go_wp2_with (first | ((with_reducible refine gC 59 ?_); refine cQ (some 56) Tryz.func59 (cZ.calls k1 _ _ l2 (rdOf ByteArray.empty ((aA aE bO).f1) nW) true _ (pB pL) pK.1 km.out) ?_; rintro w' ⟨nd, rfl⟩; obtain ⟨fa, mz, pa, na, pb, pr, mj, Oy, Oz, Mt, kn, kt, ko, a5X, a5Z⟩ := aT66 bE HB bO; obtain rfl : mL = fa := (by injection pr); obtain ⟨ea_, ec_⟩ := eZ2 IR Oy; subst ea_; subst ec_; obtain ⟨ea_, ec_⟩ := eZ2 IU Oz; subst ea_; subst ec_; obtain ⟨NP, Wa, IV, Kj, Kn⟩ := aS Mt HB nW; cases Wa) | ((with_reducible refine fA (b := .append) (xs := #[.tmp 57, .tmp 67]) rfl ?_); at_builtin; refine Kd.jD Kd.string (w0 := w) w.heap.size rfl (.tmp 57) (.tmp 67) 27 9 (.string ⟨#[]⟩) 16 rfl Tryz.underlying27 jP rfl (by decide) (by omega) u10 FB (rdOf ByteArray.empty ((aA aE bO).f1) nW) [.string (rdOf ByteArray.empty ((aA aE bO).f1) nW)] (F10 w (.slice zD bR.length zS)) (fun _ => False) rfl rfl ?aP (fun _ hk => hk.elim) ?aF ?aO ?aB ?aS ?aL ?_; (case aP => exact rfl); (case aB => exact fE); (case aF => exact (fun k_ hk => ⟨(Nat.le_trans (aK fE) hk), Kd.fresh' (Kd.R_lt kS) k_ hk⟩)); (case aO => exact (rR n8.1)); (case aS => exact (aK fE)); (case aL => have := aq.out; omega); intro Lh w58 ho hb hg hat; rw [← KT.out] at ho; replace aX := am (Kd.r9 (ok := (fun k_ => (w.heap.size ≤ k_))) kS hg hat); replace aN := am (Kd.tT (ok := (F13 w (.slice zD bR.length zS) aZ bF bM)) (by refine rN ?_; exact Kd.bQ aN.1 (fun _ hk => ⟨⟨hk.1, ⟨hk.2.2.1, ⟨hk.2.2.2.1, ⟨hk.2.2.2.2.1, hk.2.2.2.2.2⟩⟩⟩⟩, hk.2.1⟩)) hg hat); replace aC := gkR bJ hg n8 aC; replace aT := gkR fF hg n8 aT; replace aY := gkR jO hg n8 aY; replace HB := am hb; have C3 := am ho; clear n8; clear ho hb hg hat))
      go_roundg k1
      case measure => have := HK1.out; omega
      case rel => exact ⟨(y7), (wrap64 (nW + 1)), eS, H', ⟨by have := HK1.out; omega⟩, ⟨rR C3.1⟩, ⟨rR aX.1⟩, ⟨by refine rN ?_; exact Kd.bQ aN.1 (fun _ hk => ⟨hk.1.1, ⟨hk.2, ⟨hk.1.2.1, ⟨hk.1.2.2.1, ⟨hk.1.2.2.2.1, hk.1.2.2.2.2⟩⟩⟩⟩⟩)⟩, ⟨rB aC.1⟩, ⟨rB aT.1⟩, ⟨rB aY.1⟩, ⟨fE⟩⟩
     ·have H' := am H
      repeat clear H
      have Z59 := nZ2 dY eI eZ fP
      have Z61 := cz2 aC
      obtain ⟨CN, Fg, Ic, Fh, Ie, NZ, IQ, IR, IU, Ab, ZW, Ac, ZX, Ki, Km⟩ := aT66 bE HB bO
      obtain rfl : mL = CN := (by injection NZ)
      obtain ⟨Hj, Ta, Ve, Tb, Vf, Vy, Ow, U2, U3, SE, Mm, Ms, Mn, rf, ru⟩ := aT66 bE HB bO
      obtain rfl : mL = Hj := (by injection Vy)
      obtain ⟨ea_, ec_⟩ := eZ2 IR U2
      subst ea_
      subst ec_
      obtain ⟨ea_, ec_⟩ := eZ2 IU U3
      subst ea_
      subst ec_
      obtain ⟨ez, Vz, Ox, rg, rv⟩ := aS SE HB nW
      cases Vz
      go_wp2_with (first | ((with_reducible refine gC 59 ?_); refine cQ (some 56) Tryz.func59 (cZ.calls k1 _ _ l2 (rdOf ByteArray.empty ((aA aE bO).f1) nW) false _ (pB pL) pK.1 km.out) ?_; rintro w' ⟨nd, rfl⟩))
      go_roundg k1
      case measure => have := HK1.out; omega
      case rel => exact ⟨(FB), (wrap64 (nW + 1)), eS, H', ⟨by have := HK1.out; omega⟩, ⟨rR n8.1⟩, ⟨rR aX.1⟩, ⟨rN aN.1⟩, ⟨rB aC.1⟩, ⟨rB aT.1⟩, ⟨rB aY.1⟩, ⟨fE⟩⟩
    ·obtain ⟨GL, A62, H⟩ := bd H
     obtain ⟨gh, H⟩ := cN H
     obtain ⟨GN, Gv, H⟩ := bY H
     obtain ⟨PK, V8⟩ := yv (GN.set (bO : Int).toNat (⟨(aA GN bO).f0, FB, (aA GN bO).f2⟩ : S66)); first | replace H := bW V8 H | rw [← V8.1] at H
     obtain ⟨⟨t131, ju⟩, A66, H⟩ := bd H
     dsimp only at H
     obtain ⟨rfl, rfl, rfl⟩ := sZ3 H
     repeat clear H
     have Z67 := nZ2 dY eI eZ fP
     have Z69 := cz2 aC
     obtain ⟨CN, Fg, Ic, Fh, Ie, NZ, IQ, IR, IU, Ab, ZW, Ac, ZX, Ki, Km⟩ := aT66 bE HB bO
     obtain rfl : mL = CN := (by injection NZ)
     try go_wp2
     replace n8 := RD n8
     replace aX := RD aX
     replace aN := ND aN
     replace aC := BD aC
     replace aT := BD aT
     replace aY := BD aY
     replace HB := am (aU HB.1)
     refine sT (S := fun w' => w'.cell? ⟨bM, 0, none⟩ = some (.slice zD bR.length zS) ∧ w'.cell? ⟨bM, 1, none⟩ = some (.slice Fj dI.length I5)) [7] 8 ⟨⟨(aH aY.1 0).trans rfl, (aH aY.1 1).trans rfl⟩⟩ (fun hHeld => ?_)
     refine gH eD.Lb eD.XZ (fun HT_ HW_ => ?_)
     generalize wr.drew = w70 at n8 aX aN aC aT aY HB hHeld ⊢
     refine pU3 0 2 3 ?_
     refine tK2 1 (some 70) ?_
     refine oN 4 (some 73) fun K hK => ?_
     refine gE Tryz.func54 (iD.calls _ _ l2 GL _ (pB pL) pK.1 A62.out) ?_
     rintro e Pz ⟨v127, rfl, hD, hb⟩
     refine ⟨_, rfl, ?_⟩
     replace aN := am (Kd.qL wW (Kd.eO hD) hb)
     have NC := am (Kd.eF (Kd.jQ (Kd.jQ (Kd.qN (M := fun k_ => (w.heap.size ≤ k_)) hD (aK fE) (fun k_ h_ => h_)) (Kd.R_lt (rR n8.1))) (Kd.R_lt kS)) (aK fE))
     replace n8 := am (Kd.gZ (rR n8.1) (Kd.eO hD) hb)
     replace aX := am (Kd.gZ kS (Kd.eO hD) hb)
     replace aC := bB bJ hb
     replace aT := bB fF hb
     replace aY := bB jO hb
     replace HB := bS fE hb
     clear hb hD
     have rh : 0 ≤ (bO : Int) := oT
     have rz : (bO : Int) < ((dI.length : Int) : Int) := oT
     obtain ⟨tI, a5N, iu, iy, gl64, cl64, HG64⟩ := Kd.XQ aN.1 (by omega)
     (first | cases iu | (injection iu with ea_ en_ ec_; (first | subst ea_ | (injection ea_ with ea_; subst ea_)); subst ec_; clear en_))
     have GB64 := am iy
     have GG64 := am HG64
     clear iy gl64 HG64
     obtain ⟨ce64, hcl64, hM64, hcc64, hfr64⟩ := Kd.FI aN.1 z66 (bO : Int) rh rz
     obtain ⟨ua64_1, uc64_1, ua64_2, uc64_2, rfl, sc, qp, sd, qq⟩ := rJ hM64
     have ra : World.cell? _ ⟨tI, (bO : Int).toNat * 3, none⟩ = some (.string ((aA dI bO).f0)) := hcc64 0 _ rfl
     have rb : World.cell? _ ⟨tI, (bO : Int).toNat * 3 + 1, none⟩ = some (.slice ua64_1 ((aA dI bO).f1).length uc64_1) := hcc64 1 _ rfl
     have rc : World.cell? _ ⟨tI, (bO : Int).toNat * 3 + 2, none⟩ = some (.slice ua64_2 ((aA dI bO).f2).length uc64_2) := hcc64 2 _ rfl
     have hf64_0 : World.frozen? _ ⟨tI, (bO : Int).toNat * 3, none⟩ = false := hfr64 0
     have hf64_1 : World.frozen? _ ⟨tI, (bO : Int).toNat * 3 + 1, none⟩ = false := hfr64 1
     have hf64_2 : World.frozen? _ ⟨tI, (bO : Int).toNat * 3 + 2, none⟩ = false := hfr64 2
     clear hcl64 hcc64 hfr64 hM64
     replace rh := eq_true rh
     replace rz := eq_true rz
     have HX72 := am (show Kd.N k66 66 _ w.heap.size (F33 w u10 (.slice zD bR.length zS) v127 aZ bF bM) (.slice (some ⟨tI, 0, none⟩) dI.length I5) dI from (Kd.bQ (aN.1) (fun k_ hk => ⟨hk.1.1, ⟨hk.1.2.1, ⟨hk.1.2.2.1, ⟨hk.2, ⟨hk.1.2.2.2.1, ⟨hk.1.2.2.2.2.1, hk.1.2.2.2.2.2⟩⟩⟩⟩⟩⟩)))
     replace HX72 := am (show Kd.N k66 66 _ w.heap.size (F23 w u10 (.slice zD bR.length zS) aZ bF bM) (.slice (some ⟨tI, 0, none⟩) dI.length I5) dI from Kd.bQ HX72.out (fun k_ hk => ⟨hk.1, ⟨hk.2.1, ⟨hk.2.2.1, ⟨hk.2.2.2.2.1, ⟨hk.2.2.2.2.2.1, hk.2.2.2.2.2.2⟩⟩⟩⟩⟩))
     obtain ⟨ce72, hcl72, hM72, hcc72, hfr72⟩ := Kd.FI HX72.out z66 (bO : Int) (oT) (by have h_ : (bO : Int) < ((dI.length : Int) : Int) := oT; first | exact h_ | (have e_ := (Kd.gT aN.1).1; omega) | simpa using h_)
     obtain ⟨ua72_1, uc72_1, ua72_2, uc72_2, rfl, Yj, Wv, se, qr⟩ := rJ hM72
     have HP72 := (Kd.Gq HX72.out (bO : Int) (oT) (by have h_ : (bO : Int) < ((dI.length : Int) : Int) := oT; first | exact h_ | (have e_ := (Kd.gT aN.1).1; omega) | simpa using h_) (seg := [v127]) (j := 2) hcl72 hcc72 (show 3 ≤ 3 from by decide) (x' := (⟨(aA dI bO).f0, (aA dI bO).f1, GL⟩ : S66)) (Jp _ _ (⟨(aA dI bO).f0, (aA dI bO).f1, GL⟩ : S66) Yj Wv (Kd.bG (ok' := (fun k_ => ((F23 w u10 (.slice zD bR.length zS) aZ bF bM)) k_ ∧ k_ ≠ tI)) (Kd.iX (Kd.iX (Kd.iX (Kd.iR (NC.1) (Kd.nQ aN.1) (by decide)) aC.1 (by decide)) aT.1 (by decide)) aY.1 (by decide)) (fun k_ hk => ⟨⟨hk.1.1.1.1.1.1.1, ⟨hk.1.1.1.1.1.2, ⟨hk.1.1.1.1.2, ⟨hk.1.1.2, ⟨hk.1.2, hk.2⟩⟩⟩⟩⟩, fun e_ => (hk.1.1.1.2) (by rw [e_]; rfl)⟩))) (fun _ hk => hk)).1
     rw [← Gv.out] at HP72
     have HQ72 := am HP72
     clear hcl72 hcc72 hfr72 hM72 HP72
     refine hK.out _ _ ⟨(aH aY.1 0).trans rfl, (aH aY.1 1).trans rfl⟩ (fun hHeld => ?_)
     clear hK K
     refine nM ?_
     refine pU2 5 6 ?_
     refine lN 7 none fun K hK => ?_
     refine qJ (w1 := (Pz.setCell ⟨tI, (bO : Int).toNat * 3 + 2, none⟩ (v127))) (by rfl) rfl ?_ ?_
     skip
     ·obtain ⟨Az_, cz_, ez_⟩ := Kd.cB NC.1
      subst ez_
      go_simp
      (try rfl)
     refine hK.out _ _ ?_
     clear hK K
     refine dN ?_
     have n0_ : aD (Kd.R Kd.string 9 (Pz.setCell ⟨tI, (bO : Int).toNat * 3 + 2, none⟩ (v127)) w.heap.size (F10 w (.slice zD bR.length zS)) u10 FB) := ⟨by refine rR ?_; exact Kd.bG (Kd.uL (p := ⟨tI, (bO : Int).toNat * 3 + 2, none⟩) (tR n8 GG64) (fun _ hk => hk.2) (v127)) (fun _ hk => ⟨hk.1.1.1, hk.1.1.2⟩)⟩
     have n1_ : aD (Kd.R Kd.string 9 (Pz.setCell ⟨tI, (bO : Int).toNat * 3 + 2, none⟩ (v127)) w.heap.size (F10 w u10) (.slice zD bR.length zS) bR) := ⟨by refine rR ?_; exact Kd.bG (Kd.uL (p := ⟨tI, (bO : Int).toNat * 3 + 2, none⟩) (tR aX GG64) (fun _ hk => hk.2) (v127)) (fun _ hk => ⟨hk.1.1.1, hk.1.1.2⟩)⟩
     have n2_ : aD (Kd.N k66 66 (Pz.setCell ⟨tI, (bO : Int).toNat * 3 + 2, none⟩ (v127)) w.heap.size (F23 w u10 (.slice zD bR.length zS) aZ bF bM) (.slice (some ⟨tI, 0, none⟩) dI.length I5) GN) := ⟨rN HQ72.out⟩
     have n3_ : aD ((Pz.setCell ⟨tI, (bO : Int).toNat * 3 + 2, none⟩ (v127)).heap[aZ]? = some (.cells #[.slice dD aQ.length dE, .slice (some mL) aE.length dB] 31 (0, 0))) := ⟨by refine rB ?_; refine eX ?_ (by have h_ := Kd.FH aN.1 (fun _ hk => by first | exact hk.2.2.2.1 | exact hk.2.2.2.1.1 | exact hk.1.2.2.2.1); intro e_; exact h_ (by rw [e_]; rfl)) _; refine rB ?_; exact aC.1⟩
     have n4_ : aD ((Pz.setCell ⟨tI, (bO : Int).toNat * 3 + 2, none⟩ (v127)).heap[bF]? = some (.cells #[.slice none 0 0, .slice none 0 0] 31 (0, 0))) := ⟨by refine rB ?_; refine eX ?_ (by have h_ := Kd.FH aN.1 (fun _ hk => by first | exact hk.2.2.2.2.1 | exact hk.2.2.2.2.1.1 | exact hk.1.2.2.2.2.1); intro e_; exact h_ (by rw [e_]; rfl)) _; refine rB ?_; exact aT.1⟩
     have n5_ : aD ((Pz.setCell ⟨tI, (bO : Int).toNat * 3 + 2, none⟩ (v127)).heap[bM]? = some (.cells #[.slice zD bR.length zS, .slice (some ⟨tI, 0, none⟩) dI.length I5] 31 (0, 0))) := ⟨by refine rB ?_; refine eX ?_ (by have h_ := Kd.FH aN.1 (fun _ hk => by first | exact hk.2.2.2.2.2 | exact hk.2.2.2.2.2.1 | exact hk.1.2.2.2.2.2); intro e_; exact h_ (by rw [e_]; rfl)) _; refine rB ?_; exact aY.1⟩
     have n6_ : aD (Below w.heap.size w (Pz.setCell ⟨tI, (bO : Int).toNat * 3 + 2, none⟩ (v127))) := ⟨by repeat (first | (with_reducible first | exact HB.1 | apply dZ | apply bK | apply aU | refine aJ ?_ GB64.out | refine aJ ?_ iL.1 | refine aJ ?_ pM.1 | refine aJ ?_ wH.1) | exact HB.1)⟩
     (try clear n8)
     (try clear aX)
     (try clear aN)
     (try clear aC)
     (try clear aT)
     (try clear aY)
     (try clear HB)
     generalize (Pz.setCell ⟨tI, (bO : Int).toNat * 3 + 2, none⟩ (v127)) = ti at n0_ n1_ n2_ n3_ n4_ n5_ n6_ ⊢
     have n8 := n0_
     have aX := n1_
     have aN := n2_
     have aC := n3_
     have aT := n4_
     have aY := n5_
     have HB := n6_
     clear n0_ n1_ n2_ n3_ n4_ n5_ n6_
     have Z74 := nZ1 gW fI
     have Z75 := cz2 aY
     have p65 : 0 ≤ (bO : Int) := oT
     have q65 : (bO : Int) < ((dI.length : Int) : Int) := oT
     replace p65 := eq_true p65
     replace q65 := eq_true q65
     have HX76 := am (show Kd.N k66 66 ti w.heap.size (F13 w (.slice zD bR.length zS) aZ bF bM) (.slice (some ⟨tI, 0, none⟩) dI.length I5) GN from (by refine rN ?_; exact Kd.bQ aN.1 (fun _ hk => ⟨hk.1, ⟨hk.2.2.1, ⟨hk.2.2.2.1, ⟨hk.2.2.2.2.1, hk.2.2.2.2.2⟩⟩⟩⟩)))
     obtain ⟨ce76, hcl76, hM76, hcc76, hfr76⟩ := Kd.FI HX76.out z66 (bO : Int) (oT) (by have h_ : (bO : Int) < ((dI.length : Int) : Int) := oT; first | exact h_ | (have e_ := (Kd.gT aN.1).1; omega) | simpa using h_)
     obtain ⟨ua76_1, uc76_1, ua76_2, uc76_2, rfl, sf, qt, Yk, Ww⟩ := rJ hM76
     have HP76 := Kd.Gq HX76.out (bO : Int) (oT) (by have h_ : (bO : Int) < ((dI.length : Int) : Int) := oT; first | exact h_ | (have e_ := (Kd.gT aN.1).1; omega) | simpa using h_) (seg := [u10]) (j := 1) hcl76 hcc76 (show 2 ≤ 3 from by decide) (x' := (⟨(aA GN bO).f0, FB, (aA GN bO).f2⟩ : S66)) (WN _ _ (⟨(aA GN bO).f0, FB, (aA GN bO).f2⟩ : S66) (Kd.bG (ok' := (fun k_ => ((F13 w (.slice zD bR.length zS) aZ bF bM)) k_ ∧ k_ ≠ tI)) (Kd.iX (Kd.iX (Kd.iX (Kd.iR (n8.1) (Kd.nQ aN.1) (by decide)) aC.1 (by decide)) aT.1 (by decide)) aY.1 (by decide)) (fun k_ hk => ⟨⟨hk.1.1.1.1.1, ⟨hk.1.1.1.1.2, ⟨hk.1.1.2, ⟨hk.1.2, hk.2⟩⟩⟩⟩, fun e_ => (hk.1.1.1.2) (by rw [e_]; rfl)⟩)) Yk Ww) (fun _ hk => hk)
     have Xl := hcc76 1 _ rfl
     (try simp only [show (k66).sz = 3 from rfl, Nat.mul_one, Nat.add_zero] at Xl)
     have hf76_1 := hfr76 1
     (try simp only [show (k66).sz = 3 from rfl, Nat.mul_one, Nat.add_zero] at hf76_1)
     clear hcl76 hcc76 hfr76 hM76
     try go_wp2_with (first | ((with_reducible refine FT (t := 27) (p := 81) rfl ?_); refine DI (t := 27) (p := 81) (v := ?vo_w77) (w1 := (ti.setCell ⟨tI, (bO : Int).toNat * 3 + 1, none⟩ (u10))) ?hg ?ho ?hn ?hr ?_; (case ho => rfl); (case hg => rfl); (case hn => rfl); (case hr => (try (obtain ⟨Az_, cz_, ez_⟩ := Kd.cB n8.1; subst ez_)); first | (go_simp; done) | (go_simp; rfl)); intro mv hw; have hg : ti.grownBy mv (some tI) := (by rw [hw]; exact HP76.2); have hp_ : Kd.N k66 66 mv w.heap.size (F13 w (.slice zD bR.length zS) aZ bF bM) (.slice (some ⟨tI, 0, none⟩) dI.length I5) PK := (by rw [hw, V8.out]; exact HP76.1); clear HP76; replace aX := am (Kd.tV (v := (.slice (some ⟨tI, 0, none⟩) dI.length I5)) kS (Kd.nQ aN.1) (by decide) hg); replace aC := gkN bJ hg aN aC; replace aT := gkN fF hg aN aT; replace aY := gkN jO hg aN aY; replace aN := am hp_; replace HB := am (by rw [hw]; exact aJ (HB.1) GB64.out : Below w.heap.size w mv); clear n8; clear hg hw hp_; have Z78 := cz2 aY) | ((with_reducible refine qR (f := 22) rfl ?_); refine BK (some 83) rfl rfl Tryz.func22 (by kernel_rfl) rfl #[.agg #[.slice zD bR.length zS, .slice (some ⟨tI, 0, none⟩) PK.length I5]] rfl (by (try simp only [List.map_toArray, List.map_cons, List.map_nil]); first | done | (rw [show PK.length = dI.length from (Kd.gT aN.1).1.symm] <;> rfl) | rfl | (simp only [List.length_drop, List.length_take]; rfl)) ?_; (with_reducible refine (dA.calls k1 _ _ bR _ _ PK t131 ju _ ?side1 ?side2 ?side3 ?side4 A66.out).mono ?_); (case side1 => exact pC (Kd.bI aX.1).2.2); (case side2 => exact (Kd.bI aX.1).2.1); (case side3 => exact pC (Kd.gT aN.1).2.2); (case side4 => rw [show PK.length = dI.length from (Kd.gT aN.1).1.symm]; exact (Kd.gT aN.1).2.1); rintro e w79 ⟨sq, sr, rfl, hD, pP, hb⟩; refine ⟨_, rfl, ?_⟩; have Qk := am (Kd.eF (Kd.jQ (Kd.qN (M := fun k_ => (w.heap.size ≤ k_)) hD (aK fE) (fun k_ h_ => h_)) (Kd.R_lt kS)) (aK fE)); have tP := am (Kd.pE (Kd.bQ (ok' := F33 w sq (.slice zD bR.length zS) (.slice (some ⟨tI, 0, none⟩) dI.length I5) aZ bF bM) (Kd.S_N (Kd.lC pP)) (fun k_ hk_ => ⟨(Nat.le_trans (aK fE) hk_.2.1), hk_.1, (Kd.fresh' (Kd.R_lt kS) k_ hk_.2.1), (Kd.fresh' (Kd.N_lt wW) k_ hk_.2.1), (fB bJ k_ hk_.2.1), (fB fF k_ hk_.2.1), (fB jO k_ hk_.2.1)⟩)) (aK fE)); replace aX := am (Kd.gZ kS (Kd.eO hD) hb); replace aN := am (Kd.bQ (Kd.oG (Kd.oG (Kd.ER wW hb) (Kd.eO hD)) EK) (fun _ h_ => h_.1)); replace aC := bB bJ hb; replace aT := bB fF hb; replace aY := bB jO hb; replace HB := bS fE hb; clear hb hD pP; obtain ⟨nv, po, qm⟩ := Kd.cB Qk.1; subst qm; have Z81 := cz2 aT; obtain ⟨nw, Nu, PP⟩ := Kd.kN tP.1; subst PP))
     refine cT bF 31 #[.slice nv t131.length po, .slice nw ju.length Nu] (qP aT) Tryz.underlying31 ?_
     exact ⟨_, _, eR, mR Qk aT, by refine rN ?_; exact Kd.bQ (fN (fN (Kd.bQ tP.1 (fun k_ hk => (⟨hk, hk.2.2.2.2.2.1⟩ : _ ∧ k_ ≠ bF))))) (fun _ hk => ⟨hk.1.1, hk.1.2.1⟩), fE⟩
  obtain ⟨rfl, rfl, rfl⟩ := sZ3 H
  repeat clear H
  go_enter Tryz.func26, Tryz.ntmps26
  go_wp2_with (first | ((with_reducible refine dF (N := 3) rfl ?_); refine dX ?hg (N := 3) ?hd (cs := #[.slice dD aQ.length dE, .slice dS aE.length dB]) (t := 31) ?hr ?_; (case hd => rfl); (case hg => rfl); (case hr => (try (obtain ⟨Az_, cz_, ez_⟩ := Kd.cB n8.1; subst ez_)); first | (go_simp; done) | (go_simp; rfl)); intro aZ hg w83 hbox hb; have aC := am hbox; have gU := am (nS : w.heap.size ≤ aZ); have iL := gU; replace HB := bS gL hb; clear hb hbox hg) | ((with_reducible refine dF (N := 6) rfl ?_); refine dX ?hg (N := 6) ?hd (cs := #[.slice none 0 0, .slice none 0 0]) (t := 31) ?hr ?_; (case hd => rfl); (case hg => rfl); (case hr => (try (obtain ⟨Az_, cz_, ez_⟩ := Kd.cB n8.1; subst ez_)); first | (go_simp; done) | (go_simp; rfl)); intro bF hg w84 hbox hb; have aT := am hbox; have qC := am (vA : w.heap.size ≤ bF); have pM := qC; replace HB := bS dQ hb; have dY := nL bJ hg; have eI := nG bJ hg; replace aC := bB bJ hb; clear hb hbox hg; have Z85 := nZ1 dY eI; have Z86 := cz2 aC) | ((with_reducible refine gC 21 ?_); refine cQ (some 13) Tryz.func21 (aG.calls k _ _ aQ _ _ aE true _ (pB cS) cO.1 (pB bE) dL.1 A4.out) ?_; rintro w87 hb; replace aC := bB bJ hb; replace aT := bB fF hb; replace HB := bS jY hb; clear hb; have Z88 := cz2 aC) | ((with_reducible refine gC 22 ?_); refine cE (some 17) Tryz.func22 (dA.calls k _ _ aQ _ _ aE bR dI _ (pB cS) cO.1 (pB bE) dL.1 A6.out) ?_; rintro e w89 ⟨v105, CG, rfl, hD, pP, hb⟩; refine ⟨_, rfl, ?_⟩; have fQ := am (Kd.eF (Kd.qN (M := fun k_ => (w.heap.size ≤ k_)) hD (aK jY) (fun k_ h_ => h_)) (aK jY)); have eU := am (Kd.pE (Kd.bQ (ok' := F12 w v105 aZ bF) (Kd.S_N (Kd.lC pP)) (fun k_ hk_ => ⟨(Nat.le_trans (aK jY) hk_.2.1), hk_.1, (fB bJ k_ hk_.2.1), (fB fF k_ hk_.2.1)⟩)) (aK jY)); replace aC := bB bJ hb; replace aT := bB fF hb; replace HB := bS jY hb; clear hb hD pP) | ((with_reducible refine dF (N := 8) rfl ?_); refine dX ?hg (N := 8) ?hd (cs := #[.slice none 0 0, .slice none 0 0]) (t := 31) ?hr ?_; (case hd => rfl); (case hg => rfl); (case hr => (try (obtain ⟨Az_, cz_, ez_⟩ := Kd.cB n8.1; subst ez_)); first | (go_simp; done) | (go_simp; rfl)); intro bM hg w90 hbox hb; replace fQ := RB wC hb; replace eU := am (Kd.l9 (Kd.vN CD bM (Nat.le_of_eq hg.symm)) hb); have aY := am hbox; have zG := am (UC : w.heap.size ≤ bM); have wH := zG; replace HB := bS jY hb; have eZ := nL bJ hg; have fP := nG bJ hg; replace aC := bB bJ hb; have fI := nL fF hg; have gW := nG fF hg; replace aT := bB fF hb; clear hb hbox hg; obtain ⟨XL, Y5, Wu⟩ := Kd.cB fQ.1; subst Wu; have Z92 := nZ2 fP eZ gW fI; have Z94 := cz2 aY; obtain ⟨Md, Nv, qo⟩ := Kd.kN eU.1; subst qo; have Z96 := cz2 aC) | ((with_reducible refine gC 48 ?_); refine cQ (some 20) Tryz.func48 (gG.calls k _ _ aQ _ _ aE a1 bO _ (Kd.aM cS.1 fE) cO.1 (Kd.aM bE.1 fE) dL.1 A7.out) ?_; rintro Qa hb; replace fQ := am (Kd.iI (by refine rR ?_; exact (Kd.bG (fR (fR (tR fQ aY))) (fun _ h_ => h_.1))) hb); replace eU := am (Kd.l9 (by refine rN ?_; exact (Kd.bQ (fN (fN (Kd.bQ eU.1 (fun k_ hk => (⟨hk, hk.2⟩ : _ ∧ k_ ≠ bM))))) (fun _ h_ => h_.1))) hb); replace aC := am (aV (g := aZ) (o := .cells #[.slice dD aQ.length dE, .slice dS aE.length dB] 31 (0, 0)) Pk hb); replace aT := am (aV (g := bF) (o := .cells #[.slice none 0 0, .slice none 0 0] 31 (0, 0)) UA hb); replace aY := am (aV (g := bM) (o := .cells #[.slice XL bR.length Y5, .slice Md dI.length Nv] 31 (0, 0)) (qP aY) hb); replace HB := bS fE hb; clear hb; have Z98 := cz2 aC; obtain ⟨mL, S0, TE, S1, TF, TM, yK, wU, wV, H0, M9, sC, tN, YZ, ZD⟩ := aT66 bE HB bO; cases TM) | ((with_reducible refine gC 52 ?_); refine cQ (some 31) Tryz.func52 (bV.calls k _ _ l2 _ _ ((aA aE bO).f2) false _ (pB pL) pK.1 (pB sC) tN.1 Qe.out) ?_; rintro w' ⟨nd, rfl⟩; (try (rw [BF Qa]; generalize hq_ : World.drewN Qa _ = Qa; have n0_ : aD (Kd.R Kd.string 9 Qa w.heap.size (fun k_ => (((w.heap.size ≤ k_)) ∧ True)) (.slice XL bR.length Y5) bR) := ⟨by rw [← hq_]; exact wC⟩; have n1_ : aD (Kd.N k66 66 Qa w.heap.size (fun k_ => ((((w.heap.size ≤ k_)) ∧ (some k_ ≠ (.slice XL bR.length Y5 : Value).ownBlock ∧ (k_ ≠ aZ ∧ k_ ≠ bF))) ∧ k_ ≠ bM)) (.slice Md dI.length Nv) dI) := ⟨by rw [← hq_]; exact CD⟩; have n2_ : aD (Qa.heap[aZ]? = some (.cells #[.slice dD aQ.length dE, .slice (some mL) aE.length dB] 31 (0, 0))) := ⟨by rw [← hq_]; exact bJ⟩; have n3_ : aD (Qa.heap[bF]? = some (.cells #[.slice none 0 0, .slice none 0 0] 31 (0, 0))) := ⟨by rw [← hq_]; exact fF⟩; have n4_ : aD (Qa.heap[bM]? = some (.cells #[.slice XL bR.length Y5, .slice Md dI.length Nv] 31 (0, 0))) := ⟨by rw [← hq_]; exact jO⟩; have n5_ : aD (Below w.heap.size w Qa) := ⟨by rw [← hq_]; exact fE⟩; clear fQ eU aC aT aY HB hq_; have fQ := n0_; have eU := n1_; have aC := n2_; have aT := n3_; have aY := n4_; have HB := n5_; clear n0_ n1_ n2_ n3_ n4_ n5_)); have Z99 := cz2 aY; have a2Z := cz2 aT))
  refine cT bF 31 #[.slice XL bR.length Y5, .slice Md dI.length Nv] (qP aT) Tryz.underlying31 ?_
  exact ⟨_, _, eR, mR fQ aT, by refine rN ?_; exact Kd.bQ (fN (fN (Kd.bQ eU.1 (fun k_ hk => (⟨hk, hk.1.2.2.2⟩ : _ ∧ k_ ≠ bF))))) (fun _ hk => ⟨hk.1.1.1, hk.1.1.2.1⟩), fE⟩
 obtain ⟨rfl, rfl, rfl⟩ := sZ3 H
 repeat clear H
 go_enter Tryz.func26, Tryz.ntmps26
 go_wp2_with (first | ((with_reducible refine dF (N := 3) rfl ?_); refine dX ?hg (N := 3) ?hd (cs := #[.slice dD aQ.length dE, .slice dS aE.length dB]) (t := 31) ?hr ?_; (case hd => rfl); (case hg => rfl); (case hr => (try (obtain ⟨Az_, cz_, ez_⟩ := Kd.cB n8.1; subst ez_)); first | (go_simp; done) | (go_simp; rfl)); intro aZ hg a6U hbox hb; have aC := am hbox; have gU := am (nS : w.heap.size ≤ aZ); have iL := gU; replace HB := bS gL hb; clear hb hbox hg) | ((with_reducible refine dF (N := 6) rfl ?_); refine dX ?hg (N := 6) ?hd (cs := #[.slice none 0 0, .slice none 0 0]) (t := 31) ?hr ?_; (case hd => rfl); (case hg => rfl); (case hr => (try (obtain ⟨Az_, cz_, ez_⟩ := Kd.cB n8.1; subst ez_)); first | (go_simp; done) | (go_simp; rfl)); intro bF hg a6V hbox hb; have aT := am hbox; have qC := am (vA : w.heap.size ≤ bF); have pM := qC; replace HB := bS dQ hb; have dY := nL bJ hg; have eI := nG bJ hg; replace aC := bB bJ hb; clear hb hbox hg; have ol := nZ1 dY eI; have a3B := cz2 aC) | ((with_reducible refine gC 21 ?_); refine cQ (some 13) Tryz.func21 (aG.calls k _ _ aQ _ _ aE false _ (pB cS) cO.1 (pB bE) dL.1 A4.out) ?_; rintro a6X hb; replace aC := bB bJ hb; replace aT := bB fF hb; replace HB := bS jY hb; clear hb; have a3C := cz2 aT))
 refine cT bF 31 #[.slice none 0 0, .slice none 0 0] jm Tryz.underlying31 ?_
 exact ⟨_, _, eR, by first | exact Kd.oQ _ _ _ _ _ | exact Kd.wI _ _ _ _ _ | exact Kd.sS _ _ _ _ _ | exact Kd.wK _ _ _ _ _ | exact Kd.tX _ _ _ _ _, by first | exact Kd.tX _ _ _ _ _ | exact Kd.wI _ _ _ _ _ | exact Kd.sS _ _ _ _ _ | exact Kd.wK _ _ _ _ _ | exact Kd.oQ _ _ _ _ _, jY⟩
theorem Pm {xs : List S66} {i : Int} (h0 : 0 ≤ i) (h1 : i < (xs.length : Int)) (x : S66) : aA (xs.set i.toNat x) i = x := by
 unfold aA
 rw [List.getD_eq_getElem?_getD, List.getElem?_set_self (by omega)]
 rfl
def qH (w : World) (g c n : Nat) (cur : List ByteArray) : Prop := ∃ cs : Array Value, w.heap[g]? = some (.cells cs 9 (0, 0)) ∧ cs.size = c ∧ cs.toList.take n = cur.map Value.string
theorem qH.cell {w : World} {g c n : Nat} {cur : List ByteArray} (h : qH w g c n cur) (hl : cur.length = n) {j : Nat} (hj : j < cur.length) : w.cell? ⟨g, j, none⟩ = some (.string cur[j]) := by
 obtain ⟨cs, h1, _, h3⟩ := h
 rw [aH h1 j, ← Array.getElem?_toList]
 have e : (cs.toList.take n)[j]? = (cur.map Value.string)[j]? := by rw [h3]
 rw [List.getElem?_take, if_pos (by omega)] at e
 rw [e, List.getElem?_map, List.getElem?_eq_getElem hj]; rfl
theorem qH.frozen {w : World} {g c n : Nat} {cur : List ByteArray} (h : qH w g c n cur) (j : Nat) : w.frozen? ⟨g, j, none⟩ = false := by
 obtain ⟨cs, h1, _, _⟩ := h
 exact bL h1 j
theorem qH.set_ {w : World} {g c n i : Nat} {cur : List ByteArray} (h : qH w g c n cur) (y : ByteArray) : qH (w.setCell ⟨g, i, none⟩ (.string y)) g c n (cur.set i y) := by
 obtain ⟨cs, h1, h2, h3⟩ := h
 refine ⟨cs.setIfInBounds i (.string y), TB h1 i _, by simpa using h2, ?_⟩
 rw [Array.toList_setIfInBounds, List.take_set, h3, List.map_set]
theorem qH.below {w w' : World} {g c n : Nat} {cur : List ByteArray} (h : qH w g c n cur) (hb : Below w.heap.size w w') : qH w' g c n cur := by
 obtain ⟨cs, h1, h2⟩ := h
 exact ⟨cs, aV h1 hb, h2⟩
theorem qH.R_ {w w' : World} {base g c n i : Nat} {P : Nat → Prop} {cur : List ByteArray} (h : qH w g c n cur) (hl : cur.length = n) (hi : i ≤ n) (hn : n ≤ c) (hm : c ≤ maxLen) (hP : P g) (hb : base ≤ g)
  (hw : ∃ cs' : Array Value, w'.heap[g]? = some (.cells cs' 9 (0, 0)) ∧ cs'.size = c ∧ ∀ cs : Array Value, w.heap[g]? = some (.cells cs 9 (0, 0)) → cs'.toList.take i = cs.toList.take i) :
  Kd.R Kd.string 9 w' base P (.slice (some ⟨g, 0, none⟩) i c) (cur.take i) := by
 obtain ⟨cs, h1, h2, h3⟩ := h
 obtain ⟨cs', h4, h5, h6⟩ := hw
 have QZ : (cur.take i).length = i := by rw [List.length_take]; omega
 have e : cs'.toList.take i = (cur.take i).map Value.string := by
  rw [h6 cs h1, List.map_take, ← h3, List.take_take, Nat.min_eq_left hi]
 refine ⟨fun k hk => by (have e : g = k := by simpa [Value.ownBlock] using hk); subst e; exact hP, (cur.take i).map Value.string, ⟨?_, ?_⟩, ?_, ?_⟩
 ·rw [List.length_map]; show _ = _ * 1; omega
 ·refine .inr ⟨g, c, cs', by rw [QZ], hb, h4, by omega, hm, ?_, ?_⟩
  ·show _ = _ * 1; omega
  rw [QZ]; show List.take (i * 1) _ = _; rw [Nat.mul_one]; exact e
 ·rw [List.length_map]; show _ = _ * 1; omega
 intro j p hj
 have hjl : j < (cur.take i).length := (List.getElem?_eq_some_iff.1 hj).1
 show (((cur.take i).map Value.string).drop (j * 1)).take 1 = [Value.string p]
 rw [Nat.mul_one, List.drop_eq_getElem_cons (by rw [List.length_map]; exact hjl), List.take_succ_cons, List.take_zero, List.getElem_map]
 rw [List.getElem?_eq_getElem hjl] at hj
 rw [Option.some.inj hj]
def Rf (g : Nat) (lb : Array Value) (p : ByteArray → Bool) (w0 w : World) (S : Nat → Prop) : Prop :=
 ∀ (W : World) (s : ByteArray), Below w0.heap.size w0 W → Kept w W S → Calls Tryz.prog g (#[.string s] ++ lb) W fun e w' => e = .returned (.bool (p s)) ∧ Below W.heap.size W w'
theorem L8 {p : ByteArray → Bool} : ∀ {l : List ByteArray} {i : Nat}, idxP p l i = -1 → l.filter (fun x => !p x) = l
 | [], _, _ => rfl
 | x :: xs, i, h => by
  unfold idxP at h
  cases hp : p x with
  | true => rw [if_pos hp] at h; omega
  | false => rw [if_neg (by simp [hp])] at h; rw [List.filter_cons_of_pos (by simp [hp]), L8 h]
theorem R5 {p : ByteArray → Bool} : ∀ {l : List ByteArray} {i : Nat}, idxP p l i ≠ -1 → ∃ k, idxP p l i = ((i + k : Nat) : Int) ∧ k < l.length ∧ (l.take (k + 1)).filter (fun x => !p x) = l.take k
 | [], _, h => absurd rfl h
 | x :: xs, i, h => by
  unfold idxP at h ⊢
  cases hp : p x with
  | true => rw [if_pos rfl]; exact ⟨0, by simp, by simp, by simp [hp]⟩
  | false =>
   rw [hp, if_neg (by simp)] at h
   rw [if_neg (by simp)]
   obtain ⟨k, e, hk, hf⟩ := R5 h
   refine ⟨k + 1, by rw [e]; congr 1; omega, by simp; omega, ?_⟩
   rw [List.take_succ_cons, List.take_succ_cons, List.filter_cons_of_pos (by simp [hp]), hf]
theorem XI : ∀ w, (zeroValue 9).run Tryz.prog w = .ok (.string ByteArray.empty) w := Tryz.zeroValue9
set_option maxHeartbeats 4000000 in
theorem NY (g : Nat) (lb : Array Value) (eg : ∀ args w, (callFunc g args).run Tryz.prog w = .ok (.enter g args) w) (p : ByteArray → Bool) (P : Nat → Prop) (A : Option Addr) (c : Nat) (l : List ByteArray) (w0 w : World) (hB : Below w0.heap.size w0 w)
  (h : Kd.R Kd.string 9 w w0.heap.size P (.slice A l.length c) l) (hp : Rf g lb p w0 w P) :
  Calls Tryz.prog 78 #[.slice A l.length c, .func (.func g) #[] lb] w fun e w' => e = .returned (.slice A (l.filter (fun x => !p x)).length c) ∧ Kd.R Kd.string 9 w' w0.heap.size P (.slice A (l.filter (fun x => !p x)).length c) (l.filter (fun x => !p x)) ∧ Below w0.heap.size w0 w' ∧ Kept w w' P := by
 have hrd := (Kd.bI h).2.2
 have hbig := QG hrd
 have HI := am (EW g lb eg p A c l w hrd (fun W s hb => (hp W s (dG hB hb) (Kept.of_below hb P)).mono fun e w' q => ⟨q.1, sM hb hb.size q.2⟩))
 by_cases hn : idxP p l 0 = -1
 ·have hf := L8 hn
  rw [hn] at HI
  have HR := am h
  have HB := am hB
  rw [hf]
  clear h hB hp hrd hf hn
  go_enter Tryz.func78, Tryz.ntmps78
  go_wp2_with ((go_at_call 89; refine HI.out.mono ?_; rintro e w' ⟨rfl, hb'⟩))
  go_ret
  exact ⟨rfl, Kd.iI HR.out hb', dG HB.1 hb', Kept.of_below hb' P⟩
 obtain ⟨k0, e0, hk0, hf0⟩ := R5 hn
 rw [Nat.zero_add] at e0
 obtain ⟨h0, inner, ho, hr⟩ := h
 obtain ⟨hil, ho⟩ := ho
 rcases ho with ⟨_, ho⟩ | ⟨gb, cap, cur, hv, hbase, hheap, hncap, hcapm, hcur, htake⟩
 ·omega
 injection hv with ha _ hc
 subst ha; subst hc
 have hP : P gb := h0 gb rfl
 have hrow : qH w gb c l.length l := by
  refine ⟨cur, hheap, by rw [hcur]; exact Nat.mul_one _, ?_⟩
  have ht : cur.toList.take l.length = inner := by rw [← htake]; congr 1; exact (Nat.mul_one _).symm
  rw [ht]
  have hil2 : inner.length = l.length := by rw [hil]; exact Nat.mul_one _
  refine List.ext_getElem (by rw [List.length_map]; exact hil2) fun j h1 h2 => ?_
  have hM := hr.2 j (l[j]'(by omega)) (List.getElem?_eq_getElem (by omega))
  have hM2 : (inner.drop (j * 1)).take 1 = [Value.string (l[j]'(by omega))] := hM
  rw [Nat.mul_one, List.drop_eq_getElem_cons h1, List.take_succ_cons, List.take_zero] at hM2
  rw [List.getElem_map]
  exact (List.cons.inj hM2).1
 have hne1 : ((k0 : Int) == -1) = false := beq_eq_false_iff_ne.2 (by omega)
 have HROW := am hrow
 have HP := am hp
 have HB := am hB
 have HG := am hbase
 have HPg := am hP
 have HCM := am hcapm
 have HF0 := am hf0
 have HNC := am hncap
 rw [e0] at HI
 clear hn e0 h0 hr hil hheap hcur htake hrow hp hB hbase hP hcapm hf0 hrd hncap
 go_enter Tryz.func78, Tryz.ntmps78
 go_wp2_with ((go_at_call 89; refine HI.out.mono ?_; rintro e w1 ⟨rfl, hb1⟩; have HB1 := am hb1; clear hb1))
 go_loopg [5, 6, 7] l.length (fun gg s5 s6 _ wr => ∃ (i j : Nat) (cu : List ByteArray), s5 = .int .i64 i ∧ s6 = .int .i64 j ∧ i < j ∧ j ≤ l.length ∧ l.length - j ≤ gg ∧ cu.length = l.length ∧ aD (qH wr gb c l.length cu) ∧ aD (Kept w wr P) ∧ aD (Below w0.heap.size w0 wr) ∧ aD (cu.take i = (l.take j).filter (fun x => !p x)) ∧ aD (cu.drop j = l.drop j))
 case atStart => exact ⟨k0, k0 + 1, l, rfl, by go_num, by omega, by omega, by omega, rfl, ⟨qH.below HROW.1 HB1.out⟩, ⟨Kept.of_below HB1.out P⟩, ⟨dG HB.1 HB1.out⟩, ⟨HF0.out.symm⟩, ⟨rfl⟩⟩
 obtain ⟨i, j, cu, rfl, rfl, hij, hjl, hgg, hcl, RR, KK, BB, T1, T2⟩ := hrel
 by_cases hlt : j < l.length
 ·have hltz : (j : Int) < (l.length : Int) := by omega
  have hx := qH.cell RR.out hcl (j := j) (by omega)
  have hcy : cu[j]'(by omega) = l[j] := by
   have e := T2.out
   rw [List.drop_eq_getElem_cons (by omega), List.drop_eq_getElem_cons hlt] at e
   exact (List.cons.inj e).1
  rw [hcy] at hx
  have hci := qH.cell RR.out hcl (j := i) (by omega)
  have hfi := qH.frozen RR.out i
  have hcall := HP.out wr l[j] BB.out KK.out
  have HY := am (show l[j]? = some l[j] from List.getElem?_eq_getElem hlt)
  generalize l[j] = y at hx hcall HY
  generalize cu[i]'_ = old at hci
  clear hcy
  have hT2 : aD (cu.drop (j + 1) = l.drop (j + 1)) := ⟨by rw [← List.drop_drop, ← List.drop_drop, T2.out]⟩
  have hYs : aD (l.take (j + 1) = l.take j ++ [y]) := ⟨by rw [List.take_add_one, HY.out]; rfl⟩
  cases hq : p y with
  | false =>
   rw [hq] at hcall
   have HQ := am hq
   clear hq
   go_wp2_with ((go_at_fn g; refine hcall.mono ?_; rintro e w2 ⟨rfl, hb2⟩; have HB2 := am hb2; have hci2 := (hb2.cell (World.block_lt_of_cell? _ _ hci)).trans hci; have hfi2 := qH.frozen (qH.below RR.out hb2) i; clear hb2))
   go_roundg (l.length - (j + 1))
   case measure => omega
   case rel =>
    refine ⟨i + 1, j + 1, cu.set i y, by go_num, by go_num, by omega, by omega, Nat.le_refl _, by rw [List.length_set]; exact hcl, ⟨qH.set_ (qH.below RR.out HB2.out) y⟩, ⟨Kept.setCell (Kept.below KK.out HB2.out) (Or.inl HPg.out) _⟩, ⟨aJ (dG BB.out HB2.out) HG.out⟩, ⟨?_⟩, ⟨?_⟩⟩
    ·rw [hYs.out, List.filter_append, ← T1.out, List.filter_cons_of_pos (by simp [HQ.out]), List.filter_nil, List.take_set, List.take_succ_eq_append_getElem (by omega), List.set_append_right _ _ (by rw [List.length_take]; omega), List.length_take, Nat.min_eq_left (by omega), Nat.sub_self, List.set_cons_zero]
    ·rw [List.drop_set_of_lt (by omega)]; exact hT2.out
  | true =>
   rw [hq] at hcall
   have HQ := am hq
   clear hq
   go_wp2_with ((go_at_fn g; refine hcall.mono ?_; rintro e w2 ⟨rfl, hb2⟩; have HB2 := am hb2; clear hb2))
   go_roundg (l.length - (j + 1))
   case measure => omega
   case rel =>
    refine ⟨i, j + 1, cu, rfl, by go_num, by omega, by omega, Nat.le_refl _, hcl, ⟨qH.below RR.out HB2.out⟩, ⟨Kept.below KK.out HB2.out⟩, ⟨dG BB.out HB2.out⟩, ⟨?_⟩, ⟨hT2.out⟩⟩
    rw [hYs.out, List.filter_append, ← T1.out, List.filter_cons_of_neg (by simp [HQ.out]), List.filter_nil, List.append_nil]
 have hje : j = l.length := by omega
 subst hje
 have hltz : ¬ (l.length : Int) < (l.length : Int) := by omega
 have hfil : cu.take i = l.filter (fun x => !p x) := by rw [T1.out, List.take_length]
 have hfl : (l.filter (fun x => !p x)).length = i := by rw [← hfil, List.length_take]; omega
 obtain ⟨cs, nY, mH, hc3⟩ := RR.out
 have hncap := HNC.out
 have hclr : ∀ ty, (Builtin.clear_ #[27] ty #[.slice (some ⟨gb, i, none⟩) (l.length - i) (c - i)]).run Tryz.prog wr = .ok (.tuple #[]) (wr.setCells gb i (List.replicate (l.length - i) (.string ByteArray.empty))) := fun ty =>
  Lib.run_clear_slice wr _ _ ty _ Tryz.underlying27 XI rfl rfl gb i _ _ (by omega) (fun t ht => by rw [aH nY, Array.getElem?_eq_getElem (by omega)]; rfl) (fun t ht => bL nY _)
 obtain ⟨cs', Oq, CX, Sh⟩ := uF (e := 9) (List.replicate (l.length - i) (.string ByteArray.empty)) i wr cs nY (by rw [List.length_replicate, mH]; omega)
 obtain ⟨W2, hW2⟩ : ∃ W2, W2 = wr.setCells gb i (List.replicate (l.length - i) (.string ByteArray.empty)) := ⟨_, rfl⟩
 rw [← hW2] at Oq
 have hR := qH.R_ (w' := W2) RR.out hcl (i := i) (by omega) hncap HCM.1 HPg.out HG.out ⟨cs', Oq, by rw [CX, mH], fun cs2 h2 => by
  have e2 : cs2 = cs := by rw [nY] at h2; injection h2 with h2; injection h2 with h2 _ _; exact h2.symm
  subst e2
  rw [Sh, List.append_assoc, List.take_append_of_le_length (by rw [List.length_take, Array.length_toList]; omega), List.take_take, Nat.min_self]⟩
 rw [hfil] at hR
 have hK : Kept wr W2 P := by
  rw [hW2]
  exact ⟨by rw [(mF gb _ _ _).2.2.2]; exact Nat.le_refl _, fun k hk hne => rM _ _ _ (fun e => hne (e ▸ HPg.out))⟩
 have hBe : Below w0.heap.size w0 W2 := by
  have q := mF gb (List.replicate (l.length - i) (.string ByteArray.empty)) i wr
  rw [← hW2] at q
  have hg := HG.out
  exact ⟨by rw [q.1]; exact BB.out.os, by rw [q.2.1]; exact BB.out.tape, by rw [q.2.2.1]; exact BB.out.output, Nat.le_trans BB.out.size hK.1, fun k hk => by
   rw [hW2, rM _ _ _ (by omega)]; exact BB.out.block k hk⟩
 have pL := am hR
 have HK2 := am (Kept.Ci KK.out hK (fun k hk => Or.inl hk))
 have HB2 := am hBe
 have HW2 : Hid (W2 = wr.setCells gb i (List.replicate (l.length - i) (.string ByteArray.empty))) := hW2
 have hic : i ≤ c := by omega
 have hil : i ≤ l.length := by omega
 have HFL := am hfl
 have hci3 : ¬ c = i := by omega
 have hci4 : ¬ i = c := by omega
 have hci5 : (c = i) = False := eq_false hci3
 clear hR hK hBe hW2 Oq CX Sh nY mH hc3 hfil hfl hncap
 go_wp2
 go_ret
 rw [← HW2.out, HFL.out]
 exact ⟨rfl, pL.1, HB2.out, HK2.out⟩
theorem Nc {W : World} {base g n cap : Nat} {P okr : Nat → Prop} {xs : List S66} {vn : Value} {r : List ByteArray} (h : Kd.S k66 66 W base P (.slice (some ⟨g, 0, none⟩) n cap) xs) (i : Int) (h0 : 0 ≤ i) (h1 : i < n) (hr : Kd.R Kd.string 9 W base okr vn r) (hn : ∀ k, vn.ownBlock = some k → ¬ P k) (hP : P g) :
  Kd.S k66 66 (W.setCell ⟨g, i.toNat * 3 + 2, none⟩ vn) base (fun k => P k ∨ some k = vn.ownBlock) (.slice (some ⟨g, 0, none⟩) n cap) (xs.set i.toNat ⟨(aA xs i).f0, (aA xs i).f1, r⟩) := by
 obtain ⟨oki, c, hcl, hM, hc, hf, hoki, hH⟩ := Kd.zB h z66 i h0 h1
 obtain ⟨v1, v2, rfl, g1, g2⟩ := pR hM
 exact (Kd.VA (ok := fun k => P k ∨ some k = vn.ownBlock) (okg := fun k => some k = vn.ownBlock) (Kd.Gg hH (fun k hk => ⟨Or.inl hk, fun e => hn k e.symm hk⟩)) h0 h1 (seg := [vn]) (j := 2) (x' := ⟨(aA xs i).f0, (aA xs i).f1, r⟩) (by show 2 + 1 ≤ 3; omega) (okp := fun k => oki k ∨ some k = vn.ownBlock) (yO _ _ _ ⟨(aA xs i).f0, (aA xs i).f1, r⟩ (Kd.bG g1 (fun k hk => Or.inl hk)) (Kd.bG (Kd.kP rfl hr) (fun k hk => Or.inr hk)) (fun k e1 e2 => hn k e2 (hoki k (g1.1 k e1)).1)) (fun k hk => hk) (fun k hk => ⟨Or.inr hk, fun e => hn k hk.symm (e ▸ hP)⟩)).1
theorem Nb {W : World} {base g n cap : Nat} {P : Nat → Prop} {xs : List S66} (h : Kd.S k66 66 W base P (.slice (some ⟨g, 0, none⟩) n cap) xs) (i : Int) (h0 : 0 ≤ i) (h1 : i < n) :
  (∃ A c, W.cell? ⟨g, i.toNat * 3 + 2, none⟩ = some (.slice A (aA xs i).f2.length c)) ∧ W.frozen? ⟨g, i.toNat * 3 + 2, none⟩ = false := by
 obtain ⟨oki, c, hcl, hM, hc, hf, hoki, hH⟩ := Kd.zB h z66 i h0 h1
 obtain ⟨v1, v2, rfl, g1, g2⟩ := pR hM
 obtain ⟨A1, c1, e1⟩ := Kd.cB g2
 subst e1
 exact ⟨⟨A1, c1, hc 2 _ rfl⟩, hf 2⟩
theorem di {W : World} {base g n cap : Nat} {P : Nat → Prop} {xs : List S66} (h : Kd.S k66 66 W base P (.slice (some ⟨g, 0, none⟩) n cap) xs) (i : Int) (h0 : 0 ≤ i) (h1 : i < n) :
  ∃ (A1 : Option Addr) (c1 : Nat) (P1 : Nat → Prop), W.cell? ⟨g, i.toNat * 3 + 1, none⟩ = some (.slice A1 (aA xs i).f1.length c1) ∧ Kd.R Kd.string 9 W base P1 (.slice A1 (aA xs i).f1.length c1) (aA xs i).f1 ∧ (∀ k, P1 k → P k ∧ k ≠ g ∧ some k = (.slice A1 (aA xs i).f1.length c1 : Value).ownBlock) ∧
   ∀ (W2 : World) (r : List ByteArray) (m : Nat) (okr : Nat → Prop), Kept W W2 P1 → Kd.R Kd.string 9 W2 base okr (.slice A1 m c1) r → Kd.S k66 66 (W2.setCell ⟨g, i.toNat * 3 + 1, none⟩ (.slice A1 m c1)) base P (.slice (some ⟨g, 0, none⟩) n cap) (xs.set i.toNat ⟨(aA xs i).f0, r, (aA xs i).f2⟩) := by
 obtain ⟨oki, c, hcl, hM, hc, hf, hoki, hH⟩ := Kd.zB h z66 i h0 h1
 obtain ⟨v1, v2, rfl, g1, g2⟩ := pR hM
 have hs := Jq hM
 obtain ⟨A1, c1, e1⟩ := Kd.cB g1
 subst e1
 refine ⟨A1, c1, fun k => some k = (.slice A1 (aA xs i).f1.length c1 : Value).ownBlock, hc 1 _ rfl, Kd.kP rfl g1, fun k hk => ⟨(hoki k (g1.1 k hk.symm)).1, (hoki k (g1.1 k hk.symm)).2, hk⟩, fun W2 r m okr hk hr => ?_⟩
 have hob : (.slice A1 m c1 : Value).ownBlock = (.slice A1 (aA xs i).f1.length c1 : Value).ownBlock := by cases A1 <;> rfl
 have hH2 := Kd.Ua hH hk (fun k _ hn hp => hn (g1.1 k hp.symm))
 exact (Kd.Uv hH2 h0 h1 (seg := [.slice A1 m c1]) (j := 1) (x' := ⟨(aA xs i).f0, r, (aA xs i).f2⟩) (by show 1 + 1 ≤ 3; omega) (okp := oki) (yO _ _ _ ⟨(aA xs i).f0, r, (aA xs i).f2⟩ (Kd.bG (Kd.kP rfl hr) (fun k hp => g1.1 k (hob.symm.trans hp.symm))) (Kd.bG (Kd.sK (Kd.kP rfl g2) hk (fun k h2 hp => hs k hp.symm h2.symm)) (fun k hp => g2.1 k hp.symm)) (fun k e1 => hs k (hob.symm.trans e1))) (fun _ hk => hk)).1
theorem BkS.needs {w0 W : World} {lo hi lo2 Fc g n cap : Nat} {v0 vn : Value} {l0 r : List ByteArray} {xs : List S66} (h : BkS w0 W lo hi v0 (.slice (some ⟨g, 0, none⟩) n cap) l0 xs) (hv : RwS w0 W lo2 Fc vn r) (hle : hi ≤ lo2) (hh : hi ≤ Fc) (i : Int) (h0 : 0 ≤ i) (h1 : i < n) :
  BkS w0 (W.setCell ⟨g, i.toNat * 3 + 2, none⟩ vn) lo Fc v0 (.slice (some ⟨g, 0, none⟩) n cap) l0 (xs.set i.toNat ⟨(aA xs i).f0, (aA xs i).f1, r⟩) := by
 have hg := (Kd.S_R h.2).1 g rfl
 have hk : Kept W (W.setCell ⟨g, i.toNat * 3 + 2, none⟩ vn) (fun k => k = g) := Kept.setCell (p := ⟨g, i.toNat * 3 + 2, none⟩) (Kept.refl W (fun k => k = g)) (Or.inl rfl) vn
 refine ⟨Kd.bG (Kd.sK (Kd.kP rfl h.1) hk (fun k e e2 => hg.2 (by rw [← e2]; exact e))) (fun k e => ?_), Kd.fU (Nc h.2 i h0 h1 hv (fun k e e2 => ?_) hg) (fun k e => ?_)⟩
 ·have := h.1.1 k e.symm; omega
 ·have := hv.1 k e; omega
 rcases e with e | e
 ·exact ⟨⟨e.1.1, by omega⟩, e.2⟩
 have q := hv.1 k e.symm
 refine ⟨⟨by have := hg.1; omega, q.2⟩, fun e2 => ?_⟩
 have := h.1.1 k e2.symm; omega
theorem BkS.has {w0 W : World} {lo hi g n cap : Nat} {v0 : Value} {l0 : List ByteArray} {xs : List S66} (h : BkS w0 W lo hi v0 (.slice (some ⟨g, 0, none⟩) n cap) l0 xs) (i : Int) (h0 : 0 ≤ i) (h1 : i < n) :
  ∃ (A1 : Option Addr) (c1 : Nat) (P1 : Nat → Prop), W.cell? ⟨g, i.toNat * 3 + 1, none⟩ = some (.slice A1 (aA xs i).f1.length c1) ∧ Kd.R Kd.string 9 W w0.heap.size P1 (.slice A1 (aA xs i).f1.length c1) (aA xs i).f1 ∧ (∀ k, P1 k → (lo ≤ k ∧ k < hi) ∧ k ≠ g ∧ some k = (.slice A1 (aA xs i).f1.length c1 : Value).ownBlock) ∧
   ∀ (W2 : World) (r : List ByteArray) (m : Nat) (okr : Nat → Prop), Kept W W2 P1 → Kd.R Kd.string 9 W2 w0.heap.size okr (.slice A1 m c1) r → BkS w0 (W2.setCell ⟨g, i.toNat * 3 + 1, none⟩ (.slice A1 m c1)) lo hi v0 (.slice (some ⟨g, 0, none⟩) n cap) l0 (xs.set i.toNat ⟨(aA xs i).f0, r, (aA xs i).f2⟩) := by
 have hg := (Kd.S_R h.2).1 g rfl
 obtain ⟨A1, c1, P1, e1, e2, e3, e4⟩ := di h.2 i h0 h1
 refine ⟨A1, c1, P1, e1, e2, fun k hk => ⟨(e3 k hk).1.1, (e3 k hk).2⟩, fun W2 r m okr hk hr => ⟨?_, e4 W2 r m okr hk hr⟩⟩
 have hk2 : Kept W2 (W2.setCell ⟨g, i.toNat * 3 + 1, none⟩ (.slice A1 m c1)) (fun k => k = g) := Kept.setCell (p := ⟨g, i.toNat * 3 + 1, none⟩) (Kept.refl W2 (fun k => k = g)) (Or.inl rfl) _
 exact Kd.bG (Kd.sK (Kd.sK (Kd.kP rfl h.1) hk (fun k e e5 => (e3 k e5).1.2 e)) hk2 (fun k e e2 => hg.2 (by rw [← e2]; exact e))) (fun k e => h.1.1 k e.symm)
theorem BkS.Rv {w0 W : World} {lo hi g n cap : Nat} {v0 : Value} {l0 : List ByteArray} {xs : List S66} (h : BkS w0 W lo hi v0 (.slice (some ⟨g, 0, none⟩) n cap) l0 xs) (i : Int) (h0 : 0 ≤ i) (h1 : i < n) :
  (∃ A c, W.cell? ⟨g, i.toNat * 3 + 2, none⟩ = some (.slice A (aA xs i).f2.length c)) ∧ W.frozen? ⟨g, i.toNat * 3 + 2, none⟩ = false ∧ W.frozen? ⟨g, i.toNat * 3 + 1, none⟩ = false := by
 obtain ⟨e1, e2⟩ := Nb h.2 i h0 h1
 obtain ⟨oki, c, hcl, hM, hc, hf, hoki, hH⟩ := Kd.zB h.2 z66 i h0 h1
 exact ⟨e1, e2, hf 1⟩
theorem Dy (s : ByteArray) (gb : Nat) (A1 : Option Addr) (c1 : Nat) (l1 : List ByteArray) (W : World) (nY : l1.length ≤ c1) (hcell : W.cell? ⟨gb, 0, none⟩ = some (.slice A1 l1.length c1)) (sG : Kd.C Kd.string W A1 l1.length l1) :
  Calls Tryz.prog 79 #[.string s, .pointer (some ⟨gb, 0, none⟩)] W fun e w' => e = .returned (.bool (!hasS l1 s)) ∧ jA W w' := by
 have rU := am sG
 have rW := am nY
 have HK := am (yJ l1 s (QG sG))
 clear sG nY
 generalize hasS l1 s = b at HK
 go_enter Tryz.func79, Tryz.ntmps79
 go_wp2_with ((go_at_call 42; refine (aW.calls (l1.length + 1) A1 c1 l1 s b _ ?s1 rW.1 HK.out).mono ?_; (case s1 => repeat (first | exact rU.1 | (with_reducible refine Kd.l7 ?_ _) | (with_reducible refine Kd.l8 ?_ _) | (with_reducible refine Kd.mK ?_))); rintro e w' ⟨rfl, ⟨nd, rfl⟩⟩))
 go_ret
 exact ⟨rfl, jI⟩
theorem Ea {w0 w : World} {S : Nat → Prop} {gb : Nat} {A1 : Option Addr} {c1 : Nat} {l1 : List ByteArray} {t : Nat} (nY : l1.length ≤ c1) (hb : w.heap[gb]? = some (.cells #[.slice A1 l1.length c1] t (0, 0))) (hS : ¬ S gb) (sG : Kd.C Kd.string w0 A1 l1.length l1) : Rf 79 #[.pointer (some ⟨gb, 0, none⟩)] (fun s => !hasS l1 s) w0 w S := by
 intro W s hB hK
 refine (Dy s gb A1 c1 l1 W nY ((aH (dO hb hK hS) 0).trans rfl) (Kd.aM sG hB)).mono fun e w' q => ?_
 obtain ⟨he, nd, hd⟩ := q
 exact ⟨he, hd ▸ bK (Below.refl _ _) nd⟩
def oK.f (k : Nat) (l0 : List ByteArray) (l1 : List S66) (a1 : ByteArray) (l2 : List ByteArray) : Option (List ByteArray × List S66 × Int) :=
 (aI.f k l0 l1).bind fun ok => if ok = true then (d9.f k l0 l1).bind fun c => (eP.f l0 l1 a1).bind fun i => if i < 0 then some (c.1, c.2, 3) else if i < (l1.length : Int) ∧ i < (c.2.length : Int) then (gP.f k l2 (aA l1 i).f2).bind fun q => if q = true then (bU.f l2).bind fun nd => some (c.1, c.2.set i.toNat ⟨(aA c.2 i).f0, (aA c.2 i).f1.filter (fun s => !(!hasS l2 s)), nd⟩, 0) else some (c.1, c.2, 2) else none else some ([], [], 1)
theorem oK.calls (k : Nat) (dD : Option Addr) (dE : Nat) (l0 : List ByteArray) (dS : Option Addr) (dB : Nat) (l1 : List S66) (a1 : ByteArray) (A2 : Option Addr) (c2 : Nat) (l2 : List ByteArray) (r1 : List ByteArray) (r2 : List S66) (r3 : Int) (w : World) (fL : Kd.C Kd.string w dD l0.length l0) (fJ : l0.length ≤ dE) (fH : Kd.C k66 w dS l1.length l1) (fK : l1.length ≤ dB) (rP : Kd.C Kd.string w A2 l2.length l2) (mH : l2.length ≤ c2) (h : oK.f k l0 l1 a1 l2 = some (r1, r2, r3)) :
  Calls Tryz.prog 40 #[.agg #[.slice dD l0.length dE, .slice dS l1.length dB], .string a1, .slice A2 l2.length c2] w fun e w' => ∃ v0_ v1_ : Value, e = .returned (.tuple #[.agg #[v0_, v1_], .int .i64 r3]) ∧ Kd.R Kd.string 9 w' w.heap.size (fun _ => True) v0_ r1 ∧ Kd.S k66 66 w' w.heap.size (fun k_ => some k_ ≠ (v0_ : Value).ownBlock) v1_ r2 ∧ Below w.heap.size w w' := by
 have hu31 := Tryz.underlying31
 have hu56 := Tryz.underlying66
 obtain ⟨cS, cO⟩ := mZ2 fL fJ
 obtain ⟨bE, dL⟩ := mZ2 fH fK
 obtain ⟨pL, pK⟩ := mZ2 rP mH
 clear fL fJ fH fK rP mH
 have HB := am (Below.refl w.heap.size w); have NN := am trivial
 unfold oK.f at h
 have H := h
 clear h
 obtain ⟨ok, D1, H⟩ := bd H
 by_cases c1 : ok = false
 ·subst c1
  rw [if_neg (by simp)] at H
  obtain ⟨rfl, rfl, rfl⟩ := sZ3 H
  repeat clear H
  go_enter Tryz.func40, Tryz.ntmps40
  go_wp2_with (first | ((with_reducible refine gD 3 ?_); refine bX 3 #[.slice dD l0.length dE, .slice dS l1.length dB] 31 ?_; intro nX hg_ W1 hbox hb; have hk_ : Kept w W1 (fun _ => False) := Kept.noth hb; replace NN := nn NN (show w.heap.size ≤ W1.heap.size from hk_.1); have Mi := am (show w.heap.size ≤ nX from Nat.le_trans HB.1.size (Nat.le_of_eq hg_.symm)); replace NN := nn NN (show w.heap.size ≤ nX from Nat.le_of_eq hg_.symm); replace NN := nn NN (show nX < W1.heap.size from dU hbox); replace HB := bS HB.1 hb; have gR := am hbox; clear hb hbox hg_ hk_; (try clear Z3); have Z3 := cz2 gR) | ((with_reducible refine gD 5 ?_); refine bX 5 #[.slice A2 l2.length c2] 27 ?_; intro AQ hg_ W2 hbox hb; have hk_ : Kept W1 W2 (fun _ => False) := Kept.noth hb; replace NN := nn NN (show W1.heap.size ≤ W2.heap.size from hk_.1); have ny := am (show w.heap.size ≤ AQ from Nat.le_trans HB.1.size (Nat.le_of_eq hg_.symm)); replace NN := nn NN (show W1.heap.size ≤ AQ from Nat.le_of_eq hg_.symm); replace NN := nn NN (show AQ < W2.heap.size from dU hbox); replace gR := kB gR hk_; replace HB := bS HB.1 hb; have qK := am hbox; clear hb hbox hg_ hk_; have nb5_3 : AQ ≠ nX := (by have := NN.1;  omega); have nb3_5 : nX ≠ AQ := (by have := NN.1;  omega); (try clear Z5); have Z5 := cz1 qK) | ((with_reducible refine gD 6 ?_); refine bX 6 #[.slice none 0 0, .slice none 0 0] 31 ?_; intro kE hg_ W3 hbox hb; have hk_ : Kept W2 W3 (fun _ => False) := Kept.noth hb; replace NN := nn NN (show W2.heap.size ≤ W3.heap.size from hk_.1); have y8 := am (show w.heap.size ≤ kE from Nat.le_trans HB.1.size (Nat.le_of_eq hg_.symm)); replace NN := nn NN (show W2.heap.size ≤ kE from Nat.le_of_eq hg_.symm); replace NN := nn NN (show kE < W3.heap.size from dU hbox); replace gR := kB gR hk_; replace qK := kB qK hk_; replace HB := bS HB.1 hb; have gY := am hbox; clear hb hbox hg_ hk_; have nb6_3 : kE ≠ nX := (by have := NN.1;  omega); have nb3_6 : nX ≠ kE := (by have := NN.1;  omega); have nb6_5 : kE ≠ AQ := (by have := NN.1;  omega); have nb5_6 : AQ ≠ kE := (by have := NN.1;  omega); (try clear Z6); have Z6 := cz2 gY; (try clear Z3); have Z3 := cz2 gR) | ((with_reducible refine gC 36 ?_); refine cQ (some 12) Tryz.func36 (aI.calls k _ _ l0 _ _ l1 false _ (Kd.aM cS.1 HB.1) cO.1 (Kd.aM bE.1 HB.1) dL.1 D1.1) ?_; rintro W4 hb; have HB0 := am (show w.heap.size ≤ W3.heap.size from HB.1.size); have hk_ : Kept W3 W4 (fun _ => False) := Kept.noth hb; replace NN := nn NN (show W3.heap.size ≤ W4.heap.size from hk_.1); replace gR := kB gR hk_; replace qK := kB qK hk_; replace gY := kB gY hk_; replace HB := bS HB.1 hb; clear hb hk_; (try clear Z3); have Z3 := cz2 gR; (try clear Z6); have Z6 := cz2 gY; clear HB0))
  (try simp only [Exit.inBlock, Exit.then]); refine cT kE 31 #[.slice none 0 0, .slice none 0 0] (bD (cs := #[.slice none 0 0, .slice none 0 0]) (bD (cs := #[.slice none 0 0, .slice none 0 0]) (gY.1) 0 _ rfl) 1 _ rfl) Tryz.underlying31 ?_
  exact ⟨_, _, rfl, Kd.oQ _ _ _ _ _, Kd.tX _ _ _ _ _, aJ (aJ HB.1 y8.1) y8.1⟩
 have c1 : ok = true := by simpa using c1
 rw [if_pos c1] at H
 subst c1
 obtain ⟨⟨c1a, c1b⟩, D2, H⟩ := bd H
 obtain ⟨i, D3, H⟩ := bd H
 dsimp only at H
 by_cases cj : i < 0
 ·rw [if_pos cj] at H
  have VM : decide (i < 0) = true := decide_eq_true cj
  obtain ⟨rfl, rfl, rfl⟩ := sZ3 H
  repeat clear H
  go_enter Tryz.func40, Tryz.ntmps40
  go_wp2_with (first | ((with_reducible refine gD 3 ?_); refine bX 3 #[.slice dD l0.length dE, .slice dS l1.length dB] 31 ?_; intro nX hg_ W1 hbox hb; have hk_ : Kept w W1 (fun _ => False) := Kept.noth hb; replace NN := nn NN (show w.heap.size ≤ W1.heap.size from hk_.1); have Mi := am (show w.heap.size ≤ nX from Nat.le_trans HB.1.size (Nat.le_of_eq hg_.symm)); replace NN := nn NN (show w.heap.size ≤ nX from Nat.le_of_eq hg_.symm); replace NN := nn NN (show nX < W1.heap.size from dU hbox); replace HB := bS HB.1 hb; have gR := am hbox; clear hb hbox hg_ hk_; (try clear Z3); have Z3 := cz2 gR) | ((with_reducible refine gD 5 ?_); refine bX 5 #[.slice A2 l2.length c2] 27 ?_; intro AQ hg_ W2 hbox hb; have hk_ : Kept W1 W2 (fun _ => False) := Kept.noth hb; replace NN := nn NN (show W1.heap.size ≤ W2.heap.size from hk_.1); have ny := am (show w.heap.size ≤ AQ from Nat.le_trans HB.1.size (Nat.le_of_eq hg_.symm)); replace NN := nn NN (show W1.heap.size ≤ AQ from Nat.le_of_eq hg_.symm); replace NN := nn NN (show AQ < W2.heap.size from dU hbox); replace gR := kB gR hk_; replace HB := bS HB.1 hb; have qK := am hbox; clear hb hbox hg_ hk_; have nb5_3 : AQ ≠ nX := (by have := NN.1;  omega); have nb3_5 : nX ≠ AQ := (by have := NN.1;  omega); (try clear Z5); have Z5 := cz1 qK) | ((with_reducible refine gD 6 ?_); refine bX 6 #[.slice none 0 0, .slice none 0 0] 31 ?_; intro kE hg_ W3 hbox hb; have hk_ : Kept W2 W3 (fun _ => False) := Kept.noth hb; replace NN := nn NN (show W2.heap.size ≤ W3.heap.size from hk_.1); have y8 := am (show w.heap.size ≤ kE from Nat.le_trans HB.1.size (Nat.le_of_eq hg_.symm)); replace NN := nn NN (show W2.heap.size ≤ kE from Nat.le_of_eq hg_.symm); replace NN := nn NN (show kE < W3.heap.size from dU hbox); replace gR := kB gR hk_; replace qK := kB qK hk_; replace HB := bS HB.1 hb; have gY := am hbox; clear hb hbox hg_ hk_; have nb6_3 : kE ≠ nX := (by have := NN.1;  omega); have nb3_6 : nX ≠ kE := (by have := NN.1;  omega); have nb6_5 : kE ≠ AQ := (by have := NN.1;  omega); have nb5_6 : AQ ≠ kE := (by have := NN.1;  omega); (try clear Z6); have Z6 := cz2 gY; (try clear Z3); have Z3 := cz2 gR) | ((with_reducible refine gC 36 ?_); refine cQ (some 12) Tryz.func36 (aI.calls k _ _ l0 _ _ l1 true _ (Kd.aM cS.1 HB.1) cO.1 (Kd.aM bE.1 HB.1) dL.1 D1.1) ?_; rintro W4 hb; have HB0 := am (show w.heap.size ≤ W3.heap.size from HB.1.size); have hk_ : Kept W3 W4 (fun _ => False) := Kept.noth hb; replace NN := nn NN (show W3.heap.size ≤ W4.heap.size from hk_.1); replace gR := kB gR hk_; replace qK := kB qK hk_; replace gY := kB gY hk_; replace HB := bS HB.1 hb; clear hb hk_; (try clear Z3); have Z3 := cz2 gR; (try clear Z6); have Z6 := cz2 gY; clear HB0) | ((with_reducible refine gC 71 ?_); refine cE (some 16) Tryz.func71 (d9.calls k _ _ l0 _ _ l1 c1a c1b _ (Kd.aM cS.1 HB.1) cO.1 (Kd.aM bE.1 HB.1) dL.1 D2.1) ?_; rintro e_ W5 ⟨_, _, rfl, hD, pP, hb⟩; refine ⟨_, rfl, ?_⟩; have HB0 := am (show w.heap.size ≤ W4.heap.size from HB.1.size); have hk_ : Kept W4 W5 (fun _ => False) := Kept.noth hb; replace NN := nn NN (show W4.heap.size ≤ W5.heap.size from hk_.1); replace gR := kB gR hk_; replace qK := kB qK hk_; replace gY := kB gY hk_; replace HB := bS HB.1 hb; have KC := am (BkS.made (n := W4.heap.size) hD pP (HB0.out) (Nat.le_refl _)); clear hD pP; obtain ⟨Ac0, cc0, Ac1, cc1, e0_, e1_⟩ := KC.out.slices; subst e0_; subst e1_; clear hb hk_; (try clear Z3); have Z3 := cz2 gR; (try clear Z6); have Z6 := cz2 gY; clear HB0) | ((with_reducible refine gD 8 ?_); refine bX 8 #[.slice none 0 0, .slice none 0 0] 31 ?_; intro kI hg_ W6 hbox hb; have hk_ : Kept W5 W6 (fun _ => False) := Kept.noth hb; replace NN := nn NN (show W5.heap.size ≤ W6.heap.size from hk_.1); have CH := am (show w.heap.size ≤ kI from Nat.le_trans HB.1.size (Nat.le_of_eq hg_.symm)); replace NN := nn NN (show W5.heap.size ≤ kI from Nat.le_of_eq hg_.symm); replace NN := nn NN (show kI < W6.heap.size from dU hbox); replace KC := am (BkS.kept KC.out hk_ (fun _ _ _ h => h)); replace gR := kB gR hk_; replace qK := kB qK hk_; replace gY := kB gY hk_; replace HB := bS HB.1 hb; have kO := am hbox; clear hb hbox hg_ hk_; have nb8_3 : kI ≠ nX := (by have := NN.1;  omega); have nb3_8 : nX ≠ kI := (by have := NN.1;  omega); have nb8_5 : kI ≠ AQ := (by have := NN.1;  omega); have nb5_8 : AQ ≠ kI := (by have := NN.1;  omega); have nb8_6 : kI ≠ kE := (by have := NN.1;  omega); have nb6_8 : kE ≠ kI := (by have := NN.1;  omega); (try clear Z8); have Z8 := cz2 kO; (try clear Z3); have Z3 := cz2 gR; (try clear Z6); have Z6 := cz2 gY) | ((with_reducible refine gC 72 ?_); refine cQ (some 19) Tryz.func72 (eP.calls _ _ l0 _ _ l1 a1 i _ (Kd.aM cS.1 (aJ (aJ HB.1 CH.1) CH.1)) cO.1 (Kd.aM bE.1 (aJ (aJ HB.1 CH.1) CH.1)) dL.1 D3.1) ?_; rintro W7 hb; have HB0 := am (show w.heap.size ≤ W6.heap.size from HB.1.size); have hk_ : Kept W6 W7 (fun k => k = kI) := (Kept.two (w := W6) (g := kI) 0 1 (.slice Ac0 c1a.length cc0) (.slice Ac1 c1b.length cc1)).below hb; replace NN := nn NN (show W6.heap.size ≤ W7.heap.size from hk_.1); replace KC := am (BkS.kept KC.out hk_ (fun k_ h1_ h2_ e_ => by have := NN.1;  omega)); replace gR := am (dO gR.1 hk_ (fun e_ => by have := NN.1;  omega)); replace qK := am (dO qK.1 hk_ (fun e_ => by have := NN.1;  omega)); replace gY := am (dO gY.1 hk_ (fun e_ => by have := NN.1;  omega)); replace kO := am (aV (g := kI) (o := .cells #[.slice Ac0 c1a.length cc0, .slice Ac1 c1b.length cc1] 31 (0, 0)) (bD (cs := #[.slice Ac0 c1a.length cc0, .slice none 0 0]) (bD (cs := #[.slice none 0 0, .slice none 0 0]) kO.1 0 _ rfl) 1 _ rfl) hb); replace HB := am (dG (aJ (aJ HB.1 CH.1) CH.1) hb); clear hb hk_; (try clear Z8); have Z8 := cz2 kO; (try clear Z6); have Z6 := cz2 gY; clear HB0))
  (try simp only [Exit.inBlock, Exit.then]); refine cT kE 31 #[.slice Ac0 c1a.length cc0, .slice Ac1 c1b.length cc1] (bD (cs := #[.slice Ac0 c1a.length cc0, .slice none 0 0]) (bD (cs := #[.slice none 0 0, .slice none 0 0]) (gY.1) 0 _ rfl) 1 _ rfl) Tryz.underlying31 ?_
  have hK_ := BkS.kept KC.out (Kept.two (w := W7) (g := kE) 0 1 (.slice Ac0 c1a.length cc0) (.slice Ac1 c1b.length cc1)) (fun k_ h1_ h2_ e_ => by have := NN.1;  omega)
  exact ⟨_, _, rfl, Kd.bG hK_.1 (fun _ _ => trivial), Kd.fU hK_.2 (fun _ h_ => h_.2), aJ (aJ HB.1 y8.1) y8.1⟩
 rw [if_neg cj] at H
 have VM : decide (i < 0) = false := decide_eq_false cj
 have c0 : 0 ≤ i := by omega
 obtain ⟨⟨c3, c4⟩, H⟩ := WL H
 obtain ⟨q, D4, H⟩ := bd H
 obtain ⟨ad, A1e, c1e, A2e, c2e, ea, EI, MQ, Si, l1e, r1e, l2e, r2e⟩ := AY bE.1 i c0 c3
 subst ea
 clear EI MQ l1e r1e
 have L2E := am l2e
 have R2E := am r2e
 clear l2e r2e
 have HX2 := am Si
 clear Si
 have c0b : decide (0 ≤ i) = true := decide_eq_true c0
 have c3b : decide (i < (l1.length : Int)) = true := decide_eq_true c3
 have c4b : decide (i < (c1b.length : Int)) = true := decide_eq_true c4
 have p6 := eq_true c0
 have q6 := eq_true c3
 have q7 := eq_true c4
 by_cases c5 : q = false
 ·subst c5
  rw [if_neg (by simp)] at H
  obtain ⟨rfl, rfl, rfl⟩ := sZ3 H
  repeat clear H
  go_enter Tryz.func40, Tryz.ntmps40
  try go_wp2_with (first | ((with_reducible refine gD 3 ?_); refine bX 3 #[.slice dD l0.length dE, .slice (some ad) l1.length dB] 31 ?_; intro nX hg_ W1 hbox hb; have hk_ : Kept w W1 (fun _ => False) := Kept.noth hb; replace NN := nn NN (show w.heap.size ≤ W1.heap.size from hk_.1); have Mi := am (show w.heap.size ≤ nX from Nat.le_trans HB.1.size (Nat.le_of_eq hg_.symm)); replace NN := nn NN (show w.heap.size ≤ nX from Nat.le_of_eq hg_.symm); replace NN := nn NN (show nX < W1.heap.size from dU hbox); replace HB := bS HB.1 hb; have gR := am hbox; clear hb hbox hg_ hk_; (try clear Z3); have Z3 := cz2 gR) | ((with_reducible refine gD 5 ?_); refine bX 5 #[.slice A2 l2.length c2] 27 ?_; intro AQ hg_ W2 hbox hb; have hk_ : Kept W1 W2 (fun _ => False) := Kept.noth hb; replace NN := nn NN (show W1.heap.size ≤ W2.heap.size from hk_.1); have ny := am (show w.heap.size ≤ AQ from Nat.le_trans HB.1.size (Nat.le_of_eq hg_.symm)); replace NN := nn NN (show W1.heap.size ≤ AQ from Nat.le_of_eq hg_.symm); replace NN := nn NN (show AQ < W2.heap.size from dU hbox); replace gR := kB gR hk_; replace HB := bS HB.1 hb; have qK := am hbox; clear hb hbox hg_ hk_; have nb5_3 : AQ ≠ nX := (by have := NN.1;  omega); have nb3_5 : nX ≠ AQ := (by have := NN.1;  omega); (try clear Z5); have Z5 := cz1 qK) | ((with_reducible refine gD 6 ?_); refine bX 6 #[.slice none 0 0, .slice none 0 0] 31 ?_; intro kE hg_ W3 hbox hb; have hk_ : Kept W2 W3 (fun _ => False) := Kept.noth hb; replace NN := nn NN (show W2.heap.size ≤ W3.heap.size from hk_.1); have y8 := am (show w.heap.size ≤ kE from Nat.le_trans HB.1.size (Nat.le_of_eq hg_.symm)); replace NN := nn NN (show W2.heap.size ≤ kE from Nat.le_of_eq hg_.symm); replace NN := nn NN (show kE < W3.heap.size from dU hbox); replace gR := kB gR hk_; replace qK := kB qK hk_; replace HB := bS HB.1 hb; have gY := am hbox; clear hb hbox hg_ hk_; have nb6_3 : kE ≠ nX := (by have := NN.1;  omega); have nb3_6 : nX ≠ kE := (by have := NN.1;  omega); have nb6_5 : kE ≠ AQ := (by have := NN.1;  omega); have nb5_6 : AQ ≠ kE := (by have := NN.1;  omega); (try clear Z6); have Z6 := cz2 gY; (try clear Z3); have Z3 := cz2 gR) | ((with_reducible refine gC 36 ?_); refine cQ (some 12) Tryz.func36 (aI.calls k _ _ l0 _ _ l1 true _ (Kd.aM cS.1 HB.1) cO.1 (Kd.aM bE.1 HB.1) dL.1 D1.1) ?_; rintro W4 hb; have HB0 := am (show w.heap.size ≤ W3.heap.size from HB.1.size); have hk_ : Kept W3 W4 (fun _ => False) := Kept.noth hb; replace NN := nn NN (show W3.heap.size ≤ W4.heap.size from hk_.1); replace gR := kB gR hk_; replace qK := kB qK hk_; replace gY := kB gY hk_; replace HB := bS HB.1 hb; clear hb hk_; (try clear Z3); have Z3 := cz2 gR; (try clear Z6); have Z6 := cz2 gY; clear HB0) | ((with_reducible refine gC 71 ?_); refine cE (some 16) Tryz.func71 (d9.calls k _ _ l0 _ _ l1 c1a c1b _ (Kd.aM cS.1 HB.1) cO.1 (Kd.aM bE.1 HB.1) dL.1 D2.1) ?_; rintro e_ W5 ⟨_, _, rfl, hD, pP, hb⟩; refine ⟨_, rfl, ?_⟩; have HB0 := am (show w.heap.size ≤ W4.heap.size from HB.1.size); have hk_ : Kept W4 W5 (fun _ => False) := Kept.noth hb; replace NN := nn NN (show W4.heap.size ≤ W5.heap.size from hk_.1); replace gR := kB gR hk_; replace qK := kB qK hk_; replace gY := kB gY hk_; replace HB := bS HB.1 hb; have KC := am (BkS.made (n := W4.heap.size) hD pP (HB0.out) (Nat.le_refl _)); clear hD pP; obtain ⟨Ac0, cc0, Ac1, cc1, e0_, e1_⟩ := KC.out.slices; subst e0_; subst e1_; clear hb hk_; (try clear Z3); have Z3 := cz2 gR; (try clear Z6); have Z6 := cz2 gY; clear HB0) | ((with_reducible refine gD 8 ?_); refine bX 8 #[.slice none 0 0, .slice none 0 0] 31 ?_; intro kI hg_ W6 hbox hb; have hk_ : Kept W5 W6 (fun _ => False) := Kept.noth hb; replace NN := nn NN (show W5.heap.size ≤ W6.heap.size from hk_.1); have CH := am (show w.heap.size ≤ kI from Nat.le_trans HB.1.size (Nat.le_of_eq hg_.symm)); replace NN := nn NN (show W5.heap.size ≤ kI from Nat.le_of_eq hg_.symm); replace NN := nn NN (show kI < W6.heap.size from dU hbox); replace KC := am (BkS.kept KC.out hk_ (fun _ _ _ h => h)); replace gR := kB gR hk_; replace qK := kB qK hk_; replace gY := kB gY hk_; replace HB := bS HB.1 hb; have kO := am hbox; clear hb hbox hg_ hk_; have nb8_3 : kI ≠ nX := (by have := NN.1;  omega); have nb3_8 : nX ≠ kI := (by have := NN.1;  omega); have nb8_5 : kI ≠ AQ := (by have := NN.1;  omega); have nb5_8 : AQ ≠ kI := (by have := NN.1;  omega); have nb8_6 : kI ≠ kE := (by have := NN.1;  omega); have nb6_8 : kE ≠ kI := (by have := NN.1;  omega); (try clear Z8); have Z8 := cz2 kO; (try clear Z3); have Z3 := cz2 gR; (try clear Z6); have Z6 := cz2 gY) | ((with_reducible refine gC 72 ?_); refine cQ (some 19) Tryz.func72 (eP.calls _ _ l0 _ _ l1 a1 i _ (Kd.aM cS.1 (aJ (aJ HB.1 CH.1) CH.1)) cO.1 (Kd.aM bE.1 (aJ (aJ HB.1 CH.1) CH.1)) dL.1 D3.1) ?_; rintro W7 hb; have HB0 := am (show w.heap.size ≤ W6.heap.size from HB.1.size); have hk_ : Kept W6 W7 (fun k => k = kI) := (Kept.two (w := W6) (g := kI) 0 1 (.slice Ac0 c1a.length cc0) (.slice Ac1 c1b.length cc1)).below hb; replace NN := nn NN (show W6.heap.size ≤ W7.heap.size from hk_.1); replace KC := am (BkS.kept KC.out hk_ (fun k_ h1_ h2_ e_ => by have := NN.1;  omega)); replace gR := am (dO gR.1 hk_ (fun e_ => by have := NN.1;  omega)); replace qK := am (dO qK.1 hk_ (fun e_ => by have := NN.1;  omega)); replace gY := am (dO gY.1 hk_ (fun e_ => by have := NN.1;  omega)); replace kO := am (aV (g := kI) (o := .cells #[.slice Ac0 c1a.length cc0, .slice Ac1 c1b.length cc1] 31 (0, 0)) (bD (cs := #[.slice Ac0 c1a.length cc0, .slice none 0 0]) (bD (cs := #[.slice none 0 0, .slice none 0 0]) kO.1 0 _ rfl) 1 _ rfl) hb); replace HB := am (dG (aJ (aJ HB.1 CH.1) CH.1) hb); clear hb hk_; (try clear Z8); have Z8 := cz2 kO; (try clear Z6); have Z6 := cz2 gY; clear HB0))
  have n0_ := am (BkS.kept KC.out (w' := W7.drew) (Kept.noth (aU (Below.refl _ _))) (fun _ _ _ h => h))
  have n1_ := BD gR
  have n2_ := BD qK
  have n3_ := BD gY
  have n4_ := BD kO
  have n5_ := am (aU HB.1)
  have nle_ := am (show W7.heap.size ≤ W7.drew.heap.size from Nat.le_refl _)
  clear KC gR qK gY kO HB
  have KC := n0_
  have gR := n1_
  have qK := n2_
  have gY := n3_
  have kO := n4_
  have HB := n5_
  clear n0_ n1_ n2_ n3_ n4_ n5_
  refine sT (S := fun w' => w'.cell? ⟨AQ, 0, none⟩ = some (.slice A2 l2.length c2) ∧ w'.cell? ⟨nX, 0, none⟩ = some (.slice dD l0.length dE) ∧ w'.cell? ⟨nX, 1, none⟩ = some (.slice (some ad) l1.length dB) ∧ w'.cell? ⟨(ad.add (i.toNat * 3)).block, (ad.add (i.toNat * 3)).off + 2, none⟩ = some (.slice A2e (aA l1 i).f2.length c2e)) [] 10 ⟨⟨(aH qK.1 0).trans rfl, (aH gR.1 0).trans rfl, (aH gR.1 1).trans rfl, (HB.1.cell (World.block_lt_of_cell? w _ HX2.out)).trans HX2.out⟩⟩ (fun hHeld => ?_)
  generalize W7.drew = W8 at KC gR qK gY kO HB nle_ hHeld ⊢
  have FF := nle_
  clear nle_
  refine tK4_ 0 (some 25) ?_
  refine pU0 1 (some 26) ?_
  refine tK4_ 2 (some 27) ?_
  refine pU0 3 (some 28) ?_
  refine pU0 4 (some 29) ?_
  refine pU0 5 (some 30) ?_
  refine tK4_ 6 (some 31) ?_
  refine oM 7 (some 32) fun K hK => ?_
  refine gQ Tryz.func65 (gP.calls k _ _ l2 _ _ (aA l1 i).f2 false _ (Kd.aM pL.1 HB.1) pK.1 (Kd.aM R2E.out HB.1) L2E.out D4.1) ?_
  rintro W9 hb
  obtain ⟨nd_, hd_⟩ := hb; have hb : Below W8.heap.size W8 W9 := hd_ ▸ bK (Below.refl _ _) nd_; clear hd_ nd_
  have HB0 := am (show w.heap.size ≤ W8.heap.size from HB.1.size)
  have hk_ : Kept W8 W9 (fun _ => False) := Kept.noth hb
  have SF := am (show W8.heap.size ≤ W9.heap.size from hk_.1); replace NN := nn NN SF.1
  replace KC := am (BkS.kept KC.out hk_ (fun _ _ _ h => h))
  replace gR := kB gR hk_
  replace qK := kB qK hk_
  replace gY := kB gY hk_
  replace kO := kB kO hk_
  replace HB := bS HB.1 hb
  clear hb hk_ HB0
  refine hK.out _ _ ⟨(aH qK.1 0).trans rfl, (aH gR.1 0).trans rfl, (aH gR.1 1).trans rfl, (HB.1.cell (World.block_lt_of_cell? w _ HX2.out)).trans HX2.out⟩ (fun hHeld => ?_)
  clear hK K
  refine nM ?_
  refine pU0 8 (some 33) ?_
  refine pU0 9 (some 24) ?_
  refine qO (by kernel_rfl) ?_
  (try clear Z8)
  have Z8 := cz2 kO
  (try clear Z6)
  have Z6 := cz2 gY
  go_wp2
  (try simp only [Exit.inBlock, Exit.then]); refine cT kE 31 #[.slice Ac0 c1a.length cc0, .slice Ac1 c1b.length cc1] (bD (cs := #[.slice Ac0 c1a.length cc0, .slice none 0 0]) (bD (cs := #[.slice none 0 0, .slice none 0 0]) (gY.1) 0 _ rfl) 1 _ rfl) Tryz.underlying31 ?_
  have hK_ := BkS.kept KC.out (Kept.two (w := W9) (g := kE) 0 1 (.slice Ac0 c1a.length cc0) (.slice Ac1 c1b.length cc1)) (fun k_ h1_ h2_ e_ => by have := NN.1; have := FF.1; have := SF.1;  omega)
  exact ⟨_, _, rfl, Kd.bG hK_.1 (fun _ _ => trivial), Kd.fU hK_.2 (fun _ h_ => h_.2), aJ (aJ HB.1 y8.1) y8.1⟩
 have c5 : q = true := by simpa using c5
 rw [if_pos c5] at H
 subst c5
 obtain ⟨nd, D5, H⟩ := bd H
 obtain ⟨rfl, rfl, rfl⟩ := sZ3 H
 repeat clear H
 go_enter Tryz.func40, Tryz.ntmps40
 try go_wp2_with (first | ((with_reducible refine gD 3 ?_); refine bX 3 #[.slice dD l0.length dE, .slice (some ad) l1.length dB] 31 ?_; intro nX hg_ W1 hbox hb; have hk_ : Kept w W1 (fun _ => False) := Kept.noth hb; replace NN := nn NN (show w.heap.size ≤ W1.heap.size from hk_.1); have Mi := am (show w.heap.size ≤ nX from Nat.le_trans HB.1.size (Nat.le_of_eq hg_.symm)); replace NN := nn NN (show w.heap.size ≤ nX from Nat.le_of_eq hg_.symm); replace NN := nn NN (show nX < W1.heap.size from dU hbox); replace HB := bS HB.1 hb; have gR := am hbox; clear hb hbox hg_ hk_; (try clear Z3); have Z3 := cz2 gR) | ((with_reducible refine gD 5 ?_); refine bX 5 #[.slice A2 l2.length c2] 27 ?_; intro AQ hg_ W2 hbox hb; have hk_ : Kept W1 W2 (fun _ => False) := Kept.noth hb; replace NN := nn NN (show W1.heap.size ≤ W2.heap.size from hk_.1); have ny := am (show w.heap.size ≤ AQ from Nat.le_trans HB.1.size (Nat.le_of_eq hg_.symm)); replace NN := nn NN (show W1.heap.size ≤ AQ from Nat.le_of_eq hg_.symm); replace NN := nn NN (show AQ < W2.heap.size from dU hbox); replace gR := kB gR hk_; replace HB := bS HB.1 hb; have qK := am hbox; clear hb hbox hg_ hk_; have nb5_3 : AQ ≠ nX := (by have := NN.1;  omega); have nb3_5 : nX ≠ AQ := (by have := NN.1;  omega); (try clear Z5); have Z5 := cz1 qK) | ((with_reducible refine gD 6 ?_); refine bX 6 #[.slice none 0 0, .slice none 0 0] 31 ?_; intro kE hg_ W3 hbox hb; have hk_ : Kept W2 W3 (fun _ => False) := Kept.noth hb; replace NN := nn NN (show W2.heap.size ≤ W3.heap.size from hk_.1); have y8 := am (show w.heap.size ≤ kE from Nat.le_trans HB.1.size (Nat.le_of_eq hg_.symm)); replace NN := nn NN (show W2.heap.size ≤ kE from Nat.le_of_eq hg_.symm); replace NN := nn NN (show kE < W3.heap.size from dU hbox); replace gR := kB gR hk_; replace qK := kB qK hk_; replace HB := bS HB.1 hb; have gY := am hbox; clear hb hbox hg_ hk_; have nb6_3 : kE ≠ nX := (by have := NN.1;  omega); have nb3_6 : nX ≠ kE := (by have := NN.1;  omega); have nb6_5 : kE ≠ AQ := (by have := NN.1;  omega); have nb5_6 : AQ ≠ kE := (by have := NN.1;  omega); (try clear Z6); have Z6 := cz2 gY; (try clear Z3); have Z3 := cz2 gR) | ((with_reducible refine gC 36 ?_); refine cQ (some 12) Tryz.func36 (aI.calls k _ _ l0 _ _ l1 true _ (Kd.aM cS.1 HB.1) cO.1 (Kd.aM bE.1 HB.1) dL.1 D1.1) ?_; rintro W4 hb; have HB0 := am (show w.heap.size ≤ W3.heap.size from HB.1.size); have hk_ : Kept W3 W4 (fun _ => False) := Kept.noth hb; replace NN := nn NN (show W3.heap.size ≤ W4.heap.size from hk_.1); replace gR := kB gR hk_; replace qK := kB qK hk_; replace gY := kB gY hk_; replace HB := bS HB.1 hb; clear hb hk_; (try clear Z3); have Z3 := cz2 gR; (try clear Z6); have Z6 := cz2 gY; clear HB0) | ((with_reducible refine gC 71 ?_); refine cE (some 16) Tryz.func71 (d9.calls k _ _ l0 _ _ l1 c1a c1b _ (Kd.aM cS.1 HB.1) cO.1 (Kd.aM bE.1 HB.1) dL.1 D2.1) ?_; rintro e_ W5 ⟨_, _, rfl, hD, pP, hb⟩; refine ⟨_, rfl, ?_⟩; have HB0 := am (show w.heap.size ≤ W4.heap.size from HB.1.size); have hk_ : Kept W4 W5 (fun _ => False) := Kept.noth hb; replace NN := nn NN (show W4.heap.size ≤ W5.heap.size from hk_.1); replace gR := kB gR hk_; replace qK := kB qK hk_; replace gY := kB gY hk_; replace HB := bS HB.1 hb; have KC := am (BkS.made (n := W4.heap.size) hD pP (HB0.out) (Nat.le_refl _)); clear hD pP; obtain ⟨Ac0, cc0, Ac1, cc1, e0_, e1_⟩ := KC.out.slices; subst e0_; subst e1_; clear hb hk_; (try clear Z3); have Z3 := cz2 gR; (try clear Z6); have Z6 := cz2 gY; clear HB0) | ((with_reducible refine gD 8 ?_); refine bX 8 #[.slice none 0 0, .slice none 0 0] 31 ?_; intro kI hg_ W6 hbox hb; have hk_ : Kept W5 W6 (fun _ => False) := Kept.noth hb; replace NN := nn NN (show W5.heap.size ≤ W6.heap.size from hk_.1); have CH := am (show w.heap.size ≤ kI from Nat.le_trans HB.1.size (Nat.le_of_eq hg_.symm)); replace NN := nn NN (show W5.heap.size ≤ kI from Nat.le_of_eq hg_.symm); replace NN := nn NN (show kI < W6.heap.size from dU hbox); replace KC := am (BkS.kept KC.out hk_ (fun _ _ _ h => h)); replace gR := kB gR hk_; replace qK := kB qK hk_; replace gY := kB gY hk_; replace HB := bS HB.1 hb; have kO := am hbox; clear hb hbox hg_ hk_; have nb8_3 : kI ≠ nX := (by have := NN.1;  omega); have nb3_8 : nX ≠ kI := (by have := NN.1;  omega); have nb8_5 : kI ≠ AQ := (by have := NN.1;  omega); have nb5_8 : AQ ≠ kI := (by have := NN.1;  omega); have nb8_6 : kI ≠ kE := (by have := NN.1;  omega); have nb6_8 : kE ≠ kI := (by have := NN.1;  omega); (try clear Z8); have Z8 := cz2 kO; (try clear Z3); have Z3 := cz2 gR; (try clear Z6); have Z6 := cz2 gY) | ((with_reducible refine gC 72 ?_); refine cQ (some 19) Tryz.func72 (eP.calls _ _ l0 _ _ l1 a1 i _ (Kd.aM cS.1 (aJ (aJ HB.1 CH.1) CH.1)) cO.1 (Kd.aM bE.1 (aJ (aJ HB.1 CH.1) CH.1)) dL.1 D3.1) ?_; rintro W7 hb; have HB0 := am (show w.heap.size ≤ W6.heap.size from HB.1.size); have hk_ : Kept W6 W7 (fun k => k = kI) := (Kept.two (w := W6) (g := kI) 0 1 (.slice Ac0 c1a.length cc0) (.slice Ac1 c1b.length cc1)).below hb; replace NN := nn NN (show W6.heap.size ≤ W7.heap.size from hk_.1); replace KC := am (BkS.kept KC.out hk_ (fun k_ h1_ h2_ e_ => by have := NN.1;  omega)); replace gR := am (dO gR.1 hk_ (fun e_ => by have := NN.1;  omega)); replace qK := am (dO qK.1 hk_ (fun e_ => by have := NN.1;  omega)); replace gY := am (dO gY.1 hk_ (fun e_ => by have := NN.1;  omega)); replace kO := am (aV (g := kI) (o := .cells #[.slice Ac0 c1a.length cc0, .slice Ac1 c1b.length cc1] 31 (0, 0)) (bD (cs := #[.slice Ac0 c1a.length cc0, .slice none 0 0]) (bD (cs := #[.slice none 0 0, .slice none 0 0]) kO.1 0 _ rfl) 1 _ rfl) hb); replace HB := am (dG (aJ (aJ HB.1 CH.1) CH.1) hb); clear hb hk_; (try clear Z8); have Z8 := cz2 kO; (try clear Z6); have Z6 := cz2 gY; clear HB0))
 have n0_ := am (BkS.kept KC.out (w' := W7.drew) (Kept.noth (aU (Below.refl _ _))) (fun _ _ _ h => h))
 have n1_ := BD gR
 have n2_ := BD qK
 have n3_ := BD gY
 have n4_ := BD kO
 have n5_ := am (aU HB.1)
 have nle_ := am (show W7.heap.size ≤ W7.drew.heap.size from Nat.le_refl _)
 clear KC gR qK gY kO HB
 have KC := n0_
 have gR := n1_
 have qK := n2_
 have gY := n3_
 have kO := n4_
 have HB := n5_
 clear n0_ n1_ n2_ n3_ n4_ n5_
 refine sT (S := fun w' => w'.cell? ⟨AQ, 0, none⟩ = some (.slice A2 l2.length c2) ∧ w'.cell? ⟨nX, 0, none⟩ = some (.slice dD l0.length dE) ∧ w'.cell? ⟨nX, 1, none⟩ = some (.slice (some ad) l1.length dB) ∧ w'.cell? ⟨(ad.add (i.toNat * 3)).block, (ad.add (i.toNat * 3)).off + 2, none⟩ = some (.slice A2e (aA l1 i).f2.length c2e)) [] 10 ⟨⟨(aH qK.1 0).trans rfl, (aH gR.1 0).trans rfl, (aH gR.1 1).trans rfl, (HB.1.cell (World.block_lt_of_cell? w _ HX2.out)).trans HX2.out⟩⟩ (fun hHeld => ?_)
 generalize W7.drew = W8 at KC gR qK gY kO HB nle_ hHeld ⊢
 have FF := nle_
 clear nle_
 refine tK4_ 0 (some 25) ?_
 refine pU0 1 (some 26) ?_
 refine tK4_ 2 (some 27) ?_
 refine pU0 3 (some 28) ?_
 refine pU0 4 (some 29) ?_
 refine pU0 5 (some 30) ?_
 refine tK4_ 6 (some 31) ?_
 refine oM 7 (some 32) fun K hK => ?_
 refine gQ Tryz.func65 (gP.calls k _ _ l2 _ _ (aA l1 i).f2 true _ (Kd.aM pL.1 HB.1) pK.1 (Kd.aM R2E.out HB.1) L2E.out D4.1) ?_
 rintro W9 hb
 obtain ⟨nd_, hd_⟩ := hb; have hb : Below W8.heap.size W8 W9 := hd_ ▸ bK (Below.refl _ _) nd_; clear hd_ nd_
 have HB0 := am (show w.heap.size ≤ W8.heap.size from HB.1.size)
 have hk_ : Kept W8 W9 (fun _ => False) := Kept.noth hb
 have SF := am (show W8.heap.size ≤ W9.heap.size from hk_.1); replace NN := nn NN SF.1
 replace KC := am (BkS.kept KC.out hk_ (fun _ _ _ h => h))
 replace gR := kB gR hk_
 replace qK := kB qK hk_
 replace gY := kB gY hk_
 replace kO := kB kO hk_
 replace HB := bS HB.1 hb
 clear hb hk_ HB0
 refine hK.out _ _ ⟨(aH qK.1 0).trans rfl, (aH gR.1 0).trans rfl, (aH gR.1 1).trans rfl, (HB.1.cell (World.block_lt_of_cell? w _ HX2.out)).trans HX2.out⟩ (fun hHeld => ?_)
 clear hK K
 refine nM ?_
 refine pU0 8 (some 33) ?_
 refine pU0 9 (some 24) ?_
 refine qO (by kernel_rfl) ?_
 (try clear Z8)
 have Z8 := cz2 kO
 (try clear Z5)
 have Z5 := cz1 qK
 obtain ⟨go, cgo, e0_, _, _, _⟩ := Kd.NM KC.out.2 (by omega)
 injection e0_ with ea_ _ ec_
 subst ea_; subst ec_
 generalize hxx : aA c1b i = x
 have HXX := am hxx
 clear hxx
 have HB0_ := am (show w.heap.size ≤ W4.heap.size from (by have := NN.1; omega))
 go_wp2_with (first | ((with_reducible refine gC 35 ?_); refine cE (some 41) Tryz.func35 (bU.calls _ _ l2 nd _ (Kd.aM pL.1 HB.1) pK.1 D5.1) ?_; rintro e_ W10 ⟨_, rfl, hD, hb⟩; refine ⟨_, rfl, ?_⟩; have HB0 := am (show w.heap.size ≤ W9.heap.size from HB.1.size); have hk_ : Kept W9 W10 (fun _ => False) := Kept.noth hb; replace NN := nn NN (show W9.heap.size ≤ W10.heap.size from hk_.1); replace KC := am (BkS.kept KC.out hk_ (fun _ _ _ h => h)); replace gR := kB gR hk_; replace qK := kB qK hk_; replace gY := kB gY hk_; replace kO := kB kO hk_; replace HB := bS HB.1 hb; have KN := am (RwS.made (n := W9.heap.size) hD (HB0.out) (Nat.le_refl _)); clear hD; obtain ⟨An0, cn0, e0_⟩ := KN.out.slices; subst e0_; clear hb hk_; (try clear Z8); have Z8 := cz2 kO; (try clear Z5); have Z5 := cz1 qK; clear HB0; obtain ⟨⟨Aq_, cq_, hq_⟩, hqf_, hqf1_⟩ := BkS.Rv KC.out i c0 c4; have hcq := hq_; have hfq := hqf_; clear hq_ hqf_ hqf1_; have ng3 : nX ≠ go := (by have h_ := ((Kd.S_R KC.out.2).1 go rfl).1; have := NN.1; have := FF.1; have := NN.1;  omega); have ng5 : AQ ≠ go := (by have h_ := ((Kd.S_R KC.out.2).1 go rfl).1; have := NN.1; have := FF.1; have := NN.1;  omega); have ng6 : kE ≠ go := (by have h_ := ((Kd.S_R KC.out.2).1 go rfl).1; have := NN.1; have := FF.1; have := NN.1;  omega); have ng8 : kI ≠ go := (by have h_ := ((Kd.S_R KC.out.2).1 go rfl).1; have := NN.1; have := FF.1; have := NN.1;  omega)) | ((with_reducible refine FT (t := 27) (p := 43) rfl ?_); refine DI (t := 27) (p := 43) (v := ?vo_) (w1 := (W10.setCell ⟨go, i.toNat * 3 + 2, none⟩ (.slice An0 nd.length cn0))) ?hg ?ho ?hn ?hr ?_; (case ho => rfl); (case hg => rfl); (case hn => rfl); (case hr => first | (go_simp; done) | (go_simp; rfl)); intro W11 hw; have hk_ : Kept W10 W11 (fun k => k = go) := (by rw [hw]; exact Kept.setCell (p := ⟨go, i.toNat * 3 + 2, none⟩) (Kept.refl W10 (fun k => k = go)) (Or.inl rfl) _); replace NN := nn NN (show W10.heap.size ≤ W11.heap.size from hk_.1); replace gR := am (dO gR.1 hk_ (fun e_ => by have h_ := (Kd.S_R KC.out.2).1 go rfl; have h2_ := h_.1; have := NN.1; have := FF.1; have := NN.1;  omega)); replace qK := am (dO qK.1 hk_ (fun e_ => by have h_ := (Kd.S_R KC.out.2).1 go rfl; have h2_ := h_.1; have := NN.1; have := FF.1; have := NN.1;  omega)); replace gY := am (dO gY.1 hk_ (fun e_ => by have h_ := (Kd.S_R KC.out.2).1 go rfl; have h2_ := h_.1; have := NN.1; have := FF.1; have := NN.1;  omega)); replace kO := am (dO kO.1 hk_ (fun e_ => by have h_ := (Kd.S_R KC.out.2).1 go rfl; have h2_ := h_.1; have := NN.1; have := FF.1; have := NN.1;  omega)); replace HB := am (show Below w.heap.size w W11 from (by rw [hw]; exact aJ HB.1 (by have h_ := (Kd.S_R KC.out.2).1 go rfl; have h2_ := h_.1; have h3_ := HB0_.out; have := NN.1; have := FF.1; have := NN.1;  show w.heap.size ≤ go; omega))); replace KC := am (show BkS w W11 W4.heap.size W10.heap.size (.slice Ac0 c1a.length cc0) (.slice (some ⟨go, 0, none⟩) c1b.length cc1) c1a _ from (by rw [hw]; exact BkS.needs KC.out KN.out (by have := NN.1; have := FF.1; have := NN.1;  omega) (by have := NN.1; have := FF.1; have := NN.1;  omega) i c0 c4)); clear KN hw; clear hk_; (try clear hcq hfq); rw [HXX.out] at KC; obtain ⟨Ah, ch, PH, hh1, hh2, hh3, hh4⟩ := BkS.has KC.out i c0 c4; rw [Pm c0 c4] at hh1 hh2 hh3 hh4; dsimp only at hh1 hh2 hh3 hh4; simp only [List.set_set] at hh4; obtain ⟨_, _, hhf⟩ := BkS.Rv KC.out i c0 c4; have HH2 := am hh2; have HH3 := am hh3; have HH4 := am hh4; clear hh2 hh3 hh4; (try clear Z8); have Z8 := cz2 kO; (try clear Z5); have Z5 := cz1 qK) | ((with_reducible refine gC 78 ?_); refine cQ (some 50) Tryz.func78 (NY 79 _ (enters_of Tryz.func79 (by kernel_rfl) rfl) (fun s => !hasS l2 s) PH Ah ch x.f1 w _ HB.1 HH2.out (Ea pK.1 qK.1 (fun e_ => Kd.R_ne HH2.out qK.1 (by decide) (HH3.out _ e_).2.2) pL.1)) ?_; rintro W12 ⟨hr_, hbb, hkk⟩; replace NN := nn NN (show W11.heap.size ≤ W12.heap.size from hkk.1); have HK4 := am (HH4.out W12 _ _ _ hkk hr_); have nb3_ := am (dO gR.1 hkk (fun e_ => Kd.R_ne HH2.out gR.1 (by decide) (HH3.out _ e_).2.2)); have nb5_ := am (dO qK.1 hkk (fun e_ => Kd.R_ne HH2.out qK.1 (by decide) (HH3.out _ e_).2.2)); have nb6_ := am (dO gY.1 hkk (fun e_ => Kd.R_ne HH2.out gY.1 (by decide) (HH3.out _ e_).2.2)); have nb8_ := am (dO kO.1 hkk (fun e_ => Kd.R_ne HH2.out kO.1 (by decide) (HH3.out _ e_).2.2)); have nc_ := (cell_kept hh1 hkk (fun e_ => (HH3.out _ e_).2.1 rfl)); have nf_ := hhf; have hg_ := am ((Kd.S_R KC.out.2).1 go rfl).1; have hgrow := am (show W12.frozen? ⟨go, i.toNat * 3 + 1, none⟩ = false from (by have h_ := (Kd.kQ KC.out.2) go rfl; obtain ⟨cc_, hc_⟩ := h_; exact bL (dO hc_ hkk (fun e_ => (HH3.out _ e_).2.1 rfl)) _)); clear HB hh1 hhf nf_ KC HH2 HH4 hr_ gR qK gY kO; have HB := am hbb; clear hbb hkk; have gR := nb3_; have qK := nb5_; have gY := nb6_; have kO := nb8_; clear nb3_ nb5_ nb6_ nb8_; have hcg := nc_; clear nc_; have hfg := hgrow.out; (try clear Z8); have Z8 := cz2 kO) | ((with_reducible refine FT (t := 27) (p := 52) rfl ?_); refine DI (t := 27) (p := 52) (v := ?vo2_) (w1 := (W12.setCell ⟨go, i.toNat * 3 + 1, none⟩ (.slice Ah (x.f1.filter (fun s => !(!hasS l2 s))).length ch))) ?hg ?ho ?hn ?hr ?_; (case ho => rfl); (case hg => rfl); (case hn => rfl); (case hr => first | (go_simp; done) | (go_simp; rfl)); intro W13 hw; have hk_ : Kept W12 W13 (fun k => k = go) := (by rw [hw]; exact Kept.setCell (p := ⟨go, i.toNat * 3 + 1, none⟩) (Kept.refl W12 (fun k => k = go)) (Or.inl rfl) _); replace NN := nn NN (show W12.heap.size ≤ W13.heap.size from hk_.1); have KC := am (show BkS w W13 W4.heap.size W10.heap.size (.slice Ac0 c1a.length cc0) (.slice (some ⟨go, 0, none⟩) c1b.length cc1) c1a _ from (by rw [hw]; exact HK4.out)); replace gR := am (dO gR.1 hk_ (fun e_ => ng3 e_)); replace qK := am (dO qK.1 hk_ (fun e_ => ng5 e_)); replace gY := am (dO gY.1 hk_ (fun e_ => ng6 e_)); replace kO := am (dO kO.1 hk_ (fun e_ => ng8 e_)); replace HB := am (show Below w.heap.size w W13 from (by rw [hw]; exact aJ HB.1 (by have h2_ := hg_.out; have h3_ := HB0_.out; have := NN.1; have := FF.1; have := NN.1;  show w.heap.size ≤ go; omega))); clear HK4 hw; clear hk_; (try clear hcg hfg); (try clear Z8); have Z8 := cz2 kO; (try clear Z6); have Z6 := cz2 gY))
 (try simp only [Exit.inBlock, Exit.then]); refine cT kE 31 #[.slice Ac0 c1a.length cc0, .slice (some ⟨go, 0, none⟩) c1b.length cc1] (bD (cs := #[.slice Ac0 c1a.length cc0, .slice none 0 0]) (bD (cs := #[.slice none 0 0, .slice none 0 0]) (gY.1) 0 _ rfl) 1 _ rfl) Tryz.underlying31 ?_
 have hK_ := BkS.kept KC.out (Kept.two (w := W13) (g := kE) 0 1 (.slice Ac0 c1a.length cc0) (.slice (some ⟨go, 0, none⟩) c1b.length cc1)) (fun k_ h1_ h2_ e_ => by have := NN.1; have := FF.1; have := NN.1;  omega)
 have hS_ := hK_.2
 rw [← HXX.out] at hS_
 simp only [Bool.not_not] at hS_
 exact ⟨_, _, rfl, Kd.bG hK_.1 (fun _ _ => trivial), Kd.fU hS_ (fun _ h_ => h_.2), aJ (aJ HB.1 y8.1) y8.1⟩
def setN (bs : List IB) (i : Nat) (h n : List ByteArray) : List IB := bs.set i ⟨(gB bs i).f0, h, n⟩
def lI (ts : List ByteArray) (bs : List IB) (n : ByteArray) (needs : List ByteArray) : List ByteArray × List IB × Int :=
  if iY ts bs = true then
    (if atI bs n < 0 then (ts, bs, 3) else if kG needs (gB bs (atI bs n).toNat).f2 = true then (ts, setN bs (atI bs n).toNat ((gB bs (atI bs n).toNat).f1.filter (hasS needs)) needs, 0) else (ts, bs, 2))
  else ([], [], 1)
theorem RU {bs : List IB} {i : Nat} (hi : i < bs.length) (x : IB) : kM (bs.set i x) + (1 + (gB bs i).f1.length + (gB bs i).f2.length) = kM bs + (1 + x.f1.length + x.f2.length) := by
 have e := List.set_eq_take_append_cons_drop (l := bs) (i := i) (a := x)
 rw [if_pos hi] at e
 have e2 : bs = bs.take i ++ gB bs i :: bs.drop (i + 1) := by
  have := List.drop_eq_getElem_cons hi
  unfold gB; rw [getD_lt bs _ hi, ← this, List.take_append_drop]
 have e3 : kM bs = kM (bs.take i) + (1 + (gB bs i).f1.length + (gB bs i).f2.length + kM (bs.drop (i + 1))) := by
  rw [← xX, ← wY, ← e2]
 rw [e, wY, xX, e3]; omega
theorem O5 (p : ByteArray → Bool) (l : List ByteArray) : (l.filter p).length ≤ l.length := List.length_filter_le p l
theorem Ye {bs : List IB} {i : Nat} (hi : i < bs.length) (p : ByteArray → Bool) (needs : List ByteArray) : kM (setN bs i ((gB bs i).f1.filter p) needs) ≤ kM bs + needs.length := by
 have := RU hi ⟨(gB bs i).f0, (gB bs i).f1.filter p, needs⟩
 have h2 := O5 p (gB bs i).f1
 unfold setN; simp only at this; omega
theorem VU {l : List ByteArray} (p : ByteArray → Bool) {i : Nat} (h : i < l.length) : (l.take (i + 1)).filter p = (l.take i).filter p ++ (if p l[i] = true then [l[i]] else []) := by
 rw [List.take_succ_eq_append_getElem h, List.filter_append]
 cases hp : p l[i] <;> simp [hp]
theorem J9 (ts : List ByteArray) (bs : List IB) (n : ByteArray) (needs : List ByteArray) (h : ts.length + kM bs ≤ 1048576) (hn : needs.length ≤ 1048576) : Ev (fun k => eD.f k ts bs n needs) (lI ts bs n needs) := by
 have hz := J4 h
 have hl := hz.bs
 unfold eD.f lI
 refine Ev.bind (iW ts bs (by have := hz.ts; omega) (by omega) hz.bok) (Ev.test _ (fun hb => ?_) (fun hb => Ev.ret (by simp [hb])))
 rw [if_pos hb]
 refine Ev.bind (kC ts bs hz) (Ev.bind (uG ts bs n (by omega)) ?_)
 refine Ev.prop (fun hc => Ev.ret (by rw [if_pos hc])) (fun hc => ?_)
 rw [if_neg hc]
 obtain ⟨i, e, hi⟩ := CO bs n hc
 rw [e, Int.toNat_natCast]
 have hii := hz.at_ hi
 dsimp only
 refine Ev.pos (by omega) (Ev.pos (by omega) ?_)
 rw [gF]
 refine Ev.bind (nU needs _ (by omega) (by omega)) (Ev.test _ (fun ht => ?_) (fun ht => Ev.ret (by simp [ht])))
 rw [if_pos ht]
 have go : ∀ (d j : Nat), (gB bs i).f1.length - j = d → j ≤ (gB bs i).f1.length → Ev (fun k => eD.l0 k needs (i : Int) (((gB bs i).f1.take j).filter (hasS needs)) (j : Int) ts bs ts bs) (ts, setN bs i ((gB bs i).f1.filter (hasS needs)) needs, 0) := by
  intro d
  induction d with
  | zero =>
   intro j hd hj
   have hje : j = (gB bs i).f1.length := by omega
   refine Ev.step (fun k => eD.l0.eq_2 _ _ _ _ _ _ _ _ k) (Ev.pos (by omega) (Ev.pos (by omega) ?_))
   rw [gF]
   refine Ev.neg (by omega) (Ev.bind (uZ needs (by omega)) (Ev.pos (by omega) (Ev.bind (Ev.ret rfl) ?_)))
   have hset : ((bs.set i (⟨(gB bs i).f0, (gB bs i).f1, needs⟩ : IB)).set i ⟨(gB bs i).f0, (gB bs i).f1.filter (hasS needs), needs⟩) = setN bs i ((gB bs i).f1.filter (hasS needs)) needs := by rw [List.set_set]; rfl
   have hrd : aA (bs.set i (⟨(gB bs i).f0, (gB bs i).f1, needs⟩ : IB)) (i : Int) = ⟨(gB bs i).f0, (gB bs i).f1, needs⟩ := by
    unfold aA
    rw [Int.toNat_natCast, List.getD_eq_getElem?_getD, List.getElem?_set_self hi]; rfl
   rw [Int.toNat_natCast, hrd, List.take_of_length_le (by omega), hset]
   have hw := Ye hi (hasS needs) needs
   exact Ev.bind (kC ts _ (by unfold Bz; omega)) (Ev.ret rfl)
  | succ d ih =>
   intro j hd hj
   have hlt : j < (gB bs i).f1.length := by omega
   refine Ev.step (fun k => eD.l0.eq_2 _ _ _ _ _ _ _ _ k) (Ev.pos (by omega) (Ev.pos (by omega) ?_))
   rw [gF]
   refine Ev.pos (by omega) (Ev.pos (by omega) ?_)
   rw [kY, show gS (gB bs i).f1 j = (gB bs i).f1[j] from getD_lt _ _ hlt, iQ hlt (by omega)]
   have := ih (j + 1) (by omega) (by omega)
   rw [VU _ hlt] at this
   refine Ev.bind (lF needs _ (by omega)) (Ev.test _ (fun hp => Ev.pos ?_ ?_) (fun hp => ?_))
   ·have := O5 (hasS needs) ((gB bs i).f1.take j); rw [List.length_take] at this; omega
   ·rw [if_pos hp] at this; exact this
   ·rw [if_neg (by simp [hp]), List.append_nil] at this; exact this
 have := go (gB bs i).f1.length 0 (by omega) (by omega)
 exact this
theorem IY (ts : List ByteArray) (bs : List IB) (n : ByteArray) (needs : List ByteArray) (h : ts.length + kM bs ≤ 1048576) (hn : needs.length ≤ 1048576) : Ev (fun k => oK.f k ts bs n needs) (lI ts bs n needs) := by
 have hz := J4 h
 have hl := hz.bs
 unfold oK.f lI
 refine Ev.bind (iV ts bs (by have := hz.ts; omega) (by omega) hz.bok) (Ev.test _ (fun hb => ?_) (fun hb => Ev.ret (by simp [hb])))
 rw [if_pos hb]
 refine Ev.bind (oL ts bs hz) (Ev.bind (Ev.ret (s := atI bs n) rfl) ?_)
 refine Ev.prop (fun hc => Ev.ret (by rw [if_pos hc])) (fun hc => ?_)
 rw [if_neg hc]
 obtain ⟨i, e, hi⟩ := CO bs n hc
 rw [e, Int.toNat_natCast]
 have hii := hz.at_ hi
 refine Ev.pos ⟨by omega, by dsimp only; omega⟩ ?_
 rw [gF]
 refine Ev.bind (uY needs _ (by omega) (by omega)) (Ev.test _ (fun ht => ?_) (fun ht => Ev.ret (by simp [ht])))
 rw [if_pos ht]
 dsimp only
 exact Ev.bind (zR needs (by omega)) (Ev.ret (by simp [setN]))
def iJ.l0 : Nat → Int → List ByteArray → Int → List ByteArray → List (S66) → Option (Bool)
 | 0, _, _, _, _, _ => none
 | k + 1, c, d, a, e, b => if a < (b.length : Int) then (if a = c then (iJ.l0 k c d (wrap64 (a + 1)) e b) else (if 0 ≤ a then ((dW.f k ((aA b a).f1) d).bind fun g => (if g = true then (some true) else (iJ.l0 k c d (wrap64 (a + 1)) e b))) else (none))) else (some false)
def iJ.f (k : Nat) (aQ : List ByteArray) (aE : List (S66)) (a1 : Int) (l2 : List ByteArray) : Option (Bool) := iJ.l0 k a1 l2 0 aQ aE
theorem iJ.calls (k : Nat) (dD : Option Addr) (dE : Nat) (aQ : List ByteArray) (dS : Option Addr) (dB : Nat) (aE : List (S66)) (a1 : Int) (A2 : Option Addr) (c2 : Nat) (l2 : List ByteArray) (r : Bool) (w : World) (fL : Kd.C Kd.string w dD aQ.length aQ) (fJ : aQ.length ≤ dE) (fH : Kd.C k66 w dS aE.length aE) (fK : aE.length ≤ dB) (rP : Kd.C Kd.string w A2 l2.length l2) (mH : l2.length ≤ c2) (h : iJ.f k aQ aE a1 l2 = some r) :
  Calls Tryz.prog 56 #[.agg #[.slice dD aQ.length dE, .slice dS aE.length dB], .int .i64 a1, .slice A2 l2.length c2] w fun e w' => e = .returned (.bool r) ∧ Below w.heap.size w w' := by
 have hu31 := Tryz.underlying31
 obtain ⟨cS, cO⟩ := mZ2 fL fJ
 obtain ⟨bE, dL⟩ := mZ2 fH fK
 obtain ⟨pL, pK⟩ := mZ2 rP mH
 clear fL fJ fH fK rP mH
 have HB := am (Below.refl w.heap.size w)
 unfold iJ.f at h
 have H := h
 clear h
 have H' := am H
 repeat clear H
 go_enter Tryz.func56, Tryz.ntmps56
 go_wp2_with (first | ((with_reducible refine gD 3 ?_); refine bX 3 #[.slice dD aQ.length dE, .slice dS aE.length dB] 31 ?_; intro aZ hg w4 hbox hb; have aC := am hbox; have gU := am (nS : w.heap.size ≤ aZ); have iL := gU; replace HB := bS gL hb; clear hb hbox hg))
 go_loopg [7] k (fun kq v7 w' => ∃ (j8 : Int), v7 = .int .i64 j8 ∧ aD (iJ.l0 kq a1 l2 j8 aQ aE = some r) ∧ aD (kq ≤ k) ∧ aD (w'.heap[aZ]? = some (.cells #[(.slice dD aQ.length dE), (.slice dS aE.length dB)] 31 (0, 0))) ∧ aD (Below w.heap.size w w'))
 case atStart => exact ⟨(0), eS, H', ⟨Nat.le_refl _⟩, ⟨rB aC.1⟩, ⟨dQ⟩⟩
 clear H'
 try clear c2
 obtain ⟨j8, rfl, HA, HK1, aC, HB⟩ := hrel
 cases gk with
 | zero => exact absurd HA.out (by simp [iJ.l0])
 | succ k1 =>
  have H := HA.out
  clear HA
  simp only [iJ.l0] at H
  refine ic H ?_ ?_ <;> clear H <;> intro AZ H
  ·refine iq H ?_ ?_ <;> clear H <;> intro c6 CC VO H
   ·have H' := am H
    repeat clear H
    have Z7 := cz2 aC
    go_wp2
    go_roundg k1
    case measure => have := HK1.out; omega
    case rel => exact ⟨(wrap64 (j8 + 1)), eS, H', ⟨by have := HK1.out; omega⟩, ⟨rB aC.1⟩, ⟨dQ⟩⟩
   ·obtain ⟨EH, H⟩ := cN H
    obtain ⟨mQ, A9, H⟩ := bd H
    refine tC H ?_ ?_ <;> clear H <;> intro Ba H <;> subst Ba
    ·obtain rfl := Option.some.inj H
     repeat clear H
     have Lz := cz2 aC
     obtain ⟨n9, oW, pF, oX, pG, rT, o9, mZ, n3, nO, nN, qY, qX, EJ, EL⟩ := aT66 bE HB j8
     cases rT
     go_wp2_with (first | (go_at_call 53; refine cM (dW.calls k1 _ _ ((aA aE j8).f1) _ _ l2 true _ (pB nO) nN.1 (pB pL) pK.1 A9.out) ?_; rintro w' ⟨nd, rfl⟩))
     go_ret
     exact ⟨eR, dQ⟩
    ·have H' := am H
     repeat clear H
     have Nk := cz2 aC
     obtain ⟨n9, oW, pF, oX, pG, rT, o9, mZ, n3, nO, nN, qY, qX, EJ, EL⟩ := aT66 bE HB j8
     cases rT
     go_wp2_with (first | (go_at_call 53; refine cM (dW.calls k1 _ _ ((aA aE j8).f1) _ _ l2 false _ (pB nO) nN.1 (pB pL) pK.1 A9.out) ?_; rintro w' ⟨nd, rfl⟩))
     go_roundg k1
     case measure => have := HK1.out; omega
     case rel => exact ⟨(wrap64 (j8 + 1)), eS, H', ⟨by have := HK1.out; omega⟩, ⟨rB aC.1⟩, ⟨dQ⟩⟩
  ·obtain rfl := Option.some.inj H
   repeat clear H
   have Nl := cz2 aC
   go_wp2
   go_ret
   exact ⟨eR, dQ⟩
theorem UO {w : World} {b o : Nat} {v : Value} (h : w.cell? ⟨b, o, none⟩ = some v) : w.setCell ⟨b, o, none⟩ v = w := by
 have e : (w.setCell ⟨b, o, none⟩ v).heap = w.heap := by
  have h' : (match w.heap[b]? with | some (.cells c _ _) => c[o]? | _ => none) = some v := h
  show w.heap.modify b (fun | .cells c elem frozen => .cells (c.setIfInBounds o v) elem frozen | o => o) = w.heap
  apply Array.ext_getElem?
  intro i
  rw [Array.getElem?_modify]
  by_cases hi : b = i
  ·subst hi
   rw [if_pos rfl]
   cases hb : w.heap[b]? with
   | none => rfl
   | some ob =>
    rw [hb] at h'
    cases ob with
    | cells c el fr =>
     have h2 : c[o]? = some v := h'
     have : c.setIfInBounds o v = c := by
      apply Array.ext_getElem?
      intro j
      rw [Array.getElem?_setIfInBounds]
      by_cases hj : o = j
      ·subst hj
       rw [if_pos rfl, h2]
       by_cases hh : o < c.size
       ·rw [if_pos hh]
       ·rw [Array.getElem?_eq_none (by omega)] at h2; cases h2
      ·rw [if_neg hj]
     show some (Obj.cells (c.setIfInBounds o v) el fr) = _
     rw [this]
    | _ => rfl
  ·rw [if_neg hi]
 show { w with heap := (w.setCell ⟨b, o, none⟩ v).heap } = w
 rw [e]
def eT.l0 : Nat → List ByteArray → Int → Int → List ByteArray → List (S66) → List ByteArray → List (S66) → List ByteArray → List (S66) → Option (List ByteArray × (List (S66)) × Int)
 | 0, _, _, _, _, _, _, _, _, _ => none
 | k + 1, d, b, c, g, h, i, j, e, a => if c < (d.length : Int) then (if 0 ≤ b then (if b < (a.length : Int) then (if 0 ≤ c then (if insF (rdOf ByteArray.empty d c) ((aA a b).f1) = true then (eT.l0 k d b (wrap64 (c + 1)) g h i j e a) else ((cK.f k ((aA a b).f1) (rdOf ByteArray.empty d c)).bind fun n => (eT.l0 k d b (wrap64 (c + 1)) g h i j e (a.set (b : Int).toNat (⟨(aA a b).f0, n, (aA a b).f2⟩ : S66))))) else (none)) else (none)) else (none)) else ((jZ.f k g h).bind fun o => (if o = true then ((jZ.f k e a).bind fun p => (if p = true then ((dA.f k e a).bind fun l => (some (l.1, l.2, 0))) else (some (i, j, 6)))) else ((dA.f k e a).bind fun m => (some (m.1, m.2, 0)))))
def eT.f (k : Nat) (aQ : List ByteArray) (aE : List (S66)) (a1 : ByteArray) (l2 : List ByteArray) : Option (List ByteArray × (List (S66)) × Int) := (aG.f k aQ aE).bind fun d => (if d = true then ((dA.f k aQ aE).bind fun a => ((gG.f k aQ aE a1).bind fun b => (if b < 0 then (some (a.1, a.2, 3)) else (if 0 ≤ b then (if b < (aE.length : Int) then ((bV.f k l2 ((aA aE b).f2)).bind fun e => (if e = true then ((iJ.f k aQ aE b l2).bind fun g => (if g = true then (some (a.1, a.2, 5)) else ((dA.f k aQ aE).bind fun c => (eT.l0 k l2 b 0 aQ aE a.1 a.2 c.1 c.2)))) else (some (a.1, a.2, 2)))) else (none)) else (none))))) else (some (([] : List ByteArray), ([] : List (S66)), 1)))
def eT.T15 : Bool × List (List Nat × List Nat) := (true, [([], []), ([0], [0]), ([], []), ([], []), ([3], [3]), ([], []), ([4, 5], [4, 5]), ([6], [6]), ([7], [7]), ([], []), ([], []), ([9, 10], [9, 10]), ([11], [11]), ([8, 12], [8, 12]), ([1, 2, 0, 1, 2, 3, 4, 5, 6, 7, 8, 9, 10, 11, 12, 13], [1, 2]), ([14, 0, 1, 2, 3, 4, 5, 6, 7, 8, 9, 10, 11, 12, 13], [14]), ([15, 13, 13, 0, 1, 2, 3, 4, 5, 6, 7, 8, 9, 10, 11, 12, 13], [13, 15])])
def eT.B15 : List Nat := [0, 1, 0, 0, 8, 0, 56, 120, 248, 0, 0, 1536, 3584, 8184, 16383, 32767, 65535]
theorem eT.Lb : rtab .any (opsOf Tryz.f25 15) = eT.T15 := by kernel_rfl
theorem eT.XZ : nV eT.T15.2 eT.B15 = true := by kernel_rfl
theorem eT.calls (k : Nat) (dD : Option Addr) (dE : Nat) (aQ : List ByteArray) (dS : Option Addr) (dB : Nat) (aE : List (S66)) (a1 : ByteArray) (A2 : Option Addr) (c2 : Nat) (l2 : List ByteArray) (r1 : List ByteArray) (r2 : List (S66)) (r3 : Int) (w : World) (fL : Kd.C Kd.string w dD aQ.length aQ) (fJ : aQ.length ≤ dE) (fH : Kd.C k66 w dS aE.length aE) (fK : aE.length ≤ dB) (rP : Kd.C Kd.string w A2 l2.length l2) (mH : l2.length ≤ c2) (h : eT.f k aQ aE a1 l2 = some (r1, r2, r3)) :
  Calls Tryz.prog 25 #[.agg #[.slice dD aQ.length dE, .slice dS aE.length dB], .string a1, .slice A2 l2.length c2] w fun e w' => ∃ v0_ v1_ : Value, e = .returned (.tuple #[.agg #[v0_, v1_], .int .i64 r3]) ∧ Kd.R Kd.string 9 w' w.heap.size (fun k_ => (w.heap.size ≤ k_)) v0_ r1 ∧ Kd.N k66 66 w' w.heap.size (F10 w v0_) v1_ r2 ∧ Below w.heap.size w w' := by
 have hu31 := Tryz.underlying31
 obtain ⟨cS, cO⟩ := mZ2 fL fJ
 obtain ⟨bE, dL⟩ := mZ2 fH fK
 obtain ⟨pL, pK⟩ := mZ2 rP mH
 clear fL fJ fH fK rP mH
 have HB := am (Below.refl w.heap.size w)
 unfold eT.f at h
 have H := h
 clear h
 obtain ⟨mQ, A4, H⟩ := bd H
 refine tC H ?_ ?_ <;> clear H <;> intro c5 H <;> subst c5
 obtain ⟨⟨bR, dI⟩, A6, H⟩ := bd H
 dsimp only at H
 obtain ⟨bO, A7, H⟩ := bd H
 refine ic H ?_ ?_ <;> clear H <;> intro EH H
 obtain ⟨rfl, rfl, rfl⟩ := sZ3 H
 repeat clear H
 have SG := trivial
 have cf := trivial
 rotate_left
 obtain ⟨NU, H⟩ := cN H
 obtain ⟨KX, H⟩ := cN H
 obtain ⟨EM, Qe, H⟩ := bd H
 refine tC H ?_ ?_ <;> clear H <;> intro Rq H <;> subst Rq
 obtain ⟨a6B, Zf, H⟩ := bd H
 refine tC H ?_ ?_ <;> clear H <;> intro kz H <;> subst kz
 obtain ⟨rfl, rfl, rfl⟩ := sZ3 H
 repeat clear H
 have SG := trivial
 have Mx := trivial
 have Uk := trivial
 have cg := trivial
 rotate_left
 obtain ⟨⟨CF, Ps⟩, km, H⟩ := bd H
 dsimp only at H
 have H' := am H
 repeat clear H
 have SG := trivial
 have Mx := trivial
 have Uk := trivial
 have Co := trivial
 rotate_left
 obtain ⟨rfl, rfl, rfl⟩ := sZ3 H
 repeat clear H
 have SG := trivial
 have Mx := trivial
 have ck := trivial
 rotate_left
 obtain ⟨rfl, rfl, rfl⟩ := sZ3 H
 repeat clear H
 have cm := trivial
 rotate_left
 all_goals
  go_enter Tryz.func25, Tryz.ntmps25
  go_wp2_with (first | ((with_reducible refine gD 3 ?_); refine bX 3 #[.slice dD aQ.length dE, .slice dS aE.length dB] 31 ?_; intro aZ hg a10 hbox hb; have aC := am hbox; have gU := am (nS : w.heap.size ≤ aZ); have iL := gU; replace HB := bS gL hb; clear hb hbox hg) | ((with_reducible refine gD 6 ?_); refine bX 6 #[.slice none 0 0, .slice none 0 0] 31 ?_; intro bF hg a11 hbox hb; have aT := am hbox; have qC := am (vA : w.heap.size ≤ bF); have pM := qC; replace HB := bS dQ hb; have dY := nL bJ hg; have eI := nG bJ hg; replace aC := bB bJ hb; clear hb hbox hg; have wf := nZ1 dY eI; have eh := cz2 aC) | ((with_reducible refine gC 21 ?_); revert SG; intro SG; refine cQ (some 13) Tryz.func21 (aG.calls k _ _ aQ _ _ aE true _ (pB cS) cO.1 (pB bE) dL.1 A4.out) ?_; rintro a13 hb; replace aC := bB bJ hb; replace aT := bB fF hb; replace HB := bS jY hb; clear hb; have ek := cz2 aC) | ((with_reducible refine gC 22 ?_); revert SG; intro SG; refine cE (some 17) Tryz.func22 (dA.calls k _ _ aQ _ _ aE bR dI _ (pB cS) cO.1 (pB bE) dL.1 A6.out) ?_; rintro e a14 ⟨v105, CG, rfl, hD, pP, hb⟩; refine ⟨_, rfl, ?_⟩; have fQ := am (Kd.eF (Kd.qN (M := fun k_ => (w.heap.size ≤ k_)) hD (aK jY) (fun k_ h_ => h_)) (aK jY)); have eU := am (Kd.pE (Kd.bQ (ok' := F12 w v105 aZ bF) (Kd.S_N (Kd.lC pP)) (fun k_ hk_ => ⟨(Nat.le_trans (aK jY) hk_.2.1), hk_.1, (fB bJ k_ hk_.2.1), (fB fF k_ hk_.2.1)⟩)) (aK jY)); replace aC := bB bJ hb; replace aT := bB fF hb; replace HB := bS jY hb; clear hb hD pP) | ((with_reducible refine gD 8 ?_); revert SG; intro SG; refine bX 8 #[.slice none 0 0, .slice none 0 0] 31 ?_; intro bM hg a18 hbox hb; replace fQ := RB wC hb; replace eU := am (Kd.l9 (Kd.vN CD bM (Nat.le_of_eq hg.symm)) hb); have aY := am hbox; have zG := am (UC : w.heap.size ≤ bM); have wH := zG; replace HB := bS jY hb; have eZ := nL bJ hg; have fP := nG bJ hg; replace aC := bB bJ hb; have fI := nL fF hg; have gW := nG fF hg; replace aT := bB fF hb; clear hb hbox hg; obtain ⟨mJ, mN, We⟩ := Kd.cB fQ.1; subst We; have wg := nZ2 fP eZ gW fI; have em := cz2 aY; obtain ⟨xB, xK, Wf⟩ := Kd.kN eU.1; subst Wf; have en := cz2 aC) | ((with_reducible refine gC 48 ?_); revert cf; intro cf; refine cQ (some 20) Tryz.func48 (gG.calls k _ _ aQ _ _ aE a1 bO _ (Kd.aM cS.1 fE) cO.1 (Kd.aM bE.1 fE) dL.1 A7.out) ?_; rintro a19 hb; replace fQ := am (Kd.iI (by refine rR ?_; exact (Kd.bG (fR (fR (tR fQ aY))) (fun _ h_ => h_.1))) hb); replace eU := am (Kd.l9 (by refine rN ?_; exact (Kd.bQ (fN (fN (Kd.bQ eU.1 (fun k_ hk => (⟨hk, hk.2⟩ : _ ∧ k_ ≠ bM))))) (fun _ h_ => h_.1))) hb); replace aC := am (aV (g := aZ) (o := .cells #[.slice dD aQ.length dE, .slice dS aE.length dB] 31 (0, 0)) Pk hb); replace aT := am (aV (g := bF) (o := .cells #[.slice none 0 0, .slice none 0 0] 31 (0, 0)) UA hb); replace aY := am (aV (g := bM) (o := .cells #[.slice mJ bR.length mN, .slice xB dI.length xK] 31 (0, 0)) (qP aY) hb); replace HB := bS fE hb; clear hb; have wh := cz2 aY; have wi := cz2 aT) | ((with_reducible refine gC 48 ?_); revert Mx; intro Mx; refine cQ (some 20) Tryz.func48 (gG.calls k _ _ aQ _ _ aE a1 bO _ (Kd.aM cS.1 fE) cO.1 (Kd.aM bE.1 fE) dL.1 A7.out) ?_; rintro uO hb; replace fQ := am (Kd.iI (by refine rR ?_; exact (Kd.bG (fR (fR (tR fQ aY))) (fun _ h_ => h_.1))) hb); replace eU := am (Kd.l9 (by refine rN ?_; exact (Kd.bQ (fN (fN (Kd.bQ eU.1 (fun k_ hk => (⟨hk, hk.2⟩ : _ ∧ k_ ≠ bM))))) (fun _ h_ => h_.1))) hb); replace aC := am (aV (g := aZ) (o := .cells #[.slice dD aQ.length dE, .slice dS aE.length dB] 31 (0, 0)) Pk hb); replace aT := am (aV (g := bF) (o := .cells #[.slice none 0 0, .slice none 0 0] 31 (0, 0)) UA hb); replace aY := am (aV (g := bM) (o := .cells #[.slice mJ bR.length mN, .slice xB dI.length xK] 31 (0, 0)) (qP aY) hb); replace HB := bS fE hb; clear hb; have eo := cz2 aC; obtain ⟨mL, S0, TE, S1, TF, TM, yK, wU, wV, H0, M9, sC, tN, YZ, ZD⟩ := aT66 bE HB bO; cases TM) | ((with_reducible refine gC 52 ?_); revert Uk; intro Uk; refine cQ (some 31) Tryz.func52 (bV.calls k _ _ l2 _ _ ((aA aE bO).f2) true _ (pB pL) pK.1 (pB sC) tN.1 Qe.out) ?_; rintro w' ⟨nd, rfl⟩; (try (rw [BF uO]; generalize hq_ : World.drewN uO _ = uO; have n0_ : aD (Kd.R Kd.string 9 uO w.heap.size (fun k_ => (((w.heap.size ≤ k_)) ∧ True)) (.slice mJ bR.length mN) bR) := ⟨by rw [← hq_]; exact wC⟩; have n1_ : aD (Kd.N k66 66 uO w.heap.size (fun k_ => ((((w.heap.size ≤ k_)) ∧ (some k_ ≠ (.slice mJ bR.length mN : Value).ownBlock ∧ (k_ ≠ aZ ∧ k_ ≠ bF))) ∧ k_ ≠ bM)) (.slice xB dI.length xK) dI) := ⟨by rw [← hq_]; exact CD⟩; have n2_ : aD (uO.heap[aZ]? = some (.cells #[.slice dD aQ.length dE, .slice (some mL) aE.length dB] 31 (0, 0))) := ⟨by rw [← hq_]; exact bJ⟩; have n3_ : aD (uO.heap[bF]? = some (.cells #[.slice none 0 0, .slice none 0 0] 31 (0, 0))) := ⟨by rw [← hq_]; exact fF⟩; have n4_ : aD (uO.heap[bM]? = some (.cells #[.slice mJ bR.length mN, .slice xB dI.length xK] 31 (0, 0))) := ⟨by rw [← hq_]; exact jO⟩; have n5_ : aD (Below w.heap.size w uO) := ⟨by rw [← hq_]; exact fE⟩; clear fQ eU aC aT aY HB hq_; have fQ := n0_; have eU := n1_; have aC := n2_; have aT := n3_; have aY := n4_; have HB := n5_; clear n0_ n1_ n2_ n3_ n4_ n5_)); have ep := cz2 aC) | ((with_reducible refine gC 56 ?_); revert cg; intro cg; refine cQ (some 37) Tryz.func56 (iJ.calls k _ _ aQ _ _ aE bO _ _ l2 true _ (pB cS) cO.1 (pB bE) dL.1 (pB pL) pK.1 Zf.out) ?_; rintro a1A hb; replace fQ := RB wC hb; replace eU := NE CD hb; replace aC := bB bJ hb; replace aT := bB fF hb; replace aY := bB jO hb; replace HB := bS fE hb; clear hb; have wl := cz2 aY; have wm := cz2 aT) | ((with_reducible refine gC 56 ?_); revert Co; intro Co; refine cQ (some 37) Tryz.func56 (iJ.calls k _ _ aQ _ _ aE bO _ _ l2 false _ (pB cS) cO.1 (pB bE) dL.1 (pB pL) pK.1 Zf.out) ?_; rintro a1B hb; replace fQ := RB wC hb; replace eU := NE CD hb; replace aC := bB bJ hb; replace aT := bB fF hb; replace aY := bB jO hb; replace HB := bS fE hb; clear hb; have eq := cz2 aC) | ((with_reducible refine gC 22 ?_); revert Co; intro Co; refine cE (some 40) Tryz.func22 (dA.calls k _ _ aQ _ _ aE CF Ps _ (pB cS) cO.1 (pB bE) dL.1 km.out) ?_; rintro e a1C ⟨Ex, Yp, rfl, hD, pP, hb⟩; refine ⟨_, rfl, ?_⟩; have yB := am (Kd.eF (Kd.jQ (Kd.qN (M := fun k_ => (w.heap.size ≤ k_)) hD (aK fE) (fun k_ h_ => h_)) (Kd.R_lt wC)) (aK fE)); have KO := am (Kd.pE (Kd.bQ (ok' := F33 w Ex (.slice mJ bR.length mN) (.slice xB dI.length xK) aZ bF bM) (Kd.S_N (Kd.lC pP)) (fun k_ hk_ => ⟨(Nat.le_trans (aK fE) hk_.2.1), hk_.1, (Kd.fresh' (Kd.R_lt wC) k_ hk_.2.1), (Kd.fresh' (Kd.N_lt CD) k_ hk_.2.1), (fB bJ k_ hk_.2.1), (fB fF k_ hk_.2.1), (fB jO k_ hk_.2.1)⟩)) (aK fE)); replace fQ := am (Kd.gZ wC (Kd.eO hD) hb); replace eU := am (Kd.bQ (Kd.oG (Kd.oG (Kd.ER CD hb) (Kd.eO hD)) EK) (fun _ h_ => h_.1)); replace aC := bB bJ hb; replace aT := bB fF hb; replace aY := bB jO hb; replace HB := bS fE hb; clear hb hD pP) | ((with_reducible refine gD 10 ?_); revert Co; intro Co; refine bX 10 #[.slice none 0 0, .slice none 0 0] 31 ?_; intro xO hg a1D hbox hb; replace fQ := RB wC hb; replace eU := am (Kd.l9 (Kd.vN CD xO (Nat.le_of_eq hg.symm)) hb); replace yB := am (Kd.iI (rR yB.1) hb); replace KO := am (Kd.l9 (Kd.vN (rN KO.1) xO (Nat.le_of_eq hg.symm)) hb); have nJ := am hbox; have aa := am (Xy : w.heap.size ≤ xO); have Qi := aa; replace HB := bS fE hb; have zI := nL bJ hg; have DS := nG bJ hg; replace aC := bB bJ hb; have DP := nL fF hg; have JP := nG fF hg; replace aT := bB fF hb; have DR := nL jO hg; have JQ := nG jO hg; replace aY := bB jO hb; clear hb hbox hg; obtain ⟨xC, xL, Wg⟩ := Kd.cB yB.1; subst Wg; have wn := nZ3 DS zI JP DP JQ DR; have er := cz2 nJ; obtain ⟨Te, Vm, Wh⟩ := Kd.kN KO.1; subst Wh) | ((with_reducible refine gC 52 ?_); revert ck; intro ck; refine cQ (some 31) Tryz.func52 (bV.calls k _ _ l2 _ _ ((aA aE bO).f2) false _ (pB pL) pK.1 (pB sC) tN.1 Qe.out) ?_; rintro w' ⟨nd, rfl⟩; (try (rw [BF uO]; generalize hq_ : World.drewN uO _ = uO; have n0_ : aD (Kd.R Kd.string 9 uO w.heap.size (fun k_ => (((w.heap.size ≤ k_)) ∧ True)) (.slice mJ bR.length mN) bR) := ⟨by rw [← hq_]; exact wC⟩; have n1_ : aD (Kd.N k66 66 uO w.heap.size (fun k_ => ((((w.heap.size ≤ k_)) ∧ (some k_ ≠ (.slice mJ bR.length mN : Value).ownBlock ∧ (k_ ≠ aZ ∧ k_ ≠ bF))) ∧ k_ ≠ bM)) (.slice xB dI.length xK) dI) := ⟨by rw [← hq_]; exact CD⟩; have n2_ : aD (uO.heap[aZ]? = some (.cells #[.slice dD aQ.length dE, .slice (some mL) aE.length dB] 31 (0, 0))) := ⟨by rw [← hq_]; exact bJ⟩; have n3_ : aD (uO.heap[bF]? = some (.cells #[.slice none 0 0, .slice none 0 0] 31 (0, 0))) := ⟨by rw [← hq_]; exact fF⟩; have n4_ : aD (uO.heap[bM]? = some (.cells #[.slice mJ bR.length mN, .slice xB dI.length xK] 31 (0, 0))) := ⟨by rw [← hq_]; exact jO⟩; have n5_ : aD (Below w.heap.size w uO) := ⟨by rw [← hq_]; exact fE⟩; clear fQ eU aC aT aY HB hq_; have fQ := n0_; have eU := n1_; have aC := n2_; have aT := n3_; have aY := n4_; have HB := n5_; clear n0_ n1_ n2_ n3_ n4_ n5_)); have wo := cz2 aY; have wq := cz2 aT) | ((with_reducible refine gC 21 ?_); revert cm; intro cm; refine cQ (some 13) Tryz.func21 (aG.calls k _ _ aQ _ _ aE false _ (pB cS) cO.1 (pB bE) dL.1 A4.out) ?_; rintro a1E hb; replace aC := bB bJ hb; replace aT := bB fF hb; replace HB := bS jY hb; clear hb; have wt := cz2 aT))
 ·refine cT bF 31 #[.slice mJ bR.length mN, .slice xB dI.length xK] (qP aT) Tryz.underlying31 ?_
  exact ⟨_, _, eR, mR fQ aT, by refine rN ?_; exact Kd.bQ (fN (fN (Kd.bQ eU.1 (fun k_ hk => (⟨hk, hk.1.2.2.2⟩ : _ ∧ k_ ≠ bF))))) (fun _ hk => ⟨hk.1.1.1, hk.1.1.2.1⟩), fE⟩
 ·refine cT bF 31 #[.slice mJ bR.length mN, .slice xB dI.length xK] (qP aT) Tryz.underlying31 ?_
  exact ⟨_, _, eR, mR fQ aT, by refine rN ?_; exact Kd.bQ (fN (fN (Kd.bQ eU.1 (fun k_ hk => (⟨hk, hk.1.2.2.2⟩ : _ ∧ k_ ≠ bF))))) (fun _ hk => ⟨hk.1.1.1, hk.1.1.2.1⟩), fE⟩
 ·go_loopg [11] k (fun kq sl w' => ∃ (nW : Int) (xA : List (S66)) (dT : List (S66)) (uI : Value) (MX : Value), sl = .int .i64 nW ∧ aD (eT.l0 kq l2 bO nW aQ aE bR xA CF dT = some (r1, r2, r3)) ∧ aD (kq ≤ k) ∧ aD (Kd.R Kd.string 9 w' w.heap.size (F10 w (.slice xC CF.length xL)) (.slice mJ bR.length mN) bR) ∧ aD (Kd.N k66 66 w' w.heap.size (F34 w (.slice mJ bR.length mN) (.slice xC CF.length xL) MX aZ bF bM xO) uI xA) ∧ aD (Kd.R Kd.string 9 w' w.heap.size (F10 w (.slice mJ bR.length mN)) (.slice xC CF.length xL) CF) ∧ aD (Kd.N k66 66 w' w.heap.size (F34 w (.slice mJ bR.length mN) uI (.slice xC CF.length xL) aZ bF bM xO) MX dT) ∧ aD (w'.heap[aZ]? = some (.cells #[(.slice dD aQ.length dE), (.slice (some mL) aE.length dB)] 31 (0, 0))) ∧ aD (w'.heap[bF]? = some (.cells #[(.slice none 0 0), (.slice none 0 0)] 31 (0, 0))) ∧ aD (w'.heap[bM]? = some (.cells #[(.slice mJ bR.length mN), uI] 31 (0, 0))) ∧ aD (w'.heap[xO]? = some (.cells #[(.slice xC CF.length xL), MX] 31 (0, 0))) ∧ aD (Below w.heap.size w w'))
  case atStart => exact ⟨(0), (dI), (Ps), (.slice xB dI.length xK), (.slice Te Ps.length Vm), eS, H', ⟨Nat.le_refl _⟩, ⟨by refine rR ?_; exact Kd.bG (fR (fR (tR fQ nJ))) (fun _ hk => ⟨hk.1.1.1, hk.1.2⟩)⟩, ⟨by refine rN ?_; exact Kd.bQ (fN (fN (Kd.bQ eU.1 (fun k_ hk => (⟨hk, hk.2⟩ : _ ∧ k_ ≠ xO))))) (fun _ hk => ⟨hk.1.1.1.1.1.1, ⟨hk.1.1.1.1.1.2.1, ⟨hk.1.1.1.2, ⟨hk.1.1.2, ⟨hk.1.1.1.1.1.2.2.1, ⟨hk.1.1.1.1.1.2.2.2, ⟨hk.1.1.1.1.2, hk.1.2⟩⟩⟩⟩⟩⟩⟩)⟩, ⟨by refine rR ?_; exact Kd.bG (fR (fR (tR yB nJ))) (fun _ hk => ⟨hk.1.1.1, hk.1.2⟩)⟩, ⟨by refine rN ?_; exact Kd.bQ (fN (fN (Kd.bQ KO.1 (fun k_ hk => (⟨hk, hk.2⟩ : _ ∧ k_ ≠ xO))))) (fun _ hk => ⟨hk.1.1.1, ⟨hk.1.1.2.2.1, ⟨hk.1.1.2.2.2.1, ⟨hk.1.1.2.1, ⟨hk.1.1.2.2.2.2.1, ⟨hk.1.1.2.2.2.2.2.1, ⟨hk.1.1.2.2.2.2.2.2, hk.1.2⟩⟩⟩⟩⟩⟩⟩)⟩, ⟨qF aC zI⟩, ⟨qF aT DP⟩, ⟨qF aY DR⟩, ⟨qP nJ⟩, ⟨y4⟩⟩
  clear H'
  try clear c2
  try clear c5
  try clear EH
  try clear NU
  try clear KX
  try clear Rq
  try clear kz
  try clear eh
  try clear ek
  try clear em
  try clear en
  try clear eo
  try clear ep
  try clear eq
  try clear er
  try clear yK wU wV
  try clear YZ ZD
  obtain ⟨nW, xA, dT, uI, MX, rfl, HA, HK1, aX, aN, iZ, eY, aC, aT, aY, nJ, HB⟩ := hrel
  cases gk with
  | zero => exact absurd HA.out (by simp [eT.l0])
  | succ k1 =>
   have H := HA.out
   clear HA
   simp only [eT.l0] at H
   refine ic H ?_ ?_ <;> clear H <;> intro zi H
   obtain ⟨gi, H⟩ := cN H
   obtain ⟨zj, H⟩ := cN H
   obtain ⟨zk, H⟩ := cN H
   have HF := am H
   clear H
   rotate_left
   obtain ⟨a6D, tv, H⟩ := bd H
   refine tC H ?_ ?_ <;> clear H <;> intro c91 H <;> subst c91
   obtain ⟨a6E, Qg, H⟩ := bd H
   refine tC H ?_ ?_ <;> clear H <;> intro c93 H <;> subst c93
   obtain ⟨⟨js, jt⟩, A94, H⟩ := bd H
   dsimp only at H
   obtain ⟨rfl, rfl, rfl⟩ := sZ3 H
   repeat clear H
   have Z95 := nZ3 dY eI eZ fP zI DS
   have Z98 := cz2 aC
   have Ul := trivial
   have My := trivial
   rotate_left
   obtain ⟨rfl, rfl, rfl⟩ := sZ3 H
   repeat clear H
   have om := nZ3 dY eI eZ fP zI DS
   have oo := cz2 aC
   have Ul := trivial
   have Qt := trivial
   rotate_left
   obtain ⟨⟨Yi, t139⟩, ne, H⟩ := bd H
   dsimp only at H
   obtain ⟨rfl, rfl, rfl⟩ := sZ3 H
   repeat clear H
   have a3L := nZ3 dY eI eZ fP zI DS
   have a3N := cz2 aC
   have Af := trivial
   rotate_left
   all_goals
    try go_wp2_with (first | ((with_reducible refine gC 58 ?_); revert Ul; intro Ul; refine cQ (some 64) Tryz.func58 (jZ.calls k1 _ _ aQ _ _ aE true _ (pB cS) cO.1 (pB bE) dL.1 tv.out) ?_; rintro a1G hb; replace aX := RB kS hb; replace aN := NE wW hb; replace iZ := RB K6 hb; replace eY := NE PY hb; replace aC := bB bJ hb; replace aT := bB fF hb; replace aY := bB jO hb; replace nJ := bB PW hb; replace HB := bS y4 hb; clear hb; have wu := nZ2 JP DP JQ DR; have wv := cz2 nJ; obtain ⟨Tf, Vo, Wi⟩ := Kd.kN eY.1; subst Wi) | (go_at_call 58; revert My; intro My; revert Qg; intro Qg; refine cM (jZ.calls k1 _ _ CF _ _ dT true _ (pC (Kd.bI iZ.1).2.2) ((Kd.bI iZ.1).2.1) (pC (Kd.gT eY.1).2.2) ((Kd.gT eY.1).2.1) Qg.out) ?_; rintro a1H hb; replace aX := RB kS hb; replace aN := NE wW hb; replace iZ := RB K6 hb; replace eY := NE PY hb; replace aC := bB bJ hb; replace aT := bB fF hb; replace aY := bB jO hb; replace nJ := bB PW hb; replace HB := bS y4 hb; clear hb; have ww := cz2 nJ; clear Qg) | ((with_reducible refine gC 22 ?_); revert My; intro My; refine cE (some 72) Tryz.func22 (dA.calls k1 _ _ CF _ _ dT js jt _ (pC (Kd.bI iZ.1).2.2) ((Kd.bI iZ.1).2.1) (pC (Kd.gT eY.1).2.2) ((Kd.gT eY.1).2.1) A94.out) ?_; rintro e a1I ⟨v131, a6H, rfl, hD, pP, hb⟩; refine ⟨_, rfl, ?_⟩; have V5 := am (Kd.eF (Kd.jQ (Kd.jQ (Kd.qN (M := fun k_ => (w.heap.size ≤ k_)) hD (aK y4) (fun k_ h_ => h_)) (Kd.R_lt kS)) (Kd.R_lt K6)) (aK y4)); have Ql := am (Kd.pE (Kd.bQ (ok' := F54 w v131 (.slice mJ bR.length mN) uI (.slice xC CF.length xL) (.slice Tf dT.length Vo) aZ bF bM xO) (Kd.S_N (Kd.lC pP)) (fun k_ hk_ => ⟨(Nat.le_trans (aK y4) hk_.2.1), hk_.1, (Kd.fresh' (Kd.R_lt kS) k_ hk_.2.1), (Kd.fresh' (Kd.N_lt wW) k_ hk_.2.1), (Kd.fresh' (Kd.R_lt K6) k_ hk_.2.1), (Kd.fresh' (Kd.N_lt PY) k_ hk_.2.1), (fB bJ k_ hk_.2.1), (fB fF k_ hk_.2.1), (fB jO k_ hk_.2.1), (fB PW k_ hk_.2.1)⟩)) (aK y4)); replace aX := am (Kd.gZ kS (Kd.eO hD) hb); replace aN := am (Kd.bQ (Kd.oG (Kd.oG (Kd.ER wW hb) (Kd.eO hD)) EK) (fun _ h_ => h_.1)); replace iZ := am (Kd.gZ K6 (Kd.eO hD) hb); replace eY := am (Kd.bQ (Kd.oG (Kd.oG (Kd.ER PY hb) (Kd.eO hD)) EK) (fun _ h_ => h_.1)); replace aC := bB bJ hb; replace aT := bB fF hb; replace aY := bB jO hb; replace nJ := bB PW hb; replace HB := bS y4 hb; clear hb hD pP; obtain ⟨Tg, Vp, Wj⟩ := Kd.cB V5.1; subst Wj; have wx := nZ1 fI gW; have wy := cz2 aT; obtain ⟨Th, Vq, Wk⟩ := Kd.kN Ql.1; subst Wk) | (go_at_call 58; revert Qt; intro Qt; revert Qg; intro Qg; refine cM (jZ.calls k1 _ _ CF _ _ dT false _ (pC (Kd.bI iZ.1).2.2) ((Kd.bI iZ.1).2.1) (pC (Kd.gT eY.1).2.2) ((Kd.gT eY.1).2.1) Qg.out) ?_; rintro a1J hb; replace aX := RB kS hb; replace aN := NE wW hb; replace iZ := RB K6 hb; replace eY := NE PY hb; replace aC := bB bJ hb; replace aT := bB fF hb; replace aY := bB jO hb; replace nJ := bB PW hb; replace HB := bS y4 hb; clear hb; have wz := nZ1 gW fI; have xa := cz2 aY; have xb := cz2 aT; obtain ⟨Ti, Vr, Wl⟩ := Kd.kN aN.1; subst Wl; clear Qg) | ((with_reducible refine gC 58 ?_); revert Af; intro Af; refine cQ (some 64) Tryz.func58 (jZ.calls k1 _ _ aQ _ _ aE false _ (pB cS) cO.1 (pB bE) dL.1 tv.out) ?_; rintro a1K hb; replace aX := RB kS hb; replace aN := NE wW hb; replace iZ := RB K6 hb; replace eY := NE PY hb; replace aC := bB bJ hb; replace aT := bB fF hb; replace aY := bB jO hb; replace nJ := bB PW hb; replace HB := bS y4 hb; clear hb; have xc := nZ2 JP DP JQ DR; have xd := cz2 nJ; obtain ⟨Tj, Vs, Wm⟩ := Kd.kN eY.1; subst Wm) | ((with_reducible refine gC 22 ?_); revert Af; intro Af; refine cE (some 72) Tryz.func22 (dA.calls k1 _ _ CF _ _ dT Yi t139 _ (pC (Kd.bI iZ.1).2.2) ((Kd.bI iZ.1).2.1) (pC (Kd.gT eY.1).2.2) ((Kd.gT eY.1).2.1) ne.out) ?_; rintro e a1L ⟨Yr, a6I, rfl, hD, pP, hb⟩; refine ⟨_, rfl, ?_⟩; have Qm := am (Kd.eF (Kd.jQ (Kd.jQ (Kd.qN (M := fun k_ => (w.heap.size ≤ k_)) hD (aK y4) (fun k_ h_ => h_)) (Kd.R_lt kS)) (Kd.R_lt K6)) (aK y4)); have Qn := am (Kd.pE (Kd.bQ (ok' := F54 w Yr (.slice mJ bR.length mN) uI (.slice xC CF.length xL) (.slice Tj dT.length Vs) aZ bF bM xO) (Kd.S_N (Kd.lC pP)) (fun k_ hk_ => ⟨(Nat.le_trans (aK y4) hk_.2.1), hk_.1, (Kd.fresh' (Kd.R_lt kS) k_ hk_.2.1), (Kd.fresh' (Kd.N_lt wW) k_ hk_.2.1), (Kd.fresh' (Kd.R_lt K6) k_ hk_.2.1), (Kd.fresh' (Kd.N_lt PY) k_ hk_.2.1), (fB bJ k_ hk_.2.1), (fB fF k_ hk_.2.1), (fB jO k_ hk_.2.1), (fB PW k_ hk_.2.1)⟩)) (aK y4)); replace aX := am (Kd.gZ kS (Kd.eO hD) hb); replace aN := am (Kd.bQ (Kd.oG (Kd.oG (Kd.ER wW hb) (Kd.eO hD)) EK) (fun _ h_ => h_.1)); replace iZ := am (Kd.gZ K6 (Kd.eO hD) hb); replace eY := am (Kd.bQ (Kd.oG (Kd.oG (Kd.ER PY hb) (Kd.eO hD)) EK) (fun _ h_ => h_.1)); replace aC := bB bJ hb; replace aT := bB fF hb; replace aY := bB jO hb; replace nJ := bB PW hb; replace HB := bS y4 hb; clear hb hD pP; obtain ⟨Tk, Vt, Wn⟩ := Kd.cB Qm.1; subst Wn; have xe := nZ1 fI gW; have xf := cz2 aT; obtain ⟨Tl, Vu, Wo⟩ := Kd.kN Qn.1; subst Wo))
   ·replace aX := RD aX
    replace aN := ND aN
    replace iZ := RD iZ
    replace eY := ND eY
    replace aC := BD aC
    replace aT := BD aT
    replace aY := BD aY
    replace nJ := BD nJ
    replace HB := am (aU HB.1)
    obtain ⟨a2W, Ik, ix⟩ := Kd.kN eY.1
    (first | subst ix | (obtain ⟨f4_, f5_⟩ := sj ix; subst f4_; subst f5_))
    have Kj : 0 ≤ (bO : Int) := oT
    have Kn : bO < (dT.length : Int) := oT
    obtain ⟨NP, MY, NS, Tc, Vg, Wa, IV, IW, IX, Br, Bn, Bs, Bo⟩ := AY (Kd.gT eY.1).2.2 bO Kj Kn
    cases Wa
    obtain ⟨ce122, hce122, hMe122, hcc122⟩ := Kd.Gp eY.1 z66 bO Kj (by first | exact Kn | exact oT | (have e_ := (Kd.gT eY.1).1; omega))
    obtain ⟨ua122_1, uc122_1, ua122_2, uc122_2, rfl, UW, TQ, UX, TR⟩ := rJ hMe122
    have MO := hcc122 1 _ rfl
    rw [sU _ _ 1 (by omega)] at MO
    replace MO := Option.some.inj (MO.symm.trans IW)
    injection MO with hva_ hvn_ hvc_
    rw [hva_] at TQ
    rw [hvc_] at UW
    have MC := am (show Kd.V Kd.string 9 _ w.heap.size _ _ ((aA dT bO).f1) from Kd.V_mk UW TQ)
    clear hva_ hvn_ hvc_ TQ UW
    have MP := hcc122 2 _ rfl
    rw [sU _ _ 2 (by omega)] at MP
    replace MP := Option.some.inj (MP.symm.trans IX)
    injection MP with hva_ hvn_ hvc_
    rw [hva_] at TR
    rw [hvc_] at UX
    have MD := am (show Kd.V Kd.string 9 _ w.heap.size _ _ ((aA dT bO).f2) from Kd.V_mk UX TR)
    clear hva_ hvn_ hvc_ TR UX
    clear hcc122 hce122
    have sE := am Bn
    have ZY := am Br
    clear Bn Br
    have AX := am Bo
    have kr := am Bs
    clear Bo Bs
    replace Kj := eq_true Kj
    replace Kn := eq_true Kn
    obtain ⟨fb, pt, TV, Pa, a5Y, a6A⟩ := aSw pL HB nW
    cases pt
    refine sT (S := fun w' => w'.cell? ⟨xO, 0, none⟩ = some (.slice xC CF.length xL) ∧ w'.cell? ⟨xO, 1, none⟩ = some (.slice (some NP) dT.length Ik) ∧ w'.cell? (NP.add ((bO).toNat * 3)) = some (.string ((aA dT bO).f0)) ∧ w'.cell? ⟨(NP.add ((bO).toNat * 3)).block, (NP.add ((bO).toNat * 3)).off + 1, none⟩ = some (.slice MY ((aA dT bO).f1).length NS) ∧ w'.cell? ⟨(NP.add ((bO).toNat * 3)).block, (NP.add ((bO).toNat * 3)).off + 2, none⟩ = some (.slice Tc ((aA dT bO).f2).length Vg) ∧ w'.cell? (fb.add (nW).toNat) = some (.string (rdOf ByteArray.empty l2 nW))) [16] 17 ⟨⟨(aH nJ.1 0).trans rfl, (aH nJ.1 1).trans rfl, IV, IW, IX, (hX HB TV)⟩⟩ (fun hHeld => ?_)
    refine gH eT.Lb eT.XZ (fun HT_ HW_ => ?_)
    generalize wr.drew = w86 at aX aN iZ eY aC aT aY nJ HB MC MD sE AX IV IW IX Pa hHeld ⊢
    refine pU7 0 2 3 5 9 10 11 ?_
    refine tK6 1 (some 48) ?_
    refine tK6 4 (some 51) ?_
    refine pU2 6 7 ?_
    refine tK6 8 (some 55) ?_
    refine tK6 12 (some 59) ?_
    have H := HF.out
    clear HF
    by_cases cF : insF (rdOf ByteArray.empty l2 nW) ((aA dT bO).f1) = true
    ·rw [if_pos cF] at H
     have H' := am H
     repeat clear H
     have nk := am (show cK.q0 (((aA dT bO).f1).length + 1) ((aA dT bO).f1) (rdOf ByteArray.empty l2 nW) 0 = some true from cK.Sm ((aA dT bO).f1) (rdOf ByteArray.empty l2 nW) sE.1.2.1 ((aA dT bO).f1).length 0 (by omega) (by simpa using cF))
     refine oN 13 (some 60) fun K hK => ?_
     refine kF Tryz.func57 (by kernel_rfl) rfl #[.slice MY ((aA dT bO).f1).length NS, .string (rdOf ByteArray.empty l2 nW)] (by rfl) rfl rfl n7 ?_
     with_reducible refine (cK.same (((aA dT bO).f1).length + 1) _ _ ((aA dT bO).f1) (rdOf ByteArray.empty l2 nW) _ ?side1 ?side2 nk.out).mono ?_
     (case side1 => exact (by repeat (first | (with_reducible exact sE.1) | (with_reducible refine Kd.l7 ?_ _) | (with_reducible refine Kd.l8 ?_ _) | (with_reducible refine Kd.mK ?_) | exact sE.1)))
     (case side2 => exact ZY.1)
     rintro e mw ⟨rfl, hb⟩
     have HS2_ := (hb.cell (World.block_lt_of_cell? _ _ (hHeld.2.2.1))).trans (hHeld.2.2.1)
     have HS3_ := (hb.cell (World.block_lt_of_cell? _ _ (hHeld.2.2.2.1))).trans (hHeld.2.2.2.1)
     have HS4_ := (hb.cell (World.block_lt_of_cell? _ _ (hHeld.2.2.2.2.1))).trans (hHeld.2.2.2.2.1)
     refine ⟨_, rfl, ?_⟩
     replace aX := RB kS hb
     replace aN := NE wW hb
     replace iZ := RB K6 hb
     replace eY := NE PY hb
     replace aC := bB bJ hb
     replace aT := bB fF hb
     replace aY := bB jO hb
     replace nJ := bB PW hb
     replace sE := am (Kd.aM (by repeat (first | (with_reducible exact sE.1) | (with_reducible refine Kd.l7 ?_ _) | (with_reducible refine Kd.l8 ?_ _) | (with_reducible refine Kd.mK ?_) | exact sE.1)) hb)
     replace AX := am (Kd.aM (by repeat (first | (with_reducible exact AX.1) | (with_reducible refine Kd.l7 ?_ _) | (with_reducible refine Kd.l8 ?_ _) | (with_reducible refine Kd.mK ?_) | exact AX.1)) hb)
     replace HB := bS y4 hb
     clear MC
     clear MD
     clear hb
     have Xx : 0 ≤ (bO : Int) := oT
     have Yd : (bO : Int) < ((dT.length : Int) : Int) := oT
     obtain ⟨wA, pp, It, Iv, gl85, cl85, HG85⟩ := Kd.XQ eY.1 (by omega)
     (first | cases It | (injection It with ea_ en_ ec_; (first | subst ea_ | (injection ea_ with ea_; subst ea_)); subst ec_; clear en_))
     have GB85 := am Iv
     have GG85 := am HG85
     clear Iv gl85 HG85
     (first | simp only [add_plain] at IV | skip)
     (first | simp only [add_plain] at IW | skip)
     (first | simp only [add_plain] at IX | skip)
     obtain ⟨ce85, hcl85, hM85, hcc85, hfr85⟩ := Kd.FI eY.1 z66 (bO : Int) Xx Yd
     obtain ⟨ua85_1, uc85_1, ua85_2, uc85_2, rfl, Yl, Wx, Ym, Wy⟩ := rJ hM85
     have Xm : World.cell? _ ⟨wA, (bO : Int).toNat * 3, none⟩ = some (.string ((aA dT bO).f0)) := hcc85 0 _ rfl
     have Xn : World.cell? _ ⟨wA, (bO : Int).toNat * 3 + 1, none⟩ = some (.slice ua85_1 ((aA dT bO).f1).length uc85_1) := hcc85 1 _ rfl
     have Xo : World.cell? _ ⟨wA, (bO : Int).toNat * 3 + 2, none⟩ = some (.slice ua85_2 ((aA dT bO).f2).length uc85_2) := hcc85 2 _ rfl
     have hf85_0 : World.frozen? _ ⟨wA, (bO : Int).toNat * 3, none⟩ = false := hfr85 0
     have hf85_1 : World.frozen? _ ⟨wA, (bO : Int).toNat * 3 + 1, none⟩ = false := hfr85 1
     have hf85_2 : World.frozen? _ ⟨wA, (bO : Int).toNat * 3 + 2, none⟩ = false := hfr85 2
     clear hcl85 hcc85 hfr85 hM85
     replace Xx := eq_true Xx
     replace Yd := eq_true Yd
     refine hK.out _ _ ⟨(aH nJ.1 0).trans rfl, (aH nJ.1 1).trans rfl, HS2_, HS3_, HS4_, (hX HB TV)⟩ (fun hHeld => ?_)
     clear hK K
     refine nM ?_
     refine pU2 14 15 ?_
     refine lN 16 none fun K hK => ?_
     have hst_ : mw.cell? ⟨wA, (bO : Int).toNat * 3 + 1, none⟩ = some (.slice MY ((aA dT bO).f1).length NS) := by
      have h_ := HS3_
      simp only [add_plain] at h_
      exact h_
     refine qJ (w1 := (mw.setCell ⟨wA, (bO : Int).toNat * 3 + 1, none⟩ (.slice MY ((aA dT bO).f1).length NS))) (by rfl) rfl ?_ ?_
     ·go_simp
      (try rfl)
     refine hK.out _ _ ?_
     clear hK K
     refine dN ?_
     rw [UO hst_]
     try go_wp2
     go_roundg k1
     case measure => have := HK1.out; omega
     case rel => exact ⟨(wrap64 (nW + 1)), (xA), (dT), (uI), (.slice (some ⟨wA, 0, none⟩) dT.length Ik), rfl, H', ⟨by have := HK1.out; omega⟩, aX, aN, iZ, eY, aC, aT, aY, nJ, HB⟩
    ·rw [if_neg cF] at H
     obtain ⟨Pt, nk, H⟩ := bd H
     obtain ⟨QD, NI⟩ := yv (dT.set (bO : Int).toNat (⟨(aA dT bO).f0, Pt, (aA dT bO).f2⟩ : S66)); first | replace H := bW NI H | rw [← NI.1] at H
     have H' := am H
     repeat clear H
     refine oN 13 (some 60) fun K hK => ?_
     refine kF Tryz.func57 (by kernel_rfl) rfl #[.slice MY ((aA dT bO).f1).length NS, .string (rdOf ByteArray.empty l2 nW)] (by rfl) rfl rfl n7 ?_
     with_reducible refine (cK.calls k1 _ _ ((aA dT bO).f1) (rdOf ByteArray.empty l2 nW) Pt _ ?side1 ?side2 nk.out).mono ?_
     (case side1 => exact (by repeat (first | (with_reducible exact sE.1) | (with_reducible refine Kd.l7 ?_ _) | (with_reducible refine Kd.l8 ?_ _) | (with_reducible refine Kd.mK ?_) | exact sE.1)))
     (case side2 => exact ZY.1)
     rintro e mw ⟨EN, rfl, hD, hb⟩
     have HS2_ := (hb.cell (World.block_lt_of_cell? _ _ (hHeld.2.2.1))).trans (hHeld.2.2.1)
     have HS3_ := (hb.cell (World.block_lt_of_cell? _ _ (hHeld.2.2.2.1))).trans (hHeld.2.2.2.1)
     have HS4_ := (hb.cell (World.block_lt_of_cell? _ _ (hHeld.2.2.2.2.1))).trans (hHeld.2.2.2.2.1)
     refine ⟨_, rfl, ?_⟩
     replace aN := am (Kd.qL wW (Kd.eO hD) hb)
     replace eY := am (Kd.qL PY (Kd.eO hD) hb)
     replace MC := am (Kd.lY (rV MC.out) (Kd.eO hD) hb)
     replace MD := am (Kd.lY (rV MD.out) (Kd.eO hD) hb)
     have yC := am (Kd.eF (Kd.jQ (Kd.jQ (Kd.qN (M := fun k_ => (w.heap.size ≤ k_)) hD (aK y4) (fun k_ h_ => h_)) (Kd.R_lt kS)) (Kd.R_lt K6)) (aK y4))
     replace aX := am (Kd.gZ kS (Kd.eO hD) hb)
     replace iZ := am (Kd.gZ K6 (Kd.eO hD) hb)
     replace aC := bB bJ hb
     replace aT := bB fF hb
     replace aY := bB jO hb
     replace nJ := bB PW hb
     replace sE := am (Kd.aM (by repeat (first | (with_reducible exact sE.1) | (with_reducible refine Kd.l7 ?_ _) | (with_reducible refine Kd.l8 ?_ _) | (with_reducible refine Kd.mK ?_) | exact sE.1)) hb)
     replace AX := am (Kd.aM (by repeat (first | (with_reducible exact AX.1) | (with_reducible refine Kd.l7 ?_ _) | (with_reducible refine Kd.l8 ?_ _) | (with_reducible refine Kd.mK ?_) | exact AX.1)) hb)
     replace HB := bS y4 hb
     clear hb hD
     have Xx : 0 ≤ (bO : Int) := oT
     have Yd : (bO : Int) < ((dT.length : Int) : Int) := oT
     obtain ⟨wA, pp, It, Iv, gl85, cl85, HG85⟩ := Kd.XQ eY.1 (by omega)
     (first | cases It | (injection It with ea_ en_ ec_; (first | subst ea_ | (injection ea_ with ea_; subst ea_)); subst ec_; clear en_))
     have GB85 := am Iv
     have GG85 := am HG85
     clear Iv gl85 HG85
     (first | simp only [add_plain] at IV | skip)
     (first | simp only [add_plain] at IW | skip)
     (first | simp only [add_plain] at IX | skip)
     obtain ⟨ce85, hcl85, hM85, hcc85, hfr85⟩ := Kd.FI eY.1 z66 (bO : Int) Xx Yd
     obtain ⟨ua85_1, uc85_1, ua85_2, uc85_2, rfl, Yl, Wx, Ym, Wy⟩ := rJ hM85
     have Xm : World.cell? _ ⟨wA, (bO : Int).toNat * 3, none⟩ = some (.string ((aA dT bO).f0)) := hcc85 0 _ rfl
     have Xn : World.cell? _ ⟨wA, (bO : Int).toNat * 3 + 1, none⟩ = some (.slice ua85_1 ((aA dT bO).f1).length uc85_1) := hcc85 1 _ rfl
     have Xo : World.cell? _ ⟨wA, (bO : Int).toNat * 3 + 2, none⟩ = some (.slice ua85_2 ((aA dT bO).f2).length uc85_2) := hcc85 2 _ rfl
     have hf85_0 : World.frozen? _ ⟨wA, (bO : Int).toNat * 3, none⟩ = false := hfr85 0
     have hf85_1 : World.frozen? _ ⟨wA, (bO : Int).toNat * 3 + 1, none⟩ = false := hfr85 1
     have hf85_2 : World.frozen? _ ⟨wA, (bO : Int).toNat * 3 + 2, none⟩ = false := hfr85 2
     clear hcl85 hcc85 hfr85 hM85
     replace Xx := eq_true Xx
     replace Yd := eq_true Yd
     have HX89 := am (show Kd.N k66 66 _ w.heap.size (F44 w (.slice mJ bR.length mN) uI (.slice xC CF.length xL) EN aZ bF bM xO) (.slice (some ⟨wA, 0, none⟩) dT.length Ik) dT from (Kd.bQ (eY.1) (fun k_ hk => ⟨hk.1.1, ⟨hk.1.2.1, ⟨hk.1.2.2.1, ⟨hk.1.2.2.2.1, ⟨hk.2, ⟨hk.1.2.2.2.2.1, ⟨hk.1.2.2.2.2.2.1, ⟨hk.1.2.2.2.2.2.2.1, hk.1.2.2.2.2.2.2.2⟩⟩⟩⟩⟩⟩⟩⟩)))
     replace HX89 := am (show Kd.N k66 66 _ w.heap.size (F34 w (.slice mJ bR.length mN) uI (.slice xC CF.length xL) aZ bF bM xO) (.slice (some ⟨wA, 0, none⟩) dT.length Ik) dT from Kd.bQ HX89.out (fun k_ hk => ⟨hk.1, ⟨hk.2.1, ⟨hk.2.2.1, ⟨hk.2.2.2.1, ⟨hk.2.2.2.2.2.1, ⟨hk.2.2.2.2.2.2.1, ⟨hk.2.2.2.2.2.2.2.1, hk.2.2.2.2.2.2.2.2⟩⟩⟩⟩⟩⟩⟩))
     obtain ⟨ce89, hcl89, hM89, hcc89, hfr89⟩ := Kd.FI HX89.out z66 (bO : Int) (oT) (by have h_ : (bO : Int) < ((dT.length : Int) : Int) := oT; first | exact h_ | (have e_ := (Kd.gT eY.1).1; omega) | simpa using h_)
     obtain ⟨ua89_1, uc89_1, ua89_2, uc89_2, rfl, sg, qu, Yn, Wz⟩ := rJ hM89
     have HP89 := (Kd.Gq HX89.out (bO : Int) (oT) (by have h_ : (bO : Int) < ((dT.length : Int) : Int) := oT; first | exact h_ | (have e_ := (Kd.gT eY.1).1; omega) | simpa using h_) (seg := [EN]) (j := 1) hcl89 hcc89 (show 2 ≤ 3 from by decide) (x' := (⟨(aA dT bO).f0, Pt, (aA dT bO).f2⟩ : S66)) (WN _ _ (⟨(aA dT bO).f0, Pt, (aA dT bO).f2⟩ : S66) (Kd.bG (ok' := (fun k_ => ((F34 w (.slice mJ bR.length mN) uI (.slice xC CF.length xL) aZ bF bM xO)) k_ ∧ k_ ≠ wA)) (Kd.iX (Kd.iX (Kd.iX (Kd.iX (Kd.iR (Kd.iR (yC.1) (Kd.nQ aN.1) (by decide)) (Kd.nQ eY.1) (by decide)) aC.1 (by decide)) aT.1 (by decide)) aY.1 (by decide)) nJ.1 (by decide)) (fun k_ hk => ⟨⟨hk.1.1.1.1.1.1.1.1.1, ⟨hk.1.1.1.1.1.1.1.2, ⟨hk.1.1.1.1.1.2, ⟨hk.1.1.1.1.1.1.2, ⟨hk.1.1.1.2, ⟨hk.1.1.2, ⟨hk.1.2, hk.2⟩⟩⟩⟩⟩⟩⟩, fun e_ => (hk.1.1.1.1.2) (by rw [e_]; rfl)⟩)) Yn Wz) (fun _ hk => hk)).1
     rw [← NI.out] at HP89
     have HQ89 := am HP89
     clear hcl89 hcc89 hfr89 hM89 HP89
     refine hK.out _ _ ⟨(aH nJ.1 0).trans rfl, (aH nJ.1 1).trans rfl, HS2_, HS3_, HS4_, (hX HB TV)⟩ (fun hHeld => ?_)
     clear hK K
     refine nM ?_
     refine pU2 14 15 ?_
     refine lN 16 none fun K hK => ?_
     refine qJ (w1 := (mw.setCell ⟨wA, (bO : Int).toNat * 3 + 1, none⟩ (EN))) (by rfl) rfl ?_ ?_
     skip
     ·obtain ⟨Az_, cz_, ez_⟩ := Kd.cB yC.1
      subst ez_
      go_simp
      (try rfl)
     refine hK.out _ _ ?_
     clear hK K
     refine dN ?_
     try go_wp2
     go_roundg k1
     case measure => have := HK1.out; omega
     case rel => exact ⟨(wrap64 (nW + 1)), (xA), (QD), (uI), (.slice (some ⟨wA, 0, none⟩) dT.length Ik), eS, H', ⟨by have := HK1.out; omega⟩, ⟨by refine rR ?_; exact Kd.bG (Kd.uL (p := ⟨wA, (bO : Int).toNat * 3 + 1, none⟩) (tR aX GG85) (fun _ hk => hk.2) (EN)) (fun _ hk => ⟨hk.1.1.1, hk.1.1.2⟩)⟩, ⟨by refine rN ?_; exact Kd.bQ (Kd.Gn (p := ⟨wA, (bO : Int).toNat * 3 + 1, none⟩) (Kd.bQ aN.1 (fun k_ hk => (⟨hk, fun e_ => hk.1.2.2.2.1 (by rw [e_]; rfl)⟩ : _ ∧ k_ ≠ wA))) (fun _ hk => hk.2) (EN)) (fun _ hk => ⟨hk.1.1.1, ⟨hk.1.1.2.1, ⟨hk.1.1.2.2.1, ⟨hk.1.1.2.2.2.1, ⟨hk.1.1.2.2.2.2.1, ⟨hk.1.1.2.2.2.2.2.1, ⟨hk.1.1.2.2.2.2.2.2.1, hk.1.1.2.2.2.2.2.2.2⟩⟩⟩⟩⟩⟩⟩)⟩, ⟨by refine rR ?_; exact Kd.bG (Kd.uL (p := ⟨wA, (bO : Int).toNat * 3 + 1, none⟩) (tR iZ GG85) (fun _ hk => hk.2) (EN)) (fun _ hk => ⟨hk.1.1.1, hk.1.1.2⟩)⟩, ⟨rN HQ89.out⟩, ⟨by refine rB ?_; refine eX ?_ (by have h_ := Kd.FH eY.1 (fun _ hk => by first | exact hk.2.2.2.2.1 | exact hk.1.2.2.2.2.1); intro e_; exact h_ (by rw [e_]; rfl)) _; refine rB ?_; exact aC.1⟩, ⟨by refine rB ?_; refine eX ?_ (by have h_ := Kd.FH eY.1 (fun _ hk => by first | exact hk.2.2.2.2.2.1 | exact hk.1.2.2.2.2.2.1); intro e_; exact h_ (by rw [e_]; rfl)) _; refine rB ?_; exact aT.1⟩, ⟨by refine rB ?_; refine eX ?_ (by have h_ := Kd.FH eY.1 (fun _ hk => by first | exact hk.2.2.2.2.2.2.1 | exact hk.1.2.2.2.2.2.2.1); intro e_; exact h_ (by rw [e_]; rfl)) _; refine rB ?_; exact aY.1⟩, ⟨by refine rB ?_; refine eX ?_ (by have h_ := Kd.FH eY.1 (fun _ hk => by first | exact hk.2.2.2.2.2.2.2 | exact hk.1.2.2.2.2.2.2.2); intro e_; exact h_ (by rw [e_]; rfl)) _; refine rB ?_; exact nJ.1⟩, ⟨by repeat (first | (with_reducible first | exact HB.1 | apply dZ | apply bK | apply aU | refine aJ ?_ GB85.out | refine aJ ?_ iL.1 | refine aJ ?_ pM.1 | refine aJ ?_ wH.1 | refine aJ ?_ Qi.1) | exact HB.1)⟩⟩
   ·refine cT bF 31 #[.slice Tg js.length Vp, .slice Th jt.length Vq] (qP aT) Tryz.underlying31 ?_
    exact ⟨_, _, eR, by refine rR ?_; exact Kd.bG (fR (fR (tR V5 aT))) (fun _ hk => hk.1.1.1.1), by refine rN ?_; exact Kd.bQ (fN (fN (Kd.bQ Ql.1 (fun k_ hk => (⟨hk, hk.2.2.2.2.2.2.2.1⟩ : _ ∧ k_ ≠ bF))))) (fun _ hk => ⟨hk.1.1, hk.1.2.1⟩), y4⟩
   ·refine cT bF 31 #[.slice mJ bR.length mN, .slice Ti xA.length Vr] (qP aT) Tryz.underlying31 ?_
    exact ⟨_, _, eR, mR aX aT, by refine rN ?_; exact Kd.bQ (fN (fN (Kd.bQ aN.1 (fun k_ hk => (⟨hk, hk.2.2.2.2.2.1⟩ : _ ∧ k_ ≠ bF))))) (fun _ hk => ⟨hk.1.1, hk.1.2.1⟩), y4⟩
   ·refine cT bF 31 #[.slice Tk Yi.length Vt, .slice Tl t139.length Vu] (qP aT) Tryz.underlying31 ?_
    exact ⟨_, _, eR, by refine rR ?_; exact Kd.bG (fR (fR (tR Qm aT))) (fun _ hk => hk.1.1.1.1), by refine rN ?_; exact Kd.bQ (fN (fN (Kd.bQ Qn.1 (fun k_ hk => (⟨hk, hk.2.2.2.2.2.2.2.1⟩ : _ ∧ k_ ≠ bF))))) (fun _ hk => ⟨hk.1.1, hk.1.2.1⟩), y4⟩
 ·refine cT bF 31 #[.slice mJ bR.length mN, .slice xB dI.length xK] (qP aT) Tryz.underlying31 ?_
  exact ⟨_, _, eR, mR fQ aT, by refine rN ?_; exact Kd.bQ (fN (fN (Kd.bQ eU.1 (fun k_ hk => (⟨hk, hk.1.2.2.2⟩ : _ ∧ k_ ≠ bF))))) (fun _ hk => ⟨hk.1.1.1, hk.1.1.2.1⟩), fE⟩
 refine cT bF 31 #[.slice none 0 0, .slice none 0 0] jm Tryz.underlying31 ?_
 exact ⟨_, _, eR, by first | exact Kd.oQ _ _ _ _ _ | exact Kd.wI _ _ _ _ _ | exact Kd.sS _ _ _ _ _ | exact Kd.wK _ _ _ _ _ | exact Kd.tX _ _ _ _ _, by first | exact Kd.tX _ _ _ _ _ | exact Kd.wI _ _ _ _ _ | exact Kd.sS _ _ _ _ _ | exact Kd.wK _ _ _ _ _ | exact Kd.oQ _ _ _ _ _, jY⟩
def sort_Strings.f (l0 : List ByteArray) : Option (List ByteArray) := if l0.length < 4611686018427387904 then some (wN l0) else none
theorem sort_Strings.calls (P0_ : Nat → Prop) (v0 : Value) (l0 : List ByteArray) (r1 : List ByteArray) (w0 w : World) (hB : Below w0.heap.size w0 w) (hD : Kd.R Kd.string 9 w w0.heap.size P0_ v0 l0) (h : sort_Strings.f l0 = some r1) :
  Calls Tryz.prog 75 #[v0] w fun e w' => e = .returned (.tuple #[]) ∧ Kd.R Kd.string 9 w' w0.heap.size P0_ v0 r1 ∧ Below w0.heap.size w0 w' ∧ Kept w w' P0_ := by
 unfold sort_Strings.f at h
 by_cases hl : l0.length < 4611686018427387904
 ·rw [if_pos hl] at h
  obtain rfl := Option.some.inj h
  obtain ⟨A, c, rfl⟩ := Kd.cB hD
  exact Yf hD hB hl
 rw [if_neg hl] at h
 cases h
def iM.f (l0 : List ByteArray) : Option (List ByteArray) := some (oU l0)
theorem iM.calls (P0_ : Nat → Prop) (v0 : Value) (l0 : List ByteArray) (r1 : List ByteArray) (w0 w : World) (hB : Below w0.heap.size w0 w) (hD : Kd.R Kd.string 9 w w0.heap.size P0_ v0 l0) (h : iM.f l0 = some r1) :
  Calls Tryz.prog 76 #[v0] w fun e w' => ∃ v0_ : Value, e = .returned (v0_) ∧ Kd.R Kd.string 9 w' w0.heap.size (fun k_ => P0_ k_ ∨ w.heap.size ≤ k_) v0_ r1 ∧ Below w0.heap.size w0 w' ∧ Kept w w' P0_ := by
 obtain rfl := Option.some.inj h
 obtain ⟨A, c, rfl⟩ := Kd.cB hD
 refine (Dl hD hB).mono ?_
 rintro e w' ⟨he, hr, hb, hk⟩
 exact ⟨_, he, Kd.bG hr (fun k h => Or.inl h), hb, hk⟩
def eB.l0 : Nat → List ByteArray → Int → List (S66) → Int → Int → List ByteArray → List (S66) → List ByteArray → List (S66) → Option (List ByteArray × (List (S66)) × Int)
 | 0, _, _, _, _, _, _, _, _, _ => none
 | k + 1, e, a, g, l, b, h, d, i, j => if b < l then (if 0 ≤ b then (if b < (g.length : Int) then (if b = a then (eB.l0 k e a g l (wrap64 (b + 1)) h d i j) else ((iT.f ((aA g b).f1) e).bind fun o => (if o = true then (some (i, j, 5)) else (eB.l0 k e a g l (wrap64 (b + 1)) h d i j)))) else (none)) else (none)) else ((d9.f k h d).bind fun c => (if 0 ≤ a then (if a < (d.length : Int) then ((bU.f ((aA d a).f1)).bind fun n => (if n.length + e.length < 8796093022208 then ((sort_Strings.f (n ++ e)).bind fun p => ((iM.f p).bind fun q => (if a < (c.2.length : Int) then ((some (c.2.set (a : Int).toNat (⟨(aA c.2 a).f0, q, (aA c.2 a).f2⟩ : S66) : List (S66))).bind fun m => ((jM.f k h d).bind fun r => (if r = true then ((jM.f k c.1 m).bind fun s => (if s = true then (some (c.1, m, 0)) else (some (i, j, 6)))) else (some (c.1, m, 0))))) else (none)))) else (none))) else (none)) else (none)))
def eB.f (k : Nat) (aQ : List ByteArray) (aE : List (S66)) (a1 : ByteArray) (l2 : List ByteArray) : Option (List ByteArray × (List (S66)) × Int) := (aI.f k aQ aE).bind fun c => (if c = true then ((d9.f k aQ aE).bind fun a => ((eP.f aQ aE a1).bind fun b => (if b < 0 then (some (a.1, a.2, 3)) else (if 0 ≤ b then (if b < (aE.length : Int) then ((gP.f k l2 ((aA aE b).f2)).bind fun d => (if d = true then (eB.l0 k l2 b aE (aE.length : Int) 0 aQ aE a.1 a.2) else (some (a.1, a.2, 2)))) else (none)) else (none))))) else (some (([] : List ByteArray), ([] : List (S66)), 1)))
def eB.T18 : Bool × List (List Nat × List Nat) := (true, [([], []), ([0], [0]), ([], []), ([], []), ([3], [3]), ([1, 2, 0, 1, 2, 3, 4], [1, 2]), ([5, 0, 1, 2, 3, 4], [5]), ([6, 4, 4, 0, 1, 2, 3, 4], [4, 6])])
def eB.B18 : List Nat := [0, 1, 0, 0, 8, 31, 63, 127]
theorem eB.Lc : rtab .any (opsOf Tryz.f39 18) = eB.T18 := by kernel_rfl
theorem eB.Y0 : nV eB.T18.2 eB.B18 = true := by kernel_rfl
theorem eB.calls (k : Nat) (dD : Option Addr) (dE : Nat) (aQ : List ByteArray) (dS : Option Addr) (dB : Nat) (aE : List (S66)) (a1 : ByteArray) (A2 : Option Addr) (c2 : Nat) (l2 : List ByteArray) (r1 : List ByteArray) (r2 : List (S66)) (r3 : Int) (w : World) (fL : Kd.C Kd.string w dD aQ.length aQ) (fJ : aQ.length ≤ dE) (fH : Kd.C k66 w dS aE.length aE) (fK : aE.length ≤ dB) (rP : Kd.C Kd.string w A2 l2.length l2) (mH : l2.length ≤ c2) (h : eB.f k aQ aE a1 l2 = some (r1, r2, r3)) :
  Calls Tryz.prog 39 #[.agg #[.slice dD aQ.length dE, .slice dS aE.length dB], .string a1, .slice A2 l2.length c2] w fun e w' => ∃ v0_ v1_ : Value, e = .returned (.tuple #[.agg #[v0_, v1_], .int .i64 r3]) ∧ Kd.R Kd.string 9 w' w.heap.size (fun _ => True) v0_ r1 ∧ Kd.S k66 66 w' w.heap.size (fun k_ => some k_ ≠ (v0_ : Value).ownBlock) v1_ r2 ∧ Below w.heap.size w w' := by
 have hu31 := Tryz.underlying31
 have hu66 := Tryz.underlying66
 obtain ⟨cS, cO⟩ := mZ2 fL fJ
 obtain ⟨bE, dL⟩ := mZ2 fH fK
 obtain ⟨pL, pK⟩ := mZ2 rP mH
 clear fL fJ fH fK rP mH
 have HB := am (Below.refl w.heap.size w)
 unfold eB.f at h
 have H := h
 clear h
 obtain ⟨mQ, A4, H⟩ := bd H
 refine tC H ?_ ?_ <;> clear H <;> intro c5 H <;> subst c5
 obtain ⟨⟨bR, dI⟩, A6, H⟩ := bd H
 dsimp only at H
 obtain ⟨bO, A7, H⟩ := bd H
 refine ic H ?_ ?_ <;> clear H <;> intro EH H
 obtain ⟨rfl, rfl, rfl⟩ := sZ3 H
 repeat clear H
 have KP := trivial
 have Qu := trivial
 rotate_left
 obtain ⟨NU, H⟩ := cN H
 obtain ⟨KX, H⟩ := cN H
 obtain ⟨EM, Qe, H⟩ := bd H
 refine tC H ?_ ?_ <;> clear H <;> intro Rq H <;> subst Rq
 have H' := am H
 repeat clear H
 have KP := trivial
 have Gl := trivial
 have Qv := trivial
 rotate_left
 obtain ⟨rfl, rfl, rfl⟩ := sZ3 H
 repeat clear H
 have KP := trivial
 have Gl := trivial
 have Qw := trivial
 rotate_left
 obtain ⟨rfl, rfl, rfl⟩ := sZ3 H
 repeat clear H
 have Qx := trivial
 rotate_left
 all_goals
  go_enter Tryz.func39, Tryz.ntmps39
  go_wp2_with (first | ((with_reducible refine gD 3 ?_); refine bX 3 #[.slice dD aQ.length dE, .slice dS aE.length dB] 31 ?_; intro aZ hg a1M hbox hb; have aC := am hbox; have gU := am (nS : w.heap.size ≤ aZ); have iL := gU; replace HB := bS gL hb; clear hb hbox hg) | ((with_reducible refine gD 6 ?_); refine bX 6 #[.slice none 0 0, .slice none 0 0] 31 ?_; intro bF hg a1N hbox hb; have aT := am hbox; have qC := am (vA : w.heap.size ≤ bF); have pM := qC; replace HB := bS dQ hb; have dY := nL bJ hg; have eI := nG bJ hg; replace aC := bB bJ hb; clear hb hbox hg; have xh := nZ1 dY eI; have es := cz2 aC) | ((with_reducible refine gC 36 ?_); revert KP; intro KP; refine cQ (some 15) Tryz.func36 (aI.calls k _ _ aQ _ _ aE true _ (pB cS) cO.1 (pB bE) dL.1 A4.out) ?_; rintro a1O hb; replace aC := bB bJ hb; replace aT := bB fF hb; replace HB := bS jY hb; clear hb; have et := cz2 aC) | ((with_reducible refine gC 71 ?_); revert KP; intro KP; refine cE (some 19) Tryz.func71 (d9.calls k _ _ aQ _ _ aE bR dI _ (pB cS) cO.1 (pB bE) dL.1 A6.out) ?_; rintro e a1P ⟨v105, CG, rfl, hD, pP, hb⟩; refine ⟨_, rfl, ?_⟩; have fQ := am (Kd.eF hD (aK jY)); have eU := am (Kd.SN pP (aK jY)); replace aC := bB bJ hb; replace aT := bB fF hb; replace HB := bS jY hb; clear hb hD pP) | ((with_reducible refine gD 8 ?_); revert KP; intro KP; refine bX 8 #[.slice none 0 0, .slice none 0 0] 31 ?_; intro bM hg a1Q hbox hb; replace fQ := RB wC hb; replace eU := am (Kd.rA (rS eU.1) hb); have aY := am hbox; have zG := am (UC : w.heap.size ≤ bM); have wH := zG; replace HB := bS jY hb; have eZ := nL bJ hg; have fP := nG bJ hg; replace aC := bB bJ hb; have fI := nL fF hg; have gW := nG fF hg; replace aT := bB fF hb; clear hb hbox hg; obtain ⟨gJ, gK, Wp⟩ := Kd.cB fQ.1; subst Wp; have xi := nZ2 fP eZ gW fI; have eu := cz2 aY; obtain ⟨jF, jG, Wq⟩ := Kd.yH eU.1; subst Wq; have ev := cz2 aC) | ((with_reducible refine gC 72 ?_); revert Qu; intro Qu; refine cQ (some 22) Tryz.func72 (eP.calls _ _ aQ _ _ aE a1 bO _ (Kd.aM cS.1 fE) cO.1 (Kd.aM bE.1 fE) dL.1 A7.out) ?_; rintro a1R hb; replace fQ := am (Kd.iI (by refine rR ?_; exact (Kd.bG (fR (fR (tR fQ aY))) (fun _ h_ => h_.1))) hb); replace eU := am (Kd.rA (by refine rS ?_; exact (Kd.fU (fS (fS (tS eU aY))) (fun _ h_ => h_.1))) hb); replace aC := am (aV (g := aZ) (o := .cells #[.slice dD aQ.length dE, .slice dS aE.length dB] 31 (0, 0)) Pk hb); replace aT := am (aV (g := bF) (o := .cells #[.slice none 0 0, .slice none 0 0] 31 (0, 0)) UA hb); replace aY := am (aV (g := bM) (o := .cells #[.slice gJ bR.length gK, .slice jF dI.length jG] 31 (0, 0)) (qP aY) hb); replace HB := bS fE hb; clear hb; have xj := cz2 aY; have xk := cz2 aT) | ((with_reducible refine gC 72 ?_); revert Gl; intro Gl; refine cQ (some 22) Tryz.func72 (eP.calls _ _ aQ _ _ aE a1 bO _ (Kd.aM cS.1 fE) cO.1 (Kd.aM bE.1 fE) dL.1 A7.out) ?_; rintro JD hb; replace fQ := am (Kd.iI (by refine rR ?_; exact (Kd.bG (fR (fR (tR fQ aY))) (fun _ h_ => h_.1))) hb); replace eU := am (Kd.rA (by refine rS ?_; exact (Kd.fU (fS (fS (tS eU aY))) (fun _ h_ => h_.1))) hb); replace aC := am (aV (g := aZ) (o := .cells #[.slice dD aQ.length dE, .slice dS aE.length dB] 31 (0, 0)) Pk hb); replace aT := am (aV (g := bF) (o := .cells #[.slice none 0 0, .slice none 0 0] 31 (0, 0)) UA hb); replace aY := am (aV (g := bM) (o := .cells #[.slice gJ bR.length gK, .slice jF dI.length jG] 31 (0, 0)) (qP aY) hb); replace HB := bS fE hb; clear hb; have ew := cz2 aC; obtain ⟨mL, S0, TE, S1, TF, TM, yK, wU, wV, H0, M9, sC, tN, YZ, ZD⟩ := aT66 bE HB bO; cases TM) | ((with_reducible refine gC 65 ?_); revert Qv; intro Qv; refine cQ (some 35) Tryz.func65 (gP.calls k _ _ l2 _ _ ((aA aE bO).f2) true _ (pB pL) pK.1 (pB sC) tN.1 Qe.out) ?_; rintro w' ⟨nd, rfl⟩) | ((with_reducible refine gC 65 ?_); revert Qw; intro Qw; refine cQ (some 35) Tryz.func65 (gP.calls k _ _ l2 _ _ ((aA aE bO).f2) false _ (pB pL) pK.1 (pB sC) tN.1 Qe.out) ?_; rintro w' ⟨nd, rfl⟩; (try (rw [BF JD]; generalize hq_ : World.drewN JD _ = JD; have n0_ : aD (Kd.R Kd.string 9 JD w.heap.size (fun k_ => True) (.slice gJ bR.length gK) bR) := ⟨by rw [← hq_]; exact wC⟩; have n1_ : aD (Kd.S k66 66 JD w.heap.size (fun k_ => some k_ ≠ (.slice gJ bR.length gK : Value).ownBlock) (.slice jF dI.length jG) dI) := ⟨by rw [← hq_]; exact (rS eU.1)⟩; have n2_ : aD (JD.heap[aZ]? = some (.cells #[.slice dD aQ.length dE, .slice (some mL) aE.length dB] 31 (0, 0))) := ⟨by rw [← hq_]; exact bJ⟩; have n3_ : aD (JD.heap[bF]? = some (.cells #[.slice none 0 0, .slice none 0 0] 31 (0, 0))) := ⟨by rw [← hq_]; exact fF⟩; have n4_ : aD (JD.heap[bM]? = some (.cells #[.slice gJ bR.length gK, .slice jF dI.length jG] 31 (0, 0))) := ⟨by rw [← hq_]; exact jO⟩; have n5_ : aD (Below w.heap.size w JD) := ⟨by rw [← hq_]; exact fE⟩; clear fQ eU aC aT aY HB hq_; have fQ := n0_; have eU := n1_; have aC := n2_; have aT := n3_; have aY := n4_; have HB := n5_; clear n0_ n1_ n2_ n3_ n4_ n5_)); have xl := cz2 aY; have xm := cz2 aT) | ((with_reducible refine gC 36 ?_); revert Qx; intro Qx; refine cQ (some 15) Tryz.func36 (aI.calls k _ _ aQ _ _ aE false _ (pB cS) cO.1 (pB bE) dL.1 A4.out) ?_; rintro a1S hb; replace aC := bB bJ hb; replace aT := bB fF hb; replace HB := bS jY hb; clear hb; have xn := cz2 aT))
 ·refine cT bF 31 #[.slice gJ bR.length gK, .slice jF dI.length jG] (qP aT) Tryz.underlying31 ?_
  exact ⟨_, _, eR, mR fQ aT, mS eU aT, fE⟩
 ·go_loopg [41] k (fun kq v41 w' => ∃ (uJ : Int), v41 = .int .i64 uJ ∧ aD (eB.l0 kq l2 bO aE (aE.length : Int) uJ aQ aE bR dI = some (r1, r2, r3)) ∧ aD (kq ≤ k) ∧ aD (Kd.R Kd.string 9 w' w.heap.size (fun _ => True) (.slice gJ bR.length gK) bR) ∧ aD (Kd.S k66 66 w' w.heap.size (fun k_ => some k_ ≠ ((.slice gJ bR.length gK) : Value).ownBlock) (.slice jF dI.length jG) dI) ∧ aD (w'.heap[aZ]? = some (.cells #[(.slice dD aQ.length dE), (.slice (some mL) aE.length dB)] 31 (0, 0))) ∧ aD (w'.heap[bF]? = some (.cells #[(.slice none 0 0), (.slice none 0 0)] 31 (0, 0))) ∧ aD (w'.heap[bM]? = some (.cells #[(.slice gJ bR.length gK), (.slice jF dI.length jG)] 31 (0, 0))) ∧ aD (Below w.heap.size w w'))
  case atStart => exact ⟨(0), eS, H', ⟨Nat.le_refl _⟩, ⟨rR fQ.1⟩, ⟨rS eU.1⟩, ⟨rB aC.1⟩, ⟨rB aT.1⟩, ⟨rB aY.1⟩, ⟨fE⟩⟩
  clear H'
  try clear c2
  try clear c5
  try clear EH
  try clear NU
  try clear KX
  try clear Rq
  try clear es
  try clear et
  try clear eu
  try clear ev
  try clear ew
  try clear yK wU wV
  try clear YZ ZD
  obtain ⟨uJ, rfl, HA, HK1, aX, aN, aC, aT, aY, HB⟩ := hrel
  cases gk with
  | zero => exact absurd HA.out (by simp [eB.l0])
  | succ k1 =>
   have H := HA.out
   clear HA
   simp only [eB.l0] at H
   refine ic H ?_ ?_ <;> clear H <;> intro yr H
   obtain ⟨yt, H⟩ := cN H
   obtain ⟨fy, H⟩ := cN H
   refine iq H ?_ ?_ <;> clear H <;> intro Y3 VN Bb H
   have H' := am H
   repeat clear H
   obtain ⟨oH, FE, FO, JE, JX, TN, MU, E3, E4, sD, DM, vI, MA, LR, LT⟩ := aT66 bE HB uJ
   obtain rfl : mL = oH := (by injection TN)
   have Ag := trivial
   rotate_left
   obtain ⟨a6C, Qf, H⟩ := bd H
   refine tC H ?_ ?_ <;> clear H <;> intro c56 H <;> subst c56
   obtain ⟨rfl, rfl, rfl⟩ := sZ3 H
   repeat clear H
   obtain ⟨oH, FE, FO, JE, JX, TN, MU, E3, E4, sD, DM, vI, MA, LR, LT⟩ := aT66 bE HB uJ
   obtain rfl : mL = oH := (by injection TN)
   have Ag := trivial
   have Qy := trivial
   rotate_left
   have H' := am H
   repeat clear H
   obtain ⟨oH, FE, FO, JE, JX, TN, MU, E3, E4, sD, DM, vI, MA, LR, LT⟩ := aT66 bE HB uJ
   obtain rfl : mL = oH := (by injection TN)
   have Ag := trivial
   have Qz := trivial
   rotate_left
   obtain ⟨⟨kU, kZ⟩, A74, H⟩ := bd H
   dsimp only at H
   obtain ⟨zf, H⟩ := cN H
   obtain ⟨zh, H⟩ := cN H
   obtain ⟨Yh, A77, H⟩ := bd H
   obtain ⟨aw, H⟩ := cL H
   obtain ⟨DL, NJ⟩ := yv (Yh ++ l2); first | replace H := bW NJ H | rw [← NJ.1] at H
   obtain ⟨t131, A79, H⟩ := bd H
   obtain ⟨UT, ng, H⟩ := bd H
   obtain ⟨gi, H⟩ := cN H
   obtain ⟨PL, Gx, H⟩ := bY H
   obtain ⟨Yi, nh, H⟩ := bd H
   refine tC H ?_ ?_ <;> clear H <;> intro c84 H <;> subst c84
   obtain ⟨a6F, tu, H⟩ := bd H
   refine tC H ?_ ?_ <;> clear H <;> intro c86 H <;> subst c86
   obtain ⟨rfl, rfl, rfl⟩ := sZ3 H
   repeat clear H
   have Z87 := nZ2 dY eI eZ fP
   have Z89 := cz2 aC
   have C4 := trivial
   rotate_left
   obtain ⟨rfl, rfl, rfl⟩ := sZ3 H
   repeat clear H
   have oo := nZ2 dY eI eZ fP
   have oq := cz2 aC
   have C4 := trivial
   rotate_left
   obtain ⟨rfl, rfl, rfl⟩ := sZ3 H
   repeat clear H
   have a3U := nZ2 dY eI eZ fP
   have a3V := cz2 aC
   have C4 := trivial
   rotate_left
   all_goals
    try go_wp2_with (first | ((with_reducible refine gD 11 ?_); revert Ag; intro Ag; refine bX 11 #[.string (⟨#[]⟩ : ByteArray), .slice none 0 0, .slice none 0 0] 66 ?_; intro O8 hg a1T hbox hb; replace aX := RB kS hb; replace aN := am (Kd.rA (Kd.V9 UG O8 (Nat.le_of_eq hg.symm)) hb); have N0 := am hbox; have Zy := am (Xy : w.heap.size ≤ O8); have Zu := Zy; replace HB := bS fE hb; have DN := nL bJ hg; have Cr := nG bJ hg; replace aC := bB bJ hb; have DO := nL fF hg; have Cs := nG fF hg; replace aT := bB fF hb; have DQ := nL jO hg; have Ct := nG jO hg; replace aY := bB jO hb; clear hb hbox hg; have xo := nZ3 Cr DN Cs DO Ct DQ; have xp := cz3 N0) | (go_at_call 69; revert Qy; intro Qy; revert Qf; intro Qf; refine cM (iT.calls _ _ ((aA aE uJ).f1) _ _ l2 true _ (Kd.aM sD.1 UB) DM.1 (Kd.aM pL.1 UB) pK.1 Qf.out) ?_; rintro a1U hb; replace aX := am (Kd.iI (by refine rR ?_; exact (Kd.bG (fR (fR (fR (tR aX N0)))) (fun _ h_ => h_.1))) hb); replace aN := am (Kd.rA (by refine rS ?_; exact (Kd.fU (fS (fS (fS (Kd.fU aN.1 (fun k_ hk => (⟨hk, hk.2⟩ : _ ∧ k_ ≠ O8)))))) (fun _ h_ => h_.1))) hb); replace aC := am (aV (g := aZ) (o := .cells #[.slice dD aQ.length dE, .slice (some mL) aE.length dB] 31 (0, 0)) (qF aC DN) hb); replace aT := am (aV (g := bF) (o := .cells #[.slice none 0 0, .slice none 0 0] 31 (0, 0)) (qF aT DO) hb); replace aY := am (aV (g := bM) (o := .cells #[.slice gJ bR.length gK, .slice jF dI.length jG] 31 (0, 0)) (qF aY DQ) hb); replace N0 := am (aV (g := O8) (o := .cells #[.string ((aA aE uJ).f0), .slice FE ((aA aE uJ).f1).length FO, .slice JE ((aA aE uJ).f2).length JX] 66 (0, 0)) pY3 hb); replace HB := bS UB hb; clear hb; have xq := nZ2 fP eZ gW fI; have xr := cz2 aY; have xt := nZ1 eI dY; have xu := cz2 aT; clear Qf) | (go_at_call 69; revert Qz; intro Qz; revert Qf; intro Qf; refine cM (iT.calls _ _ ((aA aE uJ).f1) _ _ l2 false _ (Kd.aM sD.1 UB) DM.1 (Kd.aM pL.1 UB) pK.1 Qf.out) ?_; rintro a1V hb; replace aX := am (Kd.iI (by refine rR ?_; exact (Kd.bG (fR (fR (fR (tR aX N0)))) (fun _ h_ => h_.1))) hb); replace aN := am (Kd.rA (by refine rS ?_; exact (Kd.fU (fS (fS (fS (Kd.fU aN.1 (fun k_ hk => (⟨hk, hk.2⟩ : _ ∧ k_ ≠ O8)))))) (fun _ h_ => h_.1))) hb); replace aC := am (aV (g := aZ) (o := .cells #[.slice dD aQ.length dE, .slice (some mL) aE.length dB] 31 (0, 0)) (qF aC DN) hb); replace aT := am (aV (g := bF) (o := .cells #[.slice none 0 0, .slice none 0 0] 31 (0, 0)) (qF aT DO) hb); replace aY := am (aV (g := bM) (o := .cells #[.slice gJ bR.length gK, .slice jF dI.length jG] 31 (0, 0)) (qF aY DQ) hb); replace N0 := am (aV (g := O8) (o := .cells #[.string ((aA aE uJ).f0), .slice FE ((aA aE uJ).f1).length FO, .slice JE ((aA aE uJ).f2).length JX] 66 (0, 0)) pY3 hb); replace HB := bS UB hb; clear hb; clear Qf) | ((with_reducible refine gC 71 ?_); revert C4; intro C4; refine cE (some 58) Tryz.func71 (d9.calls k1 _ _ aQ _ _ aE kU kZ _ (pB cS) cO.1 (pB bE) dL.1 A74.out) ?_; rintro e a1W ⟨sm, KH, rfl, hD, pP, hb⟩; refine ⟨_, rfl, ?_⟩; have iN := am (Kd.eF (Kd.jQ hD (Kd.R_lt kS)) (aK fE)); have eA := am (Kd.SN (Kd.Hf (Kd.Hf pP (Kd.R_lt kS)) (Kd.S_lt UG)) (aK fE)); replace aX := am (Kd.gZ kS (Kd.eO hD) hb); replace aN := am (Kd.fU (Kd.Hg (Kd.Hg (Kd.dn UG hb) (Kd.eO hD)) (Kd.zA pP)) (fun _ h_ => h_.1)); replace aC := bB bJ hb; replace aT := bB fF hb; replace aY := bB jO hb; replace HB := bS fE hb; clear hb hD pP) | ((with_reducible refine gD 12 ?_); revert C4; intro C4; refine bX 12 #[.slice none 0 0, .slice none 0 0] 31 ?_; intro zX hg a1X hbox hb; replace aX := RB kS hb; replace aN := SB UG hb; replace iN := RB PZ hb; replace eA := SB Ee hb; have iS := am hbox; have Gc := am (Xy : w.heap.size ≤ zX); have ZV := Gc; replace HB := bS fE hb; have JH := nL bJ hg; have Cw := nG bJ hg; replace aC := bB bJ hb; have JI := nL fF hg; have Cx := nG fF hg; replace aT := bB fF hb; have JO := nL jO hg; have Cy := nG jO hg; replace aY := bB jO hb; clear hb hbox hg; obtain ⟨hI, hJ, Wr⟩ := Kd.cB iN.1; subst Wr; have xv := nZ3 Cw JH Cx JI Cy JO; have xw := cz2 iS; obtain ⟨AR, lU, Ws⟩ := Kd.yH eA.1; subst Ws; have xx := cz2 aC; have Xw : 0 ≤ (bO : Int) := oT; have Yc : bO < (aE.length : Int) := oT; obtain ⟨fc, nb, pd, nc, pe, pu, yL, E5, E6, Bt, Bp, Bu, Bq⟩ := AY bE.1 bO Xw Yc; obtain rfl : mL = fc := (by injection pu); have hn124_0 : mL.block ≠ zX := Nat.ne_of_lt (Nat.lt_of_lt_of_le (by have := World.block_lt_of_cell? _ _ yL; first | rwa [add_block] at this | exact this) Gc.out); have hn124_1 : mL.block ≠ zX := Nat.ne_of_lt (Nat.lt_of_lt_of_le (by have := World.block_lt_of_cell? _ _ yL; first | rwa [add_block] at this | exact this) Gc.out); replace yL := hX HB yL; replace E5 := hX HB E5; replace E6 := hX HB E6; have Mu := am Bp; have Mo := am Bt; clear Bp Bt; have ku := am Bq; have ks := am Bu; clear Bq Bu; replace yL := (cell_far (p := ⟨zX, 0, none⟩) Xz (.slice hI kU.length hJ)).trans yL; replace E5 := (cell_far (p := ⟨zX, 0, none⟩) Xz (.slice hI kU.length hJ)).trans E5; replace E6 := (cell_far (p := ⟨zX, 0, none⟩) Xz (.slice hI kU.length hJ)).trans E6; replace yL := (cell_far (p := ⟨zX, 1, none⟩) Ya (.slice AR kZ.length lU)).trans yL; replace E5 := (cell_far (p := ⟨zX, 1, none⟩) Ya (.slice AR kZ.length lU)).trans E5; replace E6 := (cell_far (p := ⟨zX, 1, none⟩) Ya (.slice AR kZ.length lU)).trans E6; clear hn124_0; clear hn124_1; replace Xw := eq_true Xw; replace Yc := eq_true Yc) | ((with_reducible refine gC 35 ?_); revert C4; intro C4; refine cE (some 65) Tryz.func35 (bU.calls _ _ ((aA aE bO).f1) Yh _ (Kd.aM Mu.1 CZ) Mo.1 A77.out) ?_; rintro e a1Y ⟨sn, rfl, hD, hb⟩; refine ⟨_, rfl, ?_⟩; replace aN := am (Kd.zK (by refine rS ?_; exact (Kd.fU (fS (fS (tS aN iS))) (fun _ h_ => h_.1))) (Kd.eO hD) hb); replace eA := am (Kd.zK (by refine rS ?_; exact (Kd.fU (fS (fS (tS eA iS))) (fun _ h_ => h_.1))) (Kd.eO hD) hb); have xD := am (Kd.eF (Kd.jQ (Kd.jQ hD (Kd.R_lt (by refine rR ?_; exact (Kd.bG (fR (fR (tR aX iS))) (fun _ h_ => h_.1))))) (Kd.R_lt (by refine rR ?_; exact (Kd.bG (fR (fR (tR iN iS))) (fun _ h_ => h_.1))))) (aK CZ)); replace aX := am (Kd.gZ (by refine rR ?_; exact (Kd.bG (fR (fR (tR aX iS))) (fun _ h_ => h_.1))) (Kd.eO hD) hb); replace iN := am (Kd.gZ (by refine rR ?_; exact (Kd.bG (fR (fR (tR iN iS))) (fun _ h_ => h_.1))) (Kd.eO hD) hb); replace aC := am (aV (g := aZ) (o := .cells #[.slice dD aQ.length dE, .slice (some mL) aE.length dB] 31 (0, 0)) rj hb); replace aT := am (aV (g := bF) (o := .cells #[.slice none 0 0, .slice none 0 0] 31 (0, 0)) rk hb); replace aY := am (aV (g := bM) (o := .cells #[.slice gJ bR.length gK, .slice jF dI.length jG] 31 (0, 0)) rl hb); replace iS := am (aV (g := zX) (o := .cells #[.slice hI kU.length hJ, .slice AR kZ.length lU] 31 (0, 0)) (qP iS) hb); replace HB := bS CZ hb; clear hb hD) | ((with_reducible refine fA (b := .append) (xs := #[.tmp 65, .tmp 66]) rfl ?_); revert C4; intro C4; at_builtin; refine Kd.yZ Kd.string (w0 := w) w.heap.size rfl (.tmp 65) (.tmp 66) 27 9 (.string ⟨#[]⟩) 16 rfl Tryz.underlying27 jP rfl (by decide) (by omega) sn Yh l2 _ _ _ (fun k_ => some k_ ≠ (.slice gJ bR.length gK : Value).ownBlock ∧ some k_ ≠ (.slice hI kU.length hJ : Value).ownBlock) (fun _ => False) rfl rfl ?aO ?aR (fun _ _ h => h) (fun _ h => h.elim) ?aF ?aB ?aS ?aL ?_; (case aR => repeat (first | exact (Kd.aM pL.1 HB.1) | (with_reducible refine Kd.l7 ?_ _) | (with_reducible refine Kd.l8 ?_ _) | (with_reducible refine Kd.mK ?_))); (case aB => exact CZ); (case aF => exact (fun k_ hk => ⟨Kd.fresh' (Kd.R_lt kS) k_ hk, Kd.fresh' (Kd.R_lt PZ) k_ hk⟩)); (case aO => exact (by refine rR ?_; exact Kd.bG xD.1 (fun _ hk => ⟨hk.1.2, hk.2⟩))); (case aS => exact (aK CZ)); (case aL => have := aw.out; omega); intro sp a1Z ho hb hg hat; rw [← NJ.out] at ho; replace aX := am (Kd.r9 (ok := (fun k_ => some k_ ≠ (.slice hI kU.length hJ : Value).ownBlock)) (by refine rR ?_; exact Kd.bG aX.1 (fun _ hk => ⟨hk.1.2, hk.2⟩)) hg hat); replace aN := am (Kd.Ao (ok := (fun k_ => some k_ ≠ (.slice gJ bR.length gK : Value).ownBlock ∧ some k_ ≠ (.slice hI kU.length hJ : Value).ownBlock ∧ some k_ ≠ (.slice AR kZ.length lU : Value).ownBlock)) (by refine rS ?_; exact Kd.fU aN.1 (fun _ hk => ⟨⟨hk.1.1.1, ⟨hk.1.1.2, hk.1.2⟩⟩, hk.2⟩)) hg hat); replace aC := gkR bJ hg xD aC; replace aT := gkR fF hg xD aT; replace aY := gkR jO hg xD aY; replace iN := am (Kd.r9 (ok := (fun k_ => some k_ ≠ (.slice gJ bR.length gK : Value).ownBlock)) (by refine rR ?_; exact Kd.bG iN.1 (fun _ hk => ⟨hk.1.2, hk.2⟩)) hg hat); replace eA := am (Kd.Ao (ok := (fun k_ => some k_ ≠ (.slice gJ bR.length gK : Value).ownBlock ∧ some k_ ≠ (.slice jF dI.length jG : Value).ownBlock ∧ some k_ ≠ (.slice hI kU.length hJ : Value).ownBlock)) (by refine rS ?_; exact Kd.fU eA.1 (fun _ hk => ⟨⟨hk.1.1.2, ⟨hk.1.2, hk.1.1.1⟩⟩, hk.2⟩)) hg hat); replace iS := gkR PX hg xD iS; replace HB := am hb; have kT := am ho; clear xD; clear ho hb hg hat; obtain ⟨vU, vZ, Wt⟩ := Kd.cB kT.1; subst Wt) | ((with_reducible refine gC 75 ?_); revert C4; intro C4; refine cQ (some 69) Tryz.func75 (sort_Strings.calls (fun k_ => some k_ = (.slice vU DL.length vZ : Value).ownBlock) (.slice vU DL.length vZ) DL t131 w _ (CZ) (Kd.kP rfl kT.1) A79.out) ?_; rintro Lj ⟨hy0, hb, hkp⟩; replace aX := am (Kd.bG (ok' := fun k_ => some k_ ≠ (.slice hI kU.length hJ : Value).ownBlock ∧ some k_ ≠ (.slice vU DL.length vZ : Value).ownBlock) (Kd.yF (aX.1) hkp (fun k_ hk_ hs_ => (hk_.2) hs_)) (fun k_ hk_ => ⟨hk_.1.1, hk_.1.2⟩)); replace aN := am (Kd.fU (ok' := fun k_ => some k_ ≠ (.slice gJ bR.length gK : Value).ownBlock ∧ some k_ ≠ (.slice hI kU.length hJ : Value).ownBlock ∧ some k_ ≠ (.slice AR kZ.length lU : Value).ownBlock ∧ some k_ ≠ (.slice vU DL.length vZ : Value).ownBlock) (Kd.yG (aN.1) hkp (fun k_ hk_ hs_ => (hk_.2) hs_)) (fun k_ hk_ => ⟨hk_.1.1.1, hk_.1.1.2.1, hk_.1.1.2.2, hk_.1.2⟩)); replace aC := am (dO bJ hkp (fun hs_ => (fun e_ => (Kd.R_ne kT.1 aC.1 (by decide)) e_) hs_)); replace aT := am (dO fF hkp (fun hs_ => (fun e_ => (Kd.R_ne kT.1 aT.1 (by decide)) e_) hs_)); replace aY := am (dO jO hkp (fun hs_ => (fun e_ => (Kd.R_ne kT.1 aY.1 (by decide)) e_) hs_)); replace iN := am (Kd.bG (ok' := fun k_ => some k_ ≠ (.slice gJ bR.length gK : Value).ownBlock ∧ some k_ ≠ (.slice vU DL.length vZ : Value).ownBlock) (Kd.yF (iN.1) hkp (fun k_ hk_ hs_ => (hk_.2) hs_)) (fun k_ hk_ => ⟨hk_.1.1, hk_.1.2⟩)); replace eA := am (Kd.fU (ok' := fun k_ => some k_ ≠ (.slice gJ bR.length gK : Value).ownBlock ∧ some k_ ≠ (.slice jF dI.length jG : Value).ownBlock ∧ some k_ ≠ (.slice hI kU.length hJ : Value).ownBlock ∧ some k_ ≠ (.slice vU DL.length vZ : Value).ownBlock) (Kd.yG (eA.1) hkp (fun k_ hk_ hs_ => (hk_.2) hs_)) (fun k_ hk_ => ⟨hk_.1.1.1, hk_.1.1.2.1, hk_.1.1.2.2, hk_.1.2⟩)); replace iS := am (dO PX hkp (fun hs_ => (fun e_ => (Kd.R_ne kT.1 iS.1 (by decide)) e_) hs_)); replace kT := am (Kd.Ur rfl hy0 (fun k_ e_ => kT.1.1 k_ e_)); replace HB := am hb; clear hb hkp hy0))
   ·go_roundg k1
    case measure => have := HK1.out; omega
    case rel => exact ⟨(wrap64 (uJ + 1)), eS, H', ⟨by have := HK1.out; omega⟩, ⟨mR aX N0⟩, ⟨by refine rS ?_; exact Kd.fU (fS (fS (fS (Kd.fU aN.1 (fun k_ hk => (⟨hk, hk.2⟩ : _ ∧ k_ ≠ O8)))))) (fun _ hk => hk.1.1)⟩, ⟨qF aC DN⟩, ⟨qF aT DO⟩, ⟨qF aY DQ⟩, ⟨UB⟩⟩
   ·refine cT bF 31 #[.slice gJ bR.length gK, .slice jF dI.length jG] (qP aT) Tryz.underlying31 ?_
    exact ⟨_, _, eR, mR aX aT, mS aN aT, UB⟩
   ·go_roundg k1
    case measure => have := HK1.out; omega
    case rel => exact ⟨(wrap64 (uJ + 1)), eS, H', ⟨by have := HK1.out; omega⟩, ⟨rR aX.1⟩, ⟨by refine rS ?_; exact Kd.fU aN.1 (fun _ hk => hk.1)⟩, ⟨rB aC.1⟩, ⟨rB aT.1⟩, ⟨rB aY.1⟩, ⟨UB⟩⟩
   ·replace aX := RD aX
    replace aN := SD aN
    replace iN := RD iN
    replace eA := SD eA
    replace kT := RD kT
    replace aC := BD aC
    replace aT := BD aT
    replace aY := BD aY
    replace iS := BD iS
    replace HB := am (aU HB.1)
    refine sT [7] 8 (uA2 iS) (fun hHeld => ?_)
    refine gH eB.Lc eB.Y0 (fun HT_ HW_ => ?_)
    generalize Lj.drew = a6W at aX aN iN eA kT aC aT aY iS HB hHeld ⊢
    refine pU3 0 2 3 ?_
    refine tK2 1 (some 71) ?_
    refine oN 4 (some 74) fun K hK => ?_
    refine gE Tryz.func76 (iM.calls (fun k_ => some k_ = (.slice vU DL.length vZ : Value).ownBlock) (.slice vU DL.length vZ) t131 UT w _ (CZ) (Kd.kP rfl kT.1) ng.out) ?_
    rintro e JC ⟨kL, rfl, hD, hb, hkp⟩
    refine ⟨_, rfl, ?_⟩
    replace aN := am (Kd.fU (ok' := fun k_ => some k_ ≠ (.slice gJ bR.length gK : Value).ownBlock ∧ some k_ ≠ (.slice hI kU.length hJ : Value).ownBlock ∧ some k_ ≠ (.slice AR kZ.length lU : Value).ownBlock ∧ some k_ ≠ (kL : Value).ownBlock) (Kd.yG (aN.1) hkp (fun k_ hk_ hs_ => (hk_.2.2.2) hs_)) (fun k_ hk_ => ⟨hk_.1.1, hk_.1.2.1, hk_.1.2.2.1, fun e_ => Or.elim (hD.1 k_ e_.symm) (fun hs_ => hk_.2.1 hs_) (fun hn_ => Nat.not_le.2 hk_.2.2 hn_)⟩))
    replace aC := am (dO bJ hkp (fun hs_ => (fun e_ => (Kd.R_ne kT.1 aC.1 (by decide)) e_) hs_))
    replace aT := am (dO fF hkp (fun hs_ => (fun e_ => (Kd.R_ne kT.1 aT.1 (by decide)) e_) hs_))
    replace aY := am (dO jO hkp (fun hs_ => (fun e_ => (Kd.R_ne kT.1 aY.1 (by decide)) e_) hs_))
    replace eA := am (Kd.fU (ok' := fun k_ => some k_ ≠ (.slice gJ bR.length gK : Value).ownBlock ∧ some k_ ≠ (.slice jF dI.length jG : Value).ownBlock ∧ some k_ ≠ (.slice hI kU.length hJ : Value).ownBlock ∧ some k_ ≠ (kL : Value).ownBlock) (Kd.yG (eA.1) hkp (fun k_ hk_ hs_ => (hk_.2.2.2) hs_)) (fun k_ hk_ => ⟨hk_.1.1, hk_.1.2.1, hk_.1.2.2.1, fun e_ => Or.elim (hD.1 k_ e_.symm) (fun hs_ => hk_.2.1 hs_) (fun hn_ => Nat.not_le.2 hk_.2.2 hn_)⟩))
    replace iS := am (dO PX hkp (fun hs_ => (fun e_ => (Kd.R_ne kT.1 iS.1 (by decide)) e_) hs_))
    have CL := am (Kd.bG (ok' := fun k_ => some k_ ≠ (.slice gJ bR.length gK : Value).ownBlock ∧ some k_ ≠ (.slice hI kU.length hJ : Value).ownBlock) hD (fun k_ hk_ => ⟨Or.elim hk_ (fun hs_ => fun e_ => (((aX.1).1 k_ e_.symm).2) hs_) (fun hn_ => (Kd.fresh' (Kd.R_lt kS) k_ hn_)), Or.elim hk_ (fun hs_ => fun e_ => (((iN.1).1 k_ e_.symm).2) hs_) (fun hn_ => (Kd.fresh' (Kd.R_lt PZ) k_ hn_))⟩))
    replace aX := am (Kd.bG (ok' := fun k_ => some k_ ≠ (.slice hI kU.length hJ : Value).ownBlock ∧ some k_ ≠ (kL : Value).ownBlock) (Kd.yF (aX.1) hkp (fun k_ hk_ hs_ => (hk_.2) hs_)) (fun k_ hk_ => ⟨hk_.1.1, fun e_ => Or.elim (hD.1 k_ e_.symm) (fun hs_ => hk_.2.1 hs_) (fun hn_ => Nat.not_le.2 hk_.2.2 hn_)⟩))
    replace iN := am (Kd.bG (ok' := fun k_ => some k_ ≠ (.slice gJ bR.length gK : Value).ownBlock ∧ some k_ ≠ (kL : Value).ownBlock) (Kd.yF (iN.1) hkp (fun k_ hk_ hs_ => (hk_.2) hs_)) (fun k_ hk_ => ⟨hk_.1.1, fun e_ => Or.elim (hD.1 k_ e_.symm) (fun hs_ => hk_.2.1 hs_) (fun hn_ => Nat.not_le.2 hk_.2.2 hn_)⟩))
    replace HB := am hb
    clear kT
    clear hb hkp hD
    have Kk : 0 ≤ (bO : Int) := oT
    have Ko : (bO : Int) < ((kZ.length : Int) : Int) := oT
    obtain ⟨iO, Nu, PP, VX, gl82, cl82, HG82⟩ := Kd.NM eA.1 (by omega)
    (first | cases PP | (injection PP with ea_ en_ ec_; (first | subst ea_ | (injection ea_ with ea_; subst ea_)); subst ec_; clear en_))
    have GB82 := am VX
    have GG82 := am HG82
    clear VX gl82 HG82
    obtain ⟨_, ce82, hcl82, hM82, hcc82, hfr82, _, _⟩ := Kd.zB eA.1 z66 (bO : Int) Kk Ko
    obtain ⟨ve82_1, ve82_2, rfl, Ix, Iy⟩ := pR hM82
    have Jh : World.cell? _ ⟨iO, (bO : Int).toNat * 3, none⟩ = some (.string ((aA kZ bO).f0)) := hcc82 0 _ rfl
    have Ji : World.cell? _ ⟨iO, (bO : Int).toNat * 3 + 1, none⟩ = some (ve82_1) := hcc82 1 _ rfl
    have Jj : World.cell? _ ⟨iO, (bO : Int).toNat * 3 + 2, none⟩ = some (ve82_2) := hcc82 2 _ rfl
    have hf82_0 : World.frozen? _ ⟨iO, (bO : Int).toNat * 3, none⟩ = false := hfr82 0
    have hf82_1 : World.frozen? _ ⟨iO, (bO : Int).toNat * 3 + 1, none⟩ = false := hfr82 1
    have hf82_2 : World.frozen? _ ⟨iO, (bO : Int).toNat * 3 + 2, none⟩ = false := hfr82 2
    clear hcl82 hcc82 hfr82 hM82
    replace Kk := eq_true Kk
    replace Ko := eq_true Ko
    have HX105 := am (show Kd.S k66 66 JC w.heap.size (fun k_ => ((fun k_ => some k_ ≠ (.slice gJ bR.length gK : Value).ownBlock ∧ some k_ ≠ (.slice jF dI.length jG : Value).ownBlock ∧ some k_ ≠ (.slice hI kU.length hJ : Value).ownBlock)) k_ ∧ ¬ ((fun k_ => some k_ = (kL : Value).ownBlock)) k_) (.slice (some ⟨iO, 0, none⟩) kZ.length lU) kZ from (by refine rS ?_; exact Kd.fU eA.1 (fun k_ hk => ⟨⟨hk.1, ⟨hk.2.1, hk.2.2.1⟩⟩, fun e_ => hk.2.2.2 e_⟩)))
    obtain ⟨oki105, ce105, hcl105, hM105, hcc105, hfr105, hoki105, hH105⟩ := Kd.zB HX105.out z66 (bO : Int) (oT) (by have h_ : (bO : Int) < ((kZ.length : Int) : Int) := oT; first | exact h_ | (have e_ := (Kd.lX eA.1).1; omega) | simpa using h_)
    obtain ⟨ve105_1, ve105_2, rfl, la, Bh⟩ := pR hM105
    have HP105 := (Kd.VA hH105 (oT) (by have h_ : (bO : Int) < ((kZ.length : Int) : Int) := oT; first | exact h_ | (have e_ := (Kd.lX eA.1).1; omega) | simpa using h_) (seg := [kL]) (j := 1) (show 2 ≤ 3 from by decide) (x' := (⟨(aA kZ bO).f0, UT, (aA kZ bO).f2⟩ : S66)) (yO _ _ _ (⟨(aA kZ bO).f0, UT, (aA kZ bO).f2⟩ : S66) (Kd.bG (Kd.kP rfl (Kd.bG (ok' := fun k_ => ((fun k_ => some k_ ≠ (.slice gJ bR.length gK : Value).ownBlock ∧ some k_ ≠ (.slice jF dI.length jG : Value).ownBlock ∧ some k_ ≠ (.slice hI kU.length hJ : Value).ownBlock)) k_ ∧ k_ ≠ iO) (Kd.iR (Kd.iR (CL.1) (Kd.kQ aN.1) (by decide)) (Kd.kQ eA.1) (by decide)) (fun k_ hk => ⟨⟨hk.1.1.1, ⟨hk.1.2, hk.1.1.2⟩⟩, fun e_ => (hk.2) (by rw [e_]; rfl)⟩))) (fun _ h_ => Or.inr (h_))) (Kd.bG Bh (fun _ h_ => Or.inl h_)) (fun k_ e1_ e2_ => (hoki105 k_ (Bh.1 k_ e2_)).1.2 e1_.symm)) (fun _ hk => hk) (fun k_ hk_ => ((Kd.bG (ok' := fun k_ => ((fun k_ => some k_ ≠ (.slice gJ bR.length gK : Value).ownBlock ∧ some k_ ≠ (.slice jF dI.length jG : Value).ownBlock ∧ some k_ ≠ (.slice hI kU.length hJ : Value).ownBlock)) k_ ∧ k_ ≠ iO) (Kd.iR (Kd.iR (CL.1) (Kd.kQ aN.1) (by decide)) (Kd.kQ eA.1) (by decide)) (fun k_ hk => ⟨⟨hk.1.1.1, ⟨hk.1.2, hk.1.1.2⟩⟩, fun e_ => (hk.2) (by rw [e_]; rfl)⟩))).1 k_ hk_.symm)).1
    rw [← Gx.out] at HP105
    have HQ105 := am HP105
    clear hcl105 hcc105 hfr105 hM105 HP105
    refine nK hK (uA2 iS).1 fun hHeld => ?_
    clear hK K
    refine pU2 5 6 ?_
    refine lN 7 none fun K hK => ?_
    refine qJ (w1 := (JC.setCell ⟨iO, (bO : Int).toNat * 3 + 1, none⟩ (kL))) (by rfl) rfl ?_ ?_
    skip
    ·obtain ⟨Az_, cz_, ez_⟩ := Kd.cB CL.1
     subst ez_
     go_simp
     (try rfl)
    refine hK.out _ _ ?_
    clear hK K
    refine dN ?_
    have n0_ : aD (Kd.R Kd.string 9 (JC.setCell ⟨iO, (bO : Int).toNat * 3 + 1, none⟩ (kL)) w.heap.size (fun k_ => some k_ ≠ (.slice hI kU.length hJ : Value).ownBlock) (.slice gJ bR.length gK) bR) := ⟨by refine rR ?_; exact Kd.bG (Kd.uL (p := ⟨iO, (bO : Int).toNat * 3 + 1, none⟩) (tR aX GG82) (fun _ hk => hk.2) (kL)) (fun _ hk => hk.1.1)⟩
    have n1_ : aD (Kd.S k66 66 (JC.setCell ⟨iO, (bO : Int).toNat * 3 + 1, none⟩ (kL)) w.heap.size (fun k_ => some k_ ≠ (.slice gJ bR.length gK : Value).ownBlock ∧ some k_ ≠ (.slice hI kU.length hJ : Value).ownBlock ∧ some k_ ≠ (.slice (some ⟨iO, 0, none⟩) kZ.length lU : Value).ownBlock) (.slice jF dI.length jG) dI) := ⟨by refine rS ?_; exact Kd.fU (Kd.Ap (p := ⟨iO, (bO : Int).toNat * 3 + 1, none⟩) (Kd.fU aN.1 (fun k_ hk => (⟨hk, fun e_ => hk.2.2.1 (by rw [e_]; rfl)⟩ : _ ∧ k_ ≠ iO))) (fun _ hk => hk.2) (kL)) (fun _ hk => ⟨hk.1.1, ⟨hk.1.2.1, hk.1.2.2.1⟩⟩)⟩
    have n2_ : aD (Kd.R Kd.string 9 (JC.setCell ⟨iO, (bO : Int).toNat * 3 + 1, none⟩ (kL)) w.heap.size (fun k_ => some k_ ≠ (.slice gJ bR.length gK : Value).ownBlock) (.slice hI kU.length hJ) kU) := ⟨by refine rR ?_; exact Kd.bG (Kd.uL (p := ⟨iO, (bO : Int).toNat * 3 + 1, none⟩) (tR iN GG82) (fun _ hk => hk.2) (kL)) (fun _ hk => hk.1.1)⟩
    have n3_ : aD (Kd.S k66 66 (JC.setCell ⟨iO, (bO : Int).toNat * 3 + 1, none⟩ (kL)) w.heap.size (fun k_ => some k_ ≠ (.slice gJ bR.length gK : Value).ownBlock ∧ some k_ ≠ (.slice jF dI.length jG : Value).ownBlock ∧ some k_ ≠ (.slice hI kU.length hJ : Value).ownBlock) (.slice (some ⟨iO, 0, none⟩) kZ.length lU) PL) := ⟨rS HQ105.out⟩
    have n4_ : aD ((JC.setCell ⟨iO, (bO : Int).toNat * 3 + 1, none⟩ (kL)).heap[aZ]? = some (.cells #[.slice dD aQ.length dE, .slice (some mL) aE.length dB] 31 (0, 0))) := ⟨by refine rB ?_; refine eX ?_ (by have h_ := Kd.S_ne eA.1 aC.1 (by decide); intro e_; exact h_ (by rw [e_]; rfl)) _; refine rB ?_; exact aC.1⟩
    have n5_ : aD ((JC.setCell ⟨iO, (bO : Int).toNat * 3 + 1, none⟩ (kL)).heap[bF]? = some (.cells #[.slice none 0 0, .slice none 0 0] 31 (0, 0))) := ⟨by refine rB ?_; refine eX ?_ (by have h_ := Kd.S_ne eA.1 aT.1 (by decide); intro e_; exact h_ (by rw [e_]; rfl)) _; refine rB ?_; exact aT.1⟩
    have n6_ : aD ((JC.setCell ⟨iO, (bO : Int).toNat * 3 + 1, none⟩ (kL)).heap[bM]? = some (.cells #[.slice gJ bR.length gK, .slice jF dI.length jG] 31 (0, 0))) := ⟨by refine rB ?_; refine eX ?_ (by have h_ := Kd.S_ne eA.1 aY.1 (by decide); intro e_; exact h_ (by rw [e_]; rfl)) _; refine rB ?_; exact aY.1⟩
    have n7_ : aD ((JC.setCell ⟨iO, (bO : Int).toNat * 3 + 1, none⟩ (kL)).heap[zX]? = some (.cells #[.slice hI kU.length hJ, .slice (some ⟨iO, 0, none⟩) kZ.length lU] 31 (0, 0))) := ⟨by refine rB ?_; refine eX ?_ (by have h_ := Kd.S_ne eA.1 iS.1 (by decide); intro e_; exact h_ (by rw [e_]; rfl)) _; refine rB ?_; exact iS.1⟩
    have n8_ : aD (Below w.heap.size w (JC.setCell ⟨iO, (bO : Int).toNat * 3 + 1, none⟩ (kL))) := ⟨by repeat (first | (with_reducible first | exact HB.1 | apply dZ | apply bK | apply aU | refine aJ ?_ GB82.out | refine aJ ?_ iL.1 | refine aJ ?_ pM.1 | refine aJ ?_ wH.1 | refine aJ ?_ ZV.1) | exact HB.1)⟩
    (try clear aX)
    (try clear aN)
    (try clear iN)
    (try clear eA)
    (try clear aC)
    (try clear aT)
    (try clear aY)
    (try clear iS)
    (try clear HB)
    generalize (JC.setCell ⟨iO, (bO : Int).toNat * 3 + 1, none⟩ (kL)) = a6Y at n0_ n1_ n2_ n3_ n4_ n5_ n6_ n7_ n8_ ⊢
    have aX := n0_
    have aN := n1_
    have iN := n2_
    have eA := n3_
    have aC := n4_
    have aT := n5_
    have aY := n6_
    have iS := n7_
    have HB := n8_
    clear n0_ n1_ n2_ n3_ n4_ n5_ n6_ n7_ n8_
    have a3D := cz2 aC
    try go_wp2_with (first | ((with_reducible refine gC 77 ?_); refine cQ (some 78) Tryz.func77 (jM.calls k1 _ _ aQ _ _ aE true _ (pB cS) cO.1 (pB bE) dL.1 nh.out) ?_; rintro a7A hb; replace aX := RB kS hb; replace aN := SB UG hb; replace iN := RB PZ hb; replace eA := SB Ee hb; replace aC := bB bJ hb; replace aT := bB fF hb; replace aY := bB jO hb; replace iS := bB PX hb; replace HB := bS CZ hb; clear hb; have a3E := cz2 iS) | (go_at_call 77; refine EU (args' := #[.agg #[.slice hI kU.length hJ, .slice (some ⟨iO, 0, none⟩) PL.length lU]]) (by first | (rw [show PL.length = kZ.length from (Kd.lX eA.1).1.symm] <;> rfl) | rfl) ?_; (with_reducible refine (jM.calls k1 _ _ kU _ _ PL true _ ?side1 ?side2 ?side3 ?side4 tu.out).mono ?_); (case side1 => exact pC (Kd.bI iN.1).2.2); (case side2 => exact (Kd.bI iN.1).2.1); (case side3 => exact pC (Kd.lX eA.1).2.2); (case side4 => rw [show PL.length = kZ.length from (Kd.lX eA.1).1.symm]; exact (Kd.lX eA.1).2.1); rintro e tc ⟨rfl, hb⟩; replace aX := RB kS hb; replace aN := SB UG hb; replace iN := RB PZ hb; replace eA := SB Ee hb; replace aC := bB bJ hb; replace aT := bB fF hb; replace aY := bB jO hb; replace iS := bB PX hb; replace HB := bS CZ hb; clear hb; have om := cz2 iS; have a3F := nZ1 fI gW; have a3G := cz2 aT))
    refine cT bF 31 #[.slice hI kU.length hJ, .slice (some ⟨iO, 0, none⟩) kZ.length lU] (qP aT) Tryz.underlying31 ?_
    exact ⟨_, _, eR, mR iN aT, by refine rS ?_; exact Kd.fU (fS (fS (tS eA aT))) (fun _ hk => hk.1.2.2), CZ⟩
   ·replace aX := RD aX
    replace aN := SD aN
    replace iN := RD iN
    replace eA := SD eA
    replace kT := RD kT
    replace aC := BD aC
    replace aT := BD aT
    replace aY := BD aY
    replace iS := BD iS
    replace HB := am (aU HB.1)
    refine sT [7] 8 (uA2 iS) (fun hHeld => ?_)
    refine gH eB.Lc eB.Y0 (fun HT_ HW_ => ?_)
    generalize Lj.drew = a7H at aX aN iN eA kT aC aT aY iS HB hHeld ⊢
    refine pU3 0 2 3 ?_
    refine tK2 1 (some 71) ?_
    refine oN 4 (some 74) fun K hK => ?_
    refine gE Tryz.func76 (iM.calls (fun k_ => some k_ = (.slice vU DL.length vZ : Value).ownBlock) (.slice vU DL.length vZ) t131 UT w _ (CZ) (Kd.kP rfl kT.1) ng.out) ?_
    rintro e LZ ⟨kL, rfl, hD, hb, hkp⟩
    refine ⟨_, rfl, ?_⟩
    replace aN := am (Kd.fU (ok' := fun k_ => some k_ ≠ (.slice gJ bR.length gK : Value).ownBlock ∧ some k_ ≠ (.slice hI kU.length hJ : Value).ownBlock ∧ some k_ ≠ (.slice AR kZ.length lU : Value).ownBlock ∧ some k_ ≠ (kL : Value).ownBlock) (Kd.yG (aN.1) hkp (fun k_ hk_ hs_ => (hk_.2.2.2) hs_)) (fun k_ hk_ => ⟨hk_.1.1, hk_.1.2.1, hk_.1.2.2.1, fun e_ => Or.elim (hD.1 k_ e_.symm) (fun hs_ => hk_.2.1 hs_) (fun hn_ => Nat.not_le.2 hk_.2.2 hn_)⟩))
    replace aC := am (dO bJ hkp (fun hs_ => (fun e_ => (Kd.R_ne kT.1 aC.1 (by decide)) e_) hs_))
    replace aT := am (dO fF hkp (fun hs_ => (fun e_ => (Kd.R_ne kT.1 aT.1 (by decide)) e_) hs_))
    replace aY := am (dO jO hkp (fun hs_ => (fun e_ => (Kd.R_ne kT.1 aY.1 (by decide)) e_) hs_))
    replace eA := am (Kd.fU (ok' := fun k_ => some k_ ≠ (.slice gJ bR.length gK : Value).ownBlock ∧ some k_ ≠ (.slice jF dI.length jG : Value).ownBlock ∧ some k_ ≠ (.slice hI kU.length hJ : Value).ownBlock ∧ some k_ ≠ (kL : Value).ownBlock) (Kd.yG (eA.1) hkp (fun k_ hk_ hs_ => (hk_.2.2.2) hs_)) (fun k_ hk_ => ⟨hk_.1.1, hk_.1.2.1, hk_.1.2.2.1, fun e_ => Or.elim (hD.1 k_ e_.symm) (fun hs_ => hk_.2.1 hs_) (fun hn_ => Nat.not_le.2 hk_.2.2 hn_)⟩))
    replace iS := am (dO PX hkp (fun hs_ => (fun e_ => (Kd.R_ne kT.1 iS.1 (by decide)) e_) hs_))
    have CL := am (Kd.bG (ok' := fun k_ => some k_ ≠ (.slice gJ bR.length gK : Value).ownBlock ∧ some k_ ≠ (.slice hI kU.length hJ : Value).ownBlock) hD (fun k_ hk_ => ⟨Or.elim hk_ (fun hs_ => fun e_ => (((aX.1).1 k_ e_.symm).2) hs_) (fun hn_ => (Kd.fresh' (Kd.R_lt kS) k_ hn_)), Or.elim hk_ (fun hs_ => fun e_ => (((iN.1).1 k_ e_.symm).2) hs_) (fun hn_ => (Kd.fresh' (Kd.R_lt PZ) k_ hn_))⟩))
    replace aX := am (Kd.bG (ok' := fun k_ => some k_ ≠ (.slice hI kU.length hJ : Value).ownBlock ∧ some k_ ≠ (kL : Value).ownBlock) (Kd.yF (aX.1) hkp (fun k_ hk_ hs_ => (hk_.2) hs_)) (fun k_ hk_ => ⟨hk_.1.1, fun e_ => Or.elim (hD.1 k_ e_.symm) (fun hs_ => hk_.2.1 hs_) (fun hn_ => Nat.not_le.2 hk_.2.2 hn_)⟩))
    replace iN := am (Kd.bG (ok' := fun k_ => some k_ ≠ (.slice gJ bR.length gK : Value).ownBlock ∧ some k_ ≠ (kL : Value).ownBlock) (Kd.yF (iN.1) hkp (fun k_ hk_ hs_ => (hk_.2) hs_)) (fun k_ hk_ => ⟨hk_.1.1, fun e_ => Or.elim (hD.1 k_ e_.symm) (fun hs_ => hk_.2.1 hs_) (fun hn_ => Nat.not_le.2 hk_.2.2 hn_)⟩))
    replace HB := am hb
    clear kT
    clear hb hkp hD
    have Kk : 0 ≤ (bO : Int) := oT
    have Ko : (bO : Int) < ((kZ.length : Int) : Int) := oT
    obtain ⟨iO, Nu, PP, VX, gl82, cl82, HG82⟩ := Kd.NM eA.1 (by omega)
    (first | cases PP | (injection PP with ea_ en_ ec_; (first | subst ea_ | (injection ea_ with ea_; subst ea_)); subst ec_; clear en_))
    have GB82 := am VX
    have GG82 := am HG82
    clear VX gl82 HG82
    obtain ⟨_, ce82, hcl82, hM82, hcc82, hfr82, _, _⟩ := Kd.zB eA.1 z66 (bO : Int) Kk Ko
    obtain ⟨ve82_1, ve82_2, rfl, Ix, Iy⟩ := pR hM82
    have Jh : World.cell? _ ⟨iO, (bO : Int).toNat * 3, none⟩ = some (.string ((aA kZ bO).f0)) := hcc82 0 _ rfl
    have Ji : World.cell? _ ⟨iO, (bO : Int).toNat * 3 + 1, none⟩ = some (ve82_1) := hcc82 1 _ rfl
    have Jj : World.cell? _ ⟨iO, (bO : Int).toNat * 3 + 2, none⟩ = some (ve82_2) := hcc82 2 _ rfl
    have hf82_0 : World.frozen? _ ⟨iO, (bO : Int).toNat * 3, none⟩ = false := hfr82 0
    have hf82_1 : World.frozen? _ ⟨iO, (bO : Int).toNat * 3 + 1, none⟩ = false := hfr82 1
    have hf82_2 : World.frozen? _ ⟨iO, (bO : Int).toNat * 3 + 2, none⟩ = false := hfr82 2
    clear hcl82 hcc82 hfr82 hM82
    replace Kk := eq_true Kk
    replace Ko := eq_true Ko
    have HX132 := am (show Kd.S k66 66 LZ w.heap.size (fun k_ => ((fun k_ => some k_ ≠ (.slice gJ bR.length gK : Value).ownBlock ∧ some k_ ≠ (.slice jF dI.length jG : Value).ownBlock ∧ some k_ ≠ (.slice hI kU.length hJ : Value).ownBlock)) k_ ∧ ¬ ((fun k_ => some k_ = (kL : Value).ownBlock)) k_) (.slice (some ⟨iO, 0, none⟩) kZ.length lU) kZ from (by refine rS ?_; exact Kd.fU eA.1 (fun k_ hk => ⟨⟨hk.1, ⟨hk.2.1, hk.2.2.1⟩⟩, fun e_ => hk.2.2.2 e_⟩)))
    obtain ⟨oki132, ce132, hcl132, hM132, hcc132, hfr132, hoki132, hH132⟩ := Kd.zB HX132.out z66 (bO : Int) (oT) (by have h_ : (bO : Int) < ((kZ.length : Int) : Int) := oT; first | exact h_ | (have e_ := (Kd.lX eA.1).1; omega) | simpa using h_)
    obtain ⟨ve132_1, ve132_2, rfl, lc, Bi⟩ := pR hM132
    have HP132 := (Kd.VA hH132 (oT) (by have h_ : (bO : Int) < ((kZ.length : Int) : Int) := oT; first | exact h_ | (have e_ := (Kd.lX eA.1).1; omega) | simpa using h_) (seg := [kL]) (j := 1) (show 2 ≤ 3 from by decide) (x' := (⟨(aA kZ bO).f0, UT, (aA kZ bO).f2⟩ : S66)) (yO _ _ _ (⟨(aA kZ bO).f0, UT, (aA kZ bO).f2⟩ : S66) (Kd.bG (Kd.kP rfl (Kd.bG (ok' := fun k_ => ((fun k_ => some k_ ≠ (.slice gJ bR.length gK : Value).ownBlock ∧ some k_ ≠ (.slice jF dI.length jG : Value).ownBlock ∧ some k_ ≠ (.slice hI kU.length hJ : Value).ownBlock)) k_ ∧ k_ ≠ iO) (Kd.iR (Kd.iR (CL.1) (Kd.kQ aN.1) (by decide)) (Kd.kQ eA.1) (by decide)) (fun k_ hk => ⟨⟨hk.1.1.1, ⟨hk.1.2, hk.1.1.2⟩⟩, fun e_ => (hk.2) (by rw [e_]; rfl)⟩))) (fun _ h_ => Or.inr (h_))) (Kd.bG Bi (fun _ h_ => Or.inl h_)) (fun k_ e1_ e2_ => (hoki132 k_ (Bi.1 k_ e2_)).1.2 e1_.symm)) (fun _ hk => hk) (fun k_ hk_ => ((Kd.bG (ok' := fun k_ => ((fun k_ => some k_ ≠ (.slice gJ bR.length gK : Value).ownBlock ∧ some k_ ≠ (.slice jF dI.length jG : Value).ownBlock ∧ some k_ ≠ (.slice hI kU.length hJ : Value).ownBlock)) k_ ∧ k_ ≠ iO) (Kd.iR (Kd.iR (CL.1) (Kd.kQ aN.1) (by decide)) (Kd.kQ eA.1) (by decide)) (fun k_ hk => ⟨⟨hk.1.1.1, ⟨hk.1.2, hk.1.1.2⟩⟩, fun e_ => (hk.2) (by rw [e_]; rfl)⟩))).1 k_ hk_.symm)).1
    rw [← Gx.out] at HP132
    have HQ132 := am HP132
    clear hcl132 hcc132 hfr132 hM132 HP132
    refine nK hK (uA2 iS).1 fun hHeld => ?_
    clear hK K
    refine pU2 5 6 ?_
    refine lN 7 none fun K hK => ?_
    refine qJ (w1 := (LZ.setCell ⟨iO, (bO : Int).toNat * 3 + 1, none⟩ (kL))) (by rfl) rfl ?_ ?_
    skip
    ·obtain ⟨Az_, cz_, ez_⟩ := Kd.cB CL.1
     subst ez_
     go_simp
     (try rfl)
    refine hK.out _ _ ?_
    clear hK K
    refine dN ?_
    have n0_ : aD (Kd.R Kd.string 9 (LZ.setCell ⟨iO, (bO : Int).toNat * 3 + 1, none⟩ (kL)) w.heap.size (fun k_ => some k_ ≠ (.slice hI kU.length hJ : Value).ownBlock) (.slice gJ bR.length gK) bR) := ⟨by refine rR ?_; exact Kd.bG (Kd.uL (p := ⟨iO, (bO : Int).toNat * 3 + 1, none⟩) (tR aX GG82) (fun _ hk => hk.2) (kL)) (fun _ hk => hk.1.1)⟩
    have n1_ : aD (Kd.S k66 66 (LZ.setCell ⟨iO, (bO : Int).toNat * 3 + 1, none⟩ (kL)) w.heap.size (fun k_ => some k_ ≠ (.slice gJ bR.length gK : Value).ownBlock ∧ some k_ ≠ (.slice hI kU.length hJ : Value).ownBlock ∧ some k_ ≠ (.slice (some ⟨iO, 0, none⟩) kZ.length lU : Value).ownBlock) (.slice jF dI.length jG) dI) := ⟨by refine rS ?_; exact Kd.fU (Kd.Ap (p := ⟨iO, (bO : Int).toNat * 3 + 1, none⟩) (Kd.fU aN.1 (fun k_ hk => (⟨hk, fun e_ => hk.2.2.1 (by rw [e_]; rfl)⟩ : _ ∧ k_ ≠ iO))) (fun _ hk => hk.2) (kL)) (fun _ hk => ⟨hk.1.1, ⟨hk.1.2.1, hk.1.2.2.1⟩⟩)⟩
    have n2_ : aD (Kd.R Kd.string 9 (LZ.setCell ⟨iO, (bO : Int).toNat * 3 + 1, none⟩ (kL)) w.heap.size (fun k_ => some k_ ≠ (.slice gJ bR.length gK : Value).ownBlock) (.slice hI kU.length hJ) kU) := ⟨by refine rR ?_; exact Kd.bG (Kd.uL (p := ⟨iO, (bO : Int).toNat * 3 + 1, none⟩) (tR iN GG82) (fun _ hk => hk.2) (kL)) (fun _ hk => hk.1.1)⟩
    have n3_ : aD (Kd.S k66 66 (LZ.setCell ⟨iO, (bO : Int).toNat * 3 + 1, none⟩ (kL)) w.heap.size (fun k_ => some k_ ≠ (.slice gJ bR.length gK : Value).ownBlock ∧ some k_ ≠ (.slice jF dI.length jG : Value).ownBlock ∧ some k_ ≠ (.slice hI kU.length hJ : Value).ownBlock) (.slice (some ⟨iO, 0, none⟩) kZ.length lU) PL) := ⟨rS HQ132.out⟩
    have n4_ : aD ((LZ.setCell ⟨iO, (bO : Int).toNat * 3 + 1, none⟩ (kL)).heap[aZ]? = some (.cells #[.slice dD aQ.length dE, .slice (some mL) aE.length dB] 31 (0, 0))) := ⟨by refine rB ?_; refine eX ?_ (by have h_ := Kd.S_ne eA.1 aC.1 (by decide); intro e_; exact h_ (by rw [e_]; rfl)) _; refine rB ?_; exact aC.1⟩
    have n5_ : aD ((LZ.setCell ⟨iO, (bO : Int).toNat * 3 + 1, none⟩ (kL)).heap[bF]? = some (.cells #[.slice none 0 0, .slice none 0 0] 31 (0, 0))) := ⟨by refine rB ?_; refine eX ?_ (by have h_ := Kd.S_ne eA.1 aT.1 (by decide); intro e_; exact h_ (by rw [e_]; rfl)) _; refine rB ?_; exact aT.1⟩
    have n6_ : aD ((LZ.setCell ⟨iO, (bO : Int).toNat * 3 + 1, none⟩ (kL)).heap[bM]? = some (.cells #[.slice gJ bR.length gK, .slice jF dI.length jG] 31 (0, 0))) := ⟨by refine rB ?_; refine eX ?_ (by have h_ := Kd.S_ne eA.1 aY.1 (by decide); intro e_; exact h_ (by rw [e_]; rfl)) _; refine rB ?_; exact aY.1⟩
    have n7_ : aD ((LZ.setCell ⟨iO, (bO : Int).toNat * 3 + 1, none⟩ (kL)).heap[zX]? = some (.cells #[.slice hI kU.length hJ, .slice (some ⟨iO, 0, none⟩) kZ.length lU] 31 (0, 0))) := ⟨by refine rB ?_; refine eX ?_ (by have h_ := Kd.S_ne eA.1 iS.1 (by decide); intro e_; exact h_ (by rw [e_]; rfl)) _; refine rB ?_; exact iS.1⟩
    have n8_ : aD (Below w.heap.size w (LZ.setCell ⟨iO, (bO : Int).toNat * 3 + 1, none⟩ (kL))) := ⟨by repeat (first | (with_reducible first | exact HB.1 | apply dZ | apply bK | apply aU | refine aJ ?_ GB82.out | refine aJ ?_ iL.1 | refine aJ ?_ pM.1 | refine aJ ?_ wH.1 | refine aJ ?_ ZV.1) | exact HB.1)⟩
    (try clear aX)
    (try clear aN)
    (try clear iN)
    (try clear eA)
    (try clear aC)
    (try clear aT)
    (try clear aY)
    (try clear iS)
    (try clear HB)
    generalize (LZ.setCell ⟨iO, (bO : Int).toNat * 3 + 1, none⟩ (kL)) = a7I at n0_ n1_ n2_ n3_ n4_ n5_ n6_ n7_ n8_ ⊢
    have aX := n0_
    have aN := n1_
    have iN := n2_
    have eA := n3_
    have aC := n4_
    have aT := n5_
    have aY := n6_
    have iS := n7_
    have HB := n8_
    clear n0_ n1_ n2_ n3_ n4_ n5_ n6_ n7_ n8_
    have a3O := cz2 aC
    try go_wp2_with (first | ((with_reducible refine gC 77 ?_); refine cQ (some 78) Tryz.func77 (jM.calls k1 _ _ aQ _ _ aE true _ (pB cS) cO.1 (pB bE) dL.1 nh.out) ?_; rintro a7J hb; replace aX := RB kS hb; replace aN := SB UG hb; replace iN := RB PZ hb; replace eA := SB Ee hb; replace aC := bB bJ hb; replace aT := bB fF hb; replace aY := bB jO hb; replace iS := bB PX hb; replace HB := bS CZ hb; clear hb; have a3P := cz2 iS) | (go_at_call 77; refine EU (args' := #[.agg #[.slice hI kU.length hJ, .slice (some ⟨iO, 0, none⟩) PL.length lU]]) (by first | (rw [show PL.length = kZ.length from (Kd.lX eA.1).1.symm] <;> rfl) | rfl) ?_; (with_reducible refine (jM.calls k1 _ _ kU _ _ PL false _ ?side1 ?side2 ?side3 ?side4 tu.out).mono ?_); (case side1 => exact pC (Kd.bI iN.1).2.2); (case side2 => exact (Kd.bI iN.1).2.1); (case side3 => exact pC (Kd.lX eA.1).2.2); (case side4 => rw [show PL.length = kZ.length from (Kd.lX eA.1).1.symm]; exact (Kd.lX eA.1).2.1); rintro e a7K ⟨rfl, hb⟩; replace aX := RB kS hb; replace aN := SB UG hb; replace iN := RB PZ hb; replace eA := SB Ee hb; replace aC := bB bJ hb; replace aT := bB fF hb; replace aY := bB jO hb; replace iS := bB PX hb; replace HB := bS CZ hb; clear hb; have a3Q := nZ1 gW fI; have a3R := cz2 aY; have a3T := cz2 aT))
    refine cT bF 31 #[.slice gJ bR.length gK, .slice jF dI.length jG] (qP aT) Tryz.underlying31 ?_
    exact ⟨_, _, eR, mR aX aT, mS aN aT, CZ⟩
   ·replace aX := RD aX
    replace aN := SD aN
    replace iN := RD iN
    replace eA := SD eA
    replace kT := RD kT
    replace aC := BD aC
    replace aT := BD aT
    replace aY := BD aY
    replace iS := BD iS
    replace HB := am (aU HB.1)
    refine sT [7] 8 (uA2 iS) (fun hHeld => ?_)
    refine gH eB.Lc eB.Y0 (fun HT_ HW_ => ?_)
    generalize Lj.drew = a7L at aX aN iN eA kT aC aT aY iS HB hHeld ⊢
    refine pU3 0 2 3 ?_
    refine tK2 1 (some 71) ?_
    refine oN 4 (some 74) fun K hK => ?_
    refine gE Tryz.func76 (iM.calls (fun k_ => some k_ = (.slice vU DL.length vZ : Value).ownBlock) (.slice vU DL.length vZ) t131 UT w _ (CZ) (Kd.kP rfl kT.1) ng.out) ?_
    rintro e M0 ⟨kL, rfl, hD, hb, hkp⟩
    refine ⟨_, rfl, ?_⟩
    replace aN := am (Kd.fU (ok' := fun k_ => some k_ ≠ (.slice gJ bR.length gK : Value).ownBlock ∧ some k_ ≠ (.slice hI kU.length hJ : Value).ownBlock ∧ some k_ ≠ (.slice AR kZ.length lU : Value).ownBlock ∧ some k_ ≠ (kL : Value).ownBlock) (Kd.yG (aN.1) hkp (fun k_ hk_ hs_ => (hk_.2.2.2) hs_)) (fun k_ hk_ => ⟨hk_.1.1, hk_.1.2.1, hk_.1.2.2.1, fun e_ => Or.elim (hD.1 k_ e_.symm) (fun hs_ => hk_.2.1 hs_) (fun hn_ => Nat.not_le.2 hk_.2.2 hn_)⟩))
    replace aC := am (dO bJ hkp (fun hs_ => (fun e_ => (Kd.R_ne kT.1 aC.1 (by decide)) e_) hs_))
    replace aT := am (dO fF hkp (fun hs_ => (fun e_ => (Kd.R_ne kT.1 aT.1 (by decide)) e_) hs_))
    replace aY := am (dO jO hkp (fun hs_ => (fun e_ => (Kd.R_ne kT.1 aY.1 (by decide)) e_) hs_))
    replace eA := am (Kd.fU (ok' := fun k_ => some k_ ≠ (.slice gJ bR.length gK : Value).ownBlock ∧ some k_ ≠ (.slice jF dI.length jG : Value).ownBlock ∧ some k_ ≠ (.slice hI kU.length hJ : Value).ownBlock ∧ some k_ ≠ (kL : Value).ownBlock) (Kd.yG (eA.1) hkp (fun k_ hk_ hs_ => (hk_.2.2.2) hs_)) (fun k_ hk_ => ⟨hk_.1.1, hk_.1.2.1, hk_.1.2.2.1, fun e_ => Or.elim (hD.1 k_ e_.symm) (fun hs_ => hk_.2.1 hs_) (fun hn_ => Nat.not_le.2 hk_.2.2 hn_)⟩))
    replace iS := am (dO PX hkp (fun hs_ => (fun e_ => (Kd.R_ne kT.1 iS.1 (by decide)) e_) hs_))
    have CL := am (Kd.bG (ok' := fun k_ => some k_ ≠ (.slice gJ bR.length gK : Value).ownBlock ∧ some k_ ≠ (.slice hI kU.length hJ : Value).ownBlock) hD (fun k_ hk_ => ⟨Or.elim hk_ (fun hs_ => fun e_ => (((aX.1).1 k_ e_.symm).2) hs_) (fun hn_ => (Kd.fresh' (Kd.R_lt kS) k_ hn_)), Or.elim hk_ (fun hs_ => fun e_ => (((iN.1).1 k_ e_.symm).2) hs_) (fun hn_ => (Kd.fresh' (Kd.R_lt PZ) k_ hn_))⟩))
    replace aX := am (Kd.bG (ok' := fun k_ => some k_ ≠ (.slice hI kU.length hJ : Value).ownBlock ∧ some k_ ≠ (kL : Value).ownBlock) (Kd.yF (aX.1) hkp (fun k_ hk_ hs_ => (hk_.2) hs_)) (fun k_ hk_ => ⟨hk_.1.1, fun e_ => Or.elim (hD.1 k_ e_.symm) (fun hs_ => hk_.2.1 hs_) (fun hn_ => Nat.not_le.2 hk_.2.2 hn_)⟩))
    replace iN := am (Kd.bG (ok' := fun k_ => some k_ ≠ (.slice gJ bR.length gK : Value).ownBlock ∧ some k_ ≠ (kL : Value).ownBlock) (Kd.yF (iN.1) hkp (fun k_ hk_ hs_ => (hk_.2) hs_)) (fun k_ hk_ => ⟨hk_.1.1, fun e_ => Or.elim (hD.1 k_ e_.symm) (fun hs_ => hk_.2.1 hs_) (fun hn_ => Nat.not_le.2 hk_.2.2 hn_)⟩))
    replace HB := am hb
    clear kT
    clear hb hkp hD
    have Kk : 0 ≤ (bO : Int) := oT
    have Ko : (bO : Int) < ((kZ.length : Int) : Int) := oT
    obtain ⟨iO, Nu, PP, VX, gl82, cl82, HG82⟩ := Kd.NM eA.1 (by omega)
    (first | cases PP | (injection PP with ea_ en_ ec_; (first | subst ea_ | (injection ea_ with ea_; subst ea_)); subst ec_; clear en_))
    have GB82 := am VX
    have GG82 := am HG82
    clear VX gl82 HG82
    obtain ⟨_, ce82, hcl82, hM82, hcc82, hfr82, _, _⟩ := Kd.zB eA.1 z66 (bO : Int) Kk Ko
    obtain ⟨ve82_1, ve82_2, rfl, Ix, Iy⟩ := pR hM82
    have Jh : World.cell? _ ⟨iO, (bO : Int).toNat * 3, none⟩ = some (.string ((aA kZ bO).f0)) := hcc82 0 _ rfl
    have Ji : World.cell? _ ⟨iO, (bO : Int).toNat * 3 + 1, none⟩ = some (ve82_1) := hcc82 1 _ rfl
    have Jj : World.cell? _ ⟨iO, (bO : Int).toNat * 3 + 2, none⟩ = some (ve82_2) := hcc82 2 _ rfl
    have hf82_0 : World.frozen? _ ⟨iO, (bO : Int).toNat * 3, none⟩ = false := hfr82 0
    have hf82_1 : World.frozen? _ ⟨iO, (bO : Int).toNat * 3 + 1, none⟩ = false := hfr82 1
    have hf82_2 : World.frozen? _ ⟨iO, (bO : Int).toNat * 3 + 2, none⟩ = false := hfr82 2
    clear hcl82 hcc82 hfr82 hM82
    replace Kk := eq_true Kk
    replace Ko := eq_true Ko
    have HX159 := am (show Kd.S k66 66 M0 w.heap.size (fun k_ => ((fun k_ => some k_ ≠ (.slice gJ bR.length gK : Value).ownBlock ∧ some k_ ≠ (.slice jF dI.length jG : Value).ownBlock ∧ some k_ ≠ (.slice hI kU.length hJ : Value).ownBlock)) k_ ∧ ¬ ((fun k_ => some k_ = (kL : Value).ownBlock)) k_) (.slice (some ⟨iO, 0, none⟩) kZ.length lU) kZ from (by refine rS ?_; exact Kd.fU eA.1 (fun k_ hk => ⟨⟨hk.1, ⟨hk.2.1, hk.2.2.1⟩⟩, fun e_ => hk.2.2.2 e_⟩)))
    obtain ⟨oki159, ce159, hcl159, hM159, hcc159, hfr159, hoki159, hH159⟩ := Kd.zB HX159.out z66 (bO : Int) (oT) (by have h_ : (bO : Int) < ((kZ.length : Int) : Int) := oT; first | exact h_ | (have e_ := (Kd.lX eA.1).1; omega) | simpa using h_)
    obtain ⟨ve159_1, ve159_2, rfl, ld, Bj⟩ := pR hM159
    have HP159 := (Kd.VA hH159 (oT) (by have h_ : (bO : Int) < ((kZ.length : Int) : Int) := oT; first | exact h_ | (have e_ := (Kd.lX eA.1).1; omega) | simpa using h_) (seg := [kL]) (j := 1) (show 2 ≤ 3 from by decide) (x' := (⟨(aA kZ bO).f0, UT, (aA kZ bO).f2⟩ : S66)) (yO _ _ _ (⟨(aA kZ bO).f0, UT, (aA kZ bO).f2⟩ : S66) (Kd.bG (Kd.kP rfl (Kd.bG (ok' := fun k_ => ((fun k_ => some k_ ≠ (.slice gJ bR.length gK : Value).ownBlock ∧ some k_ ≠ (.slice jF dI.length jG : Value).ownBlock ∧ some k_ ≠ (.slice hI kU.length hJ : Value).ownBlock)) k_ ∧ k_ ≠ iO) (Kd.iR (Kd.iR (CL.1) (Kd.kQ aN.1) (by decide)) (Kd.kQ eA.1) (by decide)) (fun k_ hk => ⟨⟨hk.1.1.1, ⟨hk.1.2, hk.1.1.2⟩⟩, fun e_ => (hk.2) (by rw [e_]; rfl)⟩))) (fun _ h_ => Or.inr (h_))) (Kd.bG Bj (fun _ h_ => Or.inl h_)) (fun k_ e1_ e2_ => (hoki159 k_ (Bj.1 k_ e2_)).1.2 e1_.symm)) (fun _ hk => hk) (fun k_ hk_ => ((Kd.bG (ok' := fun k_ => ((fun k_ => some k_ ≠ (.slice gJ bR.length gK : Value).ownBlock ∧ some k_ ≠ (.slice jF dI.length jG : Value).ownBlock ∧ some k_ ≠ (.slice hI kU.length hJ : Value).ownBlock)) k_ ∧ k_ ≠ iO) (Kd.iR (Kd.iR (CL.1) (Kd.kQ aN.1) (by decide)) (Kd.kQ eA.1) (by decide)) (fun k_ hk => ⟨⟨hk.1.1.1, ⟨hk.1.2, hk.1.1.2⟩⟩, fun e_ => (hk.2) (by rw [e_]; rfl)⟩))).1 k_ hk_.symm)).1
    rw [← Gx.out] at HP159
    have HQ159 := am HP159
    clear hcl159 hcc159 hfr159 hM159 HP159
    refine nK hK (uA2 iS).1 fun hHeld => ?_
    clear hK K
    refine pU2 5 6 ?_
    refine lN 7 none fun K hK => ?_
    refine qJ (w1 := (M0.setCell ⟨iO, (bO : Int).toNat * 3 + 1, none⟩ (kL))) (by rfl) rfl ?_ ?_
    skip
    ·obtain ⟨Az_, cz_, ez_⟩ := Kd.cB CL.1
     subst ez_
     go_simp
     (try rfl)
    refine hK.out _ _ ?_
    clear hK K
    refine dN ?_
    have n0_ : aD (Kd.R Kd.string 9 (M0.setCell ⟨iO, (bO : Int).toNat * 3 + 1, none⟩ (kL)) w.heap.size (fun k_ => some k_ ≠ (.slice hI kU.length hJ : Value).ownBlock) (.slice gJ bR.length gK) bR) := ⟨by refine rR ?_; exact Kd.bG (Kd.uL (p := ⟨iO, (bO : Int).toNat * 3 + 1, none⟩) (tR aX GG82) (fun _ hk => hk.2) (kL)) (fun _ hk => hk.1.1)⟩
    have n1_ : aD (Kd.S k66 66 (M0.setCell ⟨iO, (bO : Int).toNat * 3 + 1, none⟩ (kL)) w.heap.size (fun k_ => some k_ ≠ (.slice gJ bR.length gK : Value).ownBlock ∧ some k_ ≠ (.slice hI kU.length hJ : Value).ownBlock ∧ some k_ ≠ (.slice (some ⟨iO, 0, none⟩) kZ.length lU : Value).ownBlock) (.slice jF dI.length jG) dI) := ⟨by refine rS ?_; exact Kd.fU (Kd.Ap (p := ⟨iO, (bO : Int).toNat * 3 + 1, none⟩) (Kd.fU aN.1 (fun k_ hk => (⟨hk, fun e_ => hk.2.2.1 (by rw [e_]; rfl)⟩ : _ ∧ k_ ≠ iO))) (fun _ hk => hk.2) (kL)) (fun _ hk => ⟨hk.1.1, ⟨hk.1.2.1, hk.1.2.2.1⟩⟩)⟩
    have n2_ : aD (Kd.R Kd.string 9 (M0.setCell ⟨iO, (bO : Int).toNat * 3 + 1, none⟩ (kL)) w.heap.size (fun k_ => some k_ ≠ (.slice gJ bR.length gK : Value).ownBlock) (.slice hI kU.length hJ) kU) := ⟨by refine rR ?_; exact Kd.bG (Kd.uL (p := ⟨iO, (bO : Int).toNat * 3 + 1, none⟩) (tR iN GG82) (fun _ hk => hk.2) (kL)) (fun _ hk => hk.1.1)⟩
    have n3_ : aD (Kd.S k66 66 (M0.setCell ⟨iO, (bO : Int).toNat * 3 + 1, none⟩ (kL)) w.heap.size (fun k_ => some k_ ≠ (.slice gJ bR.length gK : Value).ownBlock ∧ some k_ ≠ (.slice jF dI.length jG : Value).ownBlock ∧ some k_ ≠ (.slice hI kU.length hJ : Value).ownBlock) (.slice (some ⟨iO, 0, none⟩) kZ.length lU) PL) := ⟨rS HQ159.out⟩
    have n4_ : aD ((M0.setCell ⟨iO, (bO : Int).toNat * 3 + 1, none⟩ (kL)).heap[aZ]? = some (.cells #[.slice dD aQ.length dE, .slice (some mL) aE.length dB] 31 (0, 0))) := ⟨by refine rB ?_; refine eX ?_ (by have h_ := Kd.S_ne eA.1 aC.1 (by decide); intro e_; exact h_ (by rw [e_]; rfl)) _; refine rB ?_; exact aC.1⟩
    have n5_ : aD ((M0.setCell ⟨iO, (bO : Int).toNat * 3 + 1, none⟩ (kL)).heap[bF]? = some (.cells #[.slice none 0 0, .slice none 0 0] 31 (0, 0))) := ⟨by refine rB ?_; refine eX ?_ (by have h_ := Kd.S_ne eA.1 aT.1 (by decide); intro e_; exact h_ (by rw [e_]; rfl)) _; refine rB ?_; exact aT.1⟩
    have n6_ : aD ((M0.setCell ⟨iO, (bO : Int).toNat * 3 + 1, none⟩ (kL)).heap[bM]? = some (.cells #[.slice gJ bR.length gK, .slice jF dI.length jG] 31 (0, 0))) := ⟨by refine rB ?_; refine eX ?_ (by have h_ := Kd.S_ne eA.1 aY.1 (by decide); intro e_; exact h_ (by rw [e_]; rfl)) _; refine rB ?_; exact aY.1⟩
    have n7_ : aD ((M0.setCell ⟨iO, (bO : Int).toNat * 3 + 1, none⟩ (kL)).heap[zX]? = some (.cells #[.slice hI kU.length hJ, .slice (some ⟨iO, 0, none⟩) kZ.length lU] 31 (0, 0))) := ⟨by refine rB ?_; refine eX ?_ (by have h_ := Kd.S_ne eA.1 iS.1 (by decide); intro e_; exact h_ (by rw [e_]; rfl)) _; refine rB ?_; exact iS.1⟩
    have n8_ : aD (Below w.heap.size w (M0.setCell ⟨iO, (bO : Int).toNat * 3 + 1, none⟩ (kL))) := ⟨by repeat (first | (with_reducible first | exact HB.1 | apply dZ | apply bK | apply aU | refine aJ ?_ GB82.out | refine aJ ?_ iL.1 | refine aJ ?_ pM.1 | refine aJ ?_ wH.1 | refine aJ ?_ ZV.1) | exact HB.1)⟩
    (try clear aX)
    (try clear aN)
    (try clear iN)
    (try clear eA)
    (try clear aC)
    (try clear aT)
    (try clear aY)
    (try clear iS)
    (try clear HB)
    generalize (M0.setCell ⟨iO, (bO : Int).toNat * 3 + 1, none⟩ (kL)) = a7M at n0_ n1_ n2_ n3_ n4_ n5_ n6_ n7_ n8_ ⊢
    have aX := n0_
    have aN := n1_
    have iN := n2_
    have eA := n3_
    have aC := n4_
    have aT := n5_
    have aY := n6_
    have iS := n7_
    have HB := n8_
    clear n0_ n1_ n2_ n3_ n4_ n5_ n6_ n7_ n8_
    have a3W := cz2 aC
    try go_wp2_with (first | ((with_reducible refine gC 77 ?_); refine cQ (some 78) Tryz.func77 (jM.calls k1 _ _ aQ _ _ aE false _ (pB cS) cO.1 (pB bE) dL.1 nh.out) ?_; rintro a7N hb; replace aX := RB kS hb; replace aN := SB UG hb; replace iN := RB PZ hb; replace eA := SB Ee hb; replace aC := bB bJ hb; replace aT := bB fF hb; replace aY := bB jO hb; replace iS := bB PX hb; replace HB := bS CZ hb; clear hb; have a3X := cz2 iS; have a3Y := nZ1 fI gW; have a3Z := cz2 aT))
    refine cT bF 31 #[.slice hI kU.length hJ, .slice (some ⟨iO, 0, none⟩) kZ.length lU] (qP aT) Tryz.underlying31 ?_
    exact ⟨_, _, eR, mR iN aT, by refine rS ?_; exact Kd.fU (fS (fS (tS eA aT))) (fun _ hk => hk.1.2.2), CZ⟩
 ·refine cT bF 31 #[.slice gJ bR.length gK, .slice jF dI.length jG] (qP aT) Tryz.underlying31 ?_
  exact ⟨_, _, eR, mR fQ aT, mS eU aT, fE⟩
 refine cT bF 31 #[.slice none 0 0, .slice none 0 0] jm Tryz.underlying31 ?_
 exact ⟨_, _, eR, by first | exact Kd.oQ _ _ _ _ _ | exact Kd.wI _ _ _ _ _ | exact Kd.sS _ _ _ _ _ | exact Kd.wK _ _ _ _ _ | exact Kd.tX _ _ _ _ _, by first | exact Kd.tX _ _ _ _ _ | exact Kd.wI _ _ _ _ _ | exact Kd.sS _ _ _ _ _ | exact Kd.wK _ _ _ _ _ | exact Kd.oQ _ _ _ _ _, jY⟩
end Go.Proofs.YtaofjgnhapnndaaGreatDoor.Q
