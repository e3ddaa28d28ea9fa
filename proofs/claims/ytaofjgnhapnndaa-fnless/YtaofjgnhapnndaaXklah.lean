/- Texts that the row needs: words on memory and rows, the contracts of the functions it reaches, and the plain lemmas on what they compute. -/
import Derived.Deep.RegionLaw
import Derived.Test.YtaofjgnhapnndaaXklag
set_option maxHeartbeats 8000000
set_option maxRecDepth 100000
open Go.Proofs.YtaofjgnhapnndaaFkl
namespace Go.Proofs.Ytaofjgnhapnndaa.Q
open Go.RowKit Go.Proofs.YtaofjgnhapnndaaW.PrintWords Go.Proofs.YtaofjgnhapnndaaW.PrintLast Go.Proofs.YtaofjgnhapnndaaW.PrintMore
set_option linter.unusedVariables false
set_option linter.unusedSimpArgs false
theorem V4 (w : World) (t e ty : TypeId) (z : Value) (u0 u1 u2 : Value) (ht : Try.prog.underlying t = some (.slice e)) (hv : ∀ w, (zeroValue e).run Try.prog w = .ok z w) (hz : z.cells = #[u0, u1, u2]) (h1 : ∀ u ∈ [u0, u1, u2], u.oneCell' = true) (b o c : Nat)
  (hc : ∀ j, j < 3 → (w.cell? ⟨b, o + j, none⟩).isSome = true) (hf : ∀ j, j < 3 → w.frozen? ⟨b, o + j, none⟩ = false) :
  (Builtin.clear_ #[t] ty #[.slice (some ⟨b, o, none⟩) 1 c]).run Try.prog w = .ok (.tuple #[]) (w.setCells b o [u0, u1, u2]) := by
 have hzc : (Builtin.zeroCells z.cells 1).toList = [u0, u1, u2] := by
  rw [hz]
  simp only [Builtin.zeroCells]
  simp
  apply List.ext_getElem
  ·simp
  ·intro i h1 h2
   simp only [List.length_cons, List.length_nil] at h2
   obtain rfl | rfl | rfl : i = 0 ∨ i = 1 ∨ i = 2 := by omega
   all_goals simp
 have hst := run_storeCells_cells (P := Try.prog) b o [u0, u1, u2] 0 w (by simpa using hc) (by simpa using hf) h1
 simp only [Nat.add_zero] at hst
 simp [Builtin.clear_, run_underlying ht, hv, hzc, hst]
theorem a1B (i : Nat) : ((i : Int) == (i : Int) + 1) = false := beq_eq_false_iff_ne.2 (fun e => by omega)
theorem a1C {i n : Nat} (h : i < n) : (i : Int) + 1 ≤ (n : Int) := by omega
theorem a1D {i n c : Nat} (h : i < n) (hn : n ≤ c) (hc : c ≤ 9223372036854775807) : wrap64 ((i : Int) + 1) = (i : Int) + 1 := by unfold wrap64; omega
theorem Xb {i n c : Nat} (h : i < n) (hn : n ≤ c) : i + (n - (i + 1)) ≤ c := by omega
theorem ze {w w' : World} {base : Nat} {P : Nat → Prop} {g cap i : Nat} {xs : List S56} {f : Nat → Nat} {inner : List Value} {cur' : Array Value} (hi : i < xs.length)
  (h0 : P g) (hb : base ≤ g) (hn : xs.length ≤ cap) (hm : cap ≤ maxLen) (hr : Reps ((Kd.tag f k56).M w base (fun k => P k ∧ some k ≠ some g)) 3 xs.zipIdx inner)
  (hH : w'.heap[g]? = some (.cells cur' 56 (0, 0))) (hs : cur'.size = cap * 3) (ht : cur'.toList.take ((xs.length - 1) * 3) = inner.take (i * 3) ++ inner.drop ((i + 1) * 3))
  (hK : Kept w w' (fun k => k = g)) : Kd.S k56 56 w' base P (.slice (some ⟨g, 0, none⟩) (xs.length - 1) cap) (xs.eraseIdx i) := by
 have hl : (xs.eraseIdx i).length = xs.length - 1 := List.length_eraseIdx_of_lt hi
 have hil : inner.length = xs.length * 3 := by have := hr.1; rwa [List.length_zipIdx] at this
 refine ⟨fun k => if i < f k then f k - 1 else f k, fun k hk => by (have e : g = k := by simpa [Value.ownBlock] using hk); subst e; exact h0, inner.take (i * 3) ++ inner.drop ((i + 1) * 3), ⟨?_, ?_⟩, ?_, ?_⟩
 ·rw [List.length_append, List.length_take, List.length_drop, List.length_zipIdx, hl, hil]
  show _ = (xs.length - 1) * 3
  omega
 ·refine .inr ⟨g, cap, cur', ?_, hb, hH, ?_, hm, hs, ?_⟩
  ·rw [List.length_zipIdx, hl]
  ·rw [List.length_zipIdx, hl]; omega
  rw [List.length_zipIdx, hl]; exact ht
 ·rw [List.length_append, List.length_take, List.length_drop, List.length_zipIdx, hl, hil]
  show _ = (xs.length - 1) * 3
  omega
 intro j p hj
 rw [List.getElem?_zipIdx] at hj
 obtain ⟨x, hx, rfl⟩ := Option.map_eq_some_iff.mp hj
 have hjl : j < (xs.eraseIdx i).length := (List.getElem?_eq_some_iff.1 hx).1
 rw [List.getElem?_eraseIdx] at hx
 by_cases hji : j < i
 ·rw [if_pos hji] at hx
  have hM := hr.2 j (x, j) (Kd.BH hx)
  have e : ((inner.take (i * 3) ++ inner.drop ((i + 1) * 3)).drop (j * 3)).take 3 = (inner.drop (j * 3)).take 3 := by
   rw [List.drop_append_of_le_length (by rw [List.length_take, hil]; omega), List.take_append_of_le_length (by rw [List.length_drop, List.length_take, hil]; omega), List.drop_take, List.take_take, Nat.min_eq_left (by omega)]
  show (Kd.tag _ _).M _ _ _ _ (((inner.take (i * 3) ++ inner.drop ((i + 1) * 3)).drop (j * 3)).take 3)
  rw [e]
  refine (Kd.tag _ k56).M_mono (ok := fun k => (P k ∧ some k ≠ some g) ∧ f k = j) (fun k hk => ?_) (Kd.PK (d := Kd.tag _ k56) (w := w) ?_ (fun k hk hlt => hK.2 k hlt (fun e => hk.1.2 (by rw [e]))))
  ·exact ⟨hk.1.1, fun e => hk.1.2 (by simpa [Value.ownBlock] using e)⟩
  refine k56.M_mono (fun k hk => ⟨⟨hk.1, hk.2⟩, ?_⟩) hM
  have := hk.2
  show (if i < f k then f k - 1 else f k) = _
  simp only at this
  rw [this, if_neg (by omega)]; omega
 rw [if_neg hji] at hx
 have hM := hr.2 (j + 1) (x, j + 1) (Kd.BH hx)
 have e : ((inner.take (i * 3) ++ inner.drop ((i + 1) * 3)).drop (j * 3)).take 3 = (inner.drop ((j + 1) * 3)).take 3 := by
  rw [List.drop_append, List.drop_eq_nil_of_le (by rw [List.length_take, hil]; omega), List.nil_append, List.length_take, hil, Nat.min_eq_left (by omega), List.drop_drop]
  congr 2; omega
 show (Kd.tag _ _).M _ _ _ _ (((inner.take (i * 3) ++ inner.drop ((i + 1) * 3)).drop (j * 3)).take 3)
 rw [e]
 refine (Kd.tag _ k56).M_mono (ok := fun k => (P k ∧ some k ≠ some g) ∧ f k = j + 1) (fun k hk => ?_) (Kd.PK (d := Kd.tag _ k56) (w := w) ?_ (fun k hk hlt => hK.2 k hlt (fun e => hk.1.2 (by rw [e]))))
 ·exact ⟨hk.1.1, fun e => hk.1.2 (by simpa [Value.ownBlock] using e)⟩
 refine k56.M_mono (fun k hk => ⟨⟨hk.1, hk.2⟩, ?_⟩) hM
 have := hk.2
 show (if i < f k then f k - 1 else f k) = _
 simp only at this
 rw [this, if_pos (by omega)]; omega
set_option maxHeartbeats 4000000 in
set_option maxRecDepth 1000000 in
theorem slices_Delete.one (w0 w : World) (P : Nat → Prop) (A : Option Addr) (c : Nat) (xs : List S56) (i : Nat) (hi : i < xs.length) (hB : Below w0.heap.size w0 w) (h : Kd.S k56 56 w w0.heap.size P (.slice A xs.length c) xs) :
  Calls Try.prog 91 #[.slice A xs.length c, .int .i64 i, .int .i64 ((i : Int) + 1)] w fun e w' => e = .returned (.slice A (xs.length - 1) c) ∧ Kd.S k56 56 w' w0.heap.size P (.slice A (xs.length - 1) c) (xs.eraseIdx i) ∧ Below w0.heap.size w0 w' ∧ Kept w w' P := by
 obtain ⟨f, h0, inner, ho, hr⟩ := h
 obtain ⟨hil, ho⟩ := ho
 rw [List.length_zipIdx] at hil
 rcases ho with ⟨_, ho⟩ | ⟨g, cap, cur, hv, hbase, hheap, hncap, hcapm, hcur, htake⟩
 ·rw [List.length_zipIdx] at ho; omega
 rw [List.length_zipIdx] at hv hncap htake
 injection hv with ha _ hc
 subst ha; subst hc
 have hP : P g := h0 g rfl
 have hr' : Reps ((Kd.tag f k56).M w w0.heap.size (fun k => P k ∧ some k ≠ some g)) 3 xs.zipIdx inner := hr
 have hil' : inner.length = xs.length * 3 := hil
 have hcur' : cur.size = c * 3 := hcur
 have htake' : cur.toList.take (xs.length * 3) = inner := htake
 have hone : ∀ u ∈ inner, u.oneCell' = true := by
  intro u hu
  obtain ⟨j, hj, rfl⟩ := List.getElem_of_mem hu
  have hjx : j / 3 < xs.length := by omega
  have hM := hr'.2 (j / 3) (xs[j / 3], j / 3) (Kd.BH (List.getElem?_eq_getElem hjx))
  refine k56.K_one (k56.K_of_M hM) _ ?_
  refine List.mem_of_getElem? (i := j % 3) ?_
  rw [List.getElem?_take, if_pos (by omega), List.getElem?_drop, show j / 3 * 3 + j % 3 = j by omega, List.getElem?_eq_getElem hj]
 have hcell : ∀ j, j < xs.length * 3 → w.cell? ⟨g, j, none⟩ = inner[j]? := by
  intro j hj
  rw [bC hheap j, ← htake', List.getElem?_take, if_pos hj, Array.getElem?_toList]
 have hfr : ∀ j, w.frozen? ⟨g, j, none⟩ = false := fun j => eB hheap j
 clear h0 hr hil hcur htake
 obtain ⟨news, hnews⟩ : ∃ news, news = inner.drop ((i + 1) * 3) := ⟨_, rfl⟩
 have hlen : news.length = (xs.length - (i + 1)) * 3 := by rw [hnews, List.length_drop, hil']; omega
 obtain ⟨B, hA, hsrc⟩ : ∃ B : Addr, (if c = i + 1 then some (⟨g, 0, none⟩ : Addr) else some ⟨g, (i + 1) * 3, none⟩) = some B ∧ Hid (∀ t u, news[t]? = some u → w.drew.cell? (B.add t) = some u) := by
  by_cases h : c = i + 1
  ·refine ⟨⟨g, 0, none⟩, by simp [h], fun t u hu => ?_⟩
   have h0 : news.length = 0 := by rw [hlen]; omega
   rw [List.length_eq_zero_iff.1 h0] at hu
   simp at hu
  ·refine ⟨⟨g, (i + 1) * 3, none⟩, by simp [h], fun t u hu => ?_⟩
   have ht : t < (xs.length - (i + 1)) * 3 := by
    have := (List.getElem?_eq_some_iff.1 hu).1
    rwa [hlen] at this
   rw [Addr.add_lit]
   show w.cell? _ = _
   rw [hcell _ (by omega), ← hu, hnews, List.getElem?_drop]
 have s2 : Hid (∀ u ∈ news, u.oneCell' = true) := by
  intro u hu
  rw [hnews] at hu
  exact hone u (List.mem_of_mem_drop hu)
 have s1 : Hid (news.length = (xs.length - (i + 1)) * 3) := hlen
 have s3 : Hid (∀ t, t < news.length → (w.drew.cell? ⟨g, 0 + i * 3 + t, none⟩).isSome = true ∧ w.drew.frozen? ⟨g, 0 + i * 3 + t, none⟩ = false) := by
  intro t ht
  rw [hlen] at ht
  refine ⟨?_, hfr _⟩
  show (w.cell? _).isSome = true
  rw [hcell _ (by omega), List.getElem?_eq_getElem (by omega)]
  rfl
 obtain ⟨i0, hi0, hz0, hz1, hz2⟩ := info_parts rC
 obtain ⟨W1, hW1⟩ : ∃ W1, W1 = w.drew.setCells g (0 + i * 3) news := ⟨_, rfl⟩
 obtain ⟨cur1, hh1, Xu, ht1⟩ := yM (e := 56) news (0 + i * 3) w.drew cur hheap (by rw [hlen, hcur']; omega)
 rw [← hW1] at hh1
 have hcl : ∀ ty, (Builtin.clear_ #[29] ty #[.slice (some ⟨g, (i + (xs.length - (i + 1))) * 3, none⟩) (xs.length - (i + (xs.length - (i + 1)))) (c - (i + (xs.length - (i + 1))))]).run Try.prog W1 = .ok (.tuple #[]) (W1.setCells g ((i + (xs.length - (i + 1))) * 3) [.string ByteArray.empty, .slice none 0 0, .slice none 0 0]) := by
  intro ty
  rw [show xs.length - (i + (xs.length - (i + 1))) = 1 by omega]
  refine V4 W1 _ 56 ty (.agg #[.string ByteArray.empty, .slice none 0 0, .slice none 0 0]) _ _ _ Try.underlying29 Try.zeroValue56 rfl (by simp [Value.oneCell']) g _ _ (fun t ht => ?_) (fun t ht => eB hh1 _)
  rw [bC hh1, Array.getElem?_eq_getElem (by rw [Xu, hcur']; omega)]
  rfl
 obtain ⟨W2, hW2⟩ : ∃ W2, W2 = W1.setCells g ((i + (xs.length - (i + 1))) * 3) [.string ByteArray.empty, .slice none 0 0, .slice none 0 0] := ⟨_, rfl⟩
 obtain ⟨cur2, hh2, eh, ht2⟩ := yM (e := 56) [.string ByteArray.empty, .slice none 0 0, .slice none 0 0] ((i + (xs.length - (i + 1))) * 3) W1 cur1 hh1 (by rw [Xu, hcur']; simp only [List.length_cons, List.length_nil]; omega)
 rw [← hW2] at hh2
 have hK : Kept w W2 (fun k => k = g) := by
  rw [hW2, hW1]
  refine ⟨by rw [(qA g _ _ _).2.2.2, (qA g _ _ _).2.2.2]; exact Nat.le_refl _, fun k hk hne => ?_⟩
  rw [wB _ _ _ hne, wB _ _ _ hne]
  rfl
 have hBe : Below w0.heap.size w0 W2 := by
  have q2 := qA g [.string ByteArray.empty, .slice none 0 0, .slice none 0 0] ((i + (xs.length - (i + 1))) * 3) W1
  have q1 := qA g news (0 + i * 3) w.drew
  rw [← hW2] at q2; rw [← hW1] at q1
  refine ⟨by rw [q2.1, q1.1]; exact (aV hB).os, by rw [q2.2.1, q1.2.1]; exact (aV hB).tape, by rw [q2.2.2.1, q1.2.2.1]; exact (aV hB).output, Nat.le_trans hB.size hK.1, fun k hk => ?_⟩
  have hne : k ≠ g := by omega
  exact (hK.2 k (Nat.lt_of_lt_of_le hk hB.size) hne).trans (hB.block k hk)
 have htk : cur2.toList.take ((xs.length - 1) * 3) = inner.take (i * 3) ++ inner.drop ((i + 1) * 3) := by
  have e0 : i + (xs.length - (i + 1)) = xs.length - 1 := by omega
  have l1 : (cur1.toList.take ((xs.length - 1) * 3)).length = (xs.length - 1) * 3 := by rw [List.length_take, show cur1.toList.length = cur1.size from Array.length_toList, Xu, hcur']; omega
  rw [ht2, e0, List.append_assoc, List.take_append_of_le_length (by omega), List.take_take, Nat.min_self, ht1, ← hnews]
  have l2 : (cur.toList.take (0 + i * 3)).length = i * 3 := by rw [List.length_take, show cur.toList.length = cur.size from Array.length_toList, hcur']; omega
  have l3 : (cur.toList.take (0 + i * 3) ++ news).length = (xs.length - 1) * 3 := by rw [List.length_append, l2, hlen]; omega
  rw [List.take_append_of_le_length (by omega), List.take_of_length_le (by omega), Nat.zero_add, ← htake', List.take_take, Nat.min_eq_left (by omega)]
 have hS := ze (w' := W2) hi hP hbase hncap hcapm hr' hh2 (by rw [eh, Xu, hcur']) htk hK
 have hcm : c ≤ 9223372036854775807 := hcapm
 clear hcapm
 have HS := am hS
 have HB := am hBe
 have HK := am (Kept.mono hK (S' := P) (fun k e => e ▸ hP))
 have hwr : wrap64 ((i : Int) + 1) = (i : Int) + 1 := a1D hi hncap hcm
 have hic : i ≤ c := Nat.le_trans (Nat.le_of_lt hi) hncap
 have hne : ((i : Int) == (i : Int) + 1) = false := a1B i
 have hp0 : (0 : Int) ≤ (i : Int) + 1 := Int.natCast_nonneg (i + 1)
 have hp1 : (i : Int) + 1 ≤ (xs.length : Int) := a1C hi
 have hp2 : ((i : Int) + 1).toNat = i + 1 := Int.toNat_natCast (i + 1)
 have Xw : xs.length ≤ c := hncap
 have hHW1 : Hid (W1 = w.drew.setCells g (0 + i * 3) news) := hW1
 have hHW2 : Hid (W2 = W1.setCells g ((i + (xs.length - (i + 1))) * 3) [.string ByteArray.empty, .slice none 0 0, .slice none 0 0]) := hW2
 clear hcm
 clear hS hBe hK htk hh2 eh ht2 hh1 Xu ht1 hW1 hW2 hr' hil' hcur' htake' hone hcell hfr hnews hlen hheap hbase hncap hB hP
 go_enter Try.func91, Try.ntmps91
 go_wp2_with fail
 go_region_law (refine step_append_room rfl (.tmp 22) (.tmp 25) 29 rfl 56 i0 3 Try.underlying29 hi0 hz1 g 0 i c (by simp [Act.eval, Act.put]) B (xs.length - (i + 1)) (c - (i + 1)) news (by simp [Act.eval, Act.put]) s1.out hsrc.out s2.out (Xb hi Xw) s3.out ?_; rw [← hHW1.out])
 go_wp2
 go_ret
 rw [← hHW2.out]
 exact ⟨by rw [show i + (xs.length - (i + 1)) = xs.length - 1 by omega]; rfl, HS.out, HB.1, HK.out⟩
def oZ.f (k : Nat) (l0 : List ByteArray) (l1 : List S56) (a1 : ByteArray) : Option (List ByteArray × List S56 × Int) :=
 (aQ.f k l0 l1).bind fun ok => if ok = true then (dP.f k l0 l1).bind fun c => (iA.f l0 l1 a1).bind fun i => if i < 0 then some (c.1, c.2, 3) else if i.toNat < c.2.length ∧ c.2.length ≤ 9223372036854775806 then some (c.1, c.2.eraseIdx i.toNat, 0) else none else some ([], [], 1)
theorem BkS.del {w0 w : World} {lo hi : Nat} {v0 : Value} {A : Option Addr} {c : Nat} {l0 : List ByteArray} {l1 : List S56} (h : BkS w0 w lo hi v0 (.slice A l1.length c) l0 l1) (hB : Below w0.heap.size w0 w) (i : Nat) (ee : i < l1.length) :
  Calls Try.prog 91 #[.slice A l1.length c, .int .i64 i, .int .i64 ((i : Int) + 1)] w fun e w' => e = .returned (.slice A (l1.eraseIdx i).length c) ∧ BkS w0 w' lo hi v0 (.slice A (l1.eraseIdx i).length c) l0 (l1.eraseIdx i) ∧ Below w0.heap.size w0 w' ∧ Kept w w' (fun k => lo ≤ k ∧ k < hi) := by
 refine (slices_Delete.one w0 w _ A c l1 i ee hB h.2).mono ?_
 rintro e w' ⟨he, hs, hb, hk⟩
 have e1 : (l1.eraseIdx i).length = l1.length - 1 := List.length_eraseIdx_of_lt ee
 rw [e1]
 exact ⟨he, ⟨Kd.EY (Kd.rT rfl h.1) hk (fun k e hk2 => hk2.2 e) |> (fun q => Kd.aM q (fun k e => h.1.1 k e.symm)), hs⟩, hb, Kept.mono hk (fun k hk => hk.1)⟩
theorem oZ.calls (k : Nat) (eU : Option Addr) (eY : Nat) (l0 : List ByteArray) (fG : Option Addr) (eQ : Nat) (l1 : List S56) (a1 : ByteArray) (r1 : List ByteArray) (r2 : List S56) (r3 : Int) (w : World) (iG : Kd.C Kd.string w eU l0.length l0) (iD : l0.length ≤ eY) (iC : Kd.C k56 w fG l1.length l1) (iE : l1.length ≤ eQ) (h : oZ.f k l0 l1 a1 = some (r1, r2, r3)) :
  Calls Try.prog 47 #[.agg #[.slice eU l0.length eY, .slice fG l1.length eQ], .string a1] w fun e w' => ∃ v0_ v1_ : Value, e = .returned (.tuple #[.agg #[v0_, v1_], .int .i64 r3]) ∧ Kd.R Kd.string 9 w' w.heap.size (fun _ => True) v0_ r1 ∧ Kd.S k56 56 w' w.heap.size (fun k_ => some k_ ≠ (v0_ : Value).ownBlock) v1_ r2 ∧ Below w.heap.size w w' := by
 have hu31 := Try.underlying31
 obtain ⟨dY, dX⟩ := mZ2 iG iD
 obtain ⟨cU, f4⟩ := mZ2 iC iE
 clear iG iD iC iE
 have HB := am (Below.refl w.heap.size w); have NN := am trivial
 unfold oZ.f at h
 have H := h
 clear h
 obtain ⟨ok, D1, H⟩ := bd H
 by_cases c1 : ok = false
 ·subst c1
  rw [if_neg (by simp)] at H
  obtain ⟨rfl, rfl, rfl⟩ := sZ3 H
  repeat clear H
  go_enter Try.func47, Try.ntmps47
  go_wp2_with (first | ((with_reducible refine gD 2 ?_); refine bX 2 #[.slice eU l0.length eY, .slice fG l1.length eQ] 31 ?_; intro UR hg_ W1 hbox hb; have hk_ : Kept w W1 (fun _ => False) := Kept.noth hb; replace NN := nn NN (show w.heap.size ≤ W1.heap.size from hk_.1); have GE2 := am (show w.heap.size ≤ UR from Nat.le_trans HB.1.size (Nat.le_of_eq hg_.symm)); replace NN := nn NN (show w.heap.size ≤ UR from Nat.le_of_eq hg_.symm); replace NN := nn NN (show UR < W1.heap.size from gL hbox); replace HB := bS HB.1 hb; have FM := am hbox; clear hb hbox hg_ hk_; (try clear Z2); have Z2 := cz2 FM) | ((with_reducible refine gD 4 ?_); refine bX 4 #[.slice none 0 0, .slice none 0 0] 31 ?_; intro ML hg_ W2 hbox hb; have hk_ : Kept W1 W2 (fun _ => False) := Kept.noth hb; replace NN := nn NN (show W1.heap.size ≤ W2.heap.size from hk_.1); have Zs := am (show w.heap.size ≤ ML from Nat.le_trans HB.1.size (Nat.le_of_eq hg_.symm)); replace NN := nn NN (show W1.heap.size ≤ ML from Nat.le_of_eq hg_.symm); replace NN := nn NN (show ML < W2.heap.size from gL hbox); replace FM := kB FM hk_; replace HB := bS HB.1 hb; have IE := am hbox; clear hb hbox hg_ hk_; have nb4_2 : ML ≠ UR := (by have := NN.1;  omega); have nb2_4 : UR ≠ ML := (by have := NN.1;  omega); (try clear Z4); have Z4 := cz2 IE; (try clear Z2); have Z2 := cz2 FM) | ((with_reducible refine gC 24 ?_); refine cQ (some 9) Try.func24 (aQ.calls k _ _ l0 _ _ l1 false _ (Kd.aX dY.1 HB.1) dX.1 (Kd.aX cU.1 HB.1) f4.1 D1.1) ?_; rintro W3 hb; have HB0 := am (show w.heap.size ≤ W2.heap.size from HB.1.size); have hk_ : Kept W2 W3 (fun _ => False) := Kept.noth hb; replace NN := nn NN (show W2.heap.size ≤ W3.heap.size from hk_.1); replace FM := kB FM hk_; replace IE := kB IE hk_; replace HB := bS HB.1 hb; clear hb hk_; (try clear Z2); have Z2 := cz2 FM; (try clear Z4); have Z4 := cz2 IE; clear HB0))
  (try simp only [Exit.inBlock, Exit.then]); refine cT ML 31 #[.slice none 0 0, .slice none 0 0] (bR (cs := #[.slice none 0 0, .slice none 0 0]) (bR (cs := #[.slice none 0 0, .slice none 0 0]) (IE.1) 0 _ rfl) 1 _ rfl) Try.underlying31 ?_
  exact ⟨_, _, rfl, Kd.uE _ _ _ _ _, Kd.yU _ _ _ _ _, aI (aI HB.1 Zs.1) Zs.1⟩
 have c1 : ok = true := by simpa using c1
 rw [if_pos c1] at H
 subst c1
 obtain ⟨⟨c1a, c1b⟩, D2, H⟩ := bd H
 obtain ⟨i, D3, H⟩ := bd H
 dsimp only at H
 by_cases c2 : i < 0
 ·rw [if_pos c2] at H
  have Bf : decide (i < 0) = true := decide_eq_true c2
  obtain ⟨rfl, rfl, rfl⟩ := sZ3 H
  repeat clear H
  go_enter Try.func47, Try.ntmps47
  go_wp2_with (first | ((with_reducible refine gD 2 ?_); refine bX 2 #[.slice eU l0.length eY, .slice fG l1.length eQ] 31 ?_; intro UR hg_ W1 hbox hb; have hk_ : Kept w W1 (fun _ => False) := Kept.noth hb; replace NN := nn NN (show w.heap.size ≤ W1.heap.size from hk_.1); have GE2 := am (show w.heap.size ≤ UR from Nat.le_trans HB.1.size (Nat.le_of_eq hg_.symm)); replace NN := nn NN (show w.heap.size ≤ UR from Nat.le_of_eq hg_.symm); replace NN := nn NN (show UR < W1.heap.size from gL hbox); replace HB := bS HB.1 hb; have FM := am hbox; clear hb hbox hg_ hk_; (try clear Z2); have Z2 := cz2 FM) | ((with_reducible refine gD 4 ?_); refine bX 4 #[.slice none 0 0, .slice none 0 0] 31 ?_; intro ML hg_ W2 hbox hb; have hk_ : Kept W1 W2 (fun _ => False) := Kept.noth hb; replace NN := nn NN (show W1.heap.size ≤ W2.heap.size from hk_.1); have Zs := am (show w.heap.size ≤ ML from Nat.le_trans HB.1.size (Nat.le_of_eq hg_.symm)); replace NN := nn NN (show W1.heap.size ≤ ML from Nat.le_of_eq hg_.symm); replace NN := nn NN (show ML < W2.heap.size from gL hbox); replace FM := kB FM hk_; replace HB := bS HB.1 hb; have IE := am hbox; clear hb hbox hg_ hk_; have nb4_2 : ML ≠ UR := (by have := NN.1;  omega); have nb2_4 : UR ≠ ML := (by have := NN.1;  omega); (try clear Z4); have Z4 := cz2 IE; (try clear Z2); have Z2 := cz2 FM) | ((with_reducible refine gC 24 ?_); refine cQ (some 9) Try.func24 (aQ.calls k _ _ l0 _ _ l1 true _ (Kd.aX dY.1 HB.1) dX.1 (Kd.aX cU.1 HB.1) f4.1 D1.1) ?_; rintro W3 hb; have HB0 := am (show w.heap.size ≤ W2.heap.size from HB.1.size); have hk_ : Kept W2 W3 (fun _ => False) := Kept.noth hb; replace NN := nn NN (show W2.heap.size ≤ W3.heap.size from hk_.1); replace FM := kB FM hk_; replace IE := kB IE hk_; replace HB := bS HB.1 hb; clear hb hk_; (try clear Z2); have Z2 := cz2 FM; (try clear Z4); have Z4 := cz2 IE; clear HB0) | ((with_reducible refine gC 90 ?_); refine cE (some 13) Try.func90 (dP.calls k _ _ l0 _ _ l1 c1a c1b _ (Kd.aX dY.1 HB.1) dX.1 (Kd.aX cU.1 HB.1) f4.1 D2.1) ?_; rintro e_ W4 ⟨_, _, rfl, f3, lL, hb⟩; refine ⟨_, rfl, ?_⟩; have HB0 := am (show w.heap.size ≤ W3.heap.size from HB.1.size); have hk_ : Kept W3 W4 (fun _ => False) := Kept.noth hb; replace NN := nn NN (show W3.heap.size ≤ W4.heap.size from hk_.1); replace FM := kB FM hk_; replace IE := kB IE hk_; replace HB := bS HB.1 hb; have KC := am (BkS.made (n := W3.heap.size) f3 lL (HB0.out) (Nat.le_refl _)); clear f3 lL; obtain ⟨Ac0, cc0, Ac1, cc1, e0_, e1_⟩ := KC.out.slices; subst e0_; subst e1_; clear hb hk_; (try clear Z2); have Z2 := cz2 FM; (try clear Z4); have Z4 := cz2 IE; clear HB0) | ((with_reducible refine gD 6 ?_); refine bX 6 #[.slice none 0 0, .slice none 0 0] 31 ?_; intro lZ hg_ W5 hbox hb; have hk_ : Kept W4 W5 (fun _ => False) := Kept.noth hb; replace NN := nn NN (show W4.heap.size ≤ W5.heap.size from hk_.1); have EA := am (show w.heap.size ≤ lZ from Nat.le_trans HB.1.size (Nat.le_of_eq hg_.symm)); replace NN := nn NN (show W4.heap.size ≤ lZ from Nat.le_of_eq hg_.symm); replace NN := nn NN (show lZ < W5.heap.size from gL hbox); replace KC := am (BkS.kept KC.out hk_ (fun _ _ _ h => h)); replace FM := kB FM hk_; replace IE := kB IE hk_; replace HB := bS HB.1 hb; have hL := am hbox; clear hb hbox hg_ hk_; have nb6_2 : lZ ≠ UR := (by have := NN.1;  omega); have nb2_6 : UR ≠ lZ := (by have := NN.1;  omega); have nb6_4 : lZ ≠ ML := (by have := NN.1;  omega); have nb4_6 : ML ≠ lZ := (by have := NN.1;  omega); (try clear Z6); have Z6 := cz2 hL; (try clear Z2); have Z2 := cz2 FM; (try clear Z4); have Z4 := cz2 IE) | ((with_reducible refine gC 84 ?_); refine cQ (some 16) Try.func84 (iA.calls _ _ l0 _ _ l1 a1 i _ (Kd.aX dY.1 (aI (aI HB.1 EA.1) EA.1)) dX.1 (Kd.aX cU.1 (aI (aI HB.1 EA.1) EA.1)) f4.1 D3.1) ?_; rintro W6 hb; have HB0 := am (show w.heap.size ≤ W5.heap.size from HB.1.size); have hk_ : Kept W5 W6 (fun k => k = lZ) := (Kept.two (w := W5) (g := lZ) 0 1 (.slice Ac0 c1a.length cc0) (.slice Ac1 c1b.length cc1)).below hb; replace NN := nn NN (show W5.heap.size ≤ W6.heap.size from hk_.1); replace KC := am (BkS.kept KC.out hk_ (fun k_ h1_ h2_ e_ => by have := NN.1;  omega)); replace FM := am (eX FM.1 hk_ (fun e_ => by have := NN.1;  omega)); replace IE := am (eX IE.1 hk_ (fun e_ => by have := NN.1;  omega)); replace hL := am (bH (g := lZ) (o := .cells #[.slice Ac0 c1a.length cc0, .slice Ac1 c1b.length cc1] 31 (0, 0)) (bR (cs := #[.slice Ac0 c1a.length cc0, .slice none 0 0]) (bR (cs := #[.slice none 0 0, .slice none 0 0]) hL.1 0 _ rfl) 1 _ rfl) hb); replace HB := am (jR (aI (aI HB.1 EA.1) EA.1) hb); clear hb hk_; (try clear Z6); have Z6 := cz2 hL; (try clear Z4); have Z4 := cz2 IE; clear HB0))
  (try simp only [Exit.inBlock, Exit.then]); refine cT ML 31 #[.slice Ac0 c1a.length cc0, .slice Ac1 c1b.length cc1] (bR (cs := #[.slice Ac0 c1a.length cc0, .slice none 0 0]) (bR (cs := #[.slice none 0 0, .slice none 0 0]) (IE.1) 0 _ rfl) 1 _ rfl) Try.underlying31 ?_
  have hK_ := BkS.kept KC.out (Kept.two (w := W6) (g := ML) 0 1 (.slice Ac0 c1a.length cc0) (.slice Ac1 c1b.length cc1)) (fun k_ h1_ h2_ e_ => by have := NN.1;  omega)
  exact ⟨_, _, rfl, Kd.aM hK_.1 (fun _ _ => trivial), Kd.nD hK_.2 (fun _ h_ => h_.2), aI (aI HB.1 Zs.1) Zs.1⟩
 rw [if_neg c2] at H
 have Bf : decide (i < 0) = false := decide_eq_false c2
 obtain ⟨n, rfl⟩ := Int.eq_ofNat_of_zero_le (Int.not_lt.mp c2)
 rw [Int.toNat_natCast] at H
 obtain ⟨⟨c3, c3b⟩, H⟩ := Ci H
 obtain ⟨rfl, rfl, rfl⟩ := sZ3 H
 repeat clear H
 have hwr : wrap64 ((n : Int) + 1) = (n : Int) + 1 := by
  unfold wrap64; omega
 go_enter Try.func47, Try.ntmps47
 go_wp2_with (first | ((with_reducible refine gD 2 ?_); refine bX 2 #[.slice eU l0.length eY, .slice fG l1.length eQ] 31 ?_; intro UR hg_ W1 hbox hb; have hk_ : Kept w W1 (fun _ => False) := Kept.noth hb; replace NN := nn NN (show w.heap.size ≤ W1.heap.size from hk_.1); have GE2 := am (show w.heap.size ≤ UR from Nat.le_trans HB.1.size (Nat.le_of_eq hg_.symm)); replace NN := nn NN (show w.heap.size ≤ UR from Nat.le_of_eq hg_.symm); replace NN := nn NN (show UR < W1.heap.size from gL hbox); replace HB := bS HB.1 hb; have FM := am hbox; clear hb hbox hg_ hk_; (try clear Z2); have Z2 := cz2 FM) | ((with_reducible refine gD 4 ?_); refine bX 4 #[.slice none 0 0, .slice none 0 0] 31 ?_; intro ML hg_ W2 hbox hb; have hk_ : Kept W1 W2 (fun _ => False) := Kept.noth hb; replace NN := nn NN (show W1.heap.size ≤ W2.heap.size from hk_.1); have Zs := am (show w.heap.size ≤ ML from Nat.le_trans HB.1.size (Nat.le_of_eq hg_.symm)); replace NN := nn NN (show W1.heap.size ≤ ML from Nat.le_of_eq hg_.symm); replace NN := nn NN (show ML < W2.heap.size from gL hbox); replace FM := kB FM hk_; replace HB := bS HB.1 hb; have IE := am hbox; clear hb hbox hg_ hk_; have nb4_2 : ML ≠ UR := (by have := NN.1;  omega); have nb2_4 : UR ≠ ML := (by have := NN.1;  omega); (try clear Z4); have Z4 := cz2 IE; (try clear Z2); have Z2 := cz2 FM) | ((with_reducible refine gC 24 ?_); refine cQ (some 9) Try.func24 (aQ.calls k _ _ l0 _ _ l1 true _ (Kd.aX dY.1 HB.1) dX.1 (Kd.aX cU.1 HB.1) f4.1 D1.1) ?_; rintro W3 hb; have HB0 := am (show w.heap.size ≤ W2.heap.size from HB.1.size); have hk_ : Kept W2 W3 (fun _ => False) := Kept.noth hb; replace NN := nn NN (show W2.heap.size ≤ W3.heap.size from hk_.1); replace FM := kB FM hk_; replace IE := kB IE hk_; replace HB := bS HB.1 hb; clear hb hk_; (try clear Z2); have Z2 := cz2 FM; (try clear Z4); have Z4 := cz2 IE; clear HB0) | ((with_reducible refine gC 90 ?_); refine cE (some 13) Try.func90 (dP.calls k _ _ l0 _ _ l1 c1a c1b _ (Kd.aX dY.1 HB.1) dX.1 (Kd.aX cU.1 HB.1) f4.1 D2.1) ?_; rintro e_ W4 ⟨_, _, rfl, f3, lL, hb⟩; refine ⟨_, rfl, ?_⟩; have HB0 := am (show w.heap.size ≤ W3.heap.size from HB.1.size); have hk_ : Kept W3 W4 (fun _ => False) := Kept.noth hb; replace NN := nn NN (show W3.heap.size ≤ W4.heap.size from hk_.1); replace FM := kB FM hk_; replace IE := kB IE hk_; replace HB := bS HB.1 hb; have KC := am (BkS.made (n := W3.heap.size) f3 lL (HB0.out) (Nat.le_refl _)); clear f3 lL; obtain ⟨Ac0, cc0, Ac1, cc1, e0_, e1_⟩ := KC.out.slices; subst e0_; subst e1_; clear hb hk_; (try clear Z2); have Z2 := cz2 FM; (try clear Z4); have Z4 := cz2 IE; clear HB0) | ((with_reducible refine gD 6 ?_); refine bX 6 #[.slice none 0 0, .slice none 0 0] 31 ?_; intro lZ hg_ W5 hbox hb; have hk_ : Kept W4 W5 (fun _ => False) := Kept.noth hb; replace NN := nn NN (show W4.heap.size ≤ W5.heap.size from hk_.1); have EA := am (show w.heap.size ≤ lZ from Nat.le_trans HB.1.size (Nat.le_of_eq hg_.symm)); replace NN := nn NN (show W4.heap.size ≤ lZ from Nat.le_of_eq hg_.symm); replace NN := nn NN (show lZ < W5.heap.size from gL hbox); replace KC := am (BkS.kept KC.out hk_ (fun _ _ _ h => h)); replace FM := kB FM hk_; replace IE := kB IE hk_; replace HB := bS HB.1 hb; have hL := am hbox; clear hb hbox hg_ hk_; have nb6_2 : lZ ≠ UR := (by have := NN.1;  omega); have nb2_6 : UR ≠ lZ := (by have := NN.1;  omega); have nb6_4 : lZ ≠ ML := (by have := NN.1;  omega); have nb4_6 : ML ≠ lZ := (by have := NN.1;  omega); (try clear Z6); have Z6 := cz2 hL; (try clear Z2); have Z2 := cz2 FM; (try clear Z4); have Z4 := cz2 IE) | ((with_reducible refine gC 84 ?_); refine cQ (some 16) Try.func84 (iA.calls _ _ l0 _ _ l1 a1 (n : Int) _ (Kd.aX dY.1 (aI (aI HB.1 EA.1) EA.1)) dX.1 (Kd.aX cU.1 (aI (aI HB.1 EA.1) EA.1)) f4.1 D3.1) ?_; rintro W6 hb; have HB0 := am (show w.heap.size ≤ W5.heap.size from HB.1.size); have hk_ : Kept W5 W6 (fun k => k = lZ) := (Kept.two (w := W5) (g := lZ) 0 1 (.slice Ac0 c1a.length cc0) (.slice Ac1 c1b.length cc1)).below hb; replace NN := nn NN (show W5.heap.size ≤ W6.heap.size from hk_.1); replace KC := am (BkS.kept KC.out hk_ (fun k_ h1_ h2_ e_ => by have := NN.1;  omega)); replace FM := am (eX FM.1 hk_ (fun e_ => by have := NN.1;  omega)); replace IE := am (eX IE.1 hk_ (fun e_ => by have := NN.1;  omega)); replace hL := am (bH (g := lZ) (o := .cells #[.slice Ac0 c1a.length cc0, .slice Ac1 c1b.length cc1] 31 (0, 0)) (bR (cs := #[.slice Ac0 c1a.length cc0, .slice none 0 0]) (bR (cs := #[.slice none 0 0, .slice none 0 0]) hL.1 0 _ rfl) 1 _ rfl) hb); replace HB := am (jR (aI (aI HB.1 EA.1) EA.1) hb); clear hb hk_; (try clear Z6); have Z6 := cz2 hL; (try clear Z4); have Z4 := cz2 IE; clear HB0) | ((with_reducible refine gC 91 ?_); refine cQ (some 25) Try.func91 (BkS.del KC.out HB.1 n c3) ?_; rintro W7 ⟨hy, hbb, hkk⟩; have HB0 := am (show w.heap.size ≤ W6.heap.size from HB.1.size); have hk_ := hkk; replace NN := nn NN (show W6.heap.size ≤ W7.heap.size from hk_.1); replace FM := am (eX FM.1 hk_ (fun e_ => by obtain ⟨e1_, e2_⟩ := e_; have := NN.1;  omega)); replace IE := am (eX IE.1 hk_ (fun e_ => by obtain ⟨e1_, e2_⟩ := e_; have := NN.1;  omega)); replace hL := am (eX hL.1 hk_ (fun e_ => by obtain ⟨e1_, e2_⟩ := e_; have := NN.1;  omega)); clear KC; replace HB := am hbb; have KC := am hy; clear hy; clear hk_ hkk hbb; (try clear Z6); have Z6 := cz2 hL; (try clear Z4); have Z4 := cz2 IE; clear HB0))
 (try simp only [Exit.inBlock, Exit.then]); refine cT ML 31 #[.slice Ac0 c1a.length cc0, .slice Ac1 (c1b.eraseIdx n).length cc1] (bR (cs := #[.slice Ac0 c1a.length cc0, .slice none 0 0]) (bR (cs := #[.slice none 0 0, .slice none 0 0]) (dF IE.1 nb4_6 _) 0 _ rfl) 1 _ rfl) Try.underlying31 ?_
 have hk_ : Kept W7 (((W7.setCell ⟨lZ, 1, none⟩ _).setCell ⟨ML, 0, none⟩ _).setCell ⟨ML, 1, none⟩ _) (fun k => k = lZ ∨ k = ML) := Kept.setCell (p := ⟨ML, 1, none⟩) (Kept.setCell (p := ⟨ML, 0, none⟩) (Kept.setCell (p := ⟨lZ, 1, none⟩) (Kept.refl W7 (fun k => k = lZ ∨ k = ML)) (Or.inl (Or.inl rfl)) (.slice Ac1 (c1b.eraseIdx n).length cc1)) (Or.inl (Or.inr rfl)) (.slice Ac0 c1a.length cc0)) (Or.inl (Or.inr rfl)) (.slice Ac1 (c1b.eraseIdx n).length cc1)
 have hK_ := BkS.kept KC.out hk_ (fun k_ h1_ h2_ e_ => by have := NN.1;  omega)
 exact ⟨_, _, rfl, Kd.aM hK_.1 (fun _ _ => trivial), Kd.nD hK_.2 (fun _ h_ => h_.2), aI (aI (aI HB.1 EA.1) Zs.1) Zs.1⟩
theorem Sg (W : World) (ok : Nat → Prop) (x : S56) {A1 : Option Addr} {c1 e base : Nat} {v2 : Value} (l1 : x.f1.length ≤ c1) (g1 : Kd.F Kd.string W ok A1 x.f1.length x.f1) (h : Kd.R Kd.string e W base ok v2 x.f2) : Kd.FK k56 W ok x [.string x.f0, .slice A1 x.f1.length c1, v2] := by
 obtain ⟨A, c, rfl⟩ := Kd.bP h
 exact OP W ok x l1 g1 (Kd.aU h).2.1 (Kd.R_F h)
theorem Cj (W : World) (ok : Nat → Prop) (x : S56) {A2 : Option Addr} {c2 e base : Nat} {v1 : Value} (h : Kd.R Kd.string e W base ok v1 x.f1) (l2 : x.f2.length ≤ c2) (g2 : Kd.F Kd.string W ok A2 x.f2.length x.f2) : Kd.FK k56 W ok x [.string x.f0, v1, .slice A2 x.f2.length c2] := by
 obtain ⟨A, c, rfl⟩ := Kd.bP h
 exact OP W ok x (Kd.aU h).2.1 (Kd.R_F h) l2 g2
def eD.l0 : Nat → List ByteArray → Int → List ByteArray → Int → List ByteArray → List (S56) → List ByteArray → List (S56) → Option (List ByteArray × (List (S56)) × Int)
 | 0, _, _, _, _, _, _, _, _ => none
 | k + 1, e, a, g, b, j, c, h, d => if 0 ≤ a then (if a < (c.length : Int) then (if b < (((aA c a).f1).length : Int) then (if 0 ≤ b then ((dO.f k e (rdOf ByteArray.empty ((aA c a).f1) b)).bind fun m => (if m = true then (if g.length < 8796093022208 then (eD.l0 k e a (g ++ [rdOf ByteArray.empty ((aA c a).f1) b]) (wrap64 (b + 1)) j c h d) else (none)) else (eD.l0 k e a g (wrap64 (b + 1)) j c h d))) else (none)) else ((iK.f e).bind fun n => (if a < (d.length : Int) then ((some (d.set (a : Int).toNat (⟨(aA d a).f0, (aA d a).f1, n⟩ : S56) : List (S56))).bind fun i => ((dE.f k h (i.set (a : Int).toNat (⟨(aA i a).f0, g, (aA i a).f2⟩ : S56))).bind fun l => (some (l.1, l.2, 0)))) else (none)))) else (none)) else (none)
def eD.f (k : Nat) (bF : List ByteArray) (aN : List (S56)) (a1 : ByteArray) (l2 : List ByteArray) : Option (List ByteArray × (List (S56)) × Int) := (aK.f k bF aN).bind fun c => (if c = true then ((dE.f k bF aN).bind fun a => ((gV.f k bF aN a1).bind fun b => (if b < 0 then (some (a.1, a.2, 3)) else (if 0 ≤ b then (if b < (aN.length : Int) then ((dA.f k l2 ((aA aN b).f2)).bind fun d => (if d = true then (eD.l0 k l2 b (([] : List ByteArray)) 0 bF aN a.1 a.2) else (some (a.1, a.2, 2)))) else (none)) else (none))))) else (some (([] : List ByteArray), ([] : List (S56)), 1)))
def eD.T15 : Bool × List (List Nat × List Nat) := (true, [([], []), ([0], [0]), ([], []), ([], []), ([3], [3]), ([1, 2, 0, 1, 2, 3, 4], [1, 2]), ([5, 0, 1, 2, 3, 4], [5]), ([6, 4, 4, 0, 1, 2, 3, 4], [4, 6])])
def eD.B15 : List Nat := [0, 1, 0, 0, 8, 31, 63, 127]
theorem eD.P9 : rtab .any (opsOf Try.f49 15) = eD.T15 := by kernel_rfl
theorem eD.GZ : kP eD.T15.2 eD.B15 = true := by kernel_rfl
theorem eD.calls (k : Nat) (eU : Option Addr) (eY : Nat) (bF : List ByteArray) (fG : Option Addr) (eQ : Nat) (aN : List (S56)) (a1 : ByteArray) (A2 : Option Addr) (c2 : Nat) (l2 : List ByteArray) (r1 : List ByteArray) (r2 : List (S56)) (r3 : Int) (w : World) (iG : Kd.C Kd.string w eU bF.length bF) (iD : bF.length ≤ eY) (iC : Kd.C k56 w fG aN.length aN) (iE : aN.length ≤ eQ) (U2 : Kd.C Kd.string w A2 l2.length l2) (PZ : l2.length ≤ c2) (h : eD.f k bF aN a1 l2 = some (r1, r2, r3)) :
  Calls Try.prog 49 #[.agg #[.slice eU bF.length eY, .slice fG aN.length eQ], .string a1, .slice A2 l2.length c2] w fun e w' => ∃ v0_ v1_ : Value, e = .returned (.tuple #[.agg #[v0_, v1_], .int .i64 r3]) ∧ Kd.R Kd.string 9 w' w.heap.size (fun k_ => (w.heap.size ≤ k_)) v0_ r1 ∧ Kd.N k56 56 w' w.heap.size (F10 w v0_) v1_ r2 ∧ Below w.heap.size w w' := by
 have hu31 := Try.underlying31
 obtain ⟨dY, dX⟩ := mZ2 iG iD
 obtain ⟨cU, f4⟩ := mZ2 iC iE
 obtain ⟨EE, zZ⟩ := mZ2 U2 PZ
 clear iG iD iC iE U2 PZ
 have HB := am (Below.refl w.heap.size w)
 unfold eD.f at h
 have H := h
 clear h
 obtain ⟨eF, A4, H⟩ := bd H
 refine tC H ?_ ?_ <;> clear H <;> intro c5 H <;> subst c5
 ·obtain ⟨⟨dC, dZ⟩, A6, H⟩ := bd H
  dsimp only at H
  obtain ⟨dJ, A7, H⟩ := bd H
  refine ic H ?_ ?_ <;> clear H <;> intro LB H
  ·obtain ⟨rfl, rfl, rfl⟩ := sZ3 H
   repeat clear H
   go_enter Try.func49, Try.ntmps49
   go_wp2_with (first | ((with_reducible refine jW (N := 3) rfl ?_); refine rG ?hg (N := 3) ?hd (cs := #[.slice eU bF.length eY, .slice fG aN.length eQ]) (t := 31) ?hr ?_; (case hd => rfl); (case hg => rfl); (case hr => (try (obtain ⟨Az_, cz_, ez_⟩ := Kd.bP r6.1; subst ez_)); first | (go_simp; done) | (go_simp; rfl)); intro aT hg w9 hbox hb; have a6 := am hbox; have g5 := am (oS : w.heap.size ≤ aT); have iJ := g5; replace HB := bS eG hb; clear hb hbox hg) | ((with_reducible refine jW (N := 6) rfl ?_); refine rG ?hg (N := 6) ?hd (cs := #[.slice none 0 0, .slice none 0 0]) (t := 31) ?hr ?_; (case hd => rfl); (case hg => rfl); (case hr => (try (obtain ⟨Az_, cz_, ez_⟩ := Kd.bP r6.1; subst ez_)); first | (go_simp; done) | (go_simp; rfl)); intro aZ hg w10 hbox hb; have aH := am hbox; have m4 := am (I1 : w.heap.size ≤ aZ); have nX := m4; replace HB := bS eE hb; have cO := nL aW hg; have cV := nG aW hg; replace a6 := bB aW hb; clear hb hbox hg; have Uq := nZ1 cO cV; have bv := cz2 a6) | ((with_reducible refine gC 22 ?_); refine cQ (some 13) Try.func22 (aK.calls k _ _ bF _ _ aN true _ (pB dY) dX.1 (pB cU) f4.1 A4.out) ?_; rintro Uv hb; replace a6 := bB aW hb; replace aH := bB cB hb; replace HB := bS l6 hb; clear hb; have Z14 := cz2 a6) | ((with_reducible refine gC 89 ?_); refine cE (some 17) Try.func89 (dE.calls k _ _ bF _ _ aN dC dZ _ (pB dY) dX.1 (pB cU) f4.1 A6.out) ?_; rintro e w15 ⟨LE, IV, rfl, f3, lL, hb⟩; refine ⟨_, rfl, ?_⟩; have eP := am (Kd.d9 (Kd.jQ (M := fun k_ => (w.heap.size ≤ k_)) f3 (aG l6) (fun k_ h_ => h_)) (aG l6)); have fU := am (Kd.jD (Kd.aJ (ok' := F12 w LE aT aZ) (Kd.S_N (Kd.nP lL)) (fun k_ hk_ => ⟨(Nat.le_trans (aG l6) hk_.2.1), hk_.1, (fB aW k_ hk_.2.1), (fB cB k_ hk_.2.1)⟩)) (aG l6)); replace a6 := bB aW hb; replace aH := bB cB hb; replace HB := bS l6 hb; clear hb f3 lL) | ((with_reducible refine jW (N := 8) rfl ?_); refine rG ?hg (N := 8) ?hd (cs := #[.slice none 0 0, .slice none 0 0]) (t := 31) ?hr ?_; (case hd => rfl); (case hg => rfl); (case hr => (try (obtain ⟨Az_, cz_, ez_⟩ := Kd.bP r6.1; subst ez_)); first | (go_simp; done) | (go_simp; rfl)); intro cS hg w16 hbox hb; replace eP := RB vO hb; replace fU := am (Kd.dQ (Kd.iO yY cS (Nat.le_of_eq hg.symm)) hb); have bV := am hbox; have J4 := am (ZN : w.heap.size ≤ cS); have LI := J4; replace HB := bS l6 hb; have gI := nL aW hg; have iH := nG aW hg; replace a6 := bB aW hb; have gU := nL cB hg; have jC := nG cB hg; replace aH := bB cB hb; clear hb hbox hg; obtain ⟨UM, lA, Rn⟩ := Kd.bP eP.1; subst Rn; have Z18 := nZ2 iH gI jC gU; have Z20 := cz2 bV; obtain ⟨M6, IQ, Ln⟩ := Kd.gM fU.1; subst Ln; have zl := cz2 a6) | ((with_reducible refine gC 82 ?_); refine cQ (some 20) Try.func82 (gV.calls k _ _ bF _ _ aN a1 dJ _ (Kd.aX dY.1 g4) dX.1 (Kd.aX cU.1 g4) f4.1 A7.out) ?_; rintro VA hb; replace eP := am (Kd.fP (by refine rR ?_; exact (Kd.aM (fR (fR (tR eP bV))) (fun _ h_ => h_.1))) hb); replace fU := am (Kd.dQ (by refine rN ?_; exact (Kd.aJ (fN (fN (Kd.aJ fU.1 (fun k_ hk => (⟨hk, hk.2⟩ : _ ∧ k_ ≠ cS))))) (fun _ h_ => h_.1))) hb); replace a6 := am (bH (g := aT) (o := .cells #[.slice eU bF.length eY, .slice fG aN.length eQ] 31 (0, 0)) sg hb); replace aH := am (bH (g := aZ) (o := .cells #[.slice none 0 0, .slice none 0 0] 31 (0, 0)) si hb); replace bV := am (bH (g := cS) (o := .cells #[.slice UM dC.length lA, .slice M6 dZ.length IQ] 31 (0, 0)) (qP bV) hb); replace HB := bS g4 hb; clear hb; have Z24 := cz2 bV; have Z25 := cz2 aH))
   refine cT aZ 31 #[.slice UM dC.length lA, .slice M6 dZ.length IQ] (qP aH) Try.underlying31 ?_
   exact ⟨_, _, eR, mR eP aH, by refine rN ?_; exact Kd.aJ (fN (fN (Kd.aJ fU.1 (fun k_ hk => (⟨hk, hk.1.2.2.2⟩ : _ ∧ k_ ≠ aZ))))) (fun _ hk => ⟨hk.1.1.1, hk.1.1.2.1⟩), g4⟩
  obtain ⟨Bd, H⟩ := cN H
  obtain ⟨Be, H⟩ := cN H
  obtain ⟨E7, wg, H⟩ := bd H
  refine tC H ?_ ?_ <;> clear H <;> intro ml H <;> subst ml
  ·obtain ⟨a5M, hy114⟩ : ∃ y_ : List ByteArray, y_ = (([] : List ByteArray)) := ⟨_, rfl⟩
   replace H : (eD.l0 k l2 dJ a5M 0 bF aN dC dZ) = some (r1, r2, r3) := by first | (rw [hy114]; with_reducible exact H) | (have H2_ := (Option.bind_some _ _).symm.trans H; rw [hy114]; with_reducible exact H2_) | (have H2_ := (Option.bind_some _ _).symm.trans H; with_reducible exact H2_) | with_reducible exact H | (rw [hy114]; exact H) | exact H
   have ax := am hy114
   clear hy114
   have H' := am H
   repeat clear H
   go_enter Try.func49, Try.ntmps49
   go_wp2_with (first | ((with_reducible refine jW (N := 3) rfl ?_); refine rG ?hg (N := 3) ?hd (cs := #[.slice eU bF.length eY, .slice fG aN.length eQ]) (t := 31) ?hr ?_; (case hd => rfl); (case hg => rfl); (case hr => (try (obtain ⟨Az_, cz_, ez_⟩ := Kd.bP r6.1; subst ez_)); first | (go_simp; done) | (go_simp; rfl)); intro aT hg ue hbox hb; have a6 := am hbox; have g5 := am (oS : w.heap.size ≤ aT); have iJ := g5; replace HB := bS eG hb; clear hb hbox hg) | ((with_reducible refine jW (N := 6) rfl ?_); refine rG ?hg (N := 6) ?hd (cs := #[.slice none 0 0, .slice none 0 0]) (t := 31) ?hr ?_; (case hd => rfl); (case hg => rfl); (case hr => (try (obtain ⟨Az_, cz_, ez_⟩ := Kd.bP r6.1; subst ez_)); first | (go_simp; done) | (go_simp; rfl)); intro aZ hg vz hbox hb; have aH := am hbox; have m4 := am (I1 : w.heap.size ≤ aZ); have nX := m4; replace HB := bS eE hb; have cO := nL aW hg; have cV := nG aW hg; replace a6 := bB aW hb; clear hb hbox hg; have Z32 := nZ1 cO cV; have Z33 := cz2 a6) | ((with_reducible refine gC 22 ?_); refine cQ (some 13) Try.func22 (aK.calls k _ _ bF _ _ aN true _ (pB dY) dX.1 (pB cU) f4.1 A4.out) ?_; rintro w34 hb; replace a6 := bB aW hb; replace aH := bB cB hb; replace HB := bS l6 hb; clear hb; have zm := cz2 a6) | ((with_reducible refine gC 89 ?_); refine cE (some 17) Try.func89 (dE.calls k _ _ bF _ _ aN dC dZ _ (pB dY) dX.1 (pB cU) f4.1 A6.out) ?_; rintro e uf ⟨LE, IV, rfl, f3, lL, hb⟩; refine ⟨_, rfl, ?_⟩; have eP := am (Kd.d9 (Kd.jQ (M := fun k_ => (w.heap.size ≤ k_)) f3 (aG l6) (fun k_ h_ => h_)) (aG l6)); have fU := am (Kd.jD (Kd.aJ (ok' := F12 w LE aT aZ) (Kd.S_N (Kd.nP lL)) (fun k_ hk_ => ⟨(Nat.le_trans (aG l6) hk_.2.1), hk_.1, (fB aW k_ hk_.2.1), (fB cB k_ hk_.2.1)⟩)) (aG l6)); replace a6 := bB aW hb; replace aH := bB cB hb; replace HB := bS l6 hb; clear hb f3 lL) | ((with_reducible refine jW (N := 8) rfl ?_); refine rG ?hg (N := 8) ?hd (cs := #[.slice none 0 0, .slice none 0 0]) (t := 31) ?hr ?_; (case hd => rfl); (case hg => rfl); (case hr => (try (obtain ⟨Az_, cz_, ez_⟩ := Kd.bP r6.1; subst ez_)); first | (go_simp; done) | (go_simp; rfl)); intro cS hg ug hbox hb; replace eP := RB vO hb; replace fU := am (Kd.dQ (Kd.iO yY cS (Nat.le_of_eq hg.symm)) hb); have bV := am hbox; have J4 := am (ZN : w.heap.size ≤ cS); have LI := J4; replace HB := bS l6 hb; have gI := nL aW hg; have iH := nG aW hg; replace a6 := bB aW hb; have gU := nL cB hg; have jC := nG cB hg; replace aH := bB cB hb; clear hb hbox hg; obtain ⟨AS, AW, Xg⟩ := Kd.bP eP.1; subst Xg; have Z39 := nZ2 iH gI jC gU; have Z41 := cz2 bV; obtain ⟨Nm, NQ, od⟩ := Kd.gM fU.1; subst od; have zn := cz2 a6) | ((with_reducible refine gC 82 ?_); refine cQ (some 20) Try.func82 (gV.calls k _ _ bF _ _ aN a1 dJ _ (Kd.aX dY.1 g4) dX.1 (Kd.aX cU.1 g4) f4.1 A7.out) ?_; rintro w44 hb; replace eP := am (Kd.fP (by refine rR ?_; exact (Kd.aM (fR (fR (tR eP bV))) (fun _ h_ => h_.1))) hb); replace fU := am (Kd.dQ (by refine rN ?_; exact (Kd.aJ (fN (fN (Kd.aJ fU.1 (fun k_ hk => (⟨hk, hk.2⟩ : _ ∧ k_ ≠ cS))))) (fun _ h_ => h_.1))) hb); replace a6 := am (bH (g := aT) (o := .cells #[.slice eU bF.length eY, .slice fG aN.length eQ] 31 (0, 0)) sg hb); replace aH := am (bH (g := aZ) (o := .cells #[.slice none 0 0, .slice none 0 0] 31 (0, 0)) si hb); replace bV := am (bH (g := cS) (o := .cells #[.slice AS dC.length AW, .slice Nm dZ.length NQ] 31 (0, 0)) (qP bV) hb); replace HB := bS g4 hb; clear hb; have Z45 := cz2 a6; obtain ⟨BK, Dg, Ee, Dh, Ef, Es, KU, HV, HX, S8, XA, BP, ED, Tb, Tj⟩ := aT56 cU HB dJ; cases Es) | ((with_reducible refine gC 71 ?_); refine cQ (some 31) Try.func71 (dA.calls k _ _ l2 _ _ ((aA aN dJ).f2) true _ (pB EE) zZ.1 (pB BP) ED.1 wg.out) ?_; rintro w' ⟨nd, rfl⟩) | ((with_reducible refine jW (N := 34) rfl ?_); refine Kd.Au Kd.string _ 9 ?hg (N := 34) ?hd (xs := ([] : List ByteArray)) (inner := []) (ok := fun _ => True) (okp := fun _ => True) ?hr ?hp (fun _ hk => hk) trivial (Below.refl _ _) (Nat.le_refl _) (by simp) ?_; (case hd => rfl); (case hg => rfl); (case hr => (try (obtain ⟨Az_, cz_, ez_⟩ := Kd.bP r6.1; subst ez_)); first | (go_simp; done) | (go_simp; rfl)); (case hp => exact (Reps.none _ _)); intro aGY w46 Q0 hb hg_ hnew_; clear hg_ hnew_; (first | rw [← ax.out] at Q0 | (simp only [Int.reduceToNat] at Q0; rw [← ax.out] at Q0)); replace fU := am (Kd.rQ yY (Kd.bZ Q0) hb); have Hf := am (Kd.d9 (Kd.fA (Kd.jQ (M := fun k_ => (w.heap.size ≤ k_)) Q0 (aG g4) (fun k_ h_ => h_)) (Kd.R_lt vO)) (aG g4)); replace eP := am (Kd.dS vO (Kd.bZ Q0) hb); replace a6 := bB aW hb; replace aH := bB cB hb; replace bV := bB jM hb; replace HB := bS g4 hb; clear hb Q0))
   go_loopg [10, 11] k (fun kq v10 v11 w' => ∃ (M4 : List ByteArray) (sG : Int), v11 = .int .i64 sG ∧ aC (eD.l0 kq l2 dJ M4 sG bF aN dC dZ = some (r1, r2, r3)) ∧ aC (kq ≤ k) ∧ aC (Kd.R Kd.string 9 w' w.heap.size (F10 w (.slice AS dC.length AW)) v10 M4) ∧ aC (Kd.R Kd.string 9 w' w.heap.size (F10 w v10) (.slice AS dC.length AW) dC) ∧ aC (Kd.N k56 56 w' w.heap.size (F23 w v10 (.slice AS dC.length AW) aT aZ cS) (.slice Nm dZ.length NQ) dZ) ∧ aC (w'.heap[aT]? = some (.cells #[(.slice eU bF.length eY), (.slice (some BK) aN.length eQ)] 31 (0, 0))) ∧ aC (w'.heap[aZ]? = some (.cells #[(.slice none 0 0), (.slice none 0 0)] 31 (0, 0))) ∧ aC (w'.heap[cS]? = some (.cells #[(.slice AS dC.length AW), (.slice Nm dZ.length NQ)] 31 (0, 0))) ∧ aC (Below w.heap.size w w'))
   case atStart => exact ⟨(a5M), (0), dM, H', ⟨Nat.le_refl _⟩, ⟨by refine rR ?_; exact Kd.aM Hf.1 (fun _ hk => ⟨hk.1.1, hk.2⟩)⟩, ⟨by refine rR ?_; exact Kd.aM eP.1 (fun _ hk => ⟨hk.1.1, hk.2⟩)⟩, ⟨by refine rN ?_; exact Kd.aJ fU.1 (fun _ hk => ⟨hk.1.1.1, ⟨hk.2, ⟨hk.1.1.2.1, ⟨hk.1.1.2.2.1, ⟨hk.1.1.2.2.2, hk.1.2⟩⟩⟩⟩⟩)⟩, ⟨rB a6.1⟩, ⟨rB aH.1⟩, ⟨rB bV.1⟩, ⟨g4⟩⟩
   clear H'
   try clear c2
   try clear c5
   try clear LB
   try clear Bd
   try clear Be
   try clear ml
   try clear Z33
   try clear zm
   try clear Z41
   try clear zn
   try clear Z45
   try clear KU HV HX
   try clear Tb Tj
   obtain ⟨M4, sG, rfl, HA, HK1, r6, d4, bJ, a6, aH, bV, HB⟩ := hrel
   cases gk with
   | zero => exact absurd HA.out (by simp [eD.l0])
   | succ k1 =>
    have H := HA.out
    clear HA
    simp only [eD.l0] at H
    obtain ⟨a0N, H⟩ := cN H
    obtain ⟨WH, H⟩ := cN H
    refine ic H ?_ ?_ <;> clear H <;> intro cr H
    ·obtain ⟨a0Q, H⟩ := cN H
     obtain ⟨eH, A52, H⟩ := bd H
     refine tC H ?_ ?_ <;> clear H <;> intro c53 H <;> subst c53
     ·obtain ⟨xy, H⟩ := cL H
      obtain ⟨E9, QV⟩ := yv (M4 ++ [rdOf ByteArray.empty ((aA aN dJ).f1) sG]); first | replace H := bW QV H | rw [← QV.1] at H
      have H' := am H
      repeat clear H
      have Z55 := nZ2 cO cV gI iH
      have Z57 := cz2 a6
      obtain ⟨Aw, Nf, Qm, Ng, Qn, Re, SR, OC, OD, Hj, Gz, Hk, Ha, a3Q, a4C⟩ := aT56 cU HB dJ
      obtain rfl : BK = Aw := (by injection Re)
      obtain ⟨Pz, fz, lx, ga, ly, nu, Yb, ZD, ZE, XG, Vr, Wa, Vs, aG2, aGH⟩ := aT56 cU HB dJ
      obtain rfl : BK = Pz := (by injection nu)
      obtain ⟨ea_, ec_⟩ := eZ2 OC ZD
      subst ea_
      subst ec_
      obtain ⟨ea_, ec_⟩ := eZ2 OD ZE
      subst ea_
      subst ec_
      obtain ⟨zz, nv, Yc, aG3, aGI⟩ := aS XG HB sG
      cases nv
      go_wp2_with (first | ((with_reducible refine gC 80 ?_); refine cQ (some 56) Try.func80 (dO.calls k1 _ _ l2 (rdOf ByteArray.empty ((aA aN dJ).f1) sG) true _ (pB EE) zZ.1 A52.out) ?_; rintro w' ⟨nd, rfl⟩; obtain ⟨a00, aBU, aDH, aBV, aDI, aED, aBH, Yd, Ye, Wb, a5Y, a6H, a5Z, aV9, aVD⟩ := aT56 cU HB dJ; obtain rfl : BK = a00 := (by injection aED); obtain ⟨ea_, ec_⟩ := eZ2 OC Yd; subst ea_; subst ec_; obtain ⟨ea_, ec_⟩ := eZ2 OD Ye; subst ea_; subst ec_; obtain ⟨TI, nw, OE, Tc, Tk⟩ := aS Wb HB sG; cases nw) | ((with_reducible refine o7 (b := .append) (xs := #[.tmp 57, .tmp 67]) rfl ?_); at_builtin; refine Kd.AC Kd.string (w0 := w) w.heap.size rfl (.tmp 57) (.tmp 67) 23 9 (.string ⟨#[]⟩) 16 rfl Try.underlying23 rY rfl (by decide) (by omega) u10 M4 (rdOf ByteArray.empty ((aA aN dJ).f1) sG) [.string (rdOf ByteArray.empty ((aA aN dJ).f1) sG)] (F10 w (.slice AS dC.length AW)) (fun _ => False) rfl rfl ?aP (fun _ hk => hk.elim) ?aF ?aO ?aB ?aS ?aL ?_; (case aP => exact rfl); (case aB => exact g4); (case aF => exact (fun k_ hk => ⟨(Nat.le_trans (aG g4) hk), Kd.fresh' (Kd.R_lt lI) k_ hk⟩)); (case aO => exact (rR r6.1)); (case aS => exact (aG g4)); (case aL => have := xy.out; omega); intro Da w58 ho hb hg hat; rw [← QV.out] at ho; replace d4 := am (Kd.nA (ok := (fun k_ => (w.heap.size ≤ k_))) lI hg hat); replace bJ := am (Kd.uD (ok := (F13 w (.slice AS dC.length AW) aT aZ cS)) (by refine rN ?_; exact Kd.aJ bJ.1 (fun _ hk => ⟨⟨hk.1, ⟨hk.2.2.1, ⟨hk.2.2.2.1, ⟨hk.2.2.2.2.1, hk.2.2.2.2.2⟩⟩⟩⟩, hk.2.1⟩)) hg hat); replace a6 := gkR aW hg r6 a6; replace aH := gkR cB hg r6 aH; replace bV := gkR jM hg r6 bV; replace HB := am hb; have l4 := am ho; clear r6; clear ho hb hg hat))
      go_roundg k1
      case measure => have := HK1.out; omega
      case rel => exact ⟨(E9), (wrap64 (sG + 1)), dM, H', ⟨by have := HK1.out; omega⟩, ⟨rR l4.1⟩, ⟨rR d4.1⟩, ⟨by refine rN ?_; exact Kd.aJ bJ.1 (fun _ hk => ⟨hk.1.1, ⟨hk.2, ⟨hk.1.2.1, ⟨hk.1.2.2.1, ⟨hk.1.2.2.2.1, hk.1.2.2.2.2⟩⟩⟩⟩⟩)⟩, ⟨rB a6.1⟩, ⟨rB aH.1⟩, ⟨rB bV.1⟩, ⟨g4⟩⟩
     ·have H' := am H
      repeat clear H
      have Z59 := nZ2 cO cV gI iH
      have Z61 := cz2 a6
      obtain ⟨Aw, Nf, Qm, Ng, Qn, Re, SR, OC, OD, Hj, Gz, Hk, Ha, a3Q, a4C⟩ := aT56 cU HB dJ
      obtain rfl : BK = Aw := (by injection Re)
      obtain ⟨Pz, fz, lx, ga, ly, nu, Yb, ZD, ZE, XG, Vr, Wa, Vs, aG2, aGH⟩ := aT56 cU HB dJ
      obtain rfl : BK = Pz := (by injection nu)
      obtain ⟨ea_, ec_⟩ := eZ2 OC ZD
      subst ea_
      subst ec_
      obtain ⟨ea_, ec_⟩ := eZ2 OD ZE
      subst ea_
      subst ec_
      obtain ⟨zz, nv, Yc, aG3, aGI⟩ := aS XG HB sG
      cases nv
      go_wp2_with (first | ((with_reducible refine gC 80 ?_); refine cQ (some 56) Try.func80 (dO.calls k1 _ _ l2 (rdOf ByteArray.empty ((aA aN dJ).f1) sG) false _ (pB EE) zZ.1 A52.out) ?_; rintro w' ⟨nd, rfl⟩))
      go_roundg k1
      case measure => have := HK1.out; omega
      case rel => exact ⟨(M4), (wrap64 (sG + 1)), dM, H', ⟨by have := HK1.out; omega⟩, ⟨rR r6.1⟩, ⟨rR d4.1⟩, ⟨rN bJ.1⟩, ⟨rB a6.1⟩, ⟨rB aH.1⟩, ⟨rB bV.1⟩, ⟨g4⟩⟩
    ·obtain ⟨AP, A62, H⟩ := bd H
     obtain ⟨a0S, H⟩ := cN H
     obtain ⟨GJ, J9, H⟩ := bY H
     obtain ⟨UL, As⟩ := yv (GJ.set (dJ : Int).toNat (⟨(aA GJ dJ).f0, M4, (aA GJ dJ).f2⟩ : S56)); first | replace H := bW As H | rw [← As.1] at H
     obtain ⟨⟨QD, V6⟩, A66, H⟩ := bd H
     dsimp only at H
     obtain ⟨rfl, rfl, rfl⟩ := sZ3 H
     repeat clear H
     have Z67 := nZ2 cO cV gI iH
     have Z69 := cz2 a6
     obtain ⟨Aw, Nf, Qm, Ng, Qn, Re, SR, OC, OD, Hj, Gz, Hk, Ha, a3Q, a4C⟩ := aT56 cU HB dJ
     obtain rfl : BK = Aw := (by injection Re)
     try go_wp2
     replace r6 := RD r6
     replace d4 := RD d4
     replace bJ := ND bJ
     replace a6 := BD a6
     replace aH := BD aH
     replace bV := BD bV
     replace HB := am (aV HB.1)
     refine sT (S := fun w' => w'.cell? ⟨cS, 0, none⟩ = some (.slice AS dC.length AW) ∧ w'.cell? ⟨cS, 1, none⟩ = some (.slice Nm dZ.length NQ)) [7] 8 ⟨⟨(bC bV.1 0).trans rfl, (bC bV.1 1).trans rfl⟩⟩ (fun hHeld => ?_)
     refine eO eD.P9 eD.GZ (fun HT_ HW_ => ?_)
     generalize wr.drew = w70 at r6 d4 bJ a6 aH bV HB hHeld ⊢
     refine pU3 0 2 3 ?_
     refine tK2 1 (some 70) ?_
     refine oN 4 (some 73) fun K hK => ?_
     refine gE Try.func93 (iK.calls _ _ l2 AP _ (pB EE) zZ.1 A62.out) ?_
     rintro e Zh ⟨PC, rfl, f3, hb⟩
     refine ⟨_, rfl, ?_⟩
     replace bJ := am (Kd.rQ uW (Kd.bZ f3) hb)
     have TE := am (Kd.d9 (Kd.fA (Kd.fA (Kd.jQ (M := fun k_ => (w.heap.size ≤ k_)) f3 (aG g4) (fun k_ h_ => h_)) (Kd.R_lt (rR r6.1))) (Kd.R_lt lI)) (aG g4))
     replace r6 := am (Kd.dS (rR r6.1) (Kd.bZ f3) hb)
     replace d4 := am (Kd.dS lI (Kd.bZ f3) hb)
     replace a6 := bB aW hb
     replace aH := bB cB hb
     replace bV := bB jM hb
     replace HB := bS g4 hb
     clear hb f3
     have p64 : 0 ≤ (dJ : Int) := oT
     have q64 : (dJ : Int) < ((dZ.length : Int) : Int) := oT
     obtain ⟨y4, aUF, a1S, a1Y, gl64, cl64, HG64⟩ := Kd.Dy bJ.1 (by omega)
     (first | cases a1S | (injection a1S with ea_ en_ ec_; (first | subst ea_ | (injection ea_ with ea_; subst ea_)); subst ec_; clear en_))
     have GB64 := am a1Y
     have GG64 := am HG64
     clear a1Y gl64 HG64
     obtain ⟨ce64, hcl64, hM64, hcc64, hfr64⟩ := Kd.ME bJ.1 z56 (dJ : Int) p64 q64
     obtain ⟨ua64_1, uc64_1, ua64_2, uc64_2, rfl, aGQ, aF5, aGR, aF6⟩ := uH hM64
     have aFW : World.cell? _ ⟨y4, (dJ : Int).toNat * 3, none⟩ = some (.string ((aA dZ dJ).f0)) := hcc64 0 _ rfl
     have aFX : World.cell? _ ⟨y4, (dJ : Int).toNat * 3 + 1, none⟩ = some (.slice ua64_1 ((aA dZ dJ).f1).length uc64_1) := hcc64 1 _ rfl
     have aFY : World.cell? _ ⟨y4, (dJ : Int).toNat * 3 + 2, none⟩ = some (.slice ua64_2 ((aA dZ dJ).f2).length uc64_2) := hcc64 2 _ rfl
     have hf64_0 : World.frozen? _ ⟨y4, (dJ : Int).toNat * 3, none⟩ = false := hfr64 0
     have hf64_1 : World.frozen? _ ⟨y4, (dJ : Int).toNat * 3 + 1, none⟩ = false := hfr64 1
     have hf64_2 : World.frozen? _ ⟨y4, (dJ : Int).toNat * 3 + 2, none⟩ = false := hfr64 2
     clear hcl64 hcc64 hfr64 hM64
     replace p64 := eq_true p64
     replace q64 := eq_true q64
     have HX72 := am (show Kd.N k56 56 _ w.heap.size (F33 w u10 (.slice AS dC.length AW) PC aT aZ cS) (.slice (some ⟨y4, 0, none⟩) dZ.length NQ) dZ from (Kd.aJ (bJ.1) (fun k_ hk => ⟨hk.1.1, ⟨hk.1.2.1, ⟨hk.1.2.2.1, ⟨hk.2, ⟨hk.1.2.2.2.1, ⟨hk.1.2.2.2.2.1, hk.1.2.2.2.2.2⟩⟩⟩⟩⟩⟩)))
     replace HX72 := am (show Kd.N k56 56 _ w.heap.size (F23 w u10 (.slice AS dC.length AW) aT aZ cS) (.slice (some ⟨y4, 0, none⟩) dZ.length NQ) dZ from Kd.aJ HX72.out (fun k_ hk => ⟨hk.1, ⟨hk.2.1, ⟨hk.2.2.1, ⟨hk.2.2.2.2.1, ⟨hk.2.2.2.2.2.1, hk.2.2.2.2.2.2⟩⟩⟩⟩⟩))
     obtain ⟨ce72, hcl72, hM72, hcc72, hfr72⟩ := Kd.ME HX72.out z56 (dJ : Int) (oT) (by have h_ : (dJ : Int) < ((dZ.length : Int) : Int) := oT; first | exact h_ | (have e_ := (Kd.bL bJ.1).1; omega) | simpa using h_)
     obtain ⟨ua72_1, uc72_1, ua72_2, uc72_2, rfl, tu, qh, aGS, aF7⟩ := uH hM72
     have HP72 := (Kd.Oz HX72.out (dJ : Int) (oT) (by have h_ : (dJ : Int) < ((dZ.length : Int) : Int) := oT; first | exact h_ | (have e_ := (Kd.bL bJ.1).1; omega) | simpa using h_) (seg := [PC]) (j := 2) hcl72 hcc72 (show 3 ≤ 3 from by decide) (x' := (⟨(aA dZ dJ).f0, (aA dZ dJ).f1, AP⟩ : S56)) (Sg _ _ (⟨(aA dZ dJ).f0, (aA dZ dJ).f1, AP⟩ : S56) tu qh (Kd.aM (ok' := (fun k_ => ((F23 w u10 (.slice AS dC.length AW) aT aZ cS)) k_ ∧ k_ ≠ y4)) (Kd.fQ (Kd.fQ (Kd.fQ (Kd.mJ (TE.1) (Kd.lY bJ.1) (by decide)) a6.1 (by decide)) aH.1 (by decide)) bV.1 (by decide)) (fun k_ hk => ⟨⟨hk.1.1.1.1.1.1.1, ⟨hk.1.1.1.1.1.2, ⟨hk.1.1.1.1.2, ⟨hk.1.1.2, ⟨hk.1.2, hk.2⟩⟩⟩⟩⟩, fun e_ => (hk.1.1.1.2) (by rw [e_]; rfl)⟩))) (fun _ hk => hk)).1
     rw [← J9.out] at HP72
     have HQ72 := am HP72
     clear hcl72 hcc72 hfr72 hM72 HP72
     refine hK.out _ _ ⟨(bC bV.1 0).trans rfl, (bC bV.1 1).trans rfl⟩ (fun hHeld => ?_)
     clear hK K
     refine nM ?_
     refine pU2 5 6 ?_
     refine lN 7 none fun K hK => ?_
     refine uX (w1 := (Zh.setCell ⟨y4, (dJ : Int).toNat * 3 + 2, none⟩ (PC))) (by rfl) rfl ?_ ?_
     skip
     ·obtain ⟨Az_, cz_, ez_⟩ := Kd.bP TE.1
      subst ez_
      go_simp
      (try rfl)
     refine hK.out _ _ ?_
     clear hK K
     refine dN ?_
     have n0_ : aC (Kd.R Kd.string 9 (Zh.setCell ⟨y4, (dJ : Int).toNat * 3 + 2, none⟩ (PC)) w.heap.size (F10 w (.slice AS dC.length AW)) u10 M4) := ⟨by refine rR ?_; exact Kd.aM (Kd.tF (p := ⟨y4, (dJ : Int).toNat * 3 + 2, none⟩) (tR r6 GG64) (fun _ hk => hk.2) (PC)) (fun _ hk => ⟨hk.1.1.1, hk.1.1.2⟩)⟩
     have n1_ : aC (Kd.R Kd.string 9 (Zh.setCell ⟨y4, (dJ : Int).toNat * 3 + 2, none⟩ (PC)) w.heap.size (F10 w u10) (.slice AS dC.length AW) dC) := ⟨by refine rR ?_; exact Kd.aM (Kd.tF (p := ⟨y4, (dJ : Int).toNat * 3 + 2, none⟩) (tR d4 GG64) (fun _ hk => hk.2) (PC)) (fun _ hk => ⟨hk.1.1.1, hk.1.1.2⟩)⟩
     have n2_ : aC (Kd.N k56 56 (Zh.setCell ⟨y4, (dJ : Int).toNat * 3 + 2, none⟩ (PC)) w.heap.size (F23 w u10 (.slice AS dC.length AW) aT aZ cS) (.slice (some ⟨y4, 0, none⟩) dZ.length NQ) GJ) := ⟨rN HQ72.out⟩
     have n3_ : aC ((Zh.setCell ⟨y4, (dJ : Int).toNat * 3 + 2, none⟩ (PC)).heap[aT]? = some (.cells #[.slice eU bF.length eY, .slice (some BK) aN.length eQ] 31 (0, 0))) := ⟨by refine rB ?_; refine dF ?_ (by have h_ := Kd.J5 bJ.1 (fun _ hk => by first | exact hk.2.2.2.1 | exact hk.2.2.2.1.1 | exact hk.1.2.2.2.1); intro e_; exact h_ (by rw [e_]; rfl)) _; refine rB ?_; exact a6.1⟩
     have n4_ : aC ((Zh.setCell ⟨y4, (dJ : Int).toNat * 3 + 2, none⟩ (PC)).heap[aZ]? = some (.cells #[.slice none 0 0, .slice none 0 0] 31 (0, 0))) := ⟨by refine rB ?_; refine dF ?_ (by have h_ := Kd.J5 bJ.1 (fun _ hk => by first | exact hk.2.2.2.2.1 | exact hk.2.2.2.2.1.1 | exact hk.1.2.2.2.2.1); intro e_; exact h_ (by rw [e_]; rfl)) _; refine rB ?_; exact aH.1⟩
     have n5_ : aC ((Zh.setCell ⟨y4, (dJ : Int).toNat * 3 + 2, none⟩ (PC)).heap[cS]? = some (.cells #[.slice AS dC.length AW, .slice (some ⟨y4, 0, none⟩) dZ.length NQ] 31 (0, 0))) := ⟨by refine rB ?_; refine dF ?_ (by have h_ := Kd.J5 bJ.1 (fun _ hk => by first | exact hk.2.2.2.2.2 | exact hk.2.2.2.2.2.1 | exact hk.1.2.2.2.2.2); intro e_; exact h_ (by rw [e_]; rfl)) _; refine rB ?_; exact bV.1⟩
     have n6_ : aC (Below w.heap.size w (Zh.setCell ⟨y4, (dJ : Int).toNat * 3 + 2, none⟩ (PC))) := ⟨by repeat (first | (with_reducible first | exact HB.1 | apply bQ | apply bA | apply aV | refine aI ?_ GB64.out | refine aI ?_ iJ.1 | refine aI ?_ nX.1 | refine aI ?_ LI.1) | exact HB.1)⟩
     (try clear r6)
     (try clear d4)
     (try clear bJ)
     (try clear a6)
     (try clear aH)
     (try clear bV)
     (try clear HB)
     generalize (Zh.setCell ⟨y4, (dJ : Int).toNat * 3 + 2, none⟩ (PC)) = w73 at n0_ n1_ n2_ n3_ n4_ n5_ n6_ ⊢
     have r6 := n0_
     have d4 := n1_
     have bJ := n2_
     have a6 := n3_
     have aH := n4_
     have bV := n5_
     have HB := n6_
     clear n0_ n1_ n2_ n3_ n4_ n5_ n6_
     have Z74 := nZ1 jC gU
     have Z75 := cz2 bV
     have p65 : 0 ≤ (dJ : Int) := oT
     have q65 : (dJ : Int) < ((dZ.length : Int) : Int) := oT
     replace p65 := eq_true p65
     replace q65 := eq_true q65
     have HX76 := am (show Kd.N k56 56 w73 w.heap.size (F13 w (.slice AS dC.length AW) aT aZ cS) (.slice (some ⟨y4, 0, none⟩) dZ.length NQ) GJ from (by refine rN ?_; exact Kd.aJ bJ.1 (fun _ hk => ⟨hk.1, ⟨hk.2.2.1, ⟨hk.2.2.2.1, ⟨hk.2.2.2.2.1, hk.2.2.2.2.2⟩⟩⟩⟩)))
     obtain ⟨ce76, hcl76, hM76, hcc76, hfr76⟩ := Kd.ME HX76.out z56 (dJ : Int) (oT) (by have h_ : (dJ : Int) < ((dZ.length : Int) : Int) := oT; first | exact h_ | (have e_ := (Kd.bL bJ.1).1; omega) | simpa using h_)
     obtain ⟨ua76_1, uc76_1, ua76_2, uc76_2, rfl, aGT, aF8, tv, qi⟩ := uH hM76
     have HP76 := Kd.Oz HX76.out (dJ : Int) (oT) (by have h_ : (dJ : Int) < ((dZ.length : Int) : Int) := oT; first | exact h_ | (have e_ := (Kd.bL bJ.1).1; omega) | simpa using h_) (seg := [u10]) (j := 1) hcl76 hcc76 (show 2 ≤ 3 from by decide) (x' := (⟨(aA GJ dJ).f0, M4, (aA GJ dJ).f2⟩ : S56)) (Cj _ _ (⟨(aA GJ dJ).f0, M4, (aA GJ dJ).f2⟩ : S56) (Kd.aM (ok' := (fun k_ => ((F13 w (.slice AS dC.length AW) aT aZ cS)) k_ ∧ k_ ≠ y4)) (Kd.fQ (Kd.fQ (Kd.fQ (Kd.mJ (r6.1) (Kd.lY bJ.1) (by decide)) a6.1 (by decide)) aH.1 (by decide)) bV.1 (by decide)) (fun k_ hk => ⟨⟨hk.1.1.1.1.1, ⟨hk.1.1.1.1.2, ⟨hk.1.1.2, ⟨hk.1.2, hk.2⟩⟩⟩⟩, fun e_ => (hk.1.1.1.2) (by rw [e_]; rfl)⟩)) tv qi) (fun _ hk => hk)
     have qy := hcc76 1 _ rfl
     (try simp only [show (k56).sz = 3 from rfl, Nat.mul_one, Nat.add_zero] at qy)
     have hf76_1 := hfr76 1
     (try simp only [show (k56).sz = 3 from rfl, Nat.mul_one, Nat.add_zero] at hf76_1)
     clear hcl76 hcc76 hfr76 hM76
     try go_wp2_with (first | ((with_reducible refine MK (t := 23) (p := 81) rfl ?_); refine JW (t := 23) (p := 81) (v := ?vo_w77) (w1 := (w73.setCell ⟨y4, (dJ : Int).toNat * 3 + 1, none⟩ (u10))) ?hg ?ho ?hn ?hr ?_; (case ho => rfl); (case hg => rfl); (case hn => rfl); (case hr => (try (obtain ⟨Az_, cz_, ez_⟩ := Kd.bP r6.1; subst ez_)); first | (go_simp; done) | (go_simp; rfl)); intro w77 hw; have hg : w73.grownBy w77 (some y4) := (by rw [hw]; exact HP76.2); have hp_ : Kd.N k56 56 w77 w.heap.size (F13 w (.slice AS dC.length AW) aT aZ cS) (.slice (some ⟨y4, 0, none⟩) dZ.length NQ) UL := (by rw [hw, As.out]; exact HP76.1); clear HP76; replace d4 := am (Kd.sP (v := (.slice (some ⟨y4, 0, none⟩) dZ.length NQ)) lI (Kd.lY bJ.1) (by decide) hg); replace a6 := gkN aW hg bJ a6; replace aH := gkN cB hg bJ aH; replace bV := gkN jM hg bJ bV; replace bJ := am hp_; replace HB := am (by rw [hw]; exact aI (HB.1) GB64.out : Below w.heap.size w w77); clear r6; clear hg hw hp_; have Z78 := cz2 bV) | ((with_reducible refine lG (f := 89) rfl ?_); refine wO (some 83) rfl rfl Try.func89 (by kernel_rfl) rfl #[.agg #[.slice AS dC.length AW, .slice (some ⟨y4, 0, none⟩) UL.length NQ]] rfl (by (try simp only [List.map_toArray, List.map_cons, List.map_nil]); first | done | (rw [show UL.length = dZ.length from (Kd.bL bJ.1).1.symm] <;> rfl) | rfl | (simp only [List.length_drop, List.length_take]; rfl)) ?_; (with_reducible refine (dE.calls k1 _ _ dC _ _ UL QD V6 _ ?side1 ?side2 ?side3 ?side4 A66.out).mono ?_); (case side1 => exact pC (Kd.aU d4.1).2.2); (case side2 => exact (Kd.aU d4.1).2.1); (case side3 => exact pC (Kd.bL bJ.1).2.2); (case side4 => rw [show UL.length = dZ.length from (Kd.bL bJ.1).1.symm]; exact (Kd.bL bJ.1).2.1); rintro e w79 ⟨ub, aH0, rfl, f3, lL, hb⟩; refine ⟨_, rfl, ?_⟩; have yA := am (Kd.d9 (Kd.fA (Kd.jQ (M := fun k_ => (w.heap.size ≤ k_)) f3 (aG g4) (fun k_ h_ => h_)) (Kd.R_lt lI)) (aG g4)); have yB := am (Kd.jD (Kd.aJ (ok' := F33 w ub (.slice AS dC.length AW) (.slice (some ⟨y4, 0, none⟩) dZ.length NQ) aT aZ cS) (Kd.S_N (Kd.nP lL)) (fun k_ hk_ => ⟨(Nat.le_trans (aG g4) hk_.2.1), hk_.1, (Kd.fresh' (Kd.R_lt lI) k_ hk_.2.1), (Kd.fresh' (Kd.N_lt uW) k_ hk_.2.1), (fB aW k_ hk_.2.1), (fB cB k_ hk_.2.1), (fB jM k_ hk_.2.1)⟩)) (aG g4)); replace d4 := am (Kd.dS lI (Kd.bZ f3) hb); replace bJ := am (Kd.aJ (Kd.iP (Kd.iP (Kd.xR uW hb) (Kd.bZ f3)) uG) (fun _ h_ => h_.1)); replace a6 := bB aW hb; replace aH := bB cB hb; replace bV := bB jM hb; replace HB := bS g4 hb; clear hb f3 lL; obtain ⟨aCI, aEA, aEZ⟩ := Kd.bP yA.1; subst aEZ; have Z81 := cz2 aH; obtain ⟨EU, CZ, pv⟩ := Kd.gM yB.1; subst pv))
     refine cT aZ 31 #[.slice aCI QD.length aEA, .slice EU V6.length CZ] (qP aH) Try.underlying31 ?_
     exact ⟨_, _, eR, mR yA aH, by refine rN ?_; exact Kd.aJ (fN (fN (Kd.aJ yB.1 (fun k_ hk => (⟨hk, hk.2.2.2.2.2.1⟩ : _ ∧ k_ ≠ aZ))))) (fun _ hk => ⟨hk.1.1, hk.1.2.1⟩), g4⟩
  obtain ⟨rfl, rfl, rfl⟩ := sZ3 H
  repeat clear H
  go_enter Try.func49, Try.ntmps49
  go_wp2_with (first | ((with_reducible refine jW (N := 3) rfl ?_); refine rG ?hg (N := 3) ?hd (cs := #[.slice eU bF.length eY, .slice fG aN.length eQ]) (t := 31) ?hr ?_; (case hd => rfl); (case hg => rfl); (case hr => (try (obtain ⟨Az_, cz_, ez_⟩ := Kd.bP r6.1; subst ez_)); first | (go_simp; done) | (go_simp; rfl)); intro aT hg w83 hbox hb; have a6 := am hbox; have g5 := am (oS : w.heap.size ≤ aT); have iJ := g5; replace HB := bS eG hb; clear hb hbox hg) | ((with_reducible refine jW (N := 6) rfl ?_); refine rG ?hg (N := 6) ?hd (cs := #[.slice none 0 0, .slice none 0 0]) (t := 31) ?hr ?_; (case hd => rfl); (case hg => rfl); (case hr => (try (obtain ⟨Az_, cz_, ez_⟩ := Kd.bP r6.1; subst ez_)); first | (go_simp; done) | (go_simp; rfl)); intro aZ hg Zi hbox hb; have aH := am hbox; have m4 := am (I1 : w.heap.size ≤ aZ); have nX := m4; replace HB := bS eE hb; have cO := nL aW hg; have cV := nG aW hg; replace a6 := bB aW hb; clear hb hbox hg; have Z85 := nZ1 cO cV; have Z86 := cz2 a6) | ((with_reducible refine gC 22 ?_); refine cQ (some 13) Try.func22 (aK.calls k _ _ bF _ _ aN true _ (pB dY) dX.1 (pB cU) f4.1 A4.out) ?_; rintro w87 hb; replace a6 := bB aW hb; replace aH := bB cB hb; replace HB := bS l6 hb; clear hb; have Z88 := cz2 a6) | ((with_reducible refine gC 89 ?_); refine cE (some 17) Try.func89 (dE.calls k _ _ bF _ _ aN dC dZ _ (pB dY) dX.1 (pB cU) f4.1 A6.out) ?_; rintro e Ub ⟨LE, IV, rfl, f3, lL, hb⟩; refine ⟨_, rfl, ?_⟩; have eP := am (Kd.d9 (Kd.jQ (M := fun k_ => (w.heap.size ≤ k_)) f3 (aG l6) (fun k_ h_ => h_)) (aG l6)); have fU := am (Kd.jD (Kd.aJ (ok' := F12 w LE aT aZ) (Kd.S_N (Kd.nP lL)) (fun k_ hk_ => ⟨(Nat.le_trans (aG l6) hk_.2.1), hk_.1, (fB aW k_ hk_.2.1), (fB cB k_ hk_.2.1)⟩)) (aG l6)); replace a6 := bB aW hb; replace aH := bB cB hb; replace HB := bS l6 hb; clear hb f3 lL) | ((with_reducible refine jW (N := 8) rfl ?_); refine rG ?hg (N := 8) ?hd (cs := #[.slice none 0 0, .slice none 0 0]) (t := 31) ?hr ?_; (case hd => rfl); (case hg => rfl); (case hr => (try (obtain ⟨Az_, cz_, ez_⟩ := Kd.bP r6.1; subst ez_)); first | (go_simp; done) | (go_simp; rfl)); intro cS hg w90 hbox hb; replace eP := RB vO hb; replace fU := am (Kd.dQ (Kd.iO yY cS (Nat.le_of_eq hg.symm)) hb); have bV := am hbox; have J4 := am (ZN : w.heap.size ≤ cS); have LI := J4; replace HB := bS l6 hb; have gI := nL aW hg; have iH := nG aW hg; replace a6 := bB aW hb; have gU := nL cB hg; have jC := nG cB hg; replace aH := bB cB hb; clear hb hbox hg; obtain ⟨Dq, Er, qd⟩ := Kd.bP eP.1; subst qd; have Z92 := nZ2 iH gI jC gU; have Z94 := cz2 bV; obtain ⟨Vd, Xa, aF2⟩ := Kd.gM fU.1; subst aF2; have Z96 := cz2 a6) | ((with_reducible refine gC 82 ?_); refine cQ (some 20) Try.func82 (gV.calls k _ _ bF _ _ aN a1 dJ _ (Kd.aX dY.1 g4) dX.1 (Kd.aX cU.1 g4) f4.1 A7.out) ?_; rintro Zj hb; replace eP := am (Kd.fP (by refine rR ?_; exact (Kd.aM (fR (fR (tR eP bV))) (fun _ h_ => h_.1))) hb); replace fU := am (Kd.dQ (by refine rN ?_; exact (Kd.aJ (fN (fN (Kd.aJ fU.1 (fun k_ hk => (⟨hk, hk.2⟩ : _ ∧ k_ ≠ cS))))) (fun _ h_ => h_.1))) hb); replace a6 := am (bH (g := aT) (o := .cells #[.slice eU bF.length eY, .slice fG aN.length eQ] 31 (0, 0)) sg hb); replace aH := am (bH (g := aZ) (o := .cells #[.slice none 0 0, .slice none 0 0] 31 (0, 0)) si hb); replace bV := am (bH (g := cS) (o := .cells #[.slice Dq dC.length Er, .slice Vd dZ.length Xa] 31 (0, 0)) (qP bV) hb); replace HB := bS g4 hb; clear hb; have Z98 := cz2 a6; obtain ⟨BK, Dg, Ee, Dh, Ef, Es, KU, HV, HX, S8, XA, BP, ED, Tb, Tj⟩ := aT56 cU HB dJ; cases Es) | ((with_reducible refine gC 71 ?_); refine cQ (some 31) Try.func71 (dA.calls k _ _ l2 _ _ ((aA aN dJ).f2) false _ (pB EE) zZ.1 (pB BP) ED.1 wg.out) ?_; rintro w' ⟨nd, rfl⟩; (try (rw [H7 Zj]; generalize hq_ : World.drewN Zj _ = Zj; have n0_ : aC (Kd.R Kd.string 9 Zj w.heap.size (fun k_ => (((w.heap.size ≤ k_)) ∧ True)) (.slice Dq dC.length Er) dC) := ⟨by rw [← hq_]; exact vO⟩; have n1_ : aC (Kd.N k56 56 Zj w.heap.size (fun k_ => ((((w.heap.size ≤ k_)) ∧ (some k_ ≠ (.slice Dq dC.length Er : Value).ownBlock ∧ (k_ ≠ aT ∧ k_ ≠ aZ))) ∧ k_ ≠ cS)) (.slice Vd dZ.length Xa) dZ) := ⟨by rw [← hq_]; exact yY⟩; have n2_ : aC (Zj.heap[aT]? = some (.cells #[.slice eU bF.length eY, .slice (some BK) aN.length eQ] 31 (0, 0))) := ⟨by rw [← hq_]; exact aW⟩; have n3_ : aC (Zj.heap[aZ]? = some (.cells #[.slice none 0 0, .slice none 0 0] 31 (0, 0))) := ⟨by rw [← hq_]; exact cB⟩; have n4_ : aC (Zj.heap[cS]? = some (.cells #[.slice Dq dC.length Er, .slice Vd dZ.length Xa] 31 (0, 0))) := ⟨by rw [← hq_]; exact jM⟩; have n5_ : aC (Below w.heap.size w Zj) := ⟨by rw [← hq_]; exact g4⟩; clear eP fU a6 aH bV HB hq_; have eP := n0_; have fU := n1_; have a6 := n2_; have aH := n3_; have bV := n4_; have HB := n5_; clear n0_ n1_ n2_ n3_ n4_ n5_)); have Z99 := cz2 bV; have aSD := cz2 aH))
  refine cT aZ 31 #[.slice Dq dC.length Er, .slice Vd dZ.length Xa] (qP aH) Try.underlying31 ?_
  exact ⟨_, _, eR, mR eP aH, by refine rN ?_; exact Kd.aJ (fN (fN (Kd.aJ fU.1 (fun k_ hk => (⟨hk, hk.1.2.2.2⟩ : _ ∧ k_ ≠ aZ))))) (fun _ hk => ⟨hk.1.1.1, hk.1.1.2.1⟩), g4⟩
 obtain ⟨rfl, rfl, rfl⟩ := sZ3 H
 repeat clear H
 go_enter Try.func49, Try.ntmps49
 go_wp2_with (first | ((with_reducible refine jW (N := 3) rfl ?_); refine rG ?hg (N := 3) ?hd (cs := #[.slice eU bF.length eY, .slice fG aN.length eQ]) (t := 31) ?hr ?_; (case hd => rfl); (case hg => rfl); (case hr => (try (obtain ⟨Az_, cz_, ez_⟩ := Kd.bP r6.1; subst ez_)); first | (go_simp; done) | (go_simp; rfl)); intro aT hg aWC hbox hb; have a6 := am hbox; have g5 := am (oS : w.heap.size ≤ aT); have iJ := g5; replace HB := bS eG hb; clear hb hbox hg) | ((with_reducible refine jW (N := 6) rfl ?_); refine rG ?hg (N := 6) ?hd (cs := #[.slice none 0 0, .slice none 0 0]) (t := 31) ?hr ?_; (case hd => rfl); (case hg => rfl); (case hr => (try (obtain ⟨Az_, cz_, ez_⟩ := Kd.bP r6.1; subst ez_)); first | (go_simp; done) | (go_simp; rfl)); intro aZ hg aWD hbox hb; have aH := am hbox; have m4 := am (I1 : w.heap.size ≤ aZ); have nX := m4; replace HB := bS eE hb; have cO := nL aW hg; have cV := nG aW hg; replace a6 := bB aW hb; clear hb hbox hg; have aCT := nZ1 cO cV; have zj := cz2 a6) | ((with_reducible refine gC 22 ?_); refine cQ (some 13) Try.func22 (aK.calls k _ _ bF _ _ aN false _ (pB dY) dX.1 (pB cU) f4.1 A4.out) ?_; rintro aWF hb; replace a6 := bB aW hb; replace aH := bB cB hb; replace HB := bS l6 hb; clear hb; have aCU := cz2 aH))
 refine cT aZ 31 #[.slice none 0 0, .slice none 0 0] pY6 Try.underlying31 ?_
 exact ⟨_, _, eR, by first | exact Kd.uE _ _ _ _ _ | exact Kd.CG _ _ _ _ _ | exact Kd.CO _ _ _ _ _ | exact Kd.CJ _ _ _ _ _ | exact Kd.yU _ _ _ _ _, by first | exact Kd.yU _ _ _ _ _ | exact Kd.CG _ _ _ _ _ | exact Kd.CO _ _ _ _ _ | exact Kd.CJ _ _ _ _ _ | exact Kd.uE _ _ _ _ _, l6⟩
theorem Yu {xs : List S56} {i : Int} (h0 : 0 ≤ i) (h1 : i < (xs.length : Int)) (x : S56) : aA (xs.set i.toNat x) i = x := by
 unfold aA
 rw [List.getD_eq_getElem?_getD, List.getElem?_set_self (by omega)]
 rfl
def uO (w : World) (g c n : Nat) (cur : List ByteArray) : Prop := ∃ cs : Array Value, w.heap[g]? = some (.cells cs 9 (0, 0)) ∧ cs.size = c ∧ cs.toList.take n = cur.map Value.string
theorem uO.cell {w : World} {g c n : Nat} {cur : List ByteArray} (h : uO w g c n cur) (hl : cur.length = n) {j : Nat} (hj : j < cur.length) : w.cell? ⟨g, j, none⟩ = some (.string cur[j]) := by
 obtain ⟨cs, h1, _, h3⟩ := h
 rw [bC h1 j, ← Array.getElem?_toList]
 have e : (cs.toList.take n)[j]? = (cur.map Value.string)[j]? := by rw [h3]
 rw [List.getElem?_take, if_pos (by omega)] at e
 rw [e, List.getElem?_map, List.getElem?_eq_getElem hj]; rfl
theorem uO.frozen {w : World} {g c n : Nat} {cur : List ByteArray} (h : uO w g c n cur) (j : Nat) : w.frozen? ⟨g, j, none⟩ = false := by
 obtain ⟨cs, h1, _, _⟩ := h
 exact eB h1 j
theorem uO.set_ {w : World} {g c n i : Nat} {cur : List ByteArray} (h : uO w g c n cur) (y : ByteArray) : uO (w.setCell ⟨g, i, none⟩ (.string y)) g c n (cur.set i y) := by
 obtain ⟨cs, h1, h2, h3⟩ := h
 refine ⟨cs.setIfInBounds i (.string y), SH h1 i _, by simpa using h2, ?_⟩
 rw [Array.toList_setIfInBounds, List.take_set, h3, List.map_set]
theorem uO.below {w w' : World} {g c n : Nat} {cur : List ByteArray} (h : uO w g c n cur) (hb : Below w.heap.size w w') : uO w' g c n cur := by
 obtain ⟨cs, h1, h2⟩ := h
 exact ⟨cs, bH h1 hb, h2⟩
theorem uO.R_ {w w' : World} {base g c n i : Nat} {P : Nat → Prop} {cur : List ByteArray} (h : uO w g c n cur) (hl : cur.length = n) (hi : i ≤ n) (hn : n ≤ c) (hm : c ≤ maxLen) (hP : P g) (hb : base ≤ g)
  (hw : ∃ cs' : Array Value, w'.heap[g]? = some (.cells cs' 9 (0, 0)) ∧ cs'.size = c ∧ ∀ cs : Array Value, w.heap[g]? = some (.cells cs 9 (0, 0)) → cs'.toList.take i = cs.toList.take i) :
  Kd.R Kd.string 9 w' base P (.slice (some ⟨g, 0, none⟩) i c) (cur.take i) := by
 obtain ⟨cs, h1, h2, h3⟩ := h
 obtain ⟨cs', h4, h5, h6⟩ := hw
 have vt : (cur.take i).length = i := by rw [List.length_take]; omega
 have e : cs'.toList.take i = (cur.take i).map Value.string := by
  rw [h6 cs h1, List.map_take, ← h3, List.take_take, Nat.min_eq_left hi]
 refine ⟨fun k hk => by (have e : g = k := by simpa [Value.ownBlock] using hk); subst e; exact hP, (cur.take i).map Value.string, ⟨?_, ?_⟩, ?_, ?_⟩
 ·rw [List.length_map]; show _ = _ * 1; omega
 ·refine .inr ⟨g, c, cs', by rw [vt], hb, h4, by omega, hm, ?_, ?_⟩
  ·show _ = _ * 1; omega
  rw [vt]; show List.take (i * 1) _ = _; rw [Nat.mul_one]; exact e
 ·rw [List.length_map]; show _ = _ * 1; omega
 intro j p hj
 have hjl : j < (cur.take i).length := (List.getElem?_eq_some_iff.1 hj).1
 show (((cur.take i).map Value.string).drop (j * 1)).take 1 = [Value.string p]
 rw [Nat.mul_one, List.drop_eq_getElem_cons (by rw [List.length_map]; exact hjl), List.take_succ_cons, List.take_zero, List.getElem_map]
 rw [List.getElem?_eq_getElem hjl] at hj
 rw [Option.some.inj hj]
def bf (g : Nat) (lb : Array Value) (p : ByteArray → Bool) (w0 w : World) (S : Nat → Prop) : Prop :=
 ∀ (W : World) (s : ByteArray), Below w0.heap.size w0 W → Kept w W S → Calls Try.prog g (#[.string s] ++ lb) W fun e w' => e = .returned (.bool (p s)) ∧ Below W.heap.size W w'
theorem QZ {p : ByteArray → Bool} : ∀ {l : List ByteArray} {i : Nat}, idxP p l i = -1 → l.filter (fun x => !p x) = l
 | [], _, _ => rfl
 | x :: xs, i, h => by
  unfold idxP at h
  cases hp : p x with
  | true => rw [if_pos hp] at h; omega
  | false => rw [if_neg (by simp [hp])] at h; rw [List.filter_cons_of_pos (by simp [hp]), QZ h]
theorem WN {p : ByteArray → Bool} : ∀ {l : List ByteArray} {i : Nat}, idxP p l i ≠ -1 → ∃ k, idxP p l i = ((i + k : Nat) : Int) ∧ k < l.length ∧ (l.take (k + 1)).filter (fun x => !p x) = l.take k
 | [], _, h => absurd rfl h
 | x :: xs, i, h => by
  unfold idxP at h ⊢
  cases hp : p x with
  | true => rw [if_pos rfl]; exact ⟨0, by simp, by simp, by simp [hp]⟩
  | false =>
   rw [hp, if_neg (by simp)] at h
   rw [if_neg (by simp)]
   obtain ⟨k, e, hk, hf⟩ := WN h
   refine ⟨k + 1, by rw [e]; congr 1; omega, by simp; omega, ?_⟩
   rw [List.take_succ_cons, List.take_succ_cons, List.filter_cons_of_pos (by simp [hp]), hf]
theorem Df : ∀ w, (zeroValue 9).run Try.prog w = .ok (.string ByteArray.empty) w := Try.zeroValue9
set_option maxHeartbeats 4000000 in
theorem TT (g : Nat) (lb : Array Value) (eg : ∀ args w, (callFunc g args).run Try.prog w = .ok (.enter g args) w) (p : ByteArray → Bool) (P : Nat → Prop) (A : Option Addr) (c : Nat) (l : List ByteArray) (w0 w : World) (hB : Below w0.heap.size w0 w)
  (h : Kd.R Kd.string 9 w w0.heap.size P (.slice A l.length c) l) (hp : bf g lb p w0 w P) :
  Calls Try.prog 95 #[.slice A l.length c, .func (.func g) #[] lb] w fun e w' => e = .returned (.slice A (l.filter (fun x => !p x)).length c) ∧ Kd.R Kd.string 9 w' w0.heap.size P (.slice A (l.filter (fun x => !p x)).length c) (l.filter (fun x => !p x)) ∧ Below w0.heap.size w0 w' ∧ Kept w w' P := by
 have hrd := (Kd.aU h).2.2
 have hbig := VG hrd
 have HI := am (LP g lb eg p A c l w hrd (fun W s hb => (hp W s (jR hB hb) (Kept.of_below hb P)).mono fun e w' q => ⟨q.1, xH hb hb.size q.2⟩))
 by_cases hn : idxP p l 0 = -1
 ·have hf := QZ hn
  rw [hn] at HI
  have HR := am h
  have HB := am hB
  rw [hf]
  clear h hB hp hrd hf hn
  go_enter Try.func95, Try.ntmps95
  go_wp2_with ((go_at_call 113; refine HI.out.mono ?_; rintro e w' ⟨rfl, hb'⟩))
  go_ret
  exact ⟨rfl, Kd.fP HR.out hb', jR HB.1 hb', Kept.of_below hb' P⟩
 obtain ⟨k0, e0, hk0, hf0⟩ := WN hn
 rw [Nat.zero_add] at e0
 obtain ⟨h0, inner, ho, hr⟩ := h
 obtain ⟨hil, ho⟩ := ho
 rcases ho with ⟨_, ho⟩ | ⟨gb, cap, cur, hv, hbase, hheap, hncap, hcapm, hcur, htake⟩
 ·omega
 injection hv with ha _ hc
 subst ha; subst hc
 have hP : P gb := h0 gb rfl
 have hrow : uO w gb c l.length l := by
  refine ⟨cur, hheap, by rw [hcur]; exact Nat.mul_one _, ?_⟩
  have ht : cur.toList.take l.length = inner := by rw [← htake]; congr 1; exact (Nat.mul_one _).symm
  rw [ht]
  have hil2 : inner.length = l.length := by rw [hil]; exact Nat.mul_one _
  refine List.ext_getElem (by rw [List.length_map]; exact hil2) fun j h1 h2 => ?_
  have hM := hr.2 j (l[j]'(by omega)) (List.getElem?_eq_getElem (by omega))
  have hM2 : (inner.drop (j * 1)).take 1 = [Value.string (l[j]'(by omega))] := hM
  rw [Nat.mul_one, List.drop_eq_getElem_cons h1, List.take_succ_cons, List.take_zero] at hM2
  rw [List.getElem_map]
  exact (List.cons.inj hM2).1
 have hne1 : ((k0 : Int) == -1) = false := beq_eq_false_iff_ne.2 (by omega)
 have HROW := am hrow
 have HP := am hp
 have HB := am hB
 have HG := am hbase
 have HPg := am hP
 have HCM := am hcapm
 have HF0 := am hf0
 have HNC := am hncap
 rw [e0] at HI
 clear hn e0 h0 hr hil hheap hcur htake hrow hp hB hbase hP hcapm hf0 hrd hncap
 go_enter Try.func95, Try.ntmps95
 go_wp2_with ((go_at_call 113; refine HI.out.mono ?_; rintro e w1 ⟨rfl, hb1⟩; have HB1 := am hb1; clear hb1))
 go_loopg [5, 6, 7] l.length (fun gg s5 s6 _ wr => ∃ (i j : Nat) (cu : List ByteArray), s5 = .int .i64 i ∧ s6 = .int .i64 j ∧ i < j ∧ j ≤ l.length ∧ l.length - j ≤ gg ∧ cu.length = l.length ∧ aC (uO wr gb c l.length cu) ∧ aC (Kept w wr P) ∧ aC (Below w0.heap.size w0 wr) ∧ aC (cu.take i = (l.take j).filter (fun x => !p x)) ∧ aC (cu.drop j = l.drop j))
 case atStart => exact ⟨k0, k0 + 1, l, rfl, by go_num, by omega, by omega, by omega, rfl, ⟨uO.below HROW.1 HB1.out⟩, ⟨Kept.of_below HB1.out P⟩, ⟨jR HB.1 HB1.out⟩, ⟨HF0.out.symm⟩, ⟨rfl⟩⟩
 obtain ⟨i, j, cu, rfl, rfl, hij, hjl, hgg, hcl, RR, KK, BB, T1, T2⟩ := hrel
 by_cases hlt : j < l.length
 ·have hltz : (j : Int) < (l.length : Int) := by omega
  have hx := uO.cell RR.out hcl (j := j) (by omega)
  have hcy : cu[j]'(by omega) = l[j] := by
   have e := T2.out
   rw [List.drop_eq_getElem_cons (by omega), List.drop_eq_getElem_cons hlt] at e
   exact (List.cons.inj e).1
  rw [hcy] at hx
  have hci := uO.cell RR.out hcl (j := i) (by omega)
  have hfi := uO.frozen RR.out i
  have hcall := HP.out wr l[j] BB.out KK.out
  have HY := am (show l[j]? = some l[j] from List.getElem?_eq_getElem hlt)
  generalize l[j] = y at hx hcall HY
  generalize cu[i]'_ = old at hci
  clear hcy
  have hT2 : aC (cu.drop (j + 1) = l.drop (j + 1)) := ⟨by rw [← List.drop_drop, ← List.drop_drop, T2.out]⟩
  have hYs : aC (l.take (j + 1) = l.take j ++ [y]) := ⟨by rw [List.take_add_one, HY.out]; rfl⟩
  cases hq : p y with
  | false =>
   rw [hq] at hcall
   have HQ := am hq
   clear hq
   go_wp2_with ((go_at_fn g; refine hcall.mono ?_; rintro e w2 ⟨rfl, hb2⟩; have HB2 := am hb2; have hci2 := (hb2.cell (World.block_lt_of_cell? _ _ hci)).trans hci; have hfi2 := uO.frozen (uO.below RR.out hb2) i; clear hb2))
   go_roundg (l.length - (j + 1))
   case measure => omega
   case rel =>
    refine ⟨i + 1, j + 1, cu.set i y, by go_num, by go_num, by omega, by omega, Nat.le_refl _, by rw [List.length_set]; exact hcl, ⟨uO.set_ (uO.below RR.out HB2.out) y⟩, ⟨Kept.setCell (Kept.below KK.out HB2.out) (Or.inl HPg.out) _⟩, ⟨aI (jR BB.out HB2.out) HG.out⟩, ⟨?_⟩, ⟨?_⟩⟩
    ·rw [hYs.out, List.filter_append, ← T1.out, List.filter_cons_of_pos (by simp [HQ.out]), List.filter_nil, List.take_set, List.take_succ_eq_append_getElem (by omega), List.set_append_right _ _ (by rw [List.length_take]; omega), List.length_take, Nat.min_eq_left (by omega), Nat.sub_self, List.set_cons_zero]
    ·rw [List.drop_set_of_lt (by omega)]; exact hT2.out
  | true =>
   rw [hq] at hcall
   have HQ := am hq
   clear hq
   go_wp2_with ((go_at_fn g; refine hcall.mono ?_; rintro e w2 ⟨rfl, hb2⟩; have HB2 := am hb2; clear hb2))
   go_roundg (l.length - (j + 1))
   case measure => omega
   case rel =>
    refine ⟨i, j + 1, cu, rfl, by go_num, by omega, by omega, Nat.le_refl _, hcl, ⟨uO.below RR.out HB2.out⟩, ⟨Kept.below KK.out HB2.out⟩, ⟨jR BB.out HB2.out⟩, ⟨?_⟩, ⟨hT2.out⟩⟩
    rw [hYs.out, List.filter_append, ← T1.out, List.filter_cons_of_neg (by simp [HQ.out]), List.filter_nil, List.append_nil]
 have hje : j = l.length := by omega
 subst hje
 have hltz : ¬ (l.length : Int) < (l.length : Int) := by omega
 have hfil : cu.take i = l.filter (fun x => !p x) := by rw [T1.out, List.take_length]
 have hfl : (l.filter (fun x => !p x)).length = i := by rw [← hfil, List.length_take]; omega
 obtain ⟨cs, FF, PZ, hc3⟩ := RR.out
 have hncap := HNC.out
 have hclr : ∀ ty, (Builtin.clear_ #[23] ty #[.slice (some ⟨gb, i, none⟩) (l.length - i) (c - i)]).run Try.prog wr = .ok (.tuple #[]) (wr.setCells gb i (List.replicate (l.length - i) (.string ByteArray.empty))) := fun ty =>
  Lib.run_clear_slice wr _ _ ty _ Try.underlying23 Df rfl rfl gb i _ _ (by omega) (fun t ht => by rw [bC FF, Array.getElem?_eq_getElem (by omega)]; rfl) (fun t ht => eB FF _)
 obtain ⟨cs', Xu, eh, hs3⟩ := yM (e := 9) (List.replicate (l.length - i) (.string ByteArray.empty)) i wr cs FF (by rw [List.length_replicate, PZ]; omega)
 obtain ⟨W2, hW2⟩ : ∃ W2, W2 = wr.setCells gb i (List.replicate (l.length - i) (.string ByteArray.empty)) := ⟨_, rfl⟩
 rw [← hW2] at Xu
 have hR := uO.R_ (w' := W2) RR.out hcl (i := i) (by omega) hncap HCM.1 HPg.out HG.out ⟨cs', Xu, by rw [eh, PZ], fun cs2 h2 => by
  have e2 : cs2 = cs := by rw [FF] at h2; injection h2 with h2; injection h2 with h2 _ _; exact h2.symm
  subst e2
  rw [hs3, List.append_assoc, List.take_append_of_le_length (by rw [List.length_take, Array.length_toList]; omega), List.take_take, Nat.min_self]⟩
 rw [hfil] at hR
 have hK : Kept wr W2 P := by
  rw [hW2]
  exact ⟨by rw [(qA gb _ _ _).2.2.2]; exact Nat.le_refl _, fun k hk hne => wB _ _ _ (fun e => hne (e ▸ HPg.out))⟩
 have hBe : Below w0.heap.size w0 W2 := by
  have q := qA gb (List.replicate (l.length - i) (.string ByteArray.empty)) i wr
  rw [← hW2] at q
  have hg := HG.out
  exact ⟨by rw [q.1]; exact BB.out.os, by rw [q.2.1]; exact BB.out.tape, by rw [q.2.2.1]; exact BB.out.output, Nat.le_trans BB.out.size hK.1, fun k hk => by
   rw [hW2, wB _ _ _ (by omega)]; exact BB.out.block k hk⟩
 have EE := am hR
 have HK2 := am (Kept.Cz KK.out hK (fun k hk => Or.inl hk))
 have HB2 := am hBe
 have HW2 : Hid (W2 = wr.setCells gb i (List.replicate (l.length - i) (.string ByteArray.empty))) := hW2
 have hic : i ≤ c := by omega
 have hil : i ≤ l.length := by omega
 have HFL := am hfl
 have hci3 : ¬ c = i := by omega
 have hci4 : ¬ i = c := by omega
 have hci5 : (c = i) = False := eq_false hci3
 clear hR hK hBe hW2 Xu eh hs3 FF PZ hc3 hfil hfl hncap
 go_wp2
 go_ret
 rw [← HW2.out, HFL.out]
 exact ⟨rfl, EE.1, HB2.out, HK2.out⟩
theorem Wn {W : World} {base g n cap : Nat} {P okr : Nat → Prop} {xs : List S56} {vn : Value} {r : List ByteArray} (h : Kd.S k56 56 W base P (.slice (some ⟨g, 0, none⟩) n cap) xs) (i : Int) (h0 : 0 ≤ i) (h1 : i < n) (hr : Kd.R Kd.string 9 W base okr vn r) (hn : ∀ k, vn.ownBlock = some k → ¬ P k) (hP : P g) :
  Kd.S k56 56 (W.setCell ⟨g, i.toNat * 3 + 2, none⟩ vn) base (fun k => P k ∨ some k = vn.ownBlock) (.slice (some ⟨g, 0, none⟩) n cap) (xs.set i.toNat ⟨(aA xs i).f0, (aA xs i).f1, r⟩) := by
 obtain ⟨oki, c, hcl, hM, hc, hf, hoki, hH⟩ := Kd.JB h z56 i h0 h1
 obtain ⟨v1, v2, rfl, g1, g2⟩ := uI hM
 exact (Kd.Pv (ok := fun k => P k ∨ some k = vn.ownBlock) (okg := fun k => some k = vn.ownBlock) (Kd.Oi hH (fun k hk => ⟨Or.inl hk, fun e => hn k e.symm hk⟩)) h0 h1 (seg := [vn]) (j := 2) (x' := ⟨(aA xs i).f0, (aA xs i).f1, r⟩) (by show 2 + 1 ≤ 3; omega) (okp := fun k => oki k ∨ some k = vn.ownBlock) (BX _ _ _ ⟨(aA xs i).f0, (aA xs i).f1, r⟩ (Kd.aM g1 (fun k hk => Or.inl hk)) (Kd.aM (Kd.rT rfl hr) (fun k hk => Or.inr hk)) (fun k e1 e2 => hn k e2 (hoki k (g1.1 k e1)).1)) (fun k hk => hk) (fun k hk => ⟨Or.inr hk, fun e => hn k hk.symm (e ▸ hP)⟩)).1
theorem Wm {W : World} {base g n cap : Nat} {P : Nat → Prop} {xs : List S56} (h : Kd.S k56 56 W base P (.slice (some ⟨g, 0, none⟩) n cap) xs) (i : Int) (h0 : 0 ≤ i) (h1 : i < n) :
  (∃ A c, W.cell? ⟨g, i.toNat * 3 + 2, none⟩ = some (.slice A (aA xs i).f2.length c)) ∧ W.frozen? ⟨g, i.toNat * 3 + 2, none⟩ = false := by
 obtain ⟨oki, c, hcl, hM, hc, hf, hoki, hH⟩ := Kd.JB h z56 i h0 h1
 obtain ⟨v1, v2, rfl, g1, g2⟩ := uI hM
 obtain ⟨A1, c1, e1⟩ := Kd.bP g2
 subst e1
 exact ⟨⟨A1, c1, hc 2 _ rfl⟩, hf 2⟩
theorem zf {W : World} {base g n cap : Nat} {P : Nat → Prop} {xs : List S56} (h : Kd.S k56 56 W base P (.slice (some ⟨g, 0, none⟩) n cap) xs) (i : Int) (h0 : 0 ≤ i) (h1 : i < n) :
  ∃ (A1 : Option Addr) (c1 : Nat) (P1 : Nat → Prop), W.cell? ⟨g, i.toNat * 3 + 1, none⟩ = some (.slice A1 (aA xs i).f1.length c1) ∧ Kd.R Kd.string 9 W base P1 (.slice A1 (aA xs i).f1.length c1) (aA xs i).f1 ∧ (∀ k, P1 k → P k ∧ k ≠ g ∧ some k = (.slice A1 (aA xs i).f1.length c1 : Value).ownBlock) ∧
   ∀ (W2 : World) (r : List ByteArray) (m : Nat) (okr : Nat → Prop), Kept W W2 P1 → Kd.R Kd.string 9 W2 base okr (.slice A1 m c1) r → Kd.S k56 56 (W2.setCell ⟨g, i.toNat * 3 + 1, none⟩ (.slice A1 m c1)) base P (.slice (some ⟨g, 0, none⟩) n cap) (xs.set i.toNat ⟨(aA xs i).f0, r, (aA xs i).f2⟩) := by
 obtain ⟨oki, c, hcl, hM, hc, hf, hoki, hH⟩ := Kd.JB h z56 i h0 h1
 obtain ⟨v1, v2, rfl, g1, g2⟩ := uI hM
 have hs := OT hM
 obtain ⟨A1, c1, e1⟩ := Kd.bP g1
 subst e1
 refine ⟨A1, c1, fun k => some k = (.slice A1 (aA xs i).f1.length c1 : Value).ownBlock, hc 1 _ rfl, Kd.rT rfl g1, fun k hk => ⟨(hoki k (g1.1 k hk.symm)).1, (hoki k (g1.1 k hk.symm)).2, hk⟩, fun W2 r m okr hk hr => ?_⟩
 have hob : (.slice A1 m c1 : Value).ownBlock = (.slice A1 (aA xs i).f1.length c1 : Value).ownBlock := by cases A1 <;> rfl
 have hH2 := Kd.jk hH hk (fun k _ hn hp => hn (g1.1 k hp.symm))
 exact (Kd.Dz hH2 h0 h1 (seg := [.slice A1 m c1]) (j := 1) (x' := ⟨(aA xs i).f0, r, (aA xs i).f2⟩) (by show 1 + 1 ≤ 3; omega) (okp := oki) (BX _ _ _ ⟨(aA xs i).f0, r, (aA xs i).f2⟩ (Kd.aM (Kd.rT rfl hr) (fun k hp => g1.1 k (hob.symm.trans hp.symm))) (Kd.aM (Kd.EY (Kd.rT rfl g2) hk (fun k h2 hp => hs k hp.symm h2.symm)) (fun k hp => g2.1 k hp.symm)) (fun k e1 => hs k (hob.symm.trans e1))) (fun _ hk => hk)).1
theorem BkS.needs {w0 W : World} {lo hi lo2 ee g n cap : Nat} {v0 vn : Value} {l0 r : List ByteArray} {xs : List S56} (h : BkS w0 W lo hi v0 (.slice (some ⟨g, 0, none⟩) n cap) l0 xs) (hv : RwS w0 W lo2 ee vn r) (hle : hi ≤ lo2) (hh : hi ≤ ee) (i : Int) (h0 : 0 ≤ i) (h1 : i < n) :
  BkS w0 (W.setCell ⟨g, i.toNat * 3 + 2, none⟩ vn) lo ee v0 (.slice (some ⟨g, 0, none⟩) n cap) l0 (xs.set i.toNat ⟨(aA xs i).f0, (aA xs i).f1, r⟩) := by
 have hg := (Kd.S_R h.2).1 g rfl
 have hk : Kept W (W.setCell ⟨g, i.toNat * 3 + 2, none⟩ vn) (fun k => k = g) := Kept.setCell (p := ⟨g, i.toNat * 3 + 2, none⟩) (Kept.refl W (fun k => k = g)) (Or.inl rfl) vn
 refine ⟨Kd.aM (Kd.EY (Kd.rT rfl h.1) hk (fun k e e2 => hg.2 (by rw [← e2]; exact e))) (fun k e => ?_), Kd.nD (Wn h.2 i h0 h1 hv (fun k e e2 => ?_) hg) (fun k e => ?_)⟩
 ·have := h.1.1 k e.symm; omega
 ·have := hv.1 k e; omega
 rcases e with e | e
 ·exact ⟨⟨e.1.1, by omega⟩, e.2⟩
 have q := hv.1 k e.symm
 refine ⟨⟨by have := hg.1; omega, q.2⟩, fun e2 => ?_⟩
 have := h.1.1 k e2.symm; omega
theorem BkS.has {w0 W : World} {lo hi g n cap : Nat} {v0 : Value} {l0 : List ByteArray} {xs : List S56} (h : BkS w0 W lo hi v0 (.slice (some ⟨g, 0, none⟩) n cap) l0 xs) (i : Int) (h0 : 0 ≤ i) (h1 : i < n) :
  ∃ (A1 : Option Addr) (c1 : Nat) (P1 : Nat → Prop), W.cell? ⟨g, i.toNat * 3 + 1, none⟩ = some (.slice A1 (aA xs i).f1.length c1) ∧ Kd.R Kd.string 9 W w0.heap.size P1 (.slice A1 (aA xs i).f1.length c1) (aA xs i).f1 ∧ (∀ k, P1 k → (lo ≤ k ∧ k < hi) ∧ k ≠ g ∧ some k = (.slice A1 (aA xs i).f1.length c1 : Value).ownBlock) ∧
   ∀ (W2 : World) (r : List ByteArray) (m : Nat) (okr : Nat → Prop), Kept W W2 P1 → Kd.R Kd.string 9 W2 w0.heap.size okr (.slice A1 m c1) r → BkS w0 (W2.setCell ⟨g, i.toNat * 3 + 1, none⟩ (.slice A1 m c1)) lo hi v0 (.slice (some ⟨g, 0, none⟩) n cap) l0 (xs.set i.toNat ⟨(aA xs i).f0, r, (aA xs i).f2⟩) := by
 have hg := (Kd.S_R h.2).1 g rfl
 obtain ⟨A1, c1, P1, e1, e2, e3, e4⟩ := zf h.2 i h0 h1
 refine ⟨A1, c1, P1, e1, e2, fun k hk => ⟨(e3 k hk).1.1, (e3 k hk).2⟩, fun W2 r m okr hk hr => ⟨?_, e4 W2 r m okr hk hr⟩⟩
 have hk2 : Kept W2 (W2.setCell ⟨g, i.toNat * 3 + 1, none⟩ (.slice A1 m c1)) (fun k => k = g) := Kept.setCell (p := ⟨g, i.toNat * 3 + 1, none⟩) (Kept.refl W2 (fun k => k = g)) (Or.inl rfl) _
 exact Kd.aM (Kd.EY (Kd.EY (Kd.rT rfl h.1) hk (fun k e e5 => (e3 k e5).1.2 e)) hk2 (fun k e e2 => hg.2 (by rw [← e2]; exact e))) (fun k e => h.1.1 k e.symm)
theorem BkS.cz {w0 W : World} {lo hi g n cap : Nat} {v0 : Value} {l0 : List ByteArray} {xs : List S56} (h : BkS w0 W lo hi v0 (.slice (some ⟨g, 0, none⟩) n cap) l0 xs) (i : Int) (h0 : 0 ≤ i) (h1 : i < n) :
  (∃ A c, W.cell? ⟨g, i.toNat * 3 + 2, none⟩ = some (.slice A (aA xs i).f2.length c)) ∧ W.frozen? ⟨g, i.toNat * 3 + 2, none⟩ = false ∧ W.frozen? ⟨g, i.toNat * 3 + 1, none⟩ = false := by
 obtain ⟨e1, e2⟩ := Wm h.2 i h0 h1
 obtain ⟨oki, c, hcl, hM, hc, hf, hoki, hH⟩ := Kd.JB h.2 z56 i h0 h1
 exact ⟨e1, e2, hf 1⟩
theorem Lx (s : ByteArray) (gb : Nat) (A1 : Option Addr) (c1 : Nat) (l1 : List ByteArray) (W : World) (FF : l1.length ≤ c1) (hcell : W.cell? ⟨gb, 0, none⟩ = some (.slice A1 l1.length c1)) (FG : Kd.C Kd.string W A1 l1.length l1) :
  Calls Try.prog 96 #[.string s, .pointer (some ⟨gb, 0, none⟩)] W fun e w' => e = .returned (.bool (!hasS l1 s)) ∧ kY W w' := by
 have IL := am FG
 have LA := am FF
 have HK := am (JJ l1 s (VG FG))
 clear FG FF
 generalize hasS l1 s = b at HK
 go_enter Try.func96, Try.ntmps96
 go_wp2_with ((go_at_call 81; refine (bG.calls (l1.length + 1) A1 c1 l1 s b _ ?s1 LA.1 HK.out).mono ?_; (case s1 => repeat (first | exact IL.1 | (with_reducible refine Kd.mO ?_ _) | (with_reducible refine Kd.mP ?_ _) | (with_reducible refine Kd.oD ?_))); rintro e w' ⟨rfl, ⟨nd, rfl⟩⟩))
 go_ret
 exact ⟨rfl, gR⟩
theorem Mc {w0 w : World} {S : Nat → Prop} {gb : Nat} {A1 : Option Addr} {c1 : Nat} {l1 : List ByteArray} {t : Nat} (FF : l1.length ≤ c1) (hb : w.heap[gb]? = some (.cells #[.slice A1 l1.length c1] t (0, 0))) (hS : ¬ S gb) (FG : Kd.C Kd.string w0 A1 l1.length l1) : bf 96 #[.pointer (some ⟨gb, 0, none⟩)] (fun s => !hasS l1 s) w0 w S := by
 intro W s hB hK
 refine (Lx s gb A1 c1 l1 W FF ((bC (eX hb hK hS) 0).trans rfl) (Kd.aX FG hB)).mono fun e w' q => ?_
 obtain ⟨he, nd, hd⟩ := q
 exact ⟨he, hd ▸ bA (Below.refl _ _) nd⟩
def qL.f (k : Nat) (l0 : List ByteArray) (l1 : List S56) (a1 : ByteArray) (l2 : List ByteArray) : Option (List ByteArray × List S56 × Int) :=
 (aQ.f k l0 l1).bind fun ok => if ok = true then (dP.f k l0 l1).bind fun c => (iA.f l0 l1 a1).bind fun i => if i < 0 then some (c.1, c.2, 3) else if i < (l1.length : Int) ∧ i < (c.2.length : Int) then (gY.f k l2 (aA l1 i).f2).bind fun q => if q = true then (dU.f l2).bind fun nd => some (c.1, c.2.set i.toNat ⟨(aA c.2 i).f0, (aA c.2 i).f1.filter (fun s => !(!hasS l2 s)), nd⟩, 0) else some (c.1, c.2, 2) else none else some ([], [], 1)
theorem qL.calls (k : Nat) (eU : Option Addr) (eY : Nat) (l0 : List ByteArray) (fG : Option Addr) (eQ : Nat) (l1 : List S56) (a1 : ByteArray) (A2 : Option Addr) (c2 : Nat) (l2 : List ByteArray) (r1 : List ByteArray) (r2 : List S56) (r3 : Int) (w : World) (iG : Kd.C Kd.string w eU l0.length l0) (iD : l0.length ≤ eY) (iC : Kd.C k56 w fG l1.length l1) (iE : l1.length ≤ eQ) (U2 : Kd.C Kd.string w A2 l2.length l2) (PZ : l2.length ≤ c2) (h : qL.f k l0 l1 a1 l2 = some (r1, r2, r3)) :
  Calls Try.prog 50 #[.agg #[.slice eU l0.length eY, .slice fG l1.length eQ], .string a1, .slice A2 l2.length c2] w fun e w' => ∃ v0_ v1_ : Value, e = .returned (.tuple #[.agg #[v0_, v1_], .int .i64 r3]) ∧ Kd.R Kd.string 9 w' w.heap.size (fun _ => True) v0_ r1 ∧ Kd.S k56 56 w' w.heap.size (fun k_ => some k_ ≠ (v0_ : Value).ownBlock) v1_ r2 ∧ Below w.heap.size w w' := by
 have hu31 := Try.underlying31
 have hu56 := Try.underlying56
 obtain ⟨dY, dX⟩ := mZ2 iG iD
 obtain ⟨cU, f4⟩ := mZ2 iC iE
 obtain ⟨EE, zZ⟩ := mZ2 U2 PZ
 clear iG iD iC iE U2 PZ
 have HB := am (Below.refl w.heap.size w); have NN := am trivial
 unfold qL.f at h
 have H := h
 clear h
 obtain ⟨ok, D1, H⟩ := bd H
 by_cases c1 : ok = false
 ·subst c1
  rw [if_neg (by simp)] at H
  obtain ⟨rfl, rfl, rfl⟩ := sZ3 H
  repeat clear H
  go_enter Try.func50, Try.ntmps50
  go_wp2_with (first | ((with_reducible refine gD 3 ?_); refine bX 3 #[.slice eU l0.length eY, .slice fG l1.length eQ] 31 ?_; intro sH hg_ W1 hbox hb; have hk_ : Kept w W1 (fun _ => False) := Kept.noth hb; replace NN := nn NN (show w.heap.size ≤ W1.heap.size from hk_.1); have Vj := am (show w.heap.size ≤ sH from Nat.le_trans HB.1.size (Nat.le_of_eq hg_.symm)); replace NN := nn NN (show w.heap.size ≤ sH from Nat.le_of_eq hg_.symm); replace NN := nn NN (show sH < W1.heap.size from gL hbox); replace HB := bS HB.1 hb; have gO := am hbox; clear hb hbox hg_ hk_; (try clear Z3); have Z3 := cz2 gO) | ((with_reducible refine gD 5 ?_); refine bX 5 #[.slice A2 l2.length c2] 23 ?_; intro GL hg_ W2 hbox hb; have hk_ : Kept W1 W2 (fun _ => False) := Kept.noth hb; replace NN := nn NN (show W1.heap.size ≤ W2.heap.size from hk_.1); have GE5 := am (show w.heap.size ≤ GL from Nat.le_trans HB.1.size (Nat.le_of_eq hg_.symm)); replace NN := nn NN (show W1.heap.size ≤ GL from Nat.le_of_eq hg_.symm); replace NN := nn NN (show GL < W2.heap.size from gL hbox); replace gO := kB gO hk_; replace HB := bS HB.1 hb; have uZ := am hbox; clear hb hbox hg_ hk_; have nb5_3 : GL ≠ sH := (by have := NN.1;  omega); have nb3_5 : sH ≠ GL := (by have := NN.1;  omega); (try clear Z5); have Z5 := cz1 uZ) | ((with_reducible refine gD 6 ?_); refine bX 6 #[.slice none 0 0, .slice none 0 0] 31 ?_; intro lZ hg_ W3 hbox hb; have hk_ : Kept W2 W3 (fun _ => False) := Kept.noth hb; replace NN := nn NN (show W2.heap.size ≤ W3.heap.size from hk_.1); have EA := am (show w.heap.size ≤ lZ from Nat.le_trans HB.1.size (Nat.le_of_eq hg_.symm)); replace NN := nn NN (show W2.heap.size ≤ lZ from Nat.le_of_eq hg_.symm); replace NN := nn NN (show lZ < W3.heap.size from gL hbox); replace gO := kB gO hk_; replace uZ := kB uZ hk_; replace HB := bS HB.1 hb; have hL := am hbox; clear hb hbox hg_ hk_; have nb6_3 : lZ ≠ sH := (by have := NN.1;  omega); have nb3_6 : sH ≠ lZ := (by have := NN.1;  omega); have nb6_5 : lZ ≠ GL := (by have := NN.1;  omega); have nb5_6 : GL ≠ lZ := (by have := NN.1;  omega); (try clear Z6); have Z6 := cz2 hL; (try clear Z3); have Z3 := cz2 gO) | ((with_reducible refine gC 24 ?_); refine cQ (some 12) Try.func24 (aQ.calls k _ _ l0 _ _ l1 false _ (Kd.aX dY.1 HB.1) dX.1 (Kd.aX cU.1 HB.1) f4.1 D1.1) ?_; rintro W4 hb; have HB0 := am (show w.heap.size ≤ W3.heap.size from HB.1.size); have hk_ : Kept W3 W4 (fun _ => False) := Kept.noth hb; replace NN := nn NN (show W3.heap.size ≤ W4.heap.size from hk_.1); replace gO := kB gO hk_; replace uZ := kB uZ hk_; replace hL := kB hL hk_; replace HB := bS HB.1 hb; clear hb hk_; (try clear Z3); have Z3 := cz2 gO; (try clear Z6); have Z6 := cz2 hL; clear HB0))
  (try simp only [Exit.inBlock, Exit.then]); refine cT lZ 31 #[.slice none 0 0, .slice none 0 0] (bR (cs := #[.slice none 0 0, .slice none 0 0]) (bR (cs := #[.slice none 0 0, .slice none 0 0]) (hL.1) 0 _ rfl) 1 _ rfl) Try.underlying31 ?_
  exact ⟨_, _, rfl, Kd.uE _ _ _ _ _, Kd.yU _ _ _ _ _, aI (aI HB.1 EA.1) EA.1⟩
 have c1 : ok = true := by simpa using c1
 rw [if_pos c1] at H
 subst c1
 obtain ⟨⟨c1a, c1b⟩, D2, H⟩ := bd H
 obtain ⟨i, D3, H⟩ := bd H
 dsimp only at H
 by_cases cj : i < 0
 ·rw [if_pos cj] at H
  have Bf : decide (i < 0) = true := decide_eq_true cj
  obtain ⟨rfl, rfl, rfl⟩ := sZ3 H
  repeat clear H
  go_enter Try.func50, Try.ntmps50
  go_wp2_with (first | ((with_reducible refine gD 3 ?_); refine bX 3 #[.slice eU l0.length eY, .slice fG l1.length eQ] 31 ?_; intro sH hg_ W1 hbox hb; have hk_ : Kept w W1 (fun _ => False) := Kept.noth hb; replace NN := nn NN (show w.heap.size ≤ W1.heap.size from hk_.1); have Vj := am (show w.heap.size ≤ sH from Nat.le_trans HB.1.size (Nat.le_of_eq hg_.symm)); replace NN := nn NN (show w.heap.size ≤ sH from Nat.le_of_eq hg_.symm); replace NN := nn NN (show sH < W1.heap.size from gL hbox); replace HB := bS HB.1 hb; have gO := am hbox; clear hb hbox hg_ hk_; (try clear Z3); have Z3 := cz2 gO) | ((with_reducible refine gD 5 ?_); refine bX 5 #[.slice A2 l2.length c2] 23 ?_; intro GL hg_ W2 hbox hb; have hk_ : Kept W1 W2 (fun _ => False) := Kept.noth hb; replace NN := nn NN (show W1.heap.size ≤ W2.heap.size from hk_.1); have GE5 := am (show w.heap.size ≤ GL from Nat.le_trans HB.1.size (Nat.le_of_eq hg_.symm)); replace NN := nn NN (show W1.heap.size ≤ GL from Nat.le_of_eq hg_.symm); replace NN := nn NN (show GL < W2.heap.size from gL hbox); replace gO := kB gO hk_; replace HB := bS HB.1 hb; have uZ := am hbox; clear hb hbox hg_ hk_; have nb5_3 : GL ≠ sH := (by have := NN.1;  omega); have nb3_5 : sH ≠ GL := (by have := NN.1;  omega); (try clear Z5); have Z5 := cz1 uZ) | ((with_reducible refine gD 6 ?_); refine bX 6 #[.slice none 0 0, .slice none 0 0] 31 ?_; intro lZ hg_ W3 hbox hb; have hk_ : Kept W2 W3 (fun _ => False) := Kept.noth hb; replace NN := nn NN (show W2.heap.size ≤ W3.heap.size from hk_.1); have EA := am (show w.heap.size ≤ lZ from Nat.le_trans HB.1.size (Nat.le_of_eq hg_.symm)); replace NN := nn NN (show W2.heap.size ≤ lZ from Nat.le_of_eq hg_.symm); replace NN := nn NN (show lZ < W3.heap.size from gL hbox); replace gO := kB gO hk_; replace uZ := kB uZ hk_; replace HB := bS HB.1 hb; have hL := am hbox; clear hb hbox hg_ hk_; have nb6_3 : lZ ≠ sH := (by have := NN.1;  omega); have nb3_6 : sH ≠ lZ := (by have := NN.1;  omega); have nb6_5 : lZ ≠ GL := (by have := NN.1;  omega); have nb5_6 : GL ≠ lZ := (by have := NN.1;  omega); (try clear Z6); have Z6 := cz2 hL; (try clear Z3); have Z3 := cz2 gO) | ((with_reducible refine gC 24 ?_); refine cQ (some 12) Try.func24 (aQ.calls k _ _ l0 _ _ l1 true _ (Kd.aX dY.1 HB.1) dX.1 (Kd.aX cU.1 HB.1) f4.1 D1.1) ?_; rintro W4 hb; have HB0 := am (show w.heap.size ≤ W3.heap.size from HB.1.size); have hk_ : Kept W3 W4 (fun _ => False) := Kept.noth hb; replace NN := nn NN (show W3.heap.size ≤ W4.heap.size from hk_.1); replace gO := kB gO hk_; replace uZ := kB uZ hk_; replace hL := kB hL hk_; replace HB := bS HB.1 hb; clear hb hk_; (try clear Z3); have Z3 := cz2 gO; (try clear Z6); have Z6 := cz2 hL; clear HB0) | ((with_reducible refine gC 90 ?_); refine cE (some 16) Try.func90 (dP.calls k _ _ l0 _ _ l1 c1a c1b _ (Kd.aX dY.1 HB.1) dX.1 (Kd.aX cU.1 HB.1) f4.1 D2.1) ?_; rintro e_ W5 ⟨_, _, rfl, f3, lL, hb⟩; refine ⟨_, rfl, ?_⟩; have HB0 := am (show w.heap.size ≤ W4.heap.size from HB.1.size); have hk_ : Kept W4 W5 (fun _ => False) := Kept.noth hb; replace NN := nn NN (show W4.heap.size ≤ W5.heap.size from hk_.1); replace gO := kB gO hk_; replace uZ := kB uZ hk_; replace hL := kB hL hk_; replace HB := bS HB.1 hb; have KC := am (BkS.made (n := W4.heap.size) f3 lL (HB0.out) (Nat.le_refl _)); clear f3 lL; obtain ⟨Ac0, cc0, Ac1, cc1, e0_, e1_⟩ := KC.out.slices; subst e0_; subst e1_; clear hb hk_; (try clear Z3); have Z3 := cz2 gO; (try clear Z6); have Z6 := cz2 hL; clear HB0) | ((with_reducible refine gD 8 ?_); refine bX 8 #[.slice none 0 0, .slice none 0 0] 31 ?_; intro mG hg_ W6 hbox hb; have hk_ : Kept W5 W6 (fun _ => False) := Kept.noth hb; replace NN := nn NN (show W5.heap.size ≤ W6.heap.size from hk_.1); have IX := am (show w.heap.size ≤ mG from Nat.le_trans HB.1.size (Nat.le_of_eq hg_.symm)); replace NN := nn NN (show W5.heap.size ≤ mG from Nat.le_of_eq hg_.symm); replace NN := nn NN (show mG < W6.heap.size from gL hbox); replace KC := am (BkS.kept KC.out hk_ (fun _ _ _ h => h)); replace gO := kB gO hk_; replace uZ := kB uZ hk_; replace hL := kB hL hk_; replace HB := bS HB.1 hb; have mX := am hbox; clear hb hbox hg_ hk_; have nb8_3 : mG ≠ sH := (by have := NN.1;  omega); have nb3_8 : sH ≠ mG := (by have := NN.1;  omega); have nb8_5 : mG ≠ GL := (by have := NN.1;  omega); have nb5_8 : GL ≠ mG := (by have := NN.1;  omega); have nb8_6 : mG ≠ lZ := (by have := NN.1;  omega); have nb6_8 : lZ ≠ mG := (by have := NN.1;  omega); (try clear Z8); have Z8 := cz2 mX; (try clear Z3); have Z3 := cz2 gO; (try clear Z6); have Z6 := cz2 hL) | ((with_reducible refine gC 84 ?_); refine cQ (some 19) Try.func84 (iA.calls _ _ l0 _ _ l1 a1 i _ (Kd.aX dY.1 (aI (aI HB.1 IX.1) IX.1)) dX.1 (Kd.aX cU.1 (aI (aI HB.1 IX.1) IX.1)) f4.1 D3.1) ?_; rintro W7 hb; have HB0 := am (show w.heap.size ≤ W6.heap.size from HB.1.size); have hk_ : Kept W6 W7 (fun k => k = mG) := (Kept.two (w := W6) (g := mG) 0 1 (.slice Ac0 c1a.length cc0) (.slice Ac1 c1b.length cc1)).below hb; replace NN := nn NN (show W6.heap.size ≤ W7.heap.size from hk_.1); replace KC := am (BkS.kept KC.out hk_ (fun k_ h1_ h2_ e_ => by have := NN.1;  omega)); replace gO := am (eX gO.1 hk_ (fun e_ => by have := NN.1;  omega)); replace uZ := am (eX uZ.1 hk_ (fun e_ => by have := NN.1;  omega)); replace hL := am (eX hL.1 hk_ (fun e_ => by have := NN.1;  omega)); replace mX := am (bH (g := mG) (o := .cells #[.slice Ac0 c1a.length cc0, .slice Ac1 c1b.length cc1] 31 (0, 0)) (bR (cs := #[.slice Ac0 c1a.length cc0, .slice none 0 0]) (bR (cs := #[.slice none 0 0, .slice none 0 0]) mX.1 0 _ rfl) 1 _ rfl) hb); replace HB := am (jR (aI (aI HB.1 IX.1) IX.1) hb); clear hb hk_; (try clear Z8); have Z8 := cz2 mX; (try clear Z6); have Z6 := cz2 hL; clear HB0))
  (try simp only [Exit.inBlock, Exit.then]); refine cT lZ 31 #[.slice Ac0 c1a.length cc0, .slice Ac1 c1b.length cc1] (bR (cs := #[.slice Ac0 c1a.length cc0, .slice none 0 0]) (bR (cs := #[.slice none 0 0, .slice none 0 0]) (hL.1) 0 _ rfl) 1 _ rfl) Try.underlying31 ?_
  have hK_ := BkS.kept KC.out (Kept.two (w := W7) (g := lZ) 0 1 (.slice Ac0 c1a.length cc0) (.slice Ac1 c1b.length cc1)) (fun k_ h1_ h2_ e_ => by have := NN.1;  omega)
  exact ⟨_, _, rfl, Kd.aM hK_.1 (fun _ _ => trivial), Kd.nD hK_.2 (fun _ h_ => h_.2), aI (aI HB.1 EA.1) EA.1⟩
 rw [if_neg cj] at H
 have Bf : decide (i < 0) = false := decide_eq_false cj
 have c0 : 0 ≤ i := by omega
 obtain ⟨⟨c3, c4⟩, H⟩ := Ci H
 obtain ⟨q, D4, H⟩ := bd H
 obtain ⟨ad, A1e, c1e, A2e, c2e, ea, qx, Xw, Nb, l1e, r1e, l2e, r2e⟩ := zG cU.1 i c0 c3
 subst ea
 clear qx Xw l1e r1e
 have L2E := am l2e
 have R2E := am r2e
 clear l2e r2e
 have HX2 := am Nb
 clear Nb
 have c0b : decide (0 ≤ i) = true := decide_eq_true c0
 have c3b : decide (i < (l1.length : Int)) = true := decide_eq_true c3
 have c4b : decide (i < (c1b.length : Int)) = true := decide_eq_true c4
 have p6 := eq_true c0
 have q6 := eq_true c3
 have q7 := eq_true c4
 by_cases c5 : q = false
 ·subst c5
  rw [if_neg (by simp)] at H
  obtain ⟨rfl, rfl, rfl⟩ := sZ3 H
  repeat clear H
  go_enter Try.func50, Try.ntmps50
  try go_wp2_with (first | ((with_reducible refine gD 3 ?_); refine bX 3 #[.slice eU l0.length eY, .slice (some ad) l1.length eQ] 31 ?_; intro sH hg_ W1 hbox hb; have hk_ : Kept w W1 (fun _ => False) := Kept.noth hb; replace NN := nn NN (show w.heap.size ≤ W1.heap.size from hk_.1); have Vj := am (show w.heap.size ≤ sH from Nat.le_trans HB.1.size (Nat.le_of_eq hg_.symm)); replace NN := nn NN (show w.heap.size ≤ sH from Nat.le_of_eq hg_.symm); replace NN := nn NN (show sH < W1.heap.size from gL hbox); replace HB := bS HB.1 hb; have gO := am hbox; clear hb hbox hg_ hk_; (try clear Z3); have Z3 := cz2 gO) | ((with_reducible refine gD 5 ?_); refine bX 5 #[.slice A2 l2.length c2] 23 ?_; intro GL hg_ W2 hbox hb; have hk_ : Kept W1 W2 (fun _ => False) := Kept.noth hb; replace NN := nn NN (show W1.heap.size ≤ W2.heap.size from hk_.1); have GE5 := am (show w.heap.size ≤ GL from Nat.le_trans HB.1.size (Nat.le_of_eq hg_.symm)); replace NN := nn NN (show W1.heap.size ≤ GL from Nat.le_of_eq hg_.symm); replace NN := nn NN (show GL < W2.heap.size from gL hbox); replace gO := kB gO hk_; replace HB := bS HB.1 hb; have uZ := am hbox; clear hb hbox hg_ hk_; have nb5_3 : GL ≠ sH := (by have := NN.1;  omega); have nb3_5 : sH ≠ GL := (by have := NN.1;  omega); (try clear Z5); have Z5 := cz1 uZ) | ((with_reducible refine gD 6 ?_); refine bX 6 #[.slice none 0 0, .slice none 0 0] 31 ?_; intro lZ hg_ W3 hbox hb; have hk_ : Kept W2 W3 (fun _ => False) := Kept.noth hb; replace NN := nn NN (show W2.heap.size ≤ W3.heap.size from hk_.1); have EA := am (show w.heap.size ≤ lZ from Nat.le_trans HB.1.size (Nat.le_of_eq hg_.symm)); replace NN := nn NN (show W2.heap.size ≤ lZ from Nat.le_of_eq hg_.symm); replace NN := nn NN (show lZ < W3.heap.size from gL hbox); replace gO := kB gO hk_; replace uZ := kB uZ hk_; replace HB := bS HB.1 hb; have hL := am hbox; clear hb hbox hg_ hk_; have nb6_3 : lZ ≠ sH := (by have := NN.1;  omega); have nb3_6 : sH ≠ lZ := (by have := NN.1;  omega); have nb6_5 : lZ ≠ GL := (by have := NN.1;  omega); have nb5_6 : GL ≠ lZ := (by have := NN.1;  omega); (try clear Z6); have Z6 := cz2 hL; (try clear Z3); have Z3 := cz2 gO) | ((with_reducible refine gC 24 ?_); refine cQ (some 12) Try.func24 (aQ.calls k _ _ l0 _ _ l1 true _ (Kd.aX dY.1 HB.1) dX.1 (Kd.aX cU.1 HB.1) f4.1 D1.1) ?_; rintro W4 hb; have HB0 := am (show w.heap.size ≤ W3.heap.size from HB.1.size); have hk_ : Kept W3 W4 (fun _ => False) := Kept.noth hb; replace NN := nn NN (show W3.heap.size ≤ W4.heap.size from hk_.1); replace gO := kB gO hk_; replace uZ := kB uZ hk_; replace hL := kB hL hk_; replace HB := bS HB.1 hb; clear hb hk_; (try clear Z3); have Z3 := cz2 gO; (try clear Z6); have Z6 := cz2 hL; clear HB0) | ((with_reducible refine gC 90 ?_); refine cE (some 16) Try.func90 (dP.calls k _ _ l0 _ _ l1 c1a c1b _ (Kd.aX dY.1 HB.1) dX.1 (Kd.aX cU.1 HB.1) f4.1 D2.1) ?_; rintro e_ W5 ⟨_, _, rfl, f3, lL, hb⟩; refine ⟨_, rfl, ?_⟩; have HB0 := am (show w.heap.size ≤ W4.heap.size from HB.1.size); have hk_ : Kept W4 W5 (fun _ => False) := Kept.noth hb; replace NN := nn NN (show W4.heap.size ≤ W5.heap.size from hk_.1); replace gO := kB gO hk_; replace uZ := kB uZ hk_; replace hL := kB hL hk_; replace HB := bS HB.1 hb; have KC := am (BkS.made (n := W4.heap.size) f3 lL (HB0.out) (Nat.le_refl _)); clear f3 lL; obtain ⟨Ac0, cc0, Ac1, cc1, e0_, e1_⟩ := KC.out.slices; subst e0_; subst e1_; clear hb hk_; (try clear Z3); have Z3 := cz2 gO; (try clear Z6); have Z6 := cz2 hL; clear HB0) | ((with_reducible refine gD 8 ?_); refine bX 8 #[.slice none 0 0, .slice none 0 0] 31 ?_; intro mG hg_ W6 hbox hb; have hk_ : Kept W5 W6 (fun _ => False) := Kept.noth hb; replace NN := nn NN (show W5.heap.size ≤ W6.heap.size from hk_.1); have IX := am (show w.heap.size ≤ mG from Nat.le_trans HB.1.size (Nat.le_of_eq hg_.symm)); replace NN := nn NN (show W5.heap.size ≤ mG from Nat.le_of_eq hg_.symm); replace NN := nn NN (show mG < W6.heap.size from gL hbox); replace KC := am (BkS.kept KC.out hk_ (fun _ _ _ h => h)); replace gO := kB gO hk_; replace uZ := kB uZ hk_; replace hL := kB hL hk_; replace HB := bS HB.1 hb; have mX := am hbox; clear hb hbox hg_ hk_; have nb8_3 : mG ≠ sH := (by have := NN.1;  omega); have nb3_8 : sH ≠ mG := (by have := NN.1;  omega); have nb8_5 : mG ≠ GL := (by have := NN.1;  omega); have nb5_8 : GL ≠ mG := (by have := NN.1;  omega); have nb8_6 : mG ≠ lZ := (by have := NN.1;  omega); have nb6_8 : lZ ≠ mG := (by have := NN.1;  omega); (try clear Z8); have Z8 := cz2 mX; (try clear Z3); have Z3 := cz2 gO; (try clear Z6); have Z6 := cz2 hL) | ((with_reducible refine gC 84 ?_); refine cQ (some 19) Try.func84 (iA.calls _ _ l0 _ _ l1 a1 i _ (Kd.aX dY.1 (aI (aI HB.1 IX.1) IX.1)) dX.1 (Kd.aX cU.1 (aI (aI HB.1 IX.1) IX.1)) f4.1 D3.1) ?_; rintro W7 hb; have HB0 := am (show w.heap.size ≤ W6.heap.size from HB.1.size); have hk_ : Kept W6 W7 (fun k => k = mG) := (Kept.two (w := W6) (g := mG) 0 1 (.slice Ac0 c1a.length cc0) (.slice Ac1 c1b.length cc1)).below hb; replace NN := nn NN (show W6.heap.size ≤ W7.heap.size from hk_.1); replace KC := am (BkS.kept KC.out hk_ (fun k_ h1_ h2_ e_ => by have := NN.1;  omega)); replace gO := am (eX gO.1 hk_ (fun e_ => by have := NN.1;  omega)); replace uZ := am (eX uZ.1 hk_ (fun e_ => by have := NN.1;  omega)); replace hL := am (eX hL.1 hk_ (fun e_ => by have := NN.1;  omega)); replace mX := am (bH (g := mG) (o := .cells #[.slice Ac0 c1a.length cc0, .slice Ac1 c1b.length cc1] 31 (0, 0)) (bR (cs := #[.slice Ac0 c1a.length cc0, .slice none 0 0]) (bR (cs := #[.slice none 0 0, .slice none 0 0]) mX.1 0 _ rfl) 1 _ rfl) hb); replace HB := am (jR (aI (aI HB.1 IX.1) IX.1) hb); clear hb hk_; (try clear Z8); have Z8 := cz2 mX; (try clear Z6); have Z6 := cz2 hL; clear HB0))
  have n0_ := am (BkS.kept KC.out (w' := W7.drew) (Kept.noth (aV (Below.refl _ _))) (fun _ _ _ h => h))
  have n1_ := BD gO
  have n2_ := BD uZ
  have n3_ := BD hL
  have n4_ := BD mX
  have n5_ := am (aV HB.1)
  have nle_ := am (show W7.heap.size ≤ W7.drew.heap.size from Nat.le_refl _)
  clear KC gO uZ hL mX HB
  have KC := n0_
  have gO := n1_
  have uZ := n2_
  have hL := n3_
  have mX := n4_
  have HB := n5_
  clear n0_ n1_ n2_ n3_ n4_ n5_
  refine sT (S := fun w' => w'.cell? ⟨GL, 0, none⟩ = some (.slice A2 l2.length c2) ∧ w'.cell? ⟨sH, 0, none⟩ = some (.slice eU l0.length eY) ∧ w'.cell? ⟨sH, 1, none⟩ = some (.slice (some ad) l1.length eQ) ∧ w'.cell? ⟨(ad.add (i.toNat * 3)).block, (ad.add (i.toNat * 3)).off + 2, none⟩ = some (.slice A2e (aA l1 i).f2.length c2e)) [] 10 ⟨⟨(bC uZ.1 0).trans rfl, (bC gO.1 0).trans rfl, (bC gO.1 1).trans rfl, (HB.1.cell (World.block_lt_of_cell? w _ HX2.out)).trans HX2.out⟩⟩ (fun hHeld => ?_)
  generalize W7.drew = W8 at KC gO uZ hL mX HB nle_ hHeld ⊢
  have MA := nle_
  clear nle_
  refine tK4_ 0 (some 25) ?_
  refine pU0 1 (some 26) ?_
  refine tK4_ 2 (some 27) ?_
  refine pU0 3 (some 28) ?_
  refine pU0 4 (some 29) ?_
  refine pU0 5 (some 30) ?_
  refine tK4_ 6 (some 31) ?_
  refine oM 7 (some 32) fun K hK => ?_
  refine gQ Try.func74 (gY.calls k _ _ l2 _ _ (aA l1 i).f2 false _ (Kd.aX EE.1 HB.1) zZ.1 (Kd.aX R2E.out HB.1) L2E.out D4.1) ?_
  rintro W9 hb
  obtain ⟨nd_, hd_⟩ := hb; have hb : Below W8.heap.size W8 W9 := hd_ ▸ bA (Below.refl _ _) nd_; clear hd_ nd_
  have HB0 := am (show w.heap.size ≤ W8.heap.size from HB.1.size)
  have hk_ : Kept W8 W9 (fun _ => False) := Kept.noth hb
  have XI := am (show W8.heap.size ≤ W9.heap.size from hk_.1); replace NN := nn NN XI.1
  replace KC := am (BkS.kept KC.out hk_ (fun _ _ _ h => h))
  replace gO := kB gO hk_
  replace uZ := kB uZ hk_
  replace hL := kB hL hk_
  replace mX := kB mX hk_
  replace HB := bS HB.1 hb
  clear hb hk_ HB0
  refine hK.out _ _ ⟨(bC uZ.1 0).trans rfl, (bC gO.1 0).trans rfl, (bC gO.1 1).trans rfl, (HB.1.cell (World.block_lt_of_cell? w _ HX2.out)).trans HX2.out⟩ (fun hHeld => ?_)
  clear hK K
  refine nM ?_
  refine pU0 8 (some 33) ?_
  refine pU0 9 (some 24) ?_
  refine QY (by kernel_rfl) ?_
  (try clear Z8)
  have Z8 := cz2 mX
  (try clear Z6)
  have Z6 := cz2 hL
  go_wp2
  (try simp only [Exit.inBlock, Exit.then]); refine cT lZ 31 #[.slice Ac0 c1a.length cc0, .slice Ac1 c1b.length cc1] (bR (cs := #[.slice Ac0 c1a.length cc0, .slice none 0 0]) (bR (cs := #[.slice none 0 0, .slice none 0 0]) (hL.1) 0 _ rfl) 1 _ rfl) Try.underlying31 ?_
  have hK_ := BkS.kept KC.out (Kept.two (w := W9) (g := lZ) 0 1 (.slice Ac0 c1a.length cc0) (.slice Ac1 c1b.length cc1)) (fun k_ h1_ h2_ e_ => by have := NN.1; have := MA.1; have := XI.1;  omega)
  exact ⟨_, _, rfl, Kd.aM hK_.1 (fun _ _ => trivial), Kd.nD hK_.2 (fun _ h_ => h_.2), aI (aI HB.1 EA.1) EA.1⟩
 have c5 : q = true := by simpa using c5
 rw [if_pos c5] at H
 subst c5
 obtain ⟨nd, D5, H⟩ := bd H
 obtain ⟨rfl, rfl, rfl⟩ := sZ3 H
 repeat clear H
 go_enter Try.func50, Try.ntmps50
 try go_wp2_with (first | ((with_reducible refine gD 3 ?_); refine bX 3 #[.slice eU l0.length eY, .slice (some ad) l1.length eQ] 31 ?_; intro sH hg_ W1 hbox hb; have hk_ : Kept w W1 (fun _ => False) := Kept.noth hb; replace NN := nn NN (show w.heap.size ≤ W1.heap.size from hk_.1); have Vj := am (show w.heap.size ≤ sH from Nat.le_trans HB.1.size (Nat.le_of_eq hg_.symm)); replace NN := nn NN (show w.heap.size ≤ sH from Nat.le_of_eq hg_.symm); replace NN := nn NN (show sH < W1.heap.size from gL hbox); replace HB := bS HB.1 hb; have gO := am hbox; clear hb hbox hg_ hk_; (try clear Z3); have Z3 := cz2 gO) | ((with_reducible refine gD 5 ?_); refine bX 5 #[.slice A2 l2.length c2] 23 ?_; intro GL hg_ W2 hbox hb; have hk_ : Kept W1 W2 (fun _ => False) := Kept.noth hb; replace NN := nn NN (show W1.heap.size ≤ W2.heap.size from hk_.1); have GE5 := am (show w.heap.size ≤ GL from Nat.le_trans HB.1.size (Nat.le_of_eq hg_.symm)); replace NN := nn NN (show W1.heap.size ≤ GL from Nat.le_of_eq hg_.symm); replace NN := nn NN (show GL < W2.heap.size from gL hbox); replace gO := kB gO hk_; replace HB := bS HB.1 hb; have uZ := am hbox; clear hb hbox hg_ hk_; have nb5_3 : GL ≠ sH := (by have := NN.1;  omega); have nb3_5 : sH ≠ GL := (by have := NN.1;  omega); (try clear Z5); have Z5 := cz1 uZ) | ((with_reducible refine gD 6 ?_); refine bX 6 #[.slice none 0 0, .slice none 0 0] 31 ?_; intro lZ hg_ W3 hbox hb; have hk_ : Kept W2 W3 (fun _ => False) := Kept.noth hb; replace NN := nn NN (show W2.heap.size ≤ W3.heap.size from hk_.1); have EA := am (show w.heap.size ≤ lZ from Nat.le_trans HB.1.size (Nat.le_of_eq hg_.symm)); replace NN := nn NN (show W2.heap.size ≤ lZ from Nat.le_of_eq hg_.symm); replace NN := nn NN (show lZ < W3.heap.size from gL hbox); replace gO := kB gO hk_; replace uZ := kB uZ hk_; replace HB := bS HB.1 hb; have hL := am hbox; clear hb hbox hg_ hk_; have nb6_3 : lZ ≠ sH := (by have := NN.1;  omega); have nb3_6 : sH ≠ lZ := (by have := NN.1;  omega); have nb6_5 : lZ ≠ GL := (by have := NN.1;  omega); have nb5_6 : GL ≠ lZ := (by have := NN.1;  omega); (try clear Z6); have Z6 := cz2 hL; (try clear Z3); have Z3 := cz2 gO) | ((with_reducible refine gC 24 ?_); refine cQ (some 12) Try.func24 (aQ.calls k _ _ l0 _ _ l1 true _ (Kd.aX dY.1 HB.1) dX.1 (Kd.aX cU.1 HB.1) f4.1 D1.1) ?_; rintro W4 hb; have HB0 := am (show w.heap.size ≤ W3.heap.size from HB.1.size); have hk_ : Kept W3 W4 (fun _ => False) := Kept.noth hb; replace NN := nn NN (show W3.heap.size ≤ W4.heap.size from hk_.1); replace gO := kB gO hk_; replace uZ := kB uZ hk_; replace hL := kB hL hk_; replace HB := bS HB.1 hb; clear hb hk_; (try clear Z3); have Z3 := cz2 gO; (try clear Z6); have Z6 := cz2 hL; clear HB0) | ((with_reducible refine gC 90 ?_); refine cE (some 16) Try.func90 (dP.calls k _ _ l0 _ _ l1 c1a c1b _ (Kd.aX dY.1 HB.1) dX.1 (Kd.aX cU.1 HB.1) f4.1 D2.1) ?_; rintro e_ W5 ⟨_, _, rfl, f3, lL, hb⟩; refine ⟨_, rfl, ?_⟩; have HB0 := am (show w.heap.size ≤ W4.heap.size from HB.1.size); have hk_ : Kept W4 W5 (fun _ => False) := Kept.noth hb; replace NN := nn NN (show W4.heap.size ≤ W5.heap.size from hk_.1); replace gO := kB gO hk_; replace uZ := kB uZ hk_; replace hL := kB hL hk_; replace HB := bS HB.1 hb; have KC := am (BkS.made (n := W4.heap.size) f3 lL (HB0.out) (Nat.le_refl _)); clear f3 lL; obtain ⟨Ac0, cc0, Ac1, cc1, e0_, e1_⟩ := KC.out.slices; subst e0_; subst e1_; clear hb hk_; (try clear Z3); have Z3 := cz2 gO; (try clear Z6); have Z6 := cz2 hL; clear HB0) | ((with_reducible refine gD 8 ?_); refine bX 8 #[.slice none 0 0, .slice none 0 0] 31 ?_; intro mG hg_ W6 hbox hb; have hk_ : Kept W5 W6 (fun _ => False) := Kept.noth hb; replace NN := nn NN (show W5.heap.size ≤ W6.heap.size from hk_.1); have IX := am (show w.heap.size ≤ mG from Nat.le_trans HB.1.size (Nat.le_of_eq hg_.symm)); replace NN := nn NN (show W5.heap.size ≤ mG from Nat.le_of_eq hg_.symm); replace NN := nn NN (show mG < W6.heap.size from gL hbox); replace KC := am (BkS.kept KC.out hk_ (fun _ _ _ h => h)); replace gO := kB gO hk_; replace uZ := kB uZ hk_; replace hL := kB hL hk_; replace HB := bS HB.1 hb; have mX := am hbox; clear hb hbox hg_ hk_; have nb8_3 : mG ≠ sH := (by have := NN.1;  omega); have nb3_8 : sH ≠ mG := (by have := NN.1;  omega); have nb8_5 : mG ≠ GL := (by have := NN.1;  omega); have nb5_8 : GL ≠ mG := (by have := NN.1;  omega); have nb8_6 : mG ≠ lZ := (by have := NN.1;  omega); have nb6_8 : lZ ≠ mG := (by have := NN.1;  omega); (try clear Z8); have Z8 := cz2 mX; (try clear Z3); have Z3 := cz2 gO; (try clear Z6); have Z6 := cz2 hL) | ((with_reducible refine gC 84 ?_); refine cQ (some 19) Try.func84 (iA.calls _ _ l0 _ _ l1 a1 i _ (Kd.aX dY.1 (aI (aI HB.1 IX.1) IX.1)) dX.1 (Kd.aX cU.1 (aI (aI HB.1 IX.1) IX.1)) f4.1 D3.1) ?_; rintro W7 hb; have HB0 := am (show w.heap.size ≤ W6.heap.size from HB.1.size); have hk_ : Kept W6 W7 (fun k => k = mG) := (Kept.two (w := W6) (g := mG) 0 1 (.slice Ac0 c1a.length cc0) (.slice Ac1 c1b.length cc1)).below hb; replace NN := nn NN (show W6.heap.size ≤ W7.heap.size from hk_.1); replace KC := am (BkS.kept KC.out hk_ (fun k_ h1_ h2_ e_ => by have := NN.1;  omega)); replace gO := am (eX gO.1 hk_ (fun e_ => by have := NN.1;  omega)); replace uZ := am (eX uZ.1 hk_ (fun e_ => by have := NN.1;  omega)); replace hL := am (eX hL.1 hk_ (fun e_ => by have := NN.1;  omega)); replace mX := am (bH (g := mG) (o := .cells #[.slice Ac0 c1a.length cc0, .slice Ac1 c1b.length cc1] 31 (0, 0)) (bR (cs := #[.slice Ac0 c1a.length cc0, .slice none 0 0]) (bR (cs := #[.slice none 0 0, .slice none 0 0]) mX.1 0 _ rfl) 1 _ rfl) hb); replace HB := am (jR (aI (aI HB.1 IX.1) IX.1) hb); clear hb hk_; (try clear Z8); have Z8 := cz2 mX; (try clear Z6); have Z6 := cz2 hL; clear HB0))
 have n0_ := am (BkS.kept KC.out (w' := W7.drew) (Kept.noth (aV (Below.refl _ _))) (fun _ _ _ h => h))
 have n1_ := BD gO
 have n2_ := BD uZ
 have n3_ := BD hL
 have n4_ := BD mX
 have n5_ := am (aV HB.1)
 have nle_ := am (show W7.heap.size ≤ W7.drew.heap.size from Nat.le_refl _)
 clear KC gO uZ hL mX HB
 have KC := n0_
 have gO := n1_
 have uZ := n2_
 have hL := n3_
 have mX := n4_
 have HB := n5_
 clear n0_ n1_ n2_ n3_ n4_ n5_
 refine sT (S := fun w' => w'.cell? ⟨GL, 0, none⟩ = some (.slice A2 l2.length c2) ∧ w'.cell? ⟨sH, 0, none⟩ = some (.slice eU l0.length eY) ∧ w'.cell? ⟨sH, 1, none⟩ = some (.slice (some ad) l1.length eQ) ∧ w'.cell? ⟨(ad.add (i.toNat * 3)).block, (ad.add (i.toNat * 3)).off + 2, none⟩ = some (.slice A2e (aA l1 i).f2.length c2e)) [] 10 ⟨⟨(bC uZ.1 0).trans rfl, (bC gO.1 0).trans rfl, (bC gO.1 1).trans rfl, (HB.1.cell (World.block_lt_of_cell? w _ HX2.out)).trans HX2.out⟩⟩ (fun hHeld => ?_)
 generalize W7.drew = W8 at KC gO uZ hL mX HB nle_ hHeld ⊢
 have MA := nle_
 clear nle_
 refine tK4_ 0 (some 25) ?_
 refine pU0 1 (some 26) ?_
 refine tK4_ 2 (some 27) ?_
 refine pU0 3 (some 28) ?_
 refine pU0 4 (some 29) ?_
 refine pU0 5 (some 30) ?_
 refine tK4_ 6 (some 31) ?_
 refine oM 7 (some 32) fun K hK => ?_
 refine gQ Try.func74 (gY.calls k _ _ l2 _ _ (aA l1 i).f2 true _ (Kd.aX EE.1 HB.1) zZ.1 (Kd.aX R2E.out HB.1) L2E.out D4.1) ?_
 rintro W9 hb
 obtain ⟨nd_, hd_⟩ := hb; have hb : Below W8.heap.size W8 W9 := hd_ ▸ bA (Below.refl _ _) nd_; clear hd_ nd_
 have HB0 := am (show w.heap.size ≤ W8.heap.size from HB.1.size)
 have hk_ : Kept W8 W9 (fun _ => False) := Kept.noth hb
 have XI := am (show W8.heap.size ≤ W9.heap.size from hk_.1); replace NN := nn NN XI.1
 replace KC := am (BkS.kept KC.out hk_ (fun _ _ _ h => h))
 replace gO := kB gO hk_
 replace uZ := kB uZ hk_
 replace hL := kB hL hk_
 replace mX := kB mX hk_
 replace HB := bS HB.1 hb
 clear hb hk_ HB0
 refine hK.out _ _ ⟨(bC uZ.1 0).trans rfl, (bC gO.1 0).trans rfl, (bC gO.1 1).trans rfl, (HB.1.cell (World.block_lt_of_cell? w _ HX2.out)).trans HX2.out⟩ (fun hHeld => ?_)
 clear hK K
 refine nM ?_
 refine pU0 8 (some 33) ?_
 refine pU0 9 (some 24) ?_
 refine QY (by kernel_rfl) ?_
 (try clear Z8)
 have Z8 := cz2 mX
 (try clear Z5)
 have Z5 := cz1 uZ
 obtain ⟨go, cgo, e0_, _, _, _⟩ := Kd.TH KC.out.2 (by omega)
 injection e0_ with ea_ _ ec_
 subst ea_; subst ec_
 generalize hxx : aA c1b i = x
 have HXX := am hxx
 clear hxx
 have HB0_ := am (show w.heap.size ≤ W4.heap.size from (by have := NN.1; omega))
 go_wp2_with (first | ((with_reducible refine gC 94 ?_); refine cE (some 41) Try.func94 (dU.calls _ _ l2 nd _ (Kd.aX EE.1 HB.1) zZ.1 D5.1) ?_; rintro e_ W10 ⟨_, rfl, f3, hb⟩; refine ⟨_, rfl, ?_⟩; have HB0 := am (show w.heap.size ≤ W9.heap.size from HB.1.size); have hk_ : Kept W9 W10 (fun _ => False) := Kept.noth hb; replace NN := nn NN (show W9.heap.size ≤ W10.heap.size from hk_.1); replace KC := am (BkS.kept KC.out hk_ (fun _ _ _ h => h)); replace gO := kB gO hk_; replace uZ := kB uZ hk_; replace hL := kB hL hk_; replace mX := kB mX hk_; replace HB := bS HB.1 hb; have KN := am (RwS.made (n := W9.heap.size) f3 (HB0.out) (Nat.le_refl _)); clear f3; obtain ⟨An0, cn0, e0_⟩ := KN.out.slices; subst e0_; clear hb hk_; (try clear Z8); have Z8 := cz2 mX; (try clear Z5); have Z5 := cz1 uZ; clear HB0; obtain ⟨⟨Aq_, cq_, hq_⟩, hqf_, hqf1_⟩ := BkS.cz KC.out i c0 c4; have hcq := hq_; have hfq := hqf_; clear hq_ hqf_ hqf1_; have ng3 : sH ≠ go := (by have h_ := ((Kd.S_R KC.out.2).1 go rfl).1; have := NN.1; have := MA.1; have := NN.1;  omega); have ng5 : GL ≠ go := (by have h_ := ((Kd.S_R KC.out.2).1 go rfl).1; have := NN.1; have := MA.1; have := NN.1;  omega); have ng6 : lZ ≠ go := (by have h_ := ((Kd.S_R KC.out.2).1 go rfl).1; have := NN.1; have := MA.1; have := NN.1;  omega); have ng8 : mG ≠ go := (by have h_ := ((Kd.S_R KC.out.2).1 go rfl).1; have := NN.1; have := MA.1; have := NN.1;  omega)) | ((with_reducible refine MK (t := 23) (p := 43) rfl ?_); refine JW (t := 23) (p := 43) (v := ?vo_) (w1 := (W10.setCell ⟨go, i.toNat * 3 + 2, none⟩ (.slice An0 nd.length cn0))) ?hg ?ho ?hn ?hr ?_; (case ho => rfl); (case hg => rfl); (case hn => rfl); (case hr => first | (go_simp; done) | (go_simp; rfl)); intro W11 hw; have hk_ : Kept W10 W11 (fun k => k = go) := (by rw [hw]; exact Kept.setCell (p := ⟨go, i.toNat * 3 + 2, none⟩) (Kept.refl W10 (fun k => k = go)) (Or.inl rfl) _); replace NN := nn NN (show W10.heap.size ≤ W11.heap.size from hk_.1); replace gO := am (eX gO.1 hk_ (fun e_ => by have h_ := (Kd.S_R KC.out.2).1 go rfl; have h2_ := h_.1; have := NN.1; have := MA.1; have := NN.1;  omega)); replace uZ := am (eX uZ.1 hk_ (fun e_ => by have h_ := (Kd.S_R KC.out.2).1 go rfl; have h2_ := h_.1; have := NN.1; have := MA.1; have := NN.1;  omega)); replace hL := am (eX hL.1 hk_ (fun e_ => by have h_ := (Kd.S_R KC.out.2).1 go rfl; have h2_ := h_.1; have := NN.1; have := MA.1; have := NN.1;  omega)); replace mX := am (eX mX.1 hk_ (fun e_ => by have h_ := (Kd.S_R KC.out.2).1 go rfl; have h2_ := h_.1; have := NN.1; have := MA.1; have := NN.1;  omega)); replace HB := am (show Below w.heap.size w W11 from (by rw [hw]; exact aI HB.1 (by have h_ := (Kd.S_R KC.out.2).1 go rfl; have h2_ := h_.1; have h3_ := HB0_.out; have := NN.1; have := MA.1; have := NN.1;  show w.heap.size ≤ go; omega))); replace KC := am (show BkS w W11 W4.heap.size W10.heap.size (.slice Ac0 c1a.length cc0) (.slice (some ⟨go, 0, none⟩) c1b.length cc1) c1a _ from (by rw [hw]; exact BkS.needs KC.out KN.out (by have := NN.1; have := MA.1; have := NN.1;  omega) (by have := NN.1; have := MA.1; have := NN.1;  omega) i c0 c4)); clear KN hw; clear hk_; (try clear hcq hfq); rw [HXX.out] at KC; obtain ⟨Ah, ch, PH, hh1, hh2, hh3, hh4⟩ := BkS.has KC.out i c0 c4; rw [Yu c0 c4] at hh1 hh2 hh3 hh4; dsimp only at hh1 hh2 hh3 hh4; simp only [List.set_set] at hh4; obtain ⟨_, _, hhf⟩ := BkS.cz KC.out i c0 c4; have HH2 := am hh2; have HH3 := am hh3; have HH4 := am hh4; clear hh2 hh3 hh4; (try clear Z8); have Z8 := cz2 mX; (try clear Z5); have Z5 := cz1 uZ) | ((with_reducible refine gC 95 ?_); refine cQ (some 50) Try.func95 (TT 96 _ (enters_of Try.func96 (by kernel_rfl) rfl) (fun s => !hasS l2 s) PH Ah ch x.f1 w _ HB.1 HH2.out (Mc zZ.1 uZ.1 (fun e_ => Kd.R_ne HH2.out uZ.1 (by decide) (HH3.out _ e_).2.2) EE.1)) ?_; rintro W12 ⟨hr_, hbb, hkk⟩; replace NN := nn NN (show W11.heap.size ≤ W12.heap.size from hkk.1); have HK4 := am (HH4.out W12 _ _ _ hkk hr_); have nb3_ := am (eX gO.1 hkk (fun e_ => Kd.R_ne HH2.out gO.1 (by decide) (HH3.out _ e_).2.2)); have nb5_ := am (eX uZ.1 hkk (fun e_ => Kd.R_ne HH2.out uZ.1 (by decide) (HH3.out _ e_).2.2)); have nb6_ := am (eX hL.1 hkk (fun e_ => Kd.R_ne HH2.out hL.1 (by decide) (HH3.out _ e_).2.2)); have nb8_ := am (eX mX.1 hkk (fun e_ => Kd.R_ne HH2.out mX.1 (by decide) (HH3.out _ e_).2.2)); have nc_ := (cell_kept hh1 hkk (fun e_ => (HH3.out _ e_).2.1 rfl)); have nf_ := hhf; have hg_ := am ((Kd.S_R KC.out.2).1 go rfl).1; have hgrow := am (show W12.frozen? ⟨go, i.toNat * 3 + 1, none⟩ = false from (by have h_ := (Kd.wZ KC.out.2) go rfl; obtain ⟨cc_, hc_⟩ := h_; exact eB (eX hc_ hkk (fun e_ => (HH3.out _ e_).2.1 rfl)) _)); clear HB hh1 hhf nf_ KC HH2 HH4 hr_ gO uZ hL mX; have HB := am hbb; clear hbb hkk; have gO := nb3_; have uZ := nb5_; have hL := nb6_; have mX := nb8_; clear nb3_ nb5_ nb6_ nb8_; have hcg := nc_; clear nc_; have hfg := hgrow.out; (try clear Z8); have Z8 := cz2 mX) | ((with_reducible refine MK (t := 23) (p := 52) rfl ?_); refine JW (t := 23) (p := 52) (v := ?vo2_) (w1 := (W12.setCell ⟨go, i.toNat * 3 + 1, none⟩ (.slice Ah (x.f1.filter (fun s => !(!hasS l2 s))).length ch))) ?hg ?ho ?hn ?hr ?_; (case ho => rfl); (case hg => rfl); (case hn => rfl); (case hr => first | (go_simp; done) | (go_simp; rfl)); intro W13 hw; have hk_ : Kept W12 W13 (fun k => k = go) := (by rw [hw]; exact Kept.setCell (p := ⟨go, i.toNat * 3 + 1, none⟩) (Kept.refl W12 (fun k => k = go)) (Or.inl rfl) _); replace NN := nn NN (show W12.heap.size ≤ W13.heap.size from hk_.1); have KC := am (show BkS w W13 W4.heap.size W10.heap.size (.slice Ac0 c1a.length cc0) (.slice (some ⟨go, 0, none⟩) c1b.length cc1) c1a _ from (by rw [hw]; exact HK4.out)); replace gO := am (eX gO.1 hk_ (fun e_ => ng3 e_)); replace uZ := am (eX uZ.1 hk_ (fun e_ => ng5 e_)); replace hL := am (eX hL.1 hk_ (fun e_ => ng6 e_)); replace mX := am (eX mX.1 hk_ (fun e_ => ng8 e_)); replace HB := am (show Below w.heap.size w W13 from (by rw [hw]; exact aI HB.1 (by have h2_ := hg_.out; have h3_ := HB0_.out; have := NN.1; have := MA.1; have := NN.1;  show w.heap.size ≤ go; omega))); clear HK4 hw; clear hk_; (try clear hcg hfg); (try clear Z8); have Z8 := cz2 mX; (try clear Z6); have Z6 := cz2 hL))
 (try simp only [Exit.inBlock, Exit.then]); refine cT lZ 31 #[.slice Ac0 c1a.length cc0, .slice (some ⟨go, 0, none⟩) c1b.length cc1] (bR (cs := #[.slice Ac0 c1a.length cc0, .slice none 0 0]) (bR (cs := #[.slice none 0 0, .slice none 0 0]) (hL.1) 0 _ rfl) 1 _ rfl) Try.underlying31 ?_
 have hK_ := BkS.kept KC.out (Kept.two (w := W13) (g := lZ) 0 1 (.slice Ac0 c1a.length cc0) (.slice (some ⟨go, 0, none⟩) c1b.length cc1)) (fun k_ h1_ h2_ e_ => by have := NN.1; have := MA.1; have := NN.1;  omega)
 have hS_ := hK_.2
 rw [← HXX.out] at hS_
 simp only [Bool.not_not] at hS_
 exact ⟨_, _, rfl, Kd.aM hK_.1 (fun _ _ => trivial), Kd.nD hS_ (fun _ h_ => h_.2), aI (aI HB.1 EA.1) EA.1⟩
mutual
def cK.j0 : Nat → ByteArray → List ByteArray → Bool → List ByteArray → List (S56) → List ByteArray → List (S56) → Option (List ByteArray × (List (S56)) × Int)
 | 0, _, _, _, _, _, _, _ => none
 | k + 1, c, e, g, h, d, a, b => if g = true then (some (a, b, 2)) else ((gV.f k h d c).bind fun i => (if i ≥ 0 then (some (a, b, 3)) else (if (d.length : Int) ≥ 5 then (some (a, b, 4)) else (cK.l0 k c e 0 a b))))
def cK.l0 : Nat → ByteArray → List ByteArray → Int → List ByteArray → List (S56) → Option (List ByteArray × (List (S56)) × Int)
 | 0, _, _, _, _, _ => none
 | k + 1, c, d, a, e, b => if a < (b.length : Int) then (if 0 ≤ a then (if (Op.bytesLess (((aA b a).f0).toList) c.toList) = true then (cK.l0 k c d (wrap64 (a + 1)) e b) else ((some (([] : List (S56)) : List (S56))).bind fun g => (if a ≤ (b.length : Int) then ((some (b.take (a : Int).toNat : List (S56))).bind fun h => (if g.length + h.length < 2199023255552 then ((some (g ++ h : List (S56))).bind fun i => ((iK.f d).bind fun u => (if i.length < 2199023255552 then ((some (i ++ [(⟨c, ([] : List ByteArray), u⟩ : S56)] : List (S56))).bind fun j => ((some (b.drop (a : Int).toNat : List (S56))).bind fun l => (if j.length + l.length < 2199023255552 then ((dE.f k e (j ++ l)).bind fun m => (some (m.1, m.2, 0))) else (none)))) else (none)))) else (none))) else (none)))) else (none)) else ((some (([] : List (S56)) : List (S56))).bind fun n => (if 0 ≤ a then (if a ≤ (b.length : Int) then ((some (b.take (a : Int).toNat : List (S56))).bind fun o => (if n.length + o.length < 2199023255552 then ((some (n ++ o : List (S56))).bind fun p => ((iK.f d).bind fun v => (if p.length < 2199023255552 then ((some (p ++ [(⟨c, ([] : List ByteArray), v⟩ : S56)] : List (S56))).bind fun q => ((some (b.drop (a : Int).toNat : List (S56))).bind fun r => (if q.length + r.length < 2199023255552 then ((dE.f k e (q ++ r)).bind fun s => (some (s.1, s.2, 0))) else (none)))) else (none)))) else (none))) else (none)) else (none)))
end
def cK.f (k : Nat) (bF : List ByteArray) (aN : List (S56)) (a1 : ByteArray) (l2 : List ByteArray) : Option (List ByteArray × (List (S56)) × Int) := (aK.f k bF aN).bind fun b => (if b = true then ((dE.f k bF aN).bind fun a => ((cZ.f k a1).bind fun c => (if c = true then ((dA.f k l2 bF).bind fun d => (cK.j0 k a1 l2 (!d) bF aN a.1 a.2)) else (cK.j0 k a1 l2 true bF aN a.1 a.2)))) else (some (([] : List ByteArray), ([] : List (S56)), 1)))
def cK.T13 : Bool × List (List Nat × List Nat) := (true, [([], []), ([], []), ([1], [1]), ([], []), ([2, 3], [2, 3]), ([0, 4], [0, 4]), ([], []), ([], []), ([7, 5], [7]), ([6, 8], [6, 8]), ([9], [9]), ([5, 10, 8], [5, 10]), ([], []), ([12], [12]), ([], []), ([13, 14], [13, 14]), ([11, 15, 11], [11, 15]), ([0, 1, 2, 3, 4, 5, 6, 7, 8, 9, 10, 11, 12, 13, 14, 15, 16], []), ([17, 16, 16, 0, 1, 2, 3, 4, 5, 6, 7, 8, 9, 10, 11, 12, 13, 14, 15, 16], [16, 17])])
def cK.B13 : List Nat := [0, 0, 2, 0, 14, 31, 0, 0, 191, 511, 1023, 2047, 0, 4096, 0, 28672, 65535, 131071, 262143]
theorem cK.WU : rtab .any (opsOf Try.f59 13) = cK.T13 := by kernel_rfl
theorem cK.PU : kP cK.T13.2 cK.B13 = true := by kernel_rfl
theorem cK.calls (k : Nat) (eU : Option Addr) (eY : Nat) (bF : List ByteArray) (fG : Option Addr) (eQ : Nat) (aN : List (S56)) (a1 : ByteArray) (A2 : Option Addr) (c2 : Nat) (l2 : List ByteArray) (r1 : List ByteArray) (r2 : List (S56)) (r3 : Int) (w : World) (iG : Kd.C Kd.string w eU bF.length bF) (iD : bF.length ≤ eY) (iC : Kd.C k56 w fG aN.length aN) (iE : aN.length ≤ eQ) (U2 : Kd.C Kd.string w A2 l2.length l2) (PZ : l2.length ≤ c2) (h : cK.f k bF aN a1 l2 = some (r1, r2, r3)) :
  Calls Try.prog 59 #[.agg #[.slice eU bF.length eY, .slice fG aN.length eQ], .string a1, .slice A2 l2.length c2] w fun e w' => ∃ v0_ v1_ : Value, e = .returned (.tuple #[.agg #[v0_, v1_], .int .i64 r3]) ∧ Kd.R Kd.string 9 w' w.heap.size (fun k_ => (w.heap.size ≤ k_)) v0_ r1 ∧ Kd.N k56 56 w' w.heap.size (F10 w v0_) v1_ r2 ∧ Below w.heap.size w w' := by
 have hu31 := Try.underlying31
 have hu56 := Try.underlying56
 obtain ⟨dY, dX⟩ := mZ2 iG iD
 obtain ⟨cU, f4⟩ := mZ2 iC iE
 obtain ⟨EE, zZ⟩ := mZ2 U2 PZ
 clear iG iD iC iE U2 PZ
 have HB := am (Below.refl w.heap.size w)
 unfold cK.f at h
 have H := h
 clear h
 obtain ⟨eF, A4, H⟩ := bd H
 refine tC H ?_ ?_ <;> clear H <;> intro c5 H <;> subst c5
 ·obtain ⟨⟨dC, dZ⟩, A6, H⟩ := bd H
  dsimp only at H
  have HC7 := am H
  clear H
  go_enter Try.func59, Try.ntmps59
  go_upto_region 4 with (first | ((with_reducible refine gD 3 ?_); refine bX 3 #[.slice eU bF.length eY, .slice fG aN.length eQ] 31 ?_; intro aT hg w8 hbox hb; have a6 := am hbox; have g5 := am (oS : w.heap.size ≤ aT); have iJ := g5; replace HB := bS eG hb; clear hb hbox hg) | ((with_reducible refine gD 6 ?_); refine bX 6 #[.slice none 0 0, .slice none 0 0] 31 ?_; intro aZ hg w9 hbox hb; have aH := am hbox; have m4 := am (I1 : w.heap.size ≤ aZ); have nX := m4; replace HB := bS eE hb; have cO := nL aW hg; have cV := nG aW hg; replace a6 := bB aW hb; clear hb hbox hg; have Z10 := nZ1 cO cV; have Uq := cz2 a6) | ((with_reducible refine gC 22 ?_); refine cQ (some 11) Try.func22 (aK.calls k _ _ bF _ _ aN true _ (pB dY) dX.1 (pB cU) f4.1 A4.out) ?_; rintro w12 hb; replace a6 := bB aW hb; replace aH := bB cB hb; replace HB := bS l6 hb; clear hb; have La := cz2 a6) | ((with_reducible refine gC 89 ?_); refine cE (some 15) Try.func89 (dE.calls k _ _ bF _ _ aN dC dZ _ (pB dY) dX.1 (pB cU) f4.1 A6.out) ?_; rintro e vx ⟨LE, IV, rfl, f3, lL, hb⟩; refine ⟨_, rfl, ?_⟩; have eP := am (Kd.d9 (Kd.jQ (M := fun k_ => (w.heap.size ≤ k_)) f3 (aG l6) (fun k_ h_ => h_)) (aG l6)); have fU := am (Kd.jD (Kd.aJ (ok' := F12 w LE aT aZ) (Kd.S_N (Kd.nP lL)) (fun k_ hk_ => ⟨(Nat.le_trans (aG l6) hk_.2.1), hk_.1, (fB aW k_ hk_.2.1), (fB cB k_ hk_.2.1)⟩)) (aG l6)); replace a6 := bB aW hb; replace aH := bB cB hb; replace HB := bS l6 hb; clear hb f3 lL) | ((with_reducible refine gD 8 ?_); refine bX 8 #[.slice none 0 0, .slice none 0 0] 31 ?_; intro cS hg w15 hbox hb; replace eP := RB vO hb; replace fU := am (Kd.dQ (Kd.iO yY cS (Nat.le_of_eq hg.symm)) hb); have bV := am hbox; have J4 := am (ZN : w.heap.size ≤ cS); have LI := J4; replace HB := bS l6 hb; have gI := nL aW hg; have iH := nG aW hg; replace a6 := bB aW hb; have gU := nL cB hg; have jC := nG cB hg; replace aH := bB cB hb; clear hb hbox hg; obtain ⟨kQ, kG, aEK⟩ := Kd.bP eP.1; subst aEK; have Z17 := nZ2 iH gI jC gU; have uo := cz2 bV; obtain ⟨xE, nY, Y7⟩ := Kd.gM fU.1; subst Y7))
  (try simp only [Act.put, List.setIfInBounds_toArray, List.set_cons_zero, List.set_cons_succ])
  go_cut [25] (fun v25 wc => ∃ (kq : Nat) (Uh : Bool), v25 = .bool Uh ∧ aC (cK.j0 kq a1 l2 Uh bF aN dC dZ = some (r1, r2, r3)) ∧ aC (kq ≤ k) ∧ aC (Kd.R Kd.string 9 wc w.heap.size (fun k_ => (w.heap.size ≤ k_)) (.slice kQ dC.length kG) dC) ∧ aC (Kd.N k56 56 wc w.heap.size (F13 w (.slice kQ dC.length kG) aT aZ cS) (.slice xE dZ.length nY) dZ) ∧ aC (wc.heap[aT]? = some (.cells #[(.slice eU bF.length eY), (.slice fG aN.length eQ)] 31 (0, 0))) ∧ aC (wc.heap[aZ]? = some (.cells #[(.slice none 0 0), (.slice none 0 0)] 31 (0, 0))) ∧ aC (wc.heap[cS]? = some (.cells #[(.slice kQ dC.length kG), (.slice xE dZ.length nY)] 31 (0, 0))) ∧ aC (Below w.heap.size w wc))
  case first =>
   have H := HC7.1
   clear HC7
   obtain ⟨dJ, Uy, H⟩ := bd H
   refine tC H ?_ ?_ <;> clear H <;> intro c22 H <;> subst c22
   ·obtain ⟨iI, Gs, H⟩ := bd H
    have H' := am H
    repeat clear H
    go_wp2_with (first | ((with_reducible refine gC 70 ?_); refine cQ (some 17) Try.func70 (cZ.calls k a1 true _ Uy.out) ?_; rintro w' ⟨nd, rfl⟩; have Z24 := nZ2 cO cV gI iH; have Z26 := cz2 a6) | (go_at_call 71; refine cM (dA.calls k _ _ l2 _ _ bF iI _ (Kd.aX EE.1 g4) zZ.1 (Kd.aX dY.1 g4) dX.1 Gs.out) ?_; rintro w' ⟨nd, rfl⟩))
    go_meet
    exact ⟨_, (!iI), dM, H', ⟨by first | omega | exact Nat.le_refl _⟩, ⟨mR eP bV⟩, ⟨by refine rN ?_; exact Kd.aJ (fN (fN (Kd.aJ fU.1 (fun k_ hk => (⟨hk, hk.2⟩ : _ ∧ k_ ≠ cS))))) (fun _ hk => ⟨hk.1.1.1, ⟨hk.1.1.2.1, ⟨hk.1.1.2.2.1, ⟨hk.1.1.2.2.2, hk.1.2⟩⟩⟩⟩)⟩, ⟨qF a6 gI⟩, ⟨qF aH gU⟩, ⟨qP bV⟩, ⟨g4⟩⟩
   have H' := am H
   repeat clear H
   go_wp2_with (first | ((with_reducible refine gC 70 ?_); refine cQ (some 17) Try.func70 (cZ.calls k a1 false _ Uy.out) ?_; rintro w' ⟨nd, rfl⟩))
   go_meet
   exact ⟨_, (true), dM, H', ⟨by first | omega | exact Nat.le_refl _⟩, ⟨mR eP bV⟩, ⟨by refine rN ?_; exact Kd.aJ (fN (fN (Kd.aJ fU.1 (fun k_ hk => (⟨hk, hk.2⟩ : _ ∧ k_ ≠ cS))))) (fun _ hk => ⟨hk.1.1.1, ⟨hk.1.1.2.1, ⟨hk.1.1.2.2.1, ⟨hk.1.1.2.2.2, hk.1.2⟩⟩⟩⟩)⟩, ⟨qF a6 gI⟩, ⟨qF aH gU⟩, ⟨qP bV⟩, ⟨g4⟩⟩
  clear HC7
  try clear c2
  try clear c5
  try clear Uq
  try clear La
  try clear uo
  obtain ⟨kq, Uh, rfl, HA, HJ6, d4, bJ, a6, aH, bV, HB⟩ := hcut
  cases kq with
  | zero => exact absurd HA.out (by simp [cK.j0])
  | succ kj6 =>
   have H := HA.out
   clear HA
   simp only [cK.j0] at H
   refine tC H ?_ ?_ <;> clear H <;> intro c27 H <;> subst c27
   obtain ⟨rfl, rfl, rfl⟩ := sZ3 H
   repeat clear H
   have Z28 := nZ2 iH gI jC gU
   have Z30 := cz2 bV
   have Z31 := nZ1 cV cO
   have Z32 := cz2 aH
   rotate_left
   obtain ⟨E7, wi, H⟩ := bd H
   by_cases mm : E7 ≥ 0
   rw [if_pos mm] at H
   have cm : decide (0 ≤ E7) = true := decide_eq_true mm
   clear mm
   obtain ⟨rfl, rfl, rfl⟩ := sZ3 H
   repeat clear H
   have zm := nZ2 cO cV gI iH
   have Z37 := cz2 a6
   have yr := trivial
   rotate_left
   rw [if_neg mm] at H
   have cm : decide (0 ≤ E7) = false := decide_eq_false mm
   clear mm
   by_cases mn : (aN.length : Int) ≥ 5
   rw [if_pos mn] at H
   have Qu : decide (5 ≤ (aN.length : Int)) = true := decide_eq_true mn
   have co : decide (5 ≤ aN.length) = true := decide_eq_true (by omega)
   clear mn
   obtain ⟨rfl, rfl, rfl⟩ := sZ3 H
   repeat clear H
   have zn := nZ2 cO cV gI iH
   have Z45 := cz2 a6
   have yt := trivial
   rotate_left
   rw [if_neg mn] at H
   have Qu : decide (5 ≤ (aN.length : Int)) = false := decide_eq_false mn
   have co : decide (5 ≤ aN.length) = false := decide_eq_false (by omega)
   clear mn
   have H' := am H
   repeat clear H
   have Z51 := nZ2 cO cV gI iH
   have Z53 := cz2 a6
   have yu := trivial
   rotate_left
   all_goals
    go_wp2_with (first | ((with_reducible refine gC 82 ?_); revert yr; intro yr; refine cQ (some 29) Try.func82 (gV.calls kj6 _ _ bF _ _ aN a1 E7 _ (pB dY) dX.1 (pB cU) f4.1 wi.out) ?_; rintro aPK hb; replace d4 := RB lI hb; replace bJ := NE uW hb; replace a6 := bB aW hb; replace aH := bB cB hb; replace bV := bB jM hb; replace HB := bS g4 hb; clear hb; have aJ4 := nZ1 jC gU; have aJ5 := cz2 bV; have aJ6 := cz2 aH) | ((with_reducible refine gC 82 ?_); revert yt; intro yt; refine cQ (some 29) Try.func82 (gV.calls kj6 _ _ bF _ _ aN a1 E7 _ (pB dY) dX.1 (pB cU) f4.1 wi.out) ?_; rintro aPL hb; replace d4 := RB lI hb; replace bJ := NE uW hb; replace a6 := bB aW hb; replace aH := bB cB hb; replace bV := bB jM hb; replace HB := bS g4 hb; clear hb; have aJ8 := cz2 a6; have aJ9 := nZ1 jC gU; have aJA := cz2 bV; have aJB := cz2 aH) | ((with_reducible refine gC 82 ?_); revert yu; intro yu; refine cQ (some 29) Try.func82 (gV.calls kj6 _ _ bF _ _ aN a1 E7 _ (pB dY) dX.1 (pB cU) f4.1 wi.out) ?_; rintro aPM hb; replace d4 := RB lI hb; replace bJ := NE uW hb; replace a6 := bB aW hb; replace aH := bB cB hb; replace bV := bB jM hb; replace HB := bS g4 hb; clear hb; have zo := cz2 a6))
   ·refine cT aZ 31 #[.slice kQ dC.length kG, .slice xE dZ.length nY] (qP aH) Try.underlying31 ?_
    exact ⟨_, _, eR, mR d4 aH, by refine rN ?_; exact Kd.aJ (fN (fN (Kd.aJ bJ.1 (fun k_ hk => (⟨hk, hk.2.2.2.1⟩ : _ ∧ k_ ≠ aZ))))) (fun _ hk => ⟨hk.1.1, hk.1.2.1⟩), g4⟩
   ·refine cT aZ 31 #[.slice kQ dC.length kG, .slice xE dZ.length nY] (qP aH) Try.underlying31 ?_
    exact ⟨_, _, eR, mR d4 aH, by refine rN ?_; exact Kd.aJ (fN (fN (Kd.aJ bJ.1 (fun k_ hk => (⟨hk, hk.2.2.2.1⟩ : _ ∧ k_ ≠ aZ))))) (fun _ hk => ⟨hk.1.1, hk.1.2.1⟩), g4⟩
   ·refine cT aZ 31 #[.slice kQ dC.length kG, .slice xE dZ.length nY] (qP aH) Try.underlying31 ?_
    exact ⟨_, _, eR, mR d4 aH, by refine rN ?_; exact Kd.aJ (fN (fN (Kd.aJ bJ.1 (fun k_ hk => (⟨hk, hk.2.2.2.1⟩ : _ ∧ k_ ≠ aZ))))) (fun _ hk => ⟨hk.1.1, hk.1.2.1⟩), g4⟩
   ·go_loopg [9] kj6 (fun kq v9 w' => ∃ (jX : Int), v9 = .int .i64 jX ∧ aC (cK.l0 kq a1 l2 jX dC dZ = some (r1, r2, r3)) ∧ aC (kq ≤ kj6) ∧ aC (Kd.R Kd.string 9 w' w.heap.size (fun k_ => (w.heap.size ≤ k_)) (.slice kQ dC.length kG) dC) ∧ aC (Kd.N k56 56 w' w.heap.size (F13 w (.slice kQ dC.length kG) aT aZ cS) (.slice xE dZ.length nY) dZ) ∧ aC (w'.heap[aT]? = some (.cells #[(.slice eU bF.length eY), (.slice fG aN.length eQ)] 31 (0, 0))) ∧ aC (w'.heap[aZ]? = some (.cells #[(.slice none 0 0), (.slice none 0 0)] 31 (0, 0))) ∧ aC (w'.heap[cS]? = some (.cells #[(.slice kQ dC.length kG), (.slice xE dZ.length nY)] 31 (0, 0))) ∧ aC (Below w.heap.size w w'))
    case atStart => exact ⟨(0), dM, H', ⟨Nat.le_refl _⟩, ⟨rR d4.1⟩, ⟨rN bJ.1⟩, ⟨rB a6.1⟩, ⟨rB aH.1⟩, ⟨rB bV.1⟩, ⟨g4⟩⟩
    case round =>
     clear H'
     try clear c2
     try clear c5
     try clear c27
     try clear mm
     try clear cm
     try clear mn
     try clear Qu
     try clear co
     try clear Uq
     try clear La
     try clear uo
     try clear Z53
     try clear zo
     obtain ⟨jX, rfl, HA, HK2, d4, bJ, a6, aH, bV, HB⟩ := hrel
     cases gk with
     | zero => exact absurd HA.out (by simp [cK.l0])
     | succ k2 =>
      have H := HA.out
      clear HA
      simp only [cK.l0] at H
      refine ic H ?_ ?_ <;> clear H <;> intro a0R H
      ·obtain ⟨Bh, H⟩ := cN H
       refine tC H ?_ ?_ <;> clear H <;> intro Qv H
       ·have H' := am H
        repeat clear H
        have Z59 := nZ2 iH gI jC gU
        have Z61 := cz2 bV
        have ZL : 0 ≤ (jX : Int) := oT
        have ZS : jX < (dZ.length : Int) := oT
        obtain ⟨wS, fx, lv, fy, lw, nr, Xx, ZB, ZC, O1, NZ, O2, O0⟩ := zG (Kd.bL bJ.1).2.2 jX ZL ZS
        cases nr
        obtain ⟨ce114, hce114, hMe114, hcc114⟩ := Kd.Ih bJ.1 z56 jX ZL (by first | exact ZS | exact oT | (have e_ := (Kd.bL bJ.1).1; omega))
        obtain ⟨ua114_1, uc114_1, ua114_2, uc114_2, rfl, I8, H8, I9, H9⟩ := uH hMe114
        have BS := hcc114 1 _ rfl
        rw [oL _ _ 1 (by omega)] at BS
        replace BS := Option.some.inj (BS.symm.trans ZB)
        injection BS with hva_ hvn_ hvc_
        rw [hva_] at H8
        rw [hvc_] at I8
        have sM := am (show Kd.V Kd.string 9 _ w.heap.size _ _ ((aA dZ jX).f1) from Kd.V_mk I8 H8)
        clear hva_ hvn_ hvc_ H8 I8
        have BT := hcc114 2 _ rfl
        rw [oL _ _ 2 (by omega)] at BT
        replace BT := Option.some.inj (BT.symm.trans ZC)
        injection BT with hva_ hvn_ hvc_
        rw [hva_] at H9
        rw [hvc_] at I9
        have sN := am (show Kd.V Kd.string 9 _ w.heap.size _ _ ((aA dZ jX).f2) from Kd.V_mk I9 H9)
        clear hva_ hvn_ hvc_ H9 I9
        clear hcc114 hce114
        have GU := am NZ
        have Vn := am O1
        clear NZ O1
        have GV := am O0
        have Vo := am O2
        clear O0 O2
        replace ZL := eq_true ZL
        replace ZS := eq_true ZS
        go_wp2
        go_roundg k2
        case measure => have := HJ6.out; have := HK2.out; omega
        case rel => exact ⟨(wrap64 (jX + 1)), dM, H', ⟨by have := HJ6.out; have := HK2.out; omega⟩, ⟨rR d4.1⟩, ⟨rN bJ.1⟩, ⟨rB a6.1⟩, ⟨rB aH.1⟩, ⟨rB bV.1⟩, ⟨g4⟩⟩
       ·obtain ⟨MZ, hy115⟩ : ∃ y_ : List (S56), y_ = (([] : List (S56))) := ⟨_, rfl⟩
        replace H : (if jX ≤ (dZ.length : Int) then ((some (dZ.take (jX : Int).toNat : List (S56))).bind fun Dd => (if MZ.length + Dd.length < 2199023255552 then ((some (MZ ++ Dd : List (S56))).bind fun E9 => ((iK.f l2).bind fun AP => (if E9.length < 2199023255552 then ((some (E9 ++ [(⟨a1, ([] : List ByteArray), AP⟩ : S56)] : List (S56))).bind fun GJ => ((some (dZ.drop (jX : Int).toNat : List (S56))).bind fun N0 => (if GJ.length + N0.length < 2199023255552 then ((dE.f k2 dC (GJ ++ N0)).bind fun ca => (some (ca.1, ca.2, 0))) else (none)))) else (none)))) else (none))) else (none)) = some (r1, r2, r3) := by first | (rw [hy115]; with_reducible exact H) | (have H2_ := (Option.bind_some _ _).symm.trans H; rw [hy115]; with_reducible exact H2_) | (have H2_ := (Option.bind_some _ _).symm.trans H; with_reducible exact H2_) | with_reducible exact H | (rw [hy115]; exact H) | exact H
        have NJ := am hy115
        clear hy115
        have aLV := eq_true (oT : 0 ≤ jX)
        obtain ⟨a0S, aLW, H⟩ := cP H
        obtain ⟨Dd, ay, H⟩ := bY H
        obtain ⟨ya, H⟩ := cL H
        obtain ⟨E9, QV, H⟩ := bY H
        obtain ⟨AP, A65, H⟩ := bd H
        obtain ⟨yb, H⟩ := cL H
        obtain ⟨GJ, J9, H⟩ := bY H
        have aLX := eq_true (oT : 0 ≤ jX)
        have aLY := eq_true (oT : jX ≤ (dZ.length : Int))
        obtain ⟨N0, VT, H⟩ := bY H
        obtain ⟨yc, H⟩ := cL H
        obtain ⟨QL, QW⟩ := yv (GJ ++ N0); first | replace H := bW QW H | rw [← QW.1] at H
        obtain ⟨⟨C1, MW⟩, A70, H⟩ := bd H
        dsimp only at H
        obtain ⟨rfl, rfl, rfl⟩ := sZ3 H
        repeat clear H
        have Z71 := nZ2 iH gI jC gU
        have Z73 := cz2 bV
        have ZL : 0 ≤ (jX : Int) := oT
        have ZS : jX < (dZ.length : Int) := oT
        obtain ⟨wS, fx, lv, fy, lw, nr, Xx, ZB, ZC, O1, NZ, O2, O0⟩ := zG (Kd.bL bJ.1).2.2 jX ZL ZS
        cases nr
        obtain ⟨ce114, hce114, hMe114, hcc114⟩ := Kd.Ih bJ.1 z56 jX ZL (by first | exact ZS | exact oT | (have e_ := (Kd.bL bJ.1).1; omega))
        obtain ⟨ua114_1, uc114_1, ua114_2, uc114_2, rfl, I8, H8, I9, H9⟩ := uH hMe114
        have BS := hcc114 1 _ rfl
        rw [oL _ _ 1 (by omega)] at BS
        replace BS := Option.some.inj (BS.symm.trans ZB)
        injection BS with hva_ hvn_ hvc_
        rw [hva_] at H8
        rw [hvc_] at I8
        have sM := am (show Kd.V Kd.string 9 _ w.heap.size _ _ ((aA dZ jX).f1) from Kd.V_mk I8 H8)
        clear hva_ hvn_ hvc_ H8 I8
        have BT := hcc114 2 _ rfl
        rw [oL _ _ 2 (by omega)] at BT
        replace BT := Option.some.inj (BT.symm.trans ZC)
        injection BT with hva_ hvn_ hvc_
        rw [hva_] at H9
        rw [hvc_] at I9
        have sN := am (show Kd.V Kd.string 9 _ w.heap.size _ _ ((aA dZ jX).f2) from Kd.V_mk I9 H9)
        clear hva_ hvn_ hvc_ H9 I9
        clear hcc114 hce114
        have GU := am NZ
        have Vn := am O1
        clear NZ O1
        have GV := am O0
        have Vo := am O2
        clear O0 O2
        replace ZL := eq_true ZL
        replace ZS := eq_true ZS
        try go_wp2
        replace d4 := RD d4
        replace bJ := ND bJ
        replace sM := am (Kd.Ea sM.out)
        replace sN := am (Kd.Ea sN.out)
        replace a6 := BD a6
        replace aH := BD aH
        replace bV := BD bV
        replace GU := am (Kd.oD GU.1)
        replace GV := am (Kd.oD GV.1)
        replace HB := am (aV HB.1)
        have q75 : (jX : Int) ≤ ((dZ.length : Int) : Int) := oT
        obtain ⟨i075, ec, _, hsz75, _⟩ := info_parts rC
        have hroom75 : dZ.length ≤ nY := (Kd.bL bJ.1).2.1
        have hC75 : Kd.F k56 _ _ (some wS) dZ.length dZ := (Kd.V_at (base := w.heap.size) (Kd.N_V bJ.1)).2.2
        have hcut75 := Y4 (P := Try.prog) 29 56 .i64 Try.underlying29 ec (some wS) dZ.length nY jX (oT) q75 hroom75
        have qw := Kd.Du (m := (jX : Int).toNat) hC75 (by omega)
        have hy75 : Dd.length = (jX : Int).toNat := (by rw [ay.out, List.length_take]; omega)
        rw [← ay.out] at qw
        rw [← hy75] at hcut75
        have kI := am (show Kd.V k56 56 _ w.heap.size _ (.slice (some wS) Dd.length nY) Dd from Kd.V_mk (by omega) qw)
        have aI7 := am (show Dd.length ≤ nY from by omega)
        clear qw hC75 hroom75 ec hsz75
        have KY75 := am hy75
        clear hy75
        replace q75 := eq_true q75
        have vw : (jX : Int) ≤ ((dZ.length : Int) : Int) := oT
        obtain ⟨i076, ed, _, hsz76, _⟩ := info_parts rC
        have hroom76 : dZ.length ≤ nY := (Kd.bL bJ.1).2.1
        have hC76 : Kd.F k56 _ _ (some wS) dZ.length dZ := (Kd.V_at (base := w.heap.size) (Kd.N_V bJ.1)).2.2
        have aGD : (0 : Int) ≤ (jX : Int) := oT
        have hcut76 := TR (P := Try.prog) 29 56 .i64 Try.underlying29 ed 3 hsz76 (some wS) dZ.length nY jX aGD vw
        have Sa := Kd.Ns (m := (jX : Int).toNat) (c := nY) hC76 (by omega) hroom76
        obtain ⟨A76, hA76⟩ : ∃ A1, A1 = (if nY = (jX : Int).toNat then (some wS) else ((some wS) : Option Addr).map (·.add ((jX : Int).toNat * 3))) := ⟨_, rfl⟩
        obtain ⟨c76, Xn⟩ : ∃ c1, c1 = nY - (jX : Int).toNat := ⟨_, rfl⟩
        have hy76 : N0.length = dZ.length - (jX : Int).toNat := (by rw [VT.out, List.length_drop] <;> omega)
        rw [show (dZ).drop (jX : Int).toNat = N0 from VT.out.symm] at Sa
        replace Sa : Kd.F k56 _ _ A76 N0.length N0 := (by rw [hA76]; exact Sa)
        rw [← hy76, ← hA76, ← Xn] at hcut76
        have yB := am (show Kd.V k56 56 _ w.heap.size _ (.slice A76 N0.length c76) N0 from Kd.V_mk (by rw [hy76, Xn]; exact Nat.sub_le_sub_right hroom76 _) Sa)
        have aIB := am (show N0.length ≤ c76 from by rw [hy76, Xn]; exact Nat.sub_le_sub_right hroom76 _)
        clear Sa hC76 hroom76 ed hsz76 Xn
        have KY76 := am hy76
        have KA76 := am hA76
        clear hy76 hA76
        replace vw := eq_true vw
        refine sT [18] 19 (uA2 bV) (fun hHeld => ?_)
        refine eO cK.WU cK.PU (fun HT_ HW_ => ?_)
        generalize wr.drew = w74 at d4 bJ sM sN a6 aH bV GU GV HB kI yB hHeld ⊢
        refine pU6 1 3 6 7 12 14 ?_
        refine tK2 2 (some 56) ?_
        refine pU1 4 ?_
        refine tK2 13 (some 67) ?_
        refine pU1 15 ?_
        refine oN 0 (some 54) fun K hK => ?_
        refine Kd.MF k56 _ 56 ?hg (N' := 54) ?hd (xs := ([] : List (S56))) (inner := []) (ok := (F23 w (.slice kQ dC.length kG) (.slice (some wS) dZ.length nY) aT aZ cS)) (okp := (F23 w (.slice kQ dC.length kG) (.slice (some wS) dZ.length nY) aT aZ cS)) ?hr ?hp (fun _ hk => hk) ((show ∀ k_, w74.heap.size ≤ k_ → (F23 w (.slice kQ dC.length kG) (.slice (some wS) dZ.length nY) aT aZ cS) k_ from fun k_ hk => ⟨(Nat.le_trans (aG g4) hk), Kd.fresh' (Kd.R_lt lI) k_ hk, Kd.fresh' (Kd.N_lt uW) k_ hk, fB aW k_ hk, fB cB k_ hk, fB jM k_ hk⟩) _ (Nat.le_refl _)) (Below.refl _ _) (Nat.le_refl _) (by simp) ?_; (case hd => rfl); (case hg => rfl); (case hr => first | (go_simp; done) | (go_simp; rfl)); (case hp => exact (Reps.none _ _))
        intro V7 w77 MM hb hg_ hnew_
        clear hg_ hnew_
        (first | rw [← NJ.out] at MM | (simp only [Int.reduceToNat] at MM; rw [← NJ.out] at MM))
        replace d4 := RB lI hb
        replace bJ := am (Kd.rQ uW (by first | exact Kd.xG MM | exact Kd.GX MM) hb)
        replace sM := am (Kd.pE (rV sM.out) (by first | exact Kd.xG MM | exact Kd.GX MM) hb)
        replace sN := am (Kd.pE (rV sN.out) (by first | exact Kd.xG MM | exact Kd.GX MM) hb)
        replace kI := am (Kd.pE (rV kI.1) (by first | exact Kd.xG MM | exact Kd.GX MM) hb)
        replace yB := am (Kd.pE (rV yB.1) (by first | exact Kd.xG MM | exact Kd.GX MM) hb)
        have iN := am (Kd.jD MM (aG g4))
        replace a6 := bB aW hb
        replace aH := bB cB hb
        replace bV := bB jM hb
        replace GU := am (Kd.aX (by repeat (first | (with_reducible exact GU.1) | (with_reducible refine Kd.mO ?_ _) | (with_reducible refine Kd.mP ?_ _) | (with_reducible refine Kd.oD ?_) | exact GU.1)) hb)
        replace GV := am (Kd.aX (by repeat (first | (with_reducible exact GV.1) | (with_reducible refine Kd.mO ?_ _) | (with_reducible refine Kd.mP ?_ _) | (with_reducible refine Kd.oD ?_) | exact GV.1)) hb)
        replace HB := bS g4 hb
        clear hb MM
        refine nK hK (uA2 bV).1 fun hHeld => ?_
        clear hK K
        refine oN 5 (some 59) fun K hK => ?_
        refine Kd.nZ k56 (w0 := w) w.heap.size (by rfl) (.tmp 54) (.tmp 58) 29 56 Ag0 64 rfl Try.underlying29 rC rfl (by decide) (by omega) V7 MZ Dd _ _ _ (F13 w (.slice kQ dC.length kG) aT aZ cS) (FA (F13 w (.slice kQ dC.length kG) aT aZ cS) V7) rfl rfl ?aO ?aR (fun _ hk => hk) ?aF ?aB ?aS ?aL ?_
        (case aR => exact (by skip; exact Kd.V_F (Kd.jL (ok' := (FA (F13 w (.slice kQ dC.length kG) aT aZ cS) V7)) (kI.1) (fun k_ hk => ⟨⟨hk.1.1, ⟨hk.1.2.1, ⟨hk.1.2.2.1, ⟨hk.1.2.2.2.1, hk.1.2.2.2.2⟩⟩⟩⟩, hk.2⟩))))
        (case aB => exact g4)
        (case aF => exact (fun k_ hk => ⟨(Nat.le_trans (aG g4) hk), Kd.fresh' (Kd.R_lt lI) k_ hk, fB aW k_ hk, fB cB k_ hk, fB jM k_ hk⟩))
        (case aO => exact (by refine rN ?_; exact Kd.aJ iN.1 (fun _ hk => ⟨hk.1, ⟨hk.2.1, ⟨hk.2.2.2.1, ⟨hk.2.2.2.2.1, hk.2.2.2.2.2⟩⟩⟩⟩)))
        (case aS => exact (aG g4))
        (case aL => have := ya.out; omega)
        intro Da w79 ho hb hg hat
        rw [← QV.out] at ho
        replace d4 := am (Kd.sP lI (Kd.lY (rN iN.1)) (by decide) hg)
        replace bJ := am (Kd.uD (ok := (F13 w (.slice kQ dC.length kG) aT aZ cS)) uW hg hat)
        replace a6 := gkN aW hg iN a6
        replace aH := gkN cB hg iN aH
        replace bV := gkN jM hg iN bV
        replace sM := am (Kd.lC (ok := (F23 w (.slice kQ dC.length kG) (.slice (some wS) dZ.length nY) aT aZ cS)) (by refine rV ?_; exact Kd.jL sM.out (fun _ hk => ⟨⟨hk.1.1.1, ⟨hk.1.1.2.1, ⟨hk.1.2, ⟨hk.1.1.2.2.1, ⟨hk.1.1.2.2.2.1, hk.1.1.2.2.2.2⟩⟩⟩⟩⟩, hk.2⟩)) hg hat)
        replace sN := am (Kd.lC (ok := (F23 w (.slice kQ dC.length kG) (.slice (some wS) dZ.length nY) aT aZ cS)) (by refine rV ?_; exact Kd.jL sN.out (fun _ hk => ⟨⟨hk.1.1.1, ⟨hk.1.1.2.1, ⟨hk.1.2, ⟨hk.1.1.2.2.1, ⟨hk.1.1.2.2.2.1, hk.1.1.2.2.2.2⟩⟩⟩⟩⟩, hk.2⟩)) hg hat)
        replace kI := am (Kd.lC (ok := (F13 w (.slice kQ dC.length kG) aT aZ cS)) (rV kI.1) hg hat)
        replace yB := am (Kd.lC (ok := (F13 w (.slice kQ dC.length kG) aT aZ cS)) (rV yB.1) hg hat)
        replace HB := am hb
        have l4 := am ho
        clear iN
        clear ho hb hg hat
        refine nK hK (uA2 bV).1 fun hHeld => ?_
        clear hK K
        refine oN 8 (some 62) fun K hK => ?_
        refine gE Try.func93 (iK.calls _ _ l2 AP _ (pB EE) zZ.1 A65.out) ?_
        rintro e w80 ⟨PC, rfl, f3, hb⟩
        refine ⟨_, rfl, ?_⟩
        replace bJ := am (Kd.rQ uW (Kd.bZ f3) hb)
        replace sM := am (Kd.pE (rV sM.out) (Kd.bZ f3) hb)
        replace sN := am (Kd.pE (rV sN.out) (Kd.bZ f3) hb)
        replace kI := am (Kd.pE (rV kI.1) (Kd.bZ f3) hb)
        replace yB := am (Kd.pE (rV yB.1) (Kd.bZ f3) hb)
        replace l4 := am (Kd.rQ (rN l4.1) (Kd.bZ f3) hb)
        have TE := am (Kd.d9 (Kd.fA (Kd.jQ (M := fun k_ => (w.heap.size ≤ k_)) f3 (aG g4) (fun k_ h_ => h_)) (Kd.R_lt lI)) (aG g4))
        replace d4 := am (Kd.dS lI (Kd.bZ f3) hb)
        replace a6 := bB aW hb
        replace aH := bB cB hb
        replace bV := bB jM hb
        replace HB := bS g4 hb
        clear hb f3
        obtain ⟨Kp, Lj, a1T⟩ := Kd.bP TE.1
        (first | subst a1T | (obtain ⟨f4_, f5_⟩ := sj a1T; subst f4_; subst f5_))
        refine nK hK (uA2 bV).1 fun hHeld => ?_
        clear hK K
        refine pU1 9 ?_
        refine oN 10 (some 64) fun K hK => ?_
        refine yQ (w1 := ?_) (v := ?_) (by rfl) rfl ?_ ?_
        rotate_left 2
        ·go_simp
         constructor
         ·rfl
         ·rfl
        refine hK.out _ _ ⟨(bC (bM bV.1 _) 0).trans rfl, (bC (bM bV.1 _) 1).trans rfl⟩ (fun hHeld => ?_)
        clear hK K
        refine nM ?_
        refine oN 11 (some 65) fun K hK => ?_
        refine Kd.EX k56 (w0 := w) w.heap.size (by rfl) (.tmp 59) (.tmp 64) 29 56 Ag0 64 rfl Try.underlying29 rC rfl (by decide) (by omega) Da E9 (⟨a1, ([] : List ByteArray), AP⟩ : S56) [.string a1, .slice none 0 0, .slice Kp AP.length Lj] (F13 w (.slice kQ dC.length kG) aT aZ cS) (FA (F13 w (.slice kQ dC.length kG) aT aZ cS) Da) rfl rfl ?aP (fun _ hk => hk) ?aF ?aO ?aB ?aS ?aL ?_
        (case aP => exact (OP _ _ (⟨a1, ([] : List ByteArray), AP⟩ : S56) (Nat.le_refl _) (Kd.Nu _ _ _) (Kd.aU (Kd.aM (ok' := (FA (F13 w (.slice kQ dC.length kG) aT aZ cS) Da)) (Kd.fQ (Kd.fQ (Kd.fQ (Kd.mJ (TE.1) (Kd.lY l4.1) (by decide)) a6.1 (by decide)) aH.1 (by decide)) bV.1 (by decide)) (fun k_ hk => ⟨⟨hk.1.1.1.1.1.1, ⟨hk.1.1.1.1.2, ⟨hk.1.1.2, ⟨hk.1.2, hk.2⟩⟩⟩⟩, hk.1.1.1.2⟩))).2.1 (Kd.R_F (Kd.aM (ok' := (FA (F13 w (.slice kQ dC.length kG) aT aZ cS) Da)) (Kd.fQ (Kd.fQ (Kd.fQ (Kd.mJ (TE.1) (Kd.lY l4.1) (by decide)) a6.1 (by decide)) aH.1 (by decide)) bV.1 (by decide)) (fun k_ hk => ⟨⟨hk.1.1.1.1.1.1, ⟨hk.1.1.1.1.2, ⟨hk.1.1.2, ⟨hk.1.2, hk.2⟩⟩⟩⟩, hk.1.1.1.2⟩)))))
        (case aB => exact g4)
        (case aF => exact (fun k_ hk => ⟨(Nat.le_trans (aG g4) hk), Kd.fresh' (Kd.R_lt lI) k_ hk, fB aW k_ hk, fB cB k_ hk, fB jM k_ hk⟩))
        (case aO => exact (by refine rN ?_; exact Kd.aJ l4.1 (fun _ hk => ⟨hk.1.1, ⟨hk.1.2.1, ⟨hk.1.2.2.1, ⟨hk.1.2.2.2.1, hk.1.2.2.2.2⟩⟩⟩⟩)))
        (case aS => exact (aG g4))
        (case aL => have := yb.out; omega)
        intro Ze w82 ho hb hg hat
        rw [← J9.out] at ho
        replace d4 := am (Kd.sP lI (Kd.lY (rN l4.1)) (by decide) hg)
        replace bJ := am (Kd.uD (ok := (F23 w (.slice kQ dC.length kG) (.slice Kp AP.length Lj) aT aZ cS)) (by refine rN ?_; exact Kd.aJ bJ.1 (fun _ hk => ⟨⟨hk.1.1.1, ⟨hk.1.1.2.1, ⟨hk.2, ⟨hk.1.1.2.2.1, ⟨hk.1.1.2.2.2.1, hk.1.1.2.2.2.2⟩⟩⟩⟩⟩, hk.1.2⟩)) hg hat)
        replace a6 := gkN aW hg l4 a6
        replace aH := gkN cB hg l4 aH
        replace bV := gkN jM hg l4 bV
        replace sM := am (Kd.lC (ok := (F33 w (.slice kQ dC.length kG) (.slice (some wS) dZ.length nY) (.slice Kp AP.length Lj) aT aZ cS)) (by refine rV ?_; exact Kd.jL sM.out (fun _ hk => ⟨⟨hk.1.1.1, ⟨hk.1.1.2.1, ⟨hk.1.1.2.2.1, ⟨hk.2, ⟨hk.1.1.2.2.2.1, ⟨hk.1.1.2.2.2.2.1, hk.1.1.2.2.2.2.2⟩⟩⟩⟩⟩⟩, hk.1.2⟩)) hg hat)
        replace sN := am (Kd.lC (ok := (F33 w (.slice kQ dC.length kG) (.slice (some wS) dZ.length nY) (.slice Kp AP.length Lj) aT aZ cS)) (by refine rV ?_; exact Kd.jL sN.out (fun _ hk => ⟨⟨hk.1.1.1, ⟨hk.1.1.2.1, ⟨hk.1.1.2.2.1, ⟨hk.2, ⟨hk.1.1.2.2.2.1, ⟨hk.1.1.2.2.2.2.1, hk.1.1.2.2.2.2.2⟩⟩⟩⟩⟩⟩, hk.1.2⟩)) hg hat)
        replace kI := am (Kd.lC (ok := (F23 w (.slice kQ dC.length kG) (.slice Kp AP.length Lj) aT aZ cS)) (by refine rV ?_; exact Kd.jL kI.1 (fun _ hk => ⟨⟨hk.1.1.1, ⟨hk.1.1.2.1, ⟨hk.2, ⟨hk.1.1.2.2.1, ⟨hk.1.1.2.2.2.1, hk.1.1.2.2.2.2⟩⟩⟩⟩⟩, hk.1.2⟩)) hg hat)
        replace yB := am (Kd.lC (ok := (F23 w (.slice kQ dC.length kG) (.slice Kp AP.length Lj) aT aZ cS)) (by refine rV ?_; exact Kd.jL yB.1 (fun _ hk => ⟨⟨hk.1.1.1, ⟨hk.1.1.2.1, ⟨hk.2, ⟨hk.1.1.2.2.1, ⟨hk.1.1.2.2.2.1, hk.1.1.2.2.2.2⟩⟩⟩⟩⟩, hk.1.2⟩)) hg hat)
        replace HB := am hb
        have NA := am ho
        clear l4
        clear TE
        clear ho hb hg hat
        refine nK hK (uA2 bV).1 fun hHeld => ?_
        clear hK K
        refine oN 16 (some 70) fun K hK => ?_
        refine Kd.nZ k56 (w0 := w) w.heap.size (by rfl) (.tmp 65) (.tmp 69) 29 56 Ag0 64 rfl Try.underlying29 rC rfl (by decide) (by omega) Ze GJ N0 _ _ _ (F13 w (.slice kQ dC.length kG) aT aZ cS) (FA (F13 w (.slice kQ dC.length kG) aT aZ cS) Ze) rfl rfl ?aO ?aR (fun _ hk => hk) ?aF ?aB ?aS ?aL ?_
        (case aR => exact (by skip; exact Kd.V_F (Kd.jL (ok' := (FA (F13 w (.slice kQ dC.length kG) aT aZ cS) Ze)) (yB.1) (fun k_ hk => ⟨⟨hk.1.1, ⟨hk.1.2.1, ⟨hk.1.2.2.2.1, ⟨hk.1.2.2.2.2.1, hk.1.2.2.2.2.2⟩⟩⟩⟩, hk.2⟩))))
        (case aB => exact g4)
        (case aF => exact (fun k_ hk => ⟨(Nat.le_trans (aG g4) hk), Kd.fresh' (Kd.R_lt lI) k_ hk, fB aW k_ hk, fB cB k_ hk, fB jM k_ hk⟩))
        (case aO => exact (rN NA.1))
        (case aS => exact (aG g4))
        (case aL => have := yc.out; omega)
        intro aH1 w83 ho hb hg hat
        rw [← QW.out] at ho
        replace d4 := am (Kd.sP lI (Kd.lY (rN NA.1)) (by decide) hg)
        replace bJ := am (Kd.uD (ok := (F13 w (.slice kQ dC.length kG) aT aZ cS)) (by refine rN ?_; exact Kd.aJ bJ.1 (fun _ hk => ⟨⟨hk.1.1, ⟨hk.1.2.1, ⟨hk.1.2.2.2.1, ⟨hk.1.2.2.2.2.1, hk.1.2.2.2.2.2⟩⟩⟩⟩, hk.2⟩)) hg hat)
        replace a6 := gkN aW hg NA a6
        replace aH := gkN cB hg NA aH
        replace bV := gkN jM hg NA bV
        replace sM := am (Kd.lC (ok := (F23 w (.slice kQ dC.length kG) (.slice (some wS) dZ.length nY) aT aZ cS)) (by refine rV ?_; exact Kd.jL sM.out (fun _ hk => ⟨⟨hk.1.1, ⟨hk.1.2.1, ⟨hk.1.2.2.1, ⟨hk.1.2.2.2.2.1, ⟨hk.1.2.2.2.2.2.1, hk.1.2.2.2.2.2.2⟩⟩⟩⟩⟩, hk.2⟩)) hg hat)
        replace sN := am (Kd.lC (ok := (F23 w (.slice kQ dC.length kG) (.slice (some wS) dZ.length nY) aT aZ cS)) (by refine rV ?_; exact Kd.jL sN.out (fun _ hk => ⟨⟨hk.1.1, ⟨hk.1.2.1, ⟨hk.1.2.2.1, ⟨hk.1.2.2.2.2.1, ⟨hk.1.2.2.2.2.2.1, hk.1.2.2.2.2.2.2⟩⟩⟩⟩⟩, hk.2⟩)) hg hat)
        replace kI := am (Kd.lC (ok := (F13 w (.slice kQ dC.length kG) aT aZ cS)) (by refine rV ?_; exact Kd.jL kI.1 (fun _ hk => ⟨⟨hk.1.1, ⟨hk.1.2.1, ⟨hk.1.2.2.2.1, ⟨hk.1.2.2.2.2.1, hk.1.2.2.2.2.2⟩⟩⟩⟩, hk.2⟩)) hg hat)
        replace yB := am (Kd.lC (ok := (F13 w (.slice kQ dC.length kG) aT aZ cS)) (by refine rV ?_; exact Kd.jL yB.1 (fun _ hk => ⟨⟨hk.1.1, ⟨hk.1.2.1, ⟨hk.1.2.2.2.1, ⟨hk.1.2.2.2.2.1, hk.1.2.2.2.2.2⟩⟩⟩⟩, hk.2⟩)) hg hat)
        replace HB := am hb
        have BJ := am ho
        clear NA
        clear ho hb hg hat
        obtain ⟨UN, TP, Xj⟩ := Kd.gM BJ.1
        (first | subst Xj | (obtain ⟨f4_, f5_⟩ := sj Xj; subst f4_; subst f5_))
        refine nK hK (uA2 bV).1 fun hHeld => ?_
        clear hK K
        refine pU1 17 ?_
        refine lN 18 none fun K hK => ?_
        have aV7 : w83.cell? ⟨cS, 1, none⟩ = some (.slice (some wS) dZ.length nY) := (bC bV.1 1).trans rfl
        have aN1 := eB bV.1 1
        have aB7 := gI.1
        have aB8 := gU.1
        have a9R := iH.1
        have a9S := jC.1
        refine uX (w1 := ?_) (by rfl) rfl ?_ ?_
        rotate_left
        ·go_simp
         rfl
        refine hK.out _ _ ?_
        clear hK K
        refine dN ?_
        have Z86 := cz2 bV
        try go_wp2_with (first | ((with_reducible refine lG (f := 89) rfl ?_); refine wO (some 73) rfl rfl Try.func89 (by kernel_rfl) rfl #[.agg #[.slice kQ dC.length kG, .slice UN QL.length TP]] rfl xV ?_; (with_reducible refine (dE.calls k2 _ _ dC _ _ QL C1 MW _ ?side1 ?side2 ?side3 ?side4 A70.out).mono ?_); (case side1 => refine (Kd.aU (e := 9) (base := w.heap.size) (ok := fun k_ => (w.heap.size ≤ k_)) (n := dC.length) (c := kG) ?_).2.2; exact (by refine rR ?_; exact Kd.aM (fR (tR d4 bV)) (fun _ hk => hk.1.1))); (case side2 => exact (Kd.aU d4.1).2.1); (case side3 => refine (Kd.bL (e := 56) (base := w.heap.size) (ok := fun k_ => ((w.heap.size ≤ k_) ∧ (some k_ ≠ (.slice kQ dC.length kG : Value).ownBlock ∧ (k_ ≠ aT ∧ (k_ ≠ aZ ∧ k_ ≠ cS))))) (n := QL.length) (c := TP) ?_).2.2; exact (by refine rN ?_; exact (Kd.aJ (fN (Kd.aJ BJ.1 (fun k_ hk => (⟨hk, hk.2.2.2.2⟩ : _ ∧ k_ ≠ cS)))) (fun _ h_ => h_.1)))); (case side4 => exact (Kd.bL BJ.1).2.1); rintro e w87 ⟨uc, aH2, rfl, f3, lL, hb⟩; refine ⟨_, rfl, ?_⟩; replace sM := am (Kd.jL (Kd.AV (Kd.AV (Kd.VX (by refine rV ?_; exact (Kd.jL (Kd.VW (p := ⟨cS, 1, none⟩) (Kd.jL sM.out (fun k_ hk => (⟨hk, hk.1.2.2.2.2.2⟩ : _ ∧ k_ ≠ cS))) (fun _ hk => hk.2) (.slice UN QL.length TP)) (fun _ h_ => h_.1))) hb) (Kd.bZ f3)) uG) (fun _ h_ => h_.1)); replace sN := am (Kd.jL (Kd.AV (Kd.AV (Kd.VX (by refine rV ?_; exact (Kd.jL (Kd.VW (p := ⟨cS, 1, none⟩) (Kd.jL sN.out (fun k_ hk => (⟨hk, hk.1.2.2.2.2.2⟩ : _ ∧ k_ ≠ cS))) (fun _ hk => hk.2) (.slice UN QL.length TP)) (fun _ h_ => h_.1))) hb) (Kd.bZ f3)) uG) (fun _ h_ => h_.1)); replace kI := am (Kd.jL (Kd.AV (Kd.AV (Kd.VX (by refine rV ?_; exact (Kd.jL (Kd.VW (p := ⟨cS, 1, none⟩) (Kd.jL kI.1 (fun k_ hk => (⟨hk, hk.1.2.2.2.2⟩ : _ ∧ k_ ≠ cS))) (fun _ hk => hk.2) (.slice UN QL.length TP)) (fun _ h_ => h_.1))) hb) (Kd.bZ f3)) uG) (fun _ h_ => h_.1)); replace yB := am (Kd.jL (Kd.AV (Kd.AV (Kd.VX (by refine rV ?_; exact (Kd.jL (Kd.VW (p := ⟨cS, 1, none⟩) (Kd.jL yB.1 (fun k_ hk => (⟨hk, hk.1.2.2.2.2⟩ : _ ∧ k_ ≠ cS))) (fun _ hk => hk.2) (.slice UN QL.length TP)) (fun _ h_ => h_.1))) hb) (Kd.bZ f3)) uG) (fun _ h_ => h_.1)); have xO := am (Kd.d9 (Kd.fA (Kd.jQ (M := fun k_ => (w.heap.size ≤ k_)) f3 (aG g4) (fun k_ h_ => h_)) (Kd.R_lt (by refine rR ?_; exact (Kd.aM (fR (tR d4 bV)) (fun _ h_ => h_.1))))) (aG g4)); have xP := am (Kd.jD (Kd.aJ (ok' := F43 w uc (.slice kQ dC.length kG) (.slice (some wS) dZ.length nY) (.slice UN QL.length TP) aT aZ cS) (Kd.S_N (Kd.nP lL)) (fun k_ hk_ => ⟨(Nat.le_trans (aG g4) hk_.2.1), hk_.1, (Kd.fresh' (Kd.R_lt (by refine rR ?_; exact (Kd.aM (fR (tR d4 bV)) (fun _ h_ => h_.1)))) k_ hk_.2.1), (Kd.fresh' (Kd.N_lt (by refine rN ?_; exact (Kd.aJ (fN (Kd.aJ bJ.1 (fun k_ hk => (⟨hk, hk.1.2.2.2.2⟩ : _ ∧ k_ ≠ cS)))) (fun _ h_ => h_.1)))) k_ hk_.2.1), (Kd.fresh' (Kd.N_lt (by refine rN ?_; exact (Kd.aJ (fN (Kd.aJ BJ.1 (fun k_ hk => (⟨hk, hk.2.2.2.2⟩ : _ ∧ k_ ≠ cS)))) (fun _ h_ => h_.1)))) k_ hk_.2.1), (Kd.uA (g := aT) (o := .cells #[.slice eU bF.length eY, .slice fG aN.length eQ] 31 (0, 0)) Yp k_ hk_.2.1), (Kd.uA (g := aZ) (o := .cells #[.slice none 0 0, .slice none 0 0] 31 (0, 0)) Yq k_ hk_.2.1), (Kd.uA (g := cS) (o := .cells #[.slice kQ dC.length kG, .slice UN QL.length TP] 31 (0, 0)) (by refine rB ?_; refine bR (cs := #[.slice kQ dC.length kG, .slice (some wS) dZ.length nY]) ?_ 1 _ rfl; refine rB ?_; exact bV.1) k_ hk_.2.1)⟩)) (aG g4)); replace d4 := am (Kd.dS (by refine rR ?_; exact (Kd.aM (fR (tR d4 bV)) (fun _ h_ => h_.1))) (Kd.bZ f3) hb); replace bJ := am (Kd.aJ (Kd.iP (Kd.iP (Kd.xR (by refine rN ?_; exact (Kd.aJ (fN (Kd.aJ bJ.1 (fun k_ hk => (⟨hk, hk.1.2.2.2.2⟩ : _ ∧ k_ ≠ cS)))) (fun _ h_ => h_.1))) hb) (Kd.bZ f3)) uG) (fun _ h_ => h_.1)); replace BJ := am (Kd.aJ (Kd.iP (Kd.iP (Kd.xR (by refine rN ?_; exact (Kd.aJ (fN (Kd.aJ BJ.1 (fun k_ hk => (⟨hk, hk.2.2.2.2⟩ : _ ∧ k_ ≠ cS)))) (fun _ h_ => h_.1))) hb) (Kd.bZ f3)) uG) (fun _ h_ => h_.1)); replace a6 := am (bH (g := aT) (o := .cells #[.slice eU bF.length eY, .slice fG aN.length eQ] 31 (0, 0)) Yp hb); replace aH := am (bH (g := aZ) (o := .cells #[.slice none 0 0, .slice none 0 0] 31 (0, 0)) Yq hb); replace bV := am (bH (g := cS) (o := .cells #[.slice kQ dC.length kG, .slice UN QL.length TP] 31 (0, 0)) (by refine rB ?_; refine bR (cs := #[.slice kQ dC.length kG, .slice (some wS) dZ.length nY]) ?_ 1 _ rfl; refine rB ?_; exact bV.1) hb); replace HB := bS g4 hb; clear hb f3 lL; obtain ⟨aCJ, a1A, Xk⟩ := Kd.bP xO.1; subst Xk; have Z89 := nZ1 cV cO; have Z90 := cz2 aH; obtain ⟨Dq, Er, qd⟩ := Kd.gM xP.1; subst qd))
        refine cT aZ 31 #[.slice aCJ C1.length a1A, .slice Dq MW.length Er] (qP aH) Try.underlying31 ?_
        exact ⟨_, _, eR, mR xO aH, by refine rN ?_; exact Kd.aJ (fN (fN (Kd.aJ xP.1 (fun k_ hk => (⟨hk, hk.2.2.2.2.2.2.1⟩ : _ ∧ k_ ≠ aZ))))) (fun _ hk => ⟨hk.1.1, hk.1.2.1⟩), g4⟩
      ·obtain ⟨GK, hy146⟩ : ∃ y_ : List (S56), y_ = (([] : List (S56))) := ⟨_, rfl⟩
       replace H : (if 0 ≤ jX then (if jX ≤ (dZ.length : Int) then ((some (dZ.take (jX : Int).toNat : List (S56))).bind fun VE => (if GK.length + VE.length < 2199023255552 then ((some (GK ++ VE : List (S56))).bind fun Gr => ((iK.f l2).bind fun MX => (if Gr.length < 2199023255552 then ((some (Gr ++ [(⟨a1, ([] : List ByteArray), MX⟩ : S56)] : List (S56))).bind fun Un => ((some (dZ.drop (jX : Int).toNat : List (S56))).bind fun S0 => (if Un.length + S0.length < 2199023255552 then ((dE.f k2 dC (Un ++ S0)).bind fun cb => (some (cb.1, cb.2, 0))) else (none)))) else (none)))) else (none))) else (none)) else (none)) = some (r1, r2, r3) := by first | (rw [hy146]; with_reducible exact H) | (have H2_ := (Option.bind_some _ _).symm.trans H; rw [hy146]; with_reducible exact H2_) | (have H2_ := (Option.bind_some _ _).symm.trans H; with_reducible exact H2_) | with_reducible exact H | (rw [hy146]; exact H) | exact H
       have VU := am hy146
       clear hy146
       obtain ⟨aMB, aMC, H⟩ := cP H
       obtain ⟨aMD, aME, H⟩ := cP H
       obtain ⟨VE, VV, H⟩ := bY H
       obtain ⟨ye, H⟩ := cL H
       obtain ⟨Gr, At, H⟩ := bY H
       obtain ⟨MX, A95, H⟩ := bd H
       obtain ⟨yf, H⟩ := cL H
       obtain ⟨Un, yz, H⟩ := bY H
       have a0W := eq_true (oT : 0 ≤ jX)
       have Qw := eq_true (oT : jX ≤ (dZ.length : Int))
       obtain ⟨S0, az, H⟩ := bY H
       obtain ⟨yg, H⟩ := cL H
       obtain ⟨De, Pn⟩ := yv (Un ++ S0); first | replace H := bW Pn H | rw [← Pn.1] at H
       obtain ⟨⟨a4L, a4M⟩, fp, H⟩ := bd H
       dsimp only at H
       obtain ⟨rfl, rfl, rfl⟩ := sZ3 H
       repeat clear H
       have aSE := nZ2 iH gI jC gU
       have aCT := cz2 bV
       try go_wp2
       replace d4 := RD d4
       replace bJ := ND bJ
       replace a6 := BD a6
       replace aH := BD aH
       replace bV := BD bV
       replace HB := am (aV HB.1)
       have P4 : (jX : Int) ≤ ((dZ.length : Int) : Int) := oT
       obtain ⟨i0105, Rt, _, hsz105, _⟩ := info_parts rC
       have hroom105 : dZ.length ≤ nY := (Kd.bL bJ.1).2.1
       have hC105 : Kd.F k56 _ _ xE dZ.length dZ := (Kd.V_at (base := w.heap.size) (Kd.N_V bJ.1)).2.2
       have hcut105 := Y4 (P := Try.prog) 29 56 .i64 Try.underlying29 Rt xE dZ.length nY jX (oT) P4 hroom105
       have Ry := Kd.Du (m := (jX : Int).toNat) hC105 (by omega)
       have hy105 : VE.length = (jX : Int).toNat := (by rw [VV.out, List.length_take]; omega)
       rw [← VV.out] at Ry
       rw [← hy105] at hcut105
       have kJ := am (show Kd.V k56 56 _ w.heap.size _ (.slice xE VE.length nY) VE from Kd.V_mk (by omega) Ry)
       have aIC := am (show VE.length ≤ nY from by omega)
       clear Ry hC105 hroom105 Rt hsz105
       have KY105 := am hy105
       clear hy105
       replace P4 := eq_true P4
       have JT : (jX : Int) ≤ ((dZ.length : Int) : Int) := oT
       obtain ⟨i0106, Ru, _, hsz106, _⟩ := info_parts rC
       have hroom106 : dZ.length ≤ nY := (Kd.bL bJ.1).2.1
       have hC106 : Kd.F k56 _ _ xE dZ.length dZ := (Kd.V_at (base := w.heap.size) (Kd.N_V bJ.1)).2.2
       have a3Z : (0 : Int) ≤ (jX : Int) := oT
       have hcut106 := TR (P := Try.prog) 29 56 .i64 Try.underlying29 Ru 3 hsz106 xE dZ.length nY jX a3Z JT
       have Bx := Kd.Ns (m := (jX : Int).toNat) (c := nY) hC106 (by omega) hroom106
       obtain ⟨wb, hA106⟩ : ∃ A1, A1 = (if nY = (jX : Int).toNat then xE else (xE : Option Addr).map (·.add ((jX : Int).toNat * 3))) := ⟨_, rfl⟩
       obtain ⟨a05, Jf⟩ : ∃ c1, c1 = nY - (jX : Int).toNat := ⟨_, rfl⟩
       have hy106 : S0.length = dZ.length - (jX : Int).toNat := (by rw [az.out, List.length_drop] <;> omega)
       rw [show (dZ).drop (jX : Int).toNat = S0 from az.out.symm] at Bx
       replace Bx : Kd.F k56 _ _ wb S0.length S0 := (by rw [hA106]; exact Bx)
       rw [← hy106, ← hA106, ← Jf] at hcut106
       have lB := am (show Kd.V k56 56 _ w.heap.size _ (.slice wb S0.length a05) S0 from Kd.V_mk (by rw [hy106, Jf]; exact Nat.sub_le_sub_right hroom106 _) Bx)
       have aID := am (show S0.length ≤ a05 from by rw [hy106, Jf]; exact Nat.sub_le_sub_right hroom106 _)
       clear Bx hC106 hroom106 Ru hsz106 Jf
       have KY106 := am hy106
       have KA106 := am hA106
       clear hy106 hA106
       replace JT := eq_true JT
       refine sT [18] 19 (uA2 bV) (fun hHeld => ?_)
       refine eO cK.WU cK.PU (fun HT_ HW_ => ?_)
       generalize wr.drew = a4W at d4 bJ a6 aH bV HB kJ lB hHeld ⊢
       refine pU6 1 3 6 7 12 14 ?_
       refine tK2 2 (some 56) ?_
       refine pU1 4 ?_
       refine tK2 13 (some 67) ?_
       refine pU1 15 ?_
       refine oN 0 (some 54) fun K hK => ?_
       refine Kd.MF k56 _ 56 ?hg (N' := 54) ?hd (xs := ([] : List (S56))) (inner := []) (ok := (F23 w (.slice kQ dC.length kG) (.slice xE dZ.length nY) aT aZ cS)) (okp := (F23 w (.slice kQ dC.length kG) (.slice xE dZ.length nY) aT aZ cS)) ?hr ?hp (fun _ hk => hk) ((show ∀ k_, a4W.heap.size ≤ k_ → (F23 w (.slice kQ dC.length kG) (.slice xE dZ.length nY) aT aZ cS) k_ from fun k_ hk => ⟨(Nat.le_trans (aG g4) hk), Kd.fresh' (Kd.R_lt lI) k_ hk, Kd.fresh' (Kd.N_lt uW) k_ hk, fB aW k_ hk, fB cB k_ hk, fB jM k_ hk⟩) _ (Nat.le_refl _)) (Below.refl _ _) (Nat.le_refl _) (by simp) ?_; (case hd => rfl); (case hg => rfl); (case hr => first | (go_simp; done) | (go_simp; rfl)); (case hp => exact (Reps.none _ _))
       intro Zg aH7 JN hb hg_ hnew_
       clear hg_ hnew_
       (first | rw [← VU.out] at JN | (simp only [Int.reduceToNat] at JN; rw [← VU.out] at JN))
       replace d4 := RB lI hb
       replace bJ := am (Kd.rQ uW (by first | exact Kd.xG JN | exact Kd.GX JN) hb)
       replace kJ := am (Kd.pE (rV kJ.1) (by first | exact Kd.xG JN | exact Kd.GX JN) hb)
       replace lB := am (Kd.pE (rV lB.1) (by first | exact Kd.xG JN | exact Kd.GX JN) hb)
       have NB := am (Kd.jD JN (aG g4))
       replace a6 := bB aW hb
       replace aH := bB cB hb
       replace bV := bB jM hb
       replace HB := bS g4 hb
       clear hb JN
       refine nK hK (uA2 bV).1 fun hHeld => ?_
       clear hK K
       refine oN 5 (some 59) fun K hK => ?_
       refine Kd.nZ k56 (w0 := w) w.heap.size (by rfl) (.tmp 54) (.tmp 58) 29 56 Ag0 64 rfl Try.underlying29 rC rfl (by decide) (by omega) Zg GK VE _ _ _ (F13 w (.slice kQ dC.length kG) aT aZ cS) (FA (F13 w (.slice kQ dC.length kG) aT aZ cS) Zg) rfl rfl ?aO ?aR (fun _ hk => hk) ?aF ?aB ?aS ?aL ?_
       (case aR => exact (by skip; exact Kd.V_F (Kd.jL (ok' := (FA (F13 w (.slice kQ dC.length kG) aT aZ cS) Zg)) (kJ.1) (fun k_ hk => ⟨⟨hk.1.1, ⟨hk.1.2.1, ⟨hk.1.2.2.1, ⟨hk.1.2.2.2.1, hk.1.2.2.2.2⟩⟩⟩⟩, hk.2⟩))))
       (case aB => exact g4)
       (case aF => exact (fun k_ hk => ⟨(Nat.le_trans (aG g4) hk), Kd.fresh' (Kd.R_lt lI) k_ hk, fB aW k_ hk, fB cB k_ hk, fB jM k_ hk⟩))
       (case aO => exact (by refine rN ?_; exact Kd.aJ NB.1 (fun _ hk => ⟨hk.1, ⟨hk.2.1, ⟨hk.2.2.2.1, ⟨hk.2.2.2.2.1, hk.2.2.2.2.2⟩⟩⟩⟩)))
       (case aS => exact (aG g4))
       (case aL => have := ye.out; omega)
       intro Mt aWG ho hb hg hat
       rw [← At.out] at ho
       replace d4 := am (Kd.sP lI (Kd.lY (rN NB.1)) (by decide) hg)
       replace bJ := am (Kd.uD (ok := (F13 w (.slice kQ dC.length kG) aT aZ cS)) uW hg hat)
       replace a6 := gkN aW hg NB a6
       replace aH := gkN cB hg NB aH
       replace bV := gkN jM hg NB bV
       replace kJ := am (Kd.lC (ok := (F13 w (.slice kQ dC.length kG) aT aZ cS)) (rV kJ.1) hg hat)
       replace lB := am (Kd.lC (ok := (F13 w (.slice kQ dC.length kG) aT aZ cS)) (rV lB.1) hg hat)
       replace HB := am hb
       have lF := am ho
       clear NB
       clear ho hb hg hat
       refine nK hK (uA2 bV).1 fun hHeld => ?_
       clear hK K
       refine oN 8 (some 62) fun K hK => ?_
       refine gE Try.func93 (iK.calls _ _ l2 MX _ (pB EE) zZ.1 A95.out) ?_
       rintro e aHA ⟨aVY, rfl, f3, hb⟩
       refine ⟨_, rfl, ?_⟩
       replace bJ := am (Kd.rQ uW (Kd.bZ f3) hb)
       replace kJ := am (Kd.pE (rV kJ.1) (Kd.bZ f3) hb)
       replace lB := am (Kd.pE (rV lB.1) (Kd.bZ f3) hb)
       replace lF := am (Kd.rQ JQ (Kd.bZ f3) hb)
       have Hg := am (Kd.d9 (Kd.fA (Kd.jQ (M := fun k_ => (w.heap.size ≤ k_)) f3 (aG g4) (fun k_ h_ => h_)) (Kd.R_lt lI)) (aG g4))
       replace d4 := am (Kd.dS lI (Kd.bZ f3) hb)
       replace a6 := bB aW hb
       replace aH := bB cB hb
       replace bV := bB jM hb
       replace HB := bS g4 hb
       clear hb f3
       obtain ⟨Gt, Is, di⟩ := Kd.bP Hg.1
       (first | subst di | (obtain ⟨f4_, f5_⟩ := sj di; subst f4_; subst f5_))
       refine nK hK (uA2 bV).1 fun hHeld => ?_
       clear hK K
       refine pU1 9 ?_
       refine oN 10 (some 64) fun K hK => ?_
       refine yQ (w1 := ?_) (v := ?_) (by rfl) rfl ?_ ?_
       rotate_left 2
       ·go_simp
        constructor
        ·rfl
        ·rfl
       refine hK.out _ _ ⟨(bC (bM bV.1 _) 0).trans rfl, (bC (bM bV.1 _) 1).trans rfl⟩ (fun hHeld => ?_)
       clear hK K
       refine nM ?_
       refine oN 11 (some 65) fun K hK => ?_
       refine Kd.EX k56 (w0 := w) w.heap.size (by rfl) (.tmp 59) (.tmp 64) 29 56 Ag0 64 rfl Try.underlying29 rC rfl (by decide) (by omega) Mt Gr (⟨a1, ([] : List ByteArray), MX⟩ : S56) [.string a1, .slice none 0 0, .slice Gt MX.length Is] (F13 w (.slice kQ dC.length kG) aT aZ cS) (FA (F13 w (.slice kQ dC.length kG) aT aZ cS) Mt) rfl rfl ?aP (fun _ hk => hk) ?aF ?aO ?aB ?aS ?aL ?_
       (case aP => exact (OP _ _ (⟨a1, ([] : List ByteArray), MX⟩ : S56) (Nat.le_refl _) (Kd.Nu _ _ _) (Kd.aU (Kd.aM (ok' := (FA (F13 w (.slice kQ dC.length kG) aT aZ cS) Mt)) (Kd.fQ (Kd.fQ (Kd.fQ (Kd.mJ (Hg.1) (Kd.lY lF.1) (by decide)) a6.1 (by decide)) aH.1 (by decide)) bV.1 (by decide)) (fun k_ hk => ⟨⟨hk.1.1.1.1.1.1, ⟨hk.1.1.1.1.2, ⟨hk.1.1.2, ⟨hk.1.2, hk.2⟩⟩⟩⟩, hk.1.1.1.2⟩))).2.1 (Kd.R_F (Kd.aM (ok' := (FA (F13 w (.slice kQ dC.length kG) aT aZ cS) Mt)) (Kd.fQ (Kd.fQ (Kd.fQ (Kd.mJ (Hg.1) (Kd.lY lF.1) (by decide)) a6.1 (by decide)) aH.1 (by decide)) bV.1 (by decide)) (fun k_ hk => ⟨⟨hk.1.1.1.1.1.1, ⟨hk.1.1.1.1.2, ⟨hk.1.1.2, ⟨hk.1.2, hk.2⟩⟩⟩⟩, hk.1.1.1.2⟩)))))
       (case aB => exact g4)
       (case aF => exact (fun k_ hk => ⟨(Nat.le_trans (aG g4) hk), Kd.fresh' (Kd.R_lt lI) k_ hk, fB aW k_ hk, fB cB k_ hk, fB jM k_ hk⟩))
       (case aO => exact (by refine rN ?_; exact Kd.aJ lF.1 (fun _ hk => ⟨hk.1.1, ⟨hk.1.2.1, ⟨hk.1.2.2.1, ⟨hk.1.2.2.2.1, hk.1.2.2.2.2⟩⟩⟩⟩)))
       (case aS => exact (aG g4))
       (case aL => have := yf.out; omega)
       intro ud aWI ho hb hg hat
       rw [← yz.out] at ho
       replace d4 := am (Kd.sP lI (Kd.lY JQ) (by decide) hg)
       replace bJ := am (Kd.uD (ok := (F23 w (.slice kQ dC.length kG) (.slice Gt MX.length Is) aT aZ cS)) (by refine rN ?_; exact Kd.aJ bJ.1 (fun _ hk => ⟨⟨hk.1.1.1, ⟨hk.1.1.2.1, ⟨hk.2, ⟨hk.1.1.2.2.1, ⟨hk.1.1.2.2.2.1, hk.1.1.2.2.2.2⟩⟩⟩⟩⟩, hk.1.2⟩)) hg hat)
       replace a6 := gkN aW hg lF a6
       replace aH := gkN cB hg lF aH
       replace bV := gkN jM hg lF bV
       replace kJ := am (Kd.lC (ok := (F23 w (.slice kQ dC.length kG) (.slice Gt MX.length Is) aT aZ cS)) (by refine rV ?_; exact Kd.jL kJ.1 (fun _ hk => ⟨⟨hk.1.1.1, ⟨hk.1.1.2.1, ⟨hk.2, ⟨hk.1.1.2.2.1, ⟨hk.1.1.2.2.2.1, hk.1.1.2.2.2.2⟩⟩⟩⟩⟩, hk.1.2⟩)) hg hat)
       replace lB := am (Kd.lC (ok := (F23 w (.slice kQ dC.length kG) (.slice Gt MX.length Is) aT aZ cS)) (by refine rV ?_; exact Kd.jL lB.1 (fun _ hk => ⟨⟨hk.1.1.1, ⟨hk.1.1.2.1, ⟨hk.2, ⟨hk.1.1.2.2.1, ⟨hk.1.1.2.2.2.1, hk.1.1.2.2.2.2⟩⟩⟩⟩⟩, hk.1.2⟩)) hg hat)
       replace HB := am hb
       have VJ := am ho
       clear lF
       clear Hg
       clear ho hb hg hat
       refine nK hK (uA2 bV).1 fun hHeld => ?_
       clear hK K
       refine oN 16 (some 70) fun K hK => ?_
       refine Kd.nZ k56 (w0 := w) w.heap.size (by rfl) (.tmp 65) (.tmp 69) 29 56 Ag0 64 rfl Try.underlying29 rC rfl (by decide) (by omega) ud Un S0 _ _ _ (F13 w (.slice kQ dC.length kG) aT aZ cS) (FA (F13 w (.slice kQ dC.length kG) aT aZ cS) ud) rfl rfl ?aO ?aR (fun _ hk => hk) ?aF ?aB ?aS ?aL ?_
       (case aR => exact (by skip; exact Kd.V_F (Kd.jL (ok' := (FA (F13 w (.slice kQ dC.length kG) aT aZ cS) ud)) (lB.1) (fun k_ hk => ⟨⟨hk.1.1, ⟨hk.1.2.1, ⟨hk.1.2.2.2.1, ⟨hk.1.2.2.2.2.1, hk.1.2.2.2.2.2⟩⟩⟩⟩, hk.2⟩))))
       (case aB => exact g4)
       (case aF => exact (fun k_ hk => ⟨(Nat.le_trans (aG g4) hk), Kd.fresh' (Kd.R_lt lI) k_ hk, fB aW k_ hk, fB cB k_ hk, fB jM k_ hk⟩))
       (case aO => exact (rN VJ.1))
       (case aS => exact (aG g4))
       (case aL => have := yg.out; omega)
       intro aW0 aHB ho hb hg hat
       rw [← Pn.out] at ho
       replace d4 := am (Kd.sP lI (Kd.lY (rN VJ.1)) (by decide) hg)
       replace bJ := am (Kd.uD (ok := (F13 w (.slice kQ dC.length kG) aT aZ cS)) (by refine rN ?_; exact Kd.aJ bJ.1 (fun _ hk => ⟨⟨hk.1.1, ⟨hk.1.2.1, ⟨hk.1.2.2.2.1, ⟨hk.1.2.2.2.2.1, hk.1.2.2.2.2.2⟩⟩⟩⟩, hk.2⟩)) hg hat)
       replace a6 := gkN aW hg VJ a6
       replace aH := gkN cB hg VJ aH
       replace bV := gkN jM hg VJ bV
       replace kJ := am (Kd.lC (ok := (F13 w (.slice kQ dC.length kG) aT aZ cS)) (by refine rV ?_; exact Kd.jL kJ.1 (fun _ hk => ⟨⟨hk.1.1, ⟨hk.1.2.1, ⟨hk.1.2.2.2.1, ⟨hk.1.2.2.2.2.1, hk.1.2.2.2.2.2⟩⟩⟩⟩, hk.2⟩)) hg hat)
       replace lB := am (Kd.lC (ok := (F13 w (.slice kQ dC.length kG) aT aZ cS)) (by refine rV ?_; exact Kd.jL lB.1 (fun _ hk => ⟨⟨hk.1.1, ⟨hk.1.2.1, ⟨hk.1.2.2.2.1, ⟨hk.1.2.2.2.2.1, hk.1.2.2.2.2.2⟩⟩⟩⟩, hk.2⟩)) hg hat)
       replace HB := am hb
       have VK := am ho
       clear VJ
       clear ho hb hg hat
       obtain ⟨VF, TL, dl⟩ := Kd.gM VK.1
       (first | subst dl | (obtain ⟨f4_, f5_⟩ := sj dl; subst f4_; subst f5_))
       refine nK hK (uA2 bV).1 fun hHeld => ?_
       clear hK K
       refine pU1 17 ?_
       refine lN 18 none fun K hK => ?_
       have Sb : aHB.cell? ⟨cS, 1, none⟩ = some (.slice xE dZ.length nY) := (bC bV.1 1).trans rfl
       have aFD := eB bV.1 1
       have a3D := gI.1
       have a3E := gU.1
       have a2X := iH.1
       have a2Y := jC.1
       refine uX (w1 := ?_) (by rfl) rfl ?_ ?_
       rotate_left
       ·go_simp
        rfl
       refine hK.out _ _ ?_
       clear hK K
       refine dN ?_
       have aCV := cz2 bV
       try go_wp2_with (first | ((with_reducible refine lG (f := 89) rfl ?_); refine wO (some 73) rfl rfl Try.func89 (by kernel_rfl) rfl #[.agg #[.slice kQ dC.length kG, .slice VF De.length TL]] rfl xV ?_; (with_reducible refine (dE.calls k2 _ _ dC _ _ De a4L a4M _ ?side1 ?side2 ?side3 ?side4 fp.out).mono ?_); (case side1 => refine (Kd.aU (e := 9) (base := w.heap.size) (ok := fun k_ => (w.heap.size ≤ k_)) (n := dC.length) (c := kG) ?_).2.2; exact (by refine rR ?_; exact Kd.aM (fR (tR d4 bV)) (fun _ hk => hk.1.1))); (case side2 => exact (Kd.aU d4.1).2.1); (case side3 => refine (Kd.bL (e := 56) (base := w.heap.size) (ok := fun k_ => ((w.heap.size ≤ k_) ∧ (some k_ ≠ (.slice kQ dC.length kG : Value).ownBlock ∧ (k_ ≠ aT ∧ (k_ ≠ aZ ∧ k_ ≠ cS))))) (n := De.length) (c := TL) ?_).2.2; exact (by refine rN ?_; exact (Kd.aJ (fN (Kd.aJ VK.1 (fun k_ hk => (⟨hk, hk.2.2.2.2⟩ : _ ∧ k_ ≠ cS)))) (fun _ h_ => h_.1)))); (case side4 => exact (Kd.bL VK.1).2.1); rintro e aWJ ⟨aH5, aW2, rfl, f3, lL, hb⟩; refine ⟨_, rfl, ?_⟩; replace kJ := am (Kd.jL (Kd.AV (Kd.AV (Kd.VX (by refine rV ?_; exact (Kd.jL (Kd.VW (p := ⟨cS, 1, none⟩) (Kd.jL kJ.1 (fun k_ hk => (⟨hk, hk.1.2.2.2.2⟩ : _ ∧ k_ ≠ cS))) (fun _ hk => hk.2) (.slice VF De.length TL)) (fun _ h_ => h_.1))) hb) (Kd.bZ f3)) uG) (fun _ h_ => h_.1)); replace lB := am (Kd.jL (Kd.AV (Kd.AV (Kd.VX (by refine rV ?_; exact (Kd.jL (Kd.VW (p := ⟨cS, 1, none⟩) (Kd.jL lB.1 (fun k_ hk => (⟨hk, hk.1.2.2.2.2⟩ : _ ∧ k_ ≠ cS))) (fun _ hk => hk.2) (.slice VF De.length TL)) (fun _ h_ => h_.1))) hb) (Kd.bZ f3)) uG) (fun _ h_ => h_.1)); have Zy := am (Kd.d9 (Kd.fA (Kd.jQ (M := fun k_ => (w.heap.size ≤ k_)) f3 (aG g4) (fun k_ h_ => h_)) (Kd.R_lt (by refine rR ?_; exact (Kd.aM (fR (tR d4 bV)) (fun _ h_ => h_.1))))) (aG g4)); have Zz := am (Kd.jD (Kd.aJ (ok' := F43 w aH5 (.slice kQ dC.length kG) (.slice xE dZ.length nY) (.slice VF De.length TL) aT aZ cS) (Kd.S_N (Kd.nP lL)) (fun k_ hk_ => ⟨(Nat.le_trans (aG g4) hk_.2.1), hk_.1, (Kd.fresh' (Kd.R_lt (by refine rR ?_; exact (Kd.aM (fR (tR d4 bV)) (fun _ h_ => h_.1)))) k_ hk_.2.1), (Kd.fresh' (Kd.N_lt (by refine rN ?_; exact (Kd.aJ (fN (Kd.aJ bJ.1 (fun k_ hk => (⟨hk, hk.1.2.2.2.2⟩ : _ ∧ k_ ≠ cS)))) (fun _ h_ => h_.1)))) k_ hk_.2.1), (Kd.fresh' (Kd.N_lt (by refine rN ?_; exact (Kd.aJ (fN (Kd.aJ VK.1 (fun k_ hk => (⟨hk, hk.2.2.2.2⟩ : _ ∧ k_ ≠ cS)))) (fun _ h_ => h_.1)))) k_ hk_.2.1), (Kd.uA (g := aT) (o := .cells #[.slice eU bF.length eY, .slice fG aN.length eQ] 31 (0, 0)) Yp k_ hk_.2.1), (Kd.uA (g := aZ) (o := .cells #[.slice none 0 0, .slice none 0 0] 31 (0, 0)) Yq k_ hk_.2.1), (Kd.uA (g := cS) (o := .cells #[.slice kQ dC.length kG, .slice VF De.length TL] 31 (0, 0)) (by refine rB ?_; refine bR (cs := #[.slice kQ dC.length kG, .slice xE dZ.length nY]) ?_ 1 _ rfl; refine rB ?_; exact bV.1) k_ hk_.2.1)⟩)) (aG g4)); replace d4 := am (Kd.dS (by refine rR ?_; exact (Kd.aM (fR (tR d4 bV)) (fun _ h_ => h_.1))) (Kd.bZ f3) hb); replace bJ := am (Kd.aJ (Kd.iP (Kd.iP (Kd.xR (by refine rN ?_; exact (Kd.aJ (fN (Kd.aJ bJ.1 (fun k_ hk => (⟨hk, hk.1.2.2.2.2⟩ : _ ∧ k_ ≠ cS)))) (fun _ h_ => h_.1))) hb) (Kd.bZ f3)) uG) (fun _ h_ => h_.1)); replace VK := am (Kd.aJ (Kd.iP (Kd.iP (Kd.xR (by refine rN ?_; exact (Kd.aJ (fN (Kd.aJ VK.1 (fun k_ hk => (⟨hk, hk.2.2.2.2⟩ : _ ∧ k_ ≠ cS)))) (fun _ h_ => h_.1))) hb) (Kd.bZ f3)) uG) (fun _ h_ => h_.1)); replace a6 := am (bH (g := aT) (o := .cells #[.slice eU bF.length eY, .slice fG aN.length eQ] 31 (0, 0)) Yp hb); replace aH := am (bH (g := aZ) (o := .cells #[.slice none 0 0, .slice none 0 0] 31 (0, 0)) Yq hb); replace bV := am (bH (g := cS) (o := .cells #[.slice kQ dC.length kG, .slice VF De.length TL] 31 (0, 0)) (by refine rB ?_; refine bR (cs := #[.slice kQ dC.length kG, .slice xE dZ.length nY]) ?_ 1 _ rfl; refine rB ?_; exact bV.1) hb); replace HB := bS g4 hb; clear hb f3 lL; obtain ⟨wk, a0Z, a1E⟩ := Kd.bP Zy.1; subst a1E; have aSN := nZ1 cV cO; have aSO := cz2 aH; obtain ⟨wl, a10, a1F⟩ := Kd.gM Zz.1; subst a1F))
       refine cT aZ 31 #[.slice wk a4L.length a0Z, .slice wl a4M.length a10] (qP aH) Try.underlying31 ?_
       exact ⟨_, _, eR, mR Zy aH, by refine rN ?_; exact Kd.aJ (fN (fN (Kd.aJ Zz.1 (fun k_ hk => (⟨hk, hk.2.2.2.2.2.2.1⟩ : _ ∧ k_ ≠ aZ))))) (fun _ hk => ⟨hk.1.1, hk.1.2.1⟩), g4⟩
 obtain ⟨rfl, rfl, rfl⟩ := sZ3 H
 repeat clear H
 go_enter Try.func59, Try.ntmps59
 go_wp2_with (first | ((with_reducible refine gD 3 ?_); refine bX 3 #[.slice eU bF.length eY, .slice fG aN.length eQ] 31 ?_; intro aT hg aWL hbox hb; have a6 := am hbox; have g5 := am (oS : w.heap.size ≤ aT); have iJ := g5; replace HB := bS eG hb; clear hb hbox hg) | ((with_reducible refine gD 6 ?_); refine bX 6 #[.slice none 0 0, .slice none 0 0] 31 ?_; intro aZ hg aWM hbox hb; have aH := am hbox; have m4 := am (I1 : w.heap.size ≤ aZ); have nX := m4; replace HB := bS eE hb; have cO := nL aW hg; have cV := nG aW hg; replace a6 := bB aW hb; clear hb hbox hg; have zk := nZ1 cO cV; have aCX := cz2 a6) | ((with_reducible refine gC 22 ?_); refine cQ (some 11) Try.func22 (aK.calls k _ _ bF _ _ aN false _ (pB dY) dX.1 (pB cU) f4.1 A4.out) ?_; rintro aWN hb; replace a6 := bB aW hb; replace aH := bB cB hb; replace HB := bS l6 hb; clear hb; have aSQ := cz2 aH))
 refine cT aZ 31 #[.slice none 0 0, .slice none 0 0] pY6 Try.underlying31 ?_
 exact ⟨_, _, eR, by first | exact Kd.uE _ _ _ _ _ | exact Kd.CG _ _ _ _ _ | exact Kd.CO _ _ _ _ _ | exact Kd.CJ _ _ _ _ _ | exact Kd.yU _ _ _ _ _, by first | exact Kd.yU _ _ _ _ _ | exact Kd.CG _ _ _ _ _ | exact Kd.CO _ _ _ _ _ | exact Kd.CJ _ _ _ _ _ | exact Kd.uE _ _ _ _ _, l6⟩
end Go.Proofs.Ytaofjgnhapnndaa.Q
namespace Go.Proofs.Ytaofjgnhapnndaa.Q
open Go.RowKit Go.Proofs.YtaofjgnhapnndaaW.PrintWords Go.Proofs.YtaofjgnhapnndaaW.PrintLast Go.Proofs.YtaofjgnhapnndaaW.PrintMore
set_option linter.unusedVariables false
set_option linter.unusedSimpArgs false
abbrev EC := ByteArray × (Option Addr × Nat × Nat) × (Option Addr × Nat × Nat)
def encE (p : EC) : List Value := [.string p.1, .slice p.2.1.1 p.2.1.2.1 p.2.1.2.2, .slice p.2.2.1 p.2.2.2.1 p.2.2.2.2]
theorem vK (p : EC) : (encE p).length = 3 := rfl
structure EZ where
  c : EC
  x : S56
  o : Nat → Prop
def EZ.apart (a b : EZ) : Prop := ∀ k, a.o k → b.o k → False
theorem WR {α β : Type} (f : α → β) : ∀ {L : List β} {Z : List α}, (Z.map f).Perm L → ∃ Z' : List α, Z'.Perm Z ∧ Z'.map f = L
 | [], Z, h => by
  have := h.length_eq
  simp at this
  exact ⟨[], by rw [this], rfl⟩
 | b :: L, Z, h => by
  have hb : b ∈ Z.map f := h.symm.subset (List.mem_cons_self ..)
  obtain ⟨z, hz, rfl⟩ := List.mem_map.1 hb
  obtain ⟨s, t, rfl⟩ := List.append_of_mem hz
  have hp : ((s ++ z :: t).map f).Perm (f z :: (s ++ t).map f) := by
   rw [List.map_append, List.map_cons, List.map_append]
   exact List.perm_middle
  obtain ⟨Z', h1, h2⟩ := WR f (L := L) (Z := s ++ t) (List.Perm.cons_inv (hp.symm.trans h))
  exact ⟨z :: Z', (List.Perm.cons z h1).trans List.perm_middle.symm, by rw [List.map_cons, h2]⟩
theorem flat3 : ∀ (n : Nat) (inner : List Value) (G : Nat → List Value), inner.length = n * 3 → (∀ j, j < n → (inner.drop (j * 3)).take 3 = G j) → inner = ((List.range n).map G).flatten
  | 0, inner, G, h, _ => by
    rw [List.range_zero, List.map_nil, List.flatten_nil]
    exact List.length_eq_zero_iff.1 (by omega)
  | n + 1, inner, G, h, hG => by
    have h0 := hG 0 (by omega)
    rw [Nat.zero_mul, List.drop_zero] at h0
    have ih := flat3 n (inner.drop 3) (fun j => G (j + 1)) (by rw [List.length_drop]; omega) (fun j hj => by
      rw [List.drop_drop, show 3 + j * 3 = (j + 1) * 3 by omega]; exact hG (j + 1) (by omega))
    rw [List.range_succ_eq_map, List.map_cons, List.flatten_cons, ← h0, List.map_map]
    conv => lhs; rw [← List.take_append_drop 3 inner, ih]
    rfl
theorem zi {w : World} {base g n cap : Nat} {P : Nat → Prop} {xs : List S56} (h : Kd.S k56 56 w base P (.slice (some ⟨g, 0, none⟩) n cap) xs) :
  P g ∧ base ≤ g ∧ n = xs.length ∧ n ≤ cap ∧ cap ≤ maxLen ∧ ∃ (cur : Array Value) (Z : List EZ), w.heap[g]? = some (.cells cur 56 (0, 0)) ∧ cur.size = cap * 3 ∧ Z.map EZ.x = xs ∧ cur.toList.take (n * 3) = (Z.map fun z => encE z.c).flatten ∧ Z.Pairwise EZ.apart ∧
   ∀ z ∈ Z, z.c.1 = z.x.f0 ∧ k56.M w base (fun k => (P k ∧ k ≠ g) ∧ z.o k) z.x (encE z.c) := by
 obtain ⟨f, h0, inner, ⟨hil, ho⟩, hr⟩ := h
 rw [List.length_zipIdx] at hil
 have hP : P g := h0 g rfl
 rcases ho with ⟨hv, _⟩ | ⟨g', cap', cur, hv, hb, hh, hn, hm, hc, ht⟩
 ·cases hv
 injection hv with ha hn2 hcap
 injection ha with ha
 injection ha with ha _ _
 subst ha; subst hcap
 rw [List.length_zipIdx] at hn2 hn ht
 refine ⟨hP, hb, hn2, by omega, hm, cur, ?_⟩
 have hel : ∀ j (hj : j < xs.length), ∃ c : EC, (inner.drop (j * 3)).take 3 = encE c ∧ c.1 = xs[j].f0 ∧ k56.M w base (fun k => (P k ∧ k ≠ g) ∧ f k = j) xs[j] (encE c) := by
  intro j hj
  have hM : k56.M w base (fun k => (P k ∧ some k ≠ (Value.slice (some ⟨g, 0, none⟩) n cap).ownBlock) ∧ f k = j) xs[j] ((inner.drop (j * 3)).take 3) := hr.2 j (xs[j], j) (Kd.BH (List.getElem?_eq_getElem hj))
  have hM2 : k56.M w base (fun k => (P k ∧ k ≠ g) ∧ f k = j) xs[j] ((inner.drop (j * 3)).take 3) := k56.M_mono (fun k hk => ⟨⟨hk.1.1, fun e => hk.1.2 (by rw [e]; rfl)⟩, hk.2⟩) hM
  obtain ⟨v1, v2, e, g1, g2⟩ := uI hM2
  obtain ⟨A1, c1, rfl⟩ := Kd.bP g1
  obtain ⟨A2, c2, rfl⟩ := Kd.bP g2
  refine ⟨(xs[j].f0, (A1, xs[j].f1.length, c1), (A2, xs[j].f2.length, c2)), e, rfl, ?_⟩
  rw [← show _ = encE _ from e]
  exact hM2
 have hchoose : ∀ j, ∃ c : EC, ∀ hj : j < xs.length, (inner.drop (j * 3)).take 3 = encE c ∧ c.1 = xs[j].f0 ∧ k56.M w base (fun k => (P k ∧ k ≠ g) ∧ f k = j) xs[j] (encE c) := by
  intro j
  by_cases hj : j < xs.length
  ·obtain ⟨c, hc⟩ := hel j hj; exact ⟨c, fun _ => hc⟩
  ·exact ⟨(ByteArray.empty, (none, 0, 0), (none, 0, 0)), fun h => absurd h hj⟩
 obtain ⟨F, hF⟩ := Classical.axiomOfChoice hchoose
 refine ⟨xs.zipIdx.map fun q => ⟨F q.2, q.1, fun k => f k = q.2⟩, hh, hc, ?_, ?_, ?_, ?_⟩
 ·rw [List.map_map]
  exact List.zipIdx_map_fst 0 xs
 ·have hl : inner.length = xs.length * 3 := hil
  rw [hn2, show cur.toList.take (xs.length * 3) = inner from ht, List.map_map]
  have e : xs.zipIdx.map ((fun z => encE z.c) ∘ fun q => (⟨F q.2, q.1, fun k => f k = q.2⟩ : EZ)) = (List.range xs.length).map fun j => encE (F j) := by
   rw [List.range_eq_range', ← List.zipIdx_map_snd 0 xs, List.map_map]; rfl
  rw [e]
  exact flat3 xs.length inner _ hl (fun j hj => (hF j hj).1)
 ·rw [List.pairwise_map]
  rw [List.pairwise_iff_getElem]
  intro i j hi hj hij k h1 h2
  simp only [List.getElem_zipIdx, Nat.zero_add] at h1 h2
  omega
 intro z hz
 obtain ⟨q, hq, rfl⟩ := List.mem_map.1 hz
 obtain ⟨j, hj, rfl⟩ := List.getElem_of_mem hq
 rw [List.length_zipIdx] at hj
 simp only [List.getElem_zipIdx, Nat.zero_add]
 exact (hF j hj).2
theorem zg {w w' : World} {base g n cap : Nat} {P : Nat → Prop} {Z : List EZ} {cur : Array Value} (hP : P g) (hb : base ≤ g) (hn : n = Z.length) (hc : n ≤ cap) (hm : cap ≤ maxLen)
  (hh : w'.heap[g]? = some (.cells cur 56 (0, 0))) (hs : cur.size = cap * 3) (ht : cur.toList.take (n * 3) = (Z.map fun z => encE z.c).flatten) (hp : Z.Pairwise EZ.apart)
  (hZ : ∀ z ∈ Z, k56.M w base (fun k => (P k ∧ k ≠ g) ∧ z.o k) z.x (encE z.c)) (hk : Kept w w' (fun k => k = g)) :
  Kd.S k56 56 w' base P (.slice (some ⟨g, 0, none⟩) n cap) (Z.map EZ.x) := by
 subst hn
 have hlen : ∀ L : List EZ, (L.map fun z => encE z.c).flatten.length = L.length * 3 := by
  intro L; induction L with
  | nil => rfl
  | cons a l ih => rw [List.map_cons, List.flatten_cons, List.length_append, ih, List.length_cons, vK]; omega
 have hdrop : ∀ (L : List EZ) (j : Nat) (hj : j < L.length), (((L.map fun z => encE z.c).flatten).drop (j * 3)).take 3 = encE L[j].c := by
  intro L; induction L with
  | nil => intro j hj; exact absurd hj (by simp)
  | cons a l ih =>
   intro j hj
   rw [List.map_cons, List.flatten_cons]
   cases j with
   | zero => rw [Nat.zero_mul, List.drop_zero, List.take_append_of_le_length (by rw [vK]; omega), List.take_of_length_le (by rw [vK]; omega)]; rfl
   | succ j =>
    rw [List.drop_append, List.drop_eq_nil_of_le (by rw [vK]; omega), List.nil_append, vK, show (j + 1) * 3 - 3 = j * 3 by omega]
    exact ih j (by simpa using hj)
 have hZ2 : ∀ j (hj : j < Z.length), ∀ i (hi : i < Z.length), ∀ k, Z[i].o k → Z[j].o k → i = j := by
  intro j hj i hi k h1 h2
  rw [List.pairwise_iff_getElem] at hp
  rcases Nat.lt_trichotomy i j with h | h | h
  ·exact (hp i j hi hj h k h1 h2).elim
  ·exact h
  ·exact (hp j i hj hi h k h2 h1).elim
 have hf : ∀ k, ∃ i, ∀ j (hj : j < Z.length), Z[j].o k → i = j := by
  intro k
  by_cases h : ∃ i, ∃ hi : i < Z.length, Z[i].o k
  ·obtain ⟨i, hi, h1⟩ := h
   exact ⟨i, fun j hj h2 => hZ2 j hj i hi k h1 h2⟩
  ·exact ⟨0, fun j hj h2 => absurd ⟨j, hj, h2⟩ h⟩
 obtain ⟨f, hf⟩ := Classical.axiomOfChoice hf
 have hl : (Z.map EZ.x).length = Z.length := List.length_map ..
 refine ⟨f, fun k hk => by (have e : g = k := by simpa [Value.ownBlock] using hk); subst e; exact hP, (Z.map fun z => encE z.c).flatten, ⟨?_, .inr ⟨g, cap, cur, ?_, hb, hh, ?_, hm, hs, ?_⟩⟩, ?_, ?_⟩
 ·rw [hlen, List.length_zipIdx, hl]; rfl
 ·rw [List.length_zipIdx, hl]
 ·rw [List.length_zipIdx, hl]; exact hc
 ·rw [List.length_zipIdx, hl]; exact ht
 ·rw [hlen, List.length_zipIdx, hl]; rfl
 intro j p hj
 rw [List.getElem?_zipIdx] at hj
 obtain ⟨x, hx, rfl⟩ := Option.map_eq_some_iff.mp hj
 have hjl : j < Z.length := by rw [← hl]; exact (List.getElem?_eq_some_iff.1 hx).1
 rw [List.getElem?_map, List.getElem?_eq_getElem hjl] at hx
 obtain rfl := Option.some.inj hx
 show (Kd.tag f k56).M _ _ _ _ ((((Z.map fun z => encE z.c).flatten).drop (j * 3)).take 3)
 rw [hdrop Z j hjl]
 have hM := hZ Z[j] (List.getElem_mem hjl)
 have hM2 := Kd.PK (d := k56) (w1 := w') hM (fun k hk1 hlt => hk.2 k hlt (fun e => hk1.1.2 e))
 refine k56.M_mono (fun k hk1 => ⟨⟨hk1.1.1, fun e => hk1.1.2 (by simpa [Value.ownBlock] using e)⟩, ?_⟩) hM2
 show f k = 0 + j
 rw [Nat.zero_add]
 exact hf k j hjl hk1.2
end Go.Proofs.Ytaofjgnhapnndaa.Q
