/- Texts that the row needs: words on memory and rows, the contracts of the functions it reaches, and the plain lemmas on what they compute. -/
import Derived.Deep.RegionLaw
import Derived.Test.YtaofjgnhapnndaaGreatXktag
set_option maxHeartbeats 8000000
set_option maxRecDepth 100000
open Go.Proofs.YtaofjgnhapnndaaGreatFkt
namespace Go.Proofs.YtaofjgnhapnndaaGreat.Q
open Go.RowKit Go.Proofs.YtaofjgnhapnndaaGreatW.PrintWords Go.Proofs.YtaofjgnhapnndaaGreatW.PrintLast Go.Proofs.YtaofjgnhapnndaaGreatW.PrintMore
set_option linter.unusedVariables false
set_option linter.unusedSimpArgs false
theorem UV (w : World) (t e ty : TypeId) (z : Value) (u0 u1 u2 : Value) (ht : Tryz.prog.underlying t = some (.slice e)) (hv : ∀ w, (zeroValue e).run Tryz.prog w = .ok z w) (hz : z.cells = #[u0, u1, u2]) (h1 : ∀ u ∈ [u0, u1, u2], u.oneCell' = true) (b o c : Nat)
  (hc : ∀ j, j < 3 → (w.cell? ⟨b, o + j, none⟩).isSome = true) (hf : ∀ j, j < 3 → w.frozen? ⟨b, o + j, none⟩ = false) :
  (Builtin.clear_ #[t] ty #[.slice (some ⟨b, o, none⟩) 1 c]).run Tryz.prog w = .ok (.tuple #[]) (w.setCells b o [u0, u1, u2]) := by
 have hzc : (Builtin.zeroCells z.cells 1).toList = [u0, u1, u2] := by
  rw [hz]
  simp only [Builtin.zeroCells]
  simp
  apply List.ext_getElem
  ·simp
  ·intro i h1 h2
   simp only [List.length_cons, List.length_nil] at h2
   obtain rfl | rfl | rfl : i = 0 ∨ i = 1 ∨ i = 2 := by omega
   all_goals simp
 have hst := run_storeCells_cells (P := Tryz.prog) b o [u0, u1, u2] 0 w (by simpa using hc) (by simpa using hf) h1
 simp only [Nat.add_zero] at hst
 simp [Builtin.clear_, run_underlying ht, hv, hzc, hst]
theorem a0X (i : Nat) : ((i : Int) == (i : Int) + 1) = false := beq_eq_false_iff_ne.2 (fun e => by omega)
theorem a0Y {i n : Nat} (h : i < n) : (i : Int) + 1 ≤ (n : Int) := by omega
theorem a0Z {i n c : Nat} (h : i < n) (hn : n ≤ c) (hc : c ≤ 9223372036854775807) : wrap64 ((i : Int) + 1) = (i : Int) + 1 := by unfold wrap64; omega
theorem Ws {i n c : Nat} (h : i < n) (hn : n ≤ c) : i + (n - (i + 1)) ≤ c := by omega
theorem yf {w w' : World} {base : Nat} {P : Nat → Prop} {g cap i : Nat} {xs : List S52} {f : Nat → Nat} {inner : List Value} {cur' : Array Value} (hi : i < xs.length)
  (h0 : P g) (hb : base ≤ g) (hn : xs.length ≤ cap) (hm : cap ≤ maxLen) (hr : Reps ((Kd.tag f k52).M w base (fun k => P k ∧ some k ≠ some g)) 3 xs.zipIdx inner)
  (hH : w'.heap[g]? = some (.cells cur' 52 (0, 0))) (hs : cur'.size = cap * 3) (ht : cur'.toList.take ((xs.length - 1) * 3) = inner.take (i * 3) ++ inner.drop ((i + 1) * 3))
  (hK : Kept w w' (fun k => k = g)) : Kd.S k52 52 w' base P (.slice (some ⟨g, 0, none⟩) (xs.length - 1) cap) (xs.eraseIdx i) := by
 have hl : (xs.eraseIdx i).length = xs.length - 1 := List.length_eraseIdx_of_lt hi
 have hil : inner.length = xs.length * 3 := by have := hr.1; rwa [List.length_zipIdx] at this
 refine ⟨fun k => if i < f k then f k - 1 else f k, fun k hk => by (have e : g = k := by simpa [Value.ownBlock] using hk); subst e; exact h0, inner.take (i * 3) ++ inner.drop ((i + 1) * 3), ⟨?_, ?_⟩, ?_, ?_⟩
 ·rw [List.length_append, List.length_take, List.length_drop, List.length_zipIdx, hl, hil]
  show _ = (xs.length - 1) * 3
  omega
 ·refine .inr ⟨g, cap, cur', ?_, hb, hH, ?_, hm, hs, ?_⟩
  ·rw [List.length_zipIdx, hl]
  ·rw [List.length_zipIdx, hl]; omega
  rw [List.length_zipIdx, hl]; exact ht
 ·rw [List.length_append, List.length_take, List.length_drop, List.length_zipIdx, hl, hil]
  show _ = (xs.length - 1) * 3
  omega
 intro j p hj
 rw [List.getElem?_zipIdx] at hj
 obtain ⟨x, hx, rfl⟩ := Option.map_eq_some_iff.mp hj
 have hjl : j < (xs.eraseIdx i).length := (List.getElem?_eq_some_iff.1 hx).1
 rw [List.getElem?_eraseIdx] at hx
 by_cases hji : j < i
 ·rw [if_pos hji] at hx
  have hM := hr.2 j (x, j) (Kd.AY hx)
  have e : ((inner.take (i * 3) ++ inner.drop ((i + 1) * 3)).drop (j * 3)).take 3 = (inner.drop (j * 3)).take 3 := by
   rw [List.drop_append_of_le_length (by rw [List.length_take, hil]; omega), List.take_append_of_le_length (by rw [List.length_drop, List.length_take, hil]; omega), List.drop_take, List.take_take, Nat.min_eq_left (by omega)]
  show (Kd.tag _ _).M _ _ _ _ (((inner.take (i * 3) ++ inner.drop ((i + 1) * 3)).drop (j * 3)).take 3)
  rw [e]
  refine (Kd.tag _ k52).M_mono (ok := fun k => (P k ∧ some k ≠ some g) ∧ f k = j) (fun k hk => ?_) (Kd.OB (d := Kd.tag _ k52) (w := w) ?_ (fun k hk hlt => hK.2 k hlt (fun e => hk.1.2 (by rw [e]))))
  ·exact ⟨hk.1.1, fun e => hk.1.2 (by simpa [Value.ownBlock] using e)⟩
  refine k52.M_mono (fun k hk => ⟨⟨hk.1, hk.2⟩, ?_⟩) hM
  have := hk.2
  show (if i < f k then f k - 1 else f k) = _
  simp only at this
  rw [this, if_neg (by omega)]; omega
 rw [if_neg hji] at hx
 have hM := hr.2 (j + 1) (x, j + 1) (Kd.AY hx)
 have e : ((inner.take (i * 3) ++ inner.drop ((i + 1) * 3)).drop (j * 3)).take 3 = (inner.drop ((j + 1) * 3)).take 3 := by
  rw [List.drop_append, List.drop_eq_nil_of_le (by rw [List.length_take, hil]; omega), List.nil_append, List.length_take, hil, Nat.min_eq_left (by omega), List.drop_drop]
  congr 2; omega
 show (Kd.tag _ _).M _ _ _ _ (((inner.take (i * 3) ++ inner.drop ((i + 1) * 3)).drop (j * 3)).take 3)
 rw [e]
 refine (Kd.tag _ k52).M_mono (ok := fun k => (P k ∧ some k ≠ some g) ∧ f k = j + 1) (fun k hk => ?_) (Kd.OB (d := Kd.tag _ k52) (w := w) ?_ (fun k hk hlt => hK.2 k hlt (fun e => hk.1.2 (by rw [e]))))
 ·exact ⟨hk.1.1, fun e => hk.1.2 (by simpa [Value.ownBlock] using e)⟩
 refine k52.M_mono (fun k hk => ⟨⟨hk.1, hk.2⟩, ?_⟩) hM
 have := hk.2
 show (if i < f k then f k - 1 else f k) = _
 simp only at this
 rw [this, if_pos (by omega)]; omega
set_option maxHeartbeats 4000000 in
set_option maxRecDepth 1000000 in
theorem slices_Delete.one (w0 w : World) (P : Nat → Prop) (A : Option Addr) (c : Nat) (xs : List S52) (i : Nat) (hi : i < xs.length) (hB : Below w0.heap.size w0 w) (h : Kd.S k52 52 w w0.heap.size P (.slice A xs.length c) xs) :
  Calls Tryz.prog 47 #[.slice A xs.length c, .int .i64 i, .int .i64 ((i : Int) + 1)] w fun e w' => e = .returned (.slice A (xs.length - 1) c) ∧ Kd.S k52 52 w' w0.heap.size P (.slice A (xs.length - 1) c) (xs.eraseIdx i) ∧ Below w0.heap.size w0 w' ∧ Kept w w' P := by
 obtain ⟨f, h0, inner, ho, hr⟩ := h
 obtain ⟨hil, ho⟩ := ho
 rw [List.length_zipIdx] at hil
 rcases ho with ⟨_, ho⟩ | ⟨g, cap, cur, hv, hbase, hheap, hncap, hcapm, hcur, htake⟩
 ·rw [List.length_zipIdx] at ho; omega
 rw [List.length_zipIdx] at hv hncap htake
 injection hv with ha _ hc
 subst ha; subst hc
 have hP : P g := h0 g rfl
 have hr' : Reps ((Kd.tag f k52).M w w0.heap.size (fun k => P k ∧ some k ≠ some g)) 3 xs.zipIdx inner := hr
 have hil' : inner.length = xs.length * 3 := hil
 have hcur' : cur.size = c * 3 := hcur
 have htake' : cur.toList.take (xs.length * 3) = inner := htake
 have hone : ∀ u ∈ inner, u.oneCell' = true := by
  intro u hu
  obtain ⟨j, hj, rfl⟩ := List.getElem_of_mem hu
  have hjx : j / 3 < xs.length := by omega
  have hM := hr'.2 (j / 3) (xs[j / 3], j / 3) (Kd.AY (List.getElem?_eq_getElem hjx))
  refine k52.K_one (k52.K_of_M hM) _ ?_
  refine List.mem_of_getElem? (i := j % 3) ?_
  rw [List.getElem?_take, if_pos (by omega), List.getElem?_drop, show j / 3 * 3 + j % 3 = j by omega, List.getElem?_eq_getElem hj]
 have hcell : ∀ j, j < xs.length * 3 → w.cell? ⟨g, j, none⟩ = inner[j]? := by
  intro j hj
  rw [bP hheap j, ← htake', List.getElem?_take, if_pos hj, Array.getElem?_toList]
 have hfr : ∀ j, w.frozen? ⟨g, j, none⟩ = false := fun j => gF hheap j
 clear h0 hr hil hcur htake
 obtain ⟨news, hnews⟩ : ∃ news, news = inner.drop ((i + 1) * 3) := ⟨_, rfl⟩
 have hlen : news.length = (xs.length - (i + 1)) * 3 := by rw [hnews, List.length_drop, hil']; omega
 obtain ⟨B, hA, hsrc⟩ : ∃ B : Addr, (if c = i + 1 then some (⟨g, 0, none⟩ : Addr) else some ⟨g, (i + 1) * 3, none⟩) = some B ∧ Hid (∀ t u, news[t]? = some u → w.drew.cell? (B.add t) = some u) := by
  by_cases h : c = i + 1
  ·refine ⟨⟨g, 0, none⟩, by simp [h], fun t u hu => ?_⟩
   have h0 : news.length = 0 := by rw [hlen]; omega
   rw [List.length_eq_zero_iff.1 h0] at hu
   simp at hu
  ·refine ⟨⟨g, (i + 1) * 3, none⟩, by simp [h], fun t u hu => ?_⟩
   have ht : t < (xs.length - (i + 1)) * 3 := by
    have := (List.getElem?_eq_some_iff.1 hu).1
    rwa [hlen] at this
   rw [Addr.add_lit]
   show w.cell? _ = _
   rw [hcell _ (by omega), ← hu, hnews, List.getElem?_drop]
 have s2 : Hid (∀ u ∈ news, u.oneCell' = true) := by
  intro u hu
  rw [hnews] at hu
  exact hone u (List.mem_of_mem_drop hu)
 have s1 : Hid (news.length = (xs.length - (i + 1)) * 3) := hlen
 have s3 : Hid (∀ t, t < news.length → (w.drew.cell? ⟨g, 0 + i * 3 + t, none⟩).isSome = true ∧ w.drew.frozen? ⟨g, 0 + i * 3 + t, none⟩ = false) := by
  intro t ht
  rw [hlen] at ht
  refine ⟨?_, hfr _⟩
  show (w.cell? _).isSome = true
  rw [hcell _ (by omega), List.getElem?_eq_getElem (by omega)]
  rfl
 obtain ⟨i0, hi0, hz0, hz1, hz2⟩ := info_parts tZ
 obtain ⟨W1, hW1⟩ : ∃ W1, W1 = w.drew.setCells g (0 + i * 3) news := ⟨_, rfl⟩
 obtain ⟨cur1, hh1, Xg, ht1⟩ := yI (e := 52) news (0 + i * 3) w.drew cur hheap (by rw [hlen, hcur']; omega)
 rw [← hW1] at hh1
 have hcl : ∀ ty, (Builtin.clear_ #[24] ty #[.slice (some ⟨g, (i + (xs.length - (i + 1))) * 3, none⟩) (xs.length - (i + (xs.length - (i + 1)))) (c - (i + (xs.length - (i + 1))))]).run Tryz.prog W1 = .ok (.tuple #[]) (W1.setCells g ((i + (xs.length - (i + 1))) * 3) [.string ByteArray.empty, .slice none 0 0, .slice none 0 0]) := by
  intro ty
  rw [show xs.length - (i + (xs.length - (i + 1))) = 1 by omega]
  refine UV W1 _ 52 ty (.agg #[.string ByteArray.empty, .slice none 0 0, .slice none 0 0]) _ _ _ Tryz.underlying24 Tryz.zeroValue52 rfl (by simp [Value.oneCell']) g _ _ (fun t ht => ?_) (fun t ht => gF hh1 _)
  rw [bP hh1, Array.getElem?_eq_getElem (by rw [Xg, hcur']; omega)]
  rfl
 obtain ⟨W2, hW2⟩ : ∃ W2, W2 = W1.setCells g ((i + (xs.length - (i + 1))) * 3) [.string ByteArray.empty, .slice none 0 0, .slice none 0 0] := ⟨_, rfl⟩
 obtain ⟨cur2, hh2, Fk, ht2⟩ := yI (e := 52) [.string ByteArray.empty, .slice none 0 0, .slice none 0 0] ((i + (xs.length - (i + 1))) * 3) W1 cur1 hh1 (by rw [Xg, hcur']; simp only [List.length_cons, List.length_nil]; omega)
 rw [← hW2] at hh2
 have hK : Kept w W2 (fun k => k = g) := by
  rw [hW2, hW1]
  refine ⟨by rw [(q9 g _ _ _).2.2.2, (q9 g _ _ _).2.2.2]; exact Nat.le_refl _, fun k hk hne => ?_⟩
  rw [wI _ _ _ hne, wI _ _ _ hne]
  rfl
 have hBe : Below w0.heap.size w0 W2 := by
  have q2 := q9 g [.string ByteArray.empty, .slice none 0 0, .slice none 0 0] ((i + (xs.length - (i + 1))) * 3) W1
  have q1 := q9 g news (0 + i * 3) w.drew
  rw [← hW2] at q2; rw [← hW1] at q1
  refine ⟨by rw [q2.1, q1.1]; exact (aY hB).os, by rw [q2.2.1, q1.2.1]; exact (aY hB).tape, by rw [q2.2.2.1, q1.2.2.1]; exact (aY hB).output, Nat.le_trans hB.size hK.1, fun k hk => ?_⟩
  have hne : k ≠ g := by omega
  exact (hK.2 k (Nat.lt_of_lt_of_le hk hB.size) hne).trans (hB.block k hk)
 have htk : cur2.toList.take ((xs.length - 1) * 3) = inner.take (i * 3) ++ inner.drop ((i + 1) * 3) := by
  have e0 : i + (xs.length - (i + 1)) = xs.length - 1 := by omega
  have l1 : (cur1.toList.take ((xs.length - 1) * 3)).length = (xs.length - 1) * 3 := by rw [List.length_take, show cur1.toList.length = cur1.size from Array.length_toList, Xg, hcur']; omega
  rw [ht2, e0, List.append_assoc, List.take_append_of_le_length (by omega), List.take_take, Nat.min_self, ht1, ← hnews]
  have l2 : (cur.toList.take (0 + i * 3)).length = i * 3 := by rw [List.length_take, show cur.toList.length = cur.size from Array.length_toList, hcur']; omega
  have l3 : (cur.toList.take (0 + i * 3) ++ news).length = (xs.length - 1) * 3 := by rw [List.length_append, l2, hlen]; omega
  rw [List.take_append_of_le_length (by omega), List.take_of_length_le (by omega), Nat.zero_add, ← htake', List.take_take, Nat.min_eq_left (by omega)]
 have hS := yf (w' := W2) hi hP hbase hncap hcapm hr' hh2 (by rw [Fk, Xg, hcur']) htk hK
 have hcm : c ≤ 9223372036854775807 := hcapm
 clear hcapm
 have HS := am hS
 have HB := am hBe
 have HK := am (Kept.mono hK (S' := P) (fun k e => e ▸ hP))
 have hwr : wrap64 ((i : Int) + 1) = (i : Int) + 1 := a0Z hi hncap hcm
 have hic : i ≤ c := Nat.le_trans (Nat.le_of_lt hi) hncap
 have hne : ((i : Int) == (i : Int) + 1) = false := a0X i
 have hp0 : (0 : Int) ≤ (i : Int) + 1 := Int.natCast_nonneg (i + 1)
 have hp1 : (i : Int) + 1 ≤ (xs.length : Int) := a0Y hi
 have hp2 : ((i : Int) + 1).toNat = i + 1 := Int.toNat_natCast (i + 1)
 have Xh : xs.length ≤ c := hncap
 have hHW1 : Hid (W1 = w.drew.setCells g (0 + i * 3) news) := hW1
 have hHW2 : Hid (W2 = W1.setCells g ((i + (xs.length - (i + 1))) * 3) [.string ByteArray.empty, .slice none 0 0, .slice none 0 0]) := hW2
 clear hcm
 clear hS hBe hK htk hh2 Fk ht2 hh1 Xg ht1 hW1 hW2 hr' hil' hcur' htake' hone hcell hfr hnews hlen hheap hbase hncap hB hP
 go_enter Tryz.func47, Tryz.ntmps47
 go_wp2_with fail
 go_region_law (refine step_append_room rfl (.tmp 22) (.tmp 25) 24 rfl 52 i0 3 Tryz.underlying24 hi0 hz1 g 0 i c (by simp [Act.eval, Act.put]) B (xs.length - (i + 1)) (c - (i + 1)) news (by simp [Act.eval, Act.put]) s1.out hsrc.out s2.out (Ws hi Xh) s3.out ?_; rw [← hHW1.out])
 go_wp2
 go_ret
 rw [← hHW2.out]
 exact ⟨by rw [show i + (xs.length - (i + 1)) = xs.length - 1 by omega]; rfl, HS.out, HB.1, HK.out⟩
def lK.f (k : Nat) (l0 : List ByteArray) (l1 : List S52) (a1 : ByteArray) : Option (List ByteArray × List S52 × Int) :=
 (aM.f k l0 l1).bind fun ok => if ok = true then (dM.f k l0 l1).bind fun c => (gH.f l0 l1 a1).bind fun i => if i < 0 then some (c.1, c.2, 3) else if i.toNat < c.2.length ∧ c.2.length ≤ 9223372036854775806 then some (c.1, c.2.eraseIdx i.toNat, 0) else none else some ([], [], 1)
theorem BkS.del {w0 w : World} {lo hi : Nat} {v0 : Value} {A : Option Addr} {c : Nat} {l0 : List ByteArray} {l1 : List S52} (h : BkS w0 w lo hi v0 (.slice A l1.length c) l0 l1) (hB : Below w0.heap.size w0 w) (i : Nat) (dv : i < l1.length) :
  Calls Tryz.prog 47 #[.slice A l1.length c, .int .i64 i, .int .i64 ((i : Int) + 1)] w fun e w' => e = .returned (.slice A (l1.eraseIdx i).length c) ∧ BkS w0 w' lo hi v0 (.slice A (l1.eraseIdx i).length c) l0 (l1.eraseIdx i) ∧ Below w0.heap.size w0 w' ∧ Kept w w' (fun k => lo ≤ k ∧ k < hi) := by
 refine (slices_Delete.one w0 w _ A c l1 i dv hB h.2).mono ?_
 rintro e w' ⟨he, hs, hb, hk⟩
 have e1 : (l1.eraseIdx i).length = l1.length - 1 := List.length_eraseIdx_of_lt dv
 rw [e1]
 exact ⟨he, ⟨Kd.C8 (Kd.nA rfl h.1) hk (fun k e hk2 => hk2.2 e) |> (fun q => Kd.aT q (fun k e => h.1.1 k e.symm)), hs⟩, hb, Kept.mono hk (fun k hk => hk.1)⟩
theorem lK.calls (k : Nat) (eE : Option Addr) (eF : Nat) (l0 : List ByteArray) (eV : Option Addr) (eC : Nat) (l1 : List S52) (a1 : ByteArray) (r1 : List ByteArray) (r2 : List S52) (r3 : Int) (w : World) (gP : Kd.C Kd.string w eE l0.length l0) (gN : l0.length ≤ eF) (gK : Kd.C k52 w eV l1.length l1) (gO : l1.length ≤ eC) (h : lK.f k l0 l1 a1 = some (r1, r2, r3)) :
  Calls Tryz.prog 11 #[.agg #[.slice eE l0.length eF, .slice eV l1.length eC], .string a1] w fun e w' => ∃ v0_ v1_ : Value, e = .returned (.tuple #[.agg #[v0_, v1_], .int .i64 r3]) ∧ Kd.R Kd.string 9 w' w.heap.size (fun _ => True) v0_ r1 ∧ Kd.S k52 52 w' w.heap.size (fun k_ => some k_ ≠ (v0_ : Value).ownBlock) v1_ r2 ∧ Below w.heap.size w w' := by
 have hu31 := Tryz.underlying26
 obtain ⟨dT, dS⟩ := mZ2 gP gN
 obtain ⟨bV, eS⟩ := mZ2 gK gO
 clear gP gN gK gO
 have HB := am (Below.refl w.heap.size w); have NN := am trivial
 unfold lK.f at h
 have H := h
 clear h
 obtain ⟨ok, D1, H⟩ := bd H
 by_cases c1 : ok = false
 ·subst c1
  rw [if_neg (by simp)] at H
  obtain ⟨rfl, rfl, rfl⟩ := sZ3 H
  repeat clear H
  go_enter Tryz.func11, Tryz.ntmps11
  go_wp2_with (first | ((with_reducible refine gD 2 ?_); refine bX 2 #[.slice eE l0.length eF, .slice eV l1.length eC] 26 ?_; intro UF hg_ W1 hbox hb; have hk_ : Kept w W1 (fun _ => False) := Kept.noth hb; replace NN := nn NN (show w.heap.size ≤ W1.heap.size from hk_.1); have GE2 := am (show w.heap.size ≤ UF from Nat.le_trans HB.1.size (Nat.le_of_eq hg_.symm)); replace NN := nn NN (show w.heap.size ≤ UF from Nat.le_of_eq hg_.symm); replace NN := nn NN (show UF < W1.heap.size from fO hbox); replace HB := bS HB.1 hb; have EK := am hbox; clear hb hbox hg_ hk_; (try clear Z2); have Z2 := cz2 EK) | ((with_reducible refine gD 4 ?_); refine bX 4 #[.slice none 0 0, .slice none 0 0] 26 ?_; intro LH hg_ W2 hbox hb; have hk_ : Kept W1 W2 (fun _ => False) := Kept.noth hb; replace NN := nn NN (show W1.heap.size ≤ W2.heap.size from hk_.1); have Zj := am (show w.heap.size ≤ LH from Nat.le_trans HB.1.size (Nat.le_of_eq hg_.symm)); replace NN := nn NN (show W1.heap.size ≤ LH from Nat.le_of_eq hg_.symm); replace NN := nn NN (show LH < W2.heap.size from fO hbox); replace EK := kB EK hk_; replace HB := bS HB.1 hb; have GQ := am hbox; clear hb hbox hg_ hk_; have nb4_2 : LH ≠ UF := (by have := NN.1;  omega); have nb2_4 : UF ≠ LH := (by have := NN.1;  omega); (try clear Z4); have Z4 := cz2 GQ; (try clear Z2); have Z2 := cz2 EK) | ((with_reducible refine gC 14 ?_); refine cQ (some 9) Tryz.func14 (aM.calls k _ _ l0 _ _ l1 false _ (Kd.aU dT.1 HB.1) dS.1 (Kd.aU bV.1 HB.1) eS.1 D1.1) ?_; rintro W3 hb; have HB0 := am (show w.heap.size ≤ W2.heap.size from HB.1.size); have hk_ : Kept W2 W3 (fun _ => False) := Kept.noth hb; replace NN := nn NN (show W2.heap.size ≤ W3.heap.size from hk_.1); replace EK := kB EK hk_; replace GQ := kB GQ hk_; replace HB := bS HB.1 hb; clear hb hk_; (try clear Z2); have Z2 := cz2 EK; (try clear Z4); have Z4 := cz2 GQ; clear HB0))
  (try simp only [Exit.inBlock, Exit.then]); refine cT LH 26 #[.slice none 0 0, .slice none 0 0] (cO (cs := #[.slice none 0 0, .slice none 0 0]) (cO (cs := #[.slice none 0 0, .slice none 0 0]) (GQ.1) 0 _ rfl) 1 _ rfl) Tryz.underlying26 ?_
  exact ⟨_, _, rfl, Kd.sP _ _ _ _ _, Kd.wU _ _ _ _ _, aK (aK HB.1 Zj.1) Zj.1⟩
 have c1 : ok = true := by simpa using c1
 rw [if_pos c1] at H
 subst c1
 obtain ⟨⟨c1a, c1b⟩, D2, H⟩ := bd H
 obtain ⟨i, D3, H⟩ := bd H
 dsimp only at H
 by_cases c2 : i < 0
 ·rw [if_pos c2] at H
  have OX : decide (i < 0) = true := decide_eq_true c2
  obtain ⟨rfl, rfl, rfl⟩ := sZ3 H
  repeat clear H
  go_enter Tryz.func11, Tryz.ntmps11
  go_wp2_with (first | ((with_reducible refine gD 2 ?_); refine bX 2 #[.slice eE l0.length eF, .slice eV l1.length eC] 26 ?_; intro UF hg_ W1 hbox hb; have hk_ : Kept w W1 (fun _ => False) := Kept.noth hb; replace NN := nn NN (show w.heap.size ≤ W1.heap.size from hk_.1); have GE2 := am (show w.heap.size ≤ UF from Nat.le_trans HB.1.size (Nat.le_of_eq hg_.symm)); replace NN := nn NN (show w.heap.size ≤ UF from Nat.le_of_eq hg_.symm); replace NN := nn NN (show UF < W1.heap.size from fO hbox); replace HB := bS HB.1 hb; have EK := am hbox; clear hb hbox hg_ hk_; (try clear Z2); have Z2 := cz2 EK) | ((with_reducible refine gD 4 ?_); refine bX 4 #[.slice none 0 0, .slice none 0 0] 26 ?_; intro LH hg_ W2 hbox hb; have hk_ : Kept W1 W2 (fun _ => False) := Kept.noth hb; replace NN := nn NN (show W1.heap.size ≤ W2.heap.size from hk_.1); have Zj := am (show w.heap.size ≤ LH from Nat.le_trans HB.1.size (Nat.le_of_eq hg_.symm)); replace NN := nn NN (show W1.heap.size ≤ LH from Nat.le_of_eq hg_.symm); replace NN := nn NN (show LH < W2.heap.size from fO hbox); replace EK := kB EK hk_; replace HB := bS HB.1 hb; have GQ := am hbox; clear hb hbox hg_ hk_; have nb4_2 : LH ≠ UF := (by have := NN.1;  omega); have nb2_4 : UF ≠ LH := (by have := NN.1;  omega); (try clear Z4); have Z4 := cz2 GQ; (try clear Z2); have Z2 := cz2 EK) | ((with_reducible refine gC 14 ?_); refine cQ (some 9) Tryz.func14 (aM.calls k _ _ l0 _ _ l1 true _ (Kd.aU dT.1 HB.1) dS.1 (Kd.aU bV.1 HB.1) eS.1 D1.1) ?_; rintro W3 hb; have HB0 := am (show w.heap.size ≤ W2.heap.size from HB.1.size); have hk_ : Kept W2 W3 (fun _ => False) := Kept.noth hb; replace NN := nn NN (show W2.heap.size ≤ W3.heap.size from hk_.1); replace EK := kB EK hk_; replace GQ := kB GQ hk_; replace HB := bS HB.1 hb; clear hb hk_; (try clear Z2); have Z2 := cz2 EK; (try clear Z4); have Z4 := cz2 GQ; clear HB0) | ((with_reducible refine gC 24 ?_); refine cE (some 13) Tryz.func24 (dM.calls k _ _ l0 _ _ l1 c1a c1b _ (Kd.aU dT.1 HB.1) dS.1 (Kd.aU bV.1 HB.1) eS.1 D2.1) ?_; rintro e_ W4 ⟨_, _, rfl, eH, lW, hb⟩; refine ⟨_, rfl, ?_⟩; have HB0 := am (show w.heap.size ≤ W3.heap.size from HB.1.size); have hk_ : Kept W3 W4 (fun _ => False) := Kept.noth hb; replace NN := nn NN (show W3.heap.size ≤ W4.heap.size from hk_.1); replace EK := kB EK hk_; replace GQ := kB GQ hk_; replace HB := bS HB.1 hb; have KC := am (BkS.made (n := W3.heap.size) eH lW (HB0.out) (Nat.le_refl _)); clear eH lW; obtain ⟨Ac0, cc0, Ac1, cc1, e0_, e1_⟩ := KC.out.slices; subst e0_; subst e1_; clear hb hk_; (try clear Z2); have Z2 := cz2 EK; (try clear Z4); have Z4 := cz2 GQ; clear HB0) | ((with_reducible refine gD 6 ?_); refine bX 6 #[.slice none 0 0, .slice none 0 0] 26 ?_; intro mH hg_ W5 hbox hb; have hk_ : Kept W4 W5 (fun _ => False) := Kept.noth hb; replace NN := nn NN (show W4.heap.size ≤ W5.heap.size from hk_.1); have DB := am (show w.heap.size ≤ mH from Nat.le_trans HB.1.size (Nat.le_of_eq hg_.symm)); replace NN := nn NN (show W4.heap.size ≤ mH from Nat.le_of_eq hg_.symm); replace NN := nn NN (show mH < W5.heap.size from fO hbox); replace KC := am (BkS.kept KC.out hk_ (fun _ _ _ h => h)); replace EK := kB EK hk_; replace GQ := kB GQ hk_; replace HB := bS HB.1 hb; have iR := am hbox; clear hb hbox hg_ hk_; have nb6_2 : mH ≠ UF := (by have := NN.1;  omega); have nb2_6 : UF ≠ mH := (by have := NN.1;  omega); have nb6_4 : mH ≠ LH := (by have := NN.1;  omega); have nb4_6 : LH ≠ mH := (by have := NN.1;  omega); (try clear Z6); have Z6 := cz2 iR; (try clear Z2); have Z2 := cz2 EK; (try clear Z4); have Z4 := cz2 GQ) | ((with_reducible refine gC 27 ?_); refine cQ (some 16) Tryz.func27 (gH.calls _ _ l0 _ _ l1 a1 i _ (Kd.aU dT.1 (aK (aK HB.1 DB.1) DB.1)) dS.1 (Kd.aU bV.1 (aK (aK HB.1 DB.1) DB.1)) eS.1 D3.1) ?_; rintro W6 hb; have HB0 := am (show w.heap.size ≤ W5.heap.size from HB.1.size); have hk_ : Kept W5 W6 (fun k => k = mH) := (Kept.two (w := W5) (g := mH) 0 1 (.slice Ac0 c1a.length cc0) (.slice Ac1 c1b.length cc1)).below hb; replace NN := nn NN (show W5.heap.size ≤ W6.heap.size from hk_.1); replace KC := am (BkS.kept KC.out hk_ (fun k_ h1_ h2_ e_ => by have := NN.1;  omega)); replace EK := am (eB EK.1 hk_ (fun e_ => by have := NN.1;  omega)); replace GQ := am (eB GQ.1 hk_ (fun e_ => by have := NN.1;  omega)); replace iR := am (aX (g := mH) (o := .cells #[.slice Ac0 c1a.length cc0, .slice Ac1 c1b.length cc1] 26 (0, 0)) (cO (cs := #[.slice Ac0 c1a.length cc0, .slice none 0 0]) (cO (cs := #[.slice none 0 0, .slice none 0 0]) iR.1 0 _ rfl) 1 _ rfl) hb); replace HB := am (jB (aK (aK HB.1 DB.1) DB.1) hb); clear hb hk_; (try clear Z6); have Z6 := cz2 iR; (try clear Z4); have Z4 := cz2 GQ; clear HB0))
  (try simp only [Exit.inBlock, Exit.then]); refine cT LH 26 #[.slice Ac0 c1a.length cc0, .slice Ac1 c1b.length cc1] (cO (cs := #[.slice Ac0 c1a.length cc0, .slice none 0 0]) (cO (cs := #[.slice none 0 0, .slice none 0 0]) (GQ.1) 0 _ rfl) 1 _ rfl) Tryz.underlying26 ?_
  have hK_ := BkS.kept KC.out (Kept.two (w := W6) (g := LH) 0 1 (.slice Ac0 c1a.length cc0) (.slice Ac1 c1b.length cc1)) (fun k_ h1_ h2_ e_ => by have := NN.1;  omega)
  exact ⟨_, _, rfl, Kd.aT hK_.1 (fun _ _ => trivial), Kd.gX hK_.2 (fun _ h_ => h_.2), aK (aK HB.1 Zj.1) Zj.1⟩
 rw [if_neg c2] at H
 have OX : decide (i < 0) = false := decide_eq_false c2
 obtain ⟨n, rfl⟩ := Int.eq_ofNat_of_zero_le (Int.not_lt.mp c2)
 rw [Int.toNat_natCast] at H
 obtain ⟨⟨c3, c3b⟩, H⟩ := Bv H
 obtain ⟨rfl, rfl, rfl⟩ := sZ3 H
 repeat clear H
 have hwr : wrap64 ((n : Int) + 1) = (n : Int) + 1 := by
  unfold wrap64; omega
 go_enter Tryz.func11, Tryz.ntmps11
 go_wp2_with (first | ((with_reducible refine gD 2 ?_); refine bX 2 #[.slice eE l0.length eF, .slice eV l1.length eC] 26 ?_; intro UF hg_ W1 hbox hb; have hk_ : Kept w W1 (fun _ => False) := Kept.noth hb; replace NN := nn NN (show w.heap.size ≤ W1.heap.size from hk_.1); have GE2 := am (show w.heap.size ≤ UF from Nat.le_trans HB.1.size (Nat.le_of_eq hg_.symm)); replace NN := nn NN (show w.heap.size ≤ UF from Nat.le_of_eq hg_.symm); replace NN := nn NN (show UF < W1.heap.size from fO hbox); replace HB := bS HB.1 hb; have EK := am hbox; clear hb hbox hg_ hk_; (try clear Z2); have Z2 := cz2 EK) | ((with_reducible refine gD 4 ?_); refine bX 4 #[.slice none 0 0, .slice none 0 0] 26 ?_; intro LH hg_ W2 hbox hb; have hk_ : Kept W1 W2 (fun _ => False) := Kept.noth hb; replace NN := nn NN (show W1.heap.size ≤ W2.heap.size from hk_.1); have Zj := am (show w.heap.size ≤ LH from Nat.le_trans HB.1.size (Nat.le_of_eq hg_.symm)); replace NN := nn NN (show W1.heap.size ≤ LH from Nat.le_of_eq hg_.symm); replace NN := nn NN (show LH < W2.heap.size from fO hbox); replace EK := kB EK hk_; replace HB := bS HB.1 hb; have GQ := am hbox; clear hb hbox hg_ hk_; have nb4_2 : LH ≠ UF := (by have := NN.1;  omega); have nb2_4 : UF ≠ LH := (by have := NN.1;  omega); (try clear Z4); have Z4 := cz2 GQ; (try clear Z2); have Z2 := cz2 EK) | ((with_reducible refine gC 14 ?_); refine cQ (some 9) Tryz.func14 (aM.calls k _ _ l0 _ _ l1 true _ (Kd.aU dT.1 HB.1) dS.1 (Kd.aU bV.1 HB.1) eS.1 D1.1) ?_; rintro W3 hb; have HB0 := am (show w.heap.size ≤ W2.heap.size from HB.1.size); have hk_ : Kept W2 W3 (fun _ => False) := Kept.noth hb; replace NN := nn NN (show W2.heap.size ≤ W3.heap.size from hk_.1); replace EK := kB EK hk_; replace GQ := kB GQ hk_; replace HB := bS HB.1 hb; clear hb hk_; (try clear Z2); have Z2 := cz2 EK; (try clear Z4); have Z4 := cz2 GQ; clear HB0) | ((with_reducible refine gC 24 ?_); refine cE (some 13) Tryz.func24 (dM.calls k _ _ l0 _ _ l1 c1a c1b _ (Kd.aU dT.1 HB.1) dS.1 (Kd.aU bV.1 HB.1) eS.1 D2.1) ?_; rintro e_ W4 ⟨_, _, rfl, eH, lW, hb⟩; refine ⟨_, rfl, ?_⟩; have HB0 := am (show w.heap.size ≤ W3.heap.size from HB.1.size); have hk_ : Kept W3 W4 (fun _ => False) := Kept.noth hb; replace NN := nn NN (show W3.heap.size ≤ W4.heap.size from hk_.1); replace EK := kB EK hk_; replace GQ := kB GQ hk_; replace HB := bS HB.1 hb; have KC := am (BkS.made (n := W3.heap.size) eH lW (HB0.out) (Nat.le_refl _)); clear eH lW; obtain ⟨Ac0, cc0, Ac1, cc1, e0_, e1_⟩ := KC.out.slices; subst e0_; subst e1_; clear hb hk_; (try clear Z2); have Z2 := cz2 EK; (try clear Z4); have Z4 := cz2 GQ; clear HB0) | ((with_reducible refine gD 6 ?_); refine bX 6 #[.slice none 0 0, .slice none 0 0] 26 ?_; intro mH hg_ W5 hbox hb; have hk_ : Kept W4 W5 (fun _ => False) := Kept.noth hb; replace NN := nn NN (show W4.heap.size ≤ W5.heap.size from hk_.1); have DB := am (show w.heap.size ≤ mH from Nat.le_trans HB.1.size (Nat.le_of_eq hg_.symm)); replace NN := nn NN (show W4.heap.size ≤ mH from Nat.le_of_eq hg_.symm); replace NN := nn NN (show mH < W5.heap.size from fO hbox); replace KC := am (BkS.kept KC.out hk_ (fun _ _ _ h => h)); replace EK := kB EK hk_; replace GQ := kB GQ hk_; replace HB := bS HB.1 hb; have iR := am hbox; clear hb hbox hg_ hk_; have nb6_2 : mH ≠ UF := (by have := NN.1;  omega); have nb2_6 : UF ≠ mH := (by have := NN.1;  omega); have nb6_4 : mH ≠ LH := (by have := NN.1;  omega); have nb4_6 : LH ≠ mH := (by have := NN.1;  omega); (try clear Z6); have Z6 := cz2 iR; (try clear Z2); have Z2 := cz2 EK; (try clear Z4); have Z4 := cz2 GQ) | ((with_reducible refine gC 27 ?_); refine cQ (some 16) Tryz.func27 (gH.calls _ _ l0 _ _ l1 a1 (n : Int) _ (Kd.aU dT.1 (aK (aK HB.1 DB.1) DB.1)) dS.1 (Kd.aU bV.1 (aK (aK HB.1 DB.1) DB.1)) eS.1 D3.1) ?_; rintro W6 hb; have HB0 := am (show w.heap.size ≤ W5.heap.size from HB.1.size); have hk_ : Kept W5 W6 (fun k => k = mH) := (Kept.two (w := W5) (g := mH) 0 1 (.slice Ac0 c1a.length cc0) (.slice Ac1 c1b.length cc1)).below hb; replace NN := nn NN (show W5.heap.size ≤ W6.heap.size from hk_.1); replace KC := am (BkS.kept KC.out hk_ (fun k_ h1_ h2_ e_ => by have := NN.1;  omega)); replace EK := am (eB EK.1 hk_ (fun e_ => by have := NN.1;  omega)); replace GQ := am (eB GQ.1 hk_ (fun e_ => by have := NN.1;  omega)); replace iR := am (aX (g := mH) (o := .cells #[.slice Ac0 c1a.length cc0, .slice Ac1 c1b.length cc1] 26 (0, 0)) (cO (cs := #[.slice Ac0 c1a.length cc0, .slice none 0 0]) (cO (cs := #[.slice none 0 0, .slice none 0 0]) iR.1 0 _ rfl) 1 _ rfl) hb); replace HB := am (jB (aK (aK HB.1 DB.1) DB.1) hb); clear hb hk_; (try clear Z6); have Z6 := cz2 iR; (try clear Z4); have Z4 := cz2 GQ; clear HB0) | ((with_reducible refine gC 47 ?_); refine cQ (some 25) Tryz.func47 (BkS.del KC.out HB.1 n c3) ?_; rintro W7 ⟨hy, hbb, hkk⟩; have HB0 := am (show w.heap.size ≤ W6.heap.size from HB.1.size); have hk_ := hkk; replace NN := nn NN (show W6.heap.size ≤ W7.heap.size from hk_.1); replace EK := am (eB EK.1 hk_ (fun e_ => by obtain ⟨e1_, e2_⟩ := e_; have := NN.1;  omega)); replace GQ := am (eB GQ.1 hk_ (fun e_ => by obtain ⟨e1_, e2_⟩ := e_; have := NN.1;  omega)); replace iR := am (eB iR.1 hk_ (fun e_ => by obtain ⟨e1_, e2_⟩ := e_; have := NN.1;  omega)); clear KC; replace HB := am hbb; have KC := am hy; clear hy; clear hk_ hkk hbb; (try clear Z6); have Z6 := cz2 iR; (try clear Z4); have Z4 := cz2 GQ; clear HB0))
 (try simp only [Exit.inBlock, Exit.then]); refine cT LH 26 #[.slice Ac0 c1a.length cc0, .slice Ac1 (c1b.eraseIdx n).length cc1] (cO (cs := #[.slice Ac0 c1a.length cc0, .slice none 0 0]) (cO (cs := #[.slice none 0 0, .slice none 0 0]) (dD GQ.1 nb4_6 _) 0 _ rfl) 1 _ rfl) Tryz.underlying26 ?_
 have hk_ : Kept W7 (((W7.setCell ⟨mH, 1, none⟩ _).setCell ⟨LH, 0, none⟩ _).setCell ⟨LH, 1, none⟩ _) (fun k => k = mH ∨ k = LH) := Kept.setCell (p := ⟨LH, 1, none⟩) (Kept.setCell (p := ⟨LH, 0, none⟩) (Kept.setCell (p := ⟨mH, 1, none⟩) (Kept.refl W7 (fun k => k = mH ∨ k = LH)) (Or.inl (Or.inl rfl)) (.slice Ac1 (c1b.eraseIdx n).length cc1)) (Or.inl (Or.inr rfl)) (.slice Ac0 c1a.length cc0)) (Or.inl (Or.inr rfl)) (.slice Ac1 (c1b.eraseIdx n).length cc1)
 have hK_ := BkS.kept KC.out hk_ (fun k_ h1_ h2_ e_ => by have := NN.1;  omega)
 exact ⟨_, _, rfl, Kd.aT hK_.1 (fun _ _ => trivial), Kd.gX hK_.2 (fun _ h_ => h_.2), aK (aK (aK HB.1 DB.1) Zj.1) Zj.1⟩
def gI.f (k : Nat) (aZ : List ByteArray) (aI : List (S52)) (a1 : ByteArray) : Option (List ByteArray × (List (S52)) × Int) := (aN.f k aZ aI).bind fun h => (if h = true then ((dP.f k aZ aI).bind fun a => ((iM.f k aZ aI a1).bind fun b => (if b < 0 then (some (a.1, a.2, 3)) else ((some (([] : List (S52)) : List (S52))).bind fun c => (if 0 ≤ b then (if b ≤ (a.2.length : Int) then ((some (a.2.take (b : Int).toNat : List (S52))).bind fun d => (if c.length + d.length < 2199023255552 then ((some (c ++ d : List (S52))).bind fun e => (if 0 ≤ (wrap64 (b + 1)) then (if (wrap64 (b + 1)) ≤ (a.2.length : Int) then ((some (a.2.drop ((wrap64 (b + 1)) : Int).toNat : List (S52))).bind fun g => (if e.length + g.length < 2199023255552 then (some (a.1, (e ++ g), 0)) else (none))) else (none)) else (none))) else (none))) else (none)) else (none)))))) else (some (([] : List ByteArray), ([] : List (S52)), 1)))
def gI.T7 : Bool × List (List Nat × List Nat) := (true, [([], []), ([], []), ([1], [1]), ([], []), ([2, 3], [2, 3]), ([0, 4], [0, 4]), ([], []), ([6], [6]), ([], []), ([8], [8]), ([7, 9], [7, 9]), ([5, 10, 5], [5, 10]), ([0, 1, 2, 3, 4, 5, 6, 7, 8, 9, 10, 11], []), ([12, 11, 11, 0, 1, 2, 3, 4, 5, 6, 7, 8, 9, 10, 11], [11, 12])])
def gI.B7 : List Nat := [0, 0, 2, 0, 14, 31, 0, 64, 0, 256, 960, 2047, 4095, 8191]
theorem gI.tab7 : rtab .any (opsOf Tryz.f12 7) = gI.T7 := by kernel_rfl
theorem gI.KJ : o5 gI.T7.2 gI.B7 = true := by kernel_rfl
theorem gI.calls (k : Nat) (eE : Option Addr) (eF : Nat) (aZ : List ByteArray) (eV : Option Addr) (eC : Nat) (aI : List (S52)) (a1 : ByteArray) (r1 : List ByteArray) (r2 : List (S52)) (r3 : Int) (w : World) (gP : Kd.C Kd.string w eE aZ.length aZ) (gN : aZ.length ≤ eF) (gK : Kd.C k52 w eV aI.length aI) (gO : aI.length ≤ eC) (h : gI.f k aZ aI a1 = some (r1, r2, r3)) :
  Calls Tryz.prog 12 #[.agg #[.slice eE aZ.length eF, .slice eV aI.length eC], .string a1] w fun e w' => ∃ v0_ v1_ : Value, e = .returned (.tuple #[.agg #[v0_, v1_], .int .i64 r3]) ∧ Kd.R Kd.string 9 w' w.heap.size (fun k_ => (w.heap.size ≤ k_)) v0_ r1 ∧ Kd.N k52 52 w' w.heap.size (F10 w v0_) v1_ r2 ∧ Below w.heap.size w w' := by
 have hu26 := Tryz.underlying26
 obtain ⟨dT, dS⟩ := mZ2 gP gN
 obtain ⟨bV, eS⟩ := mZ2 gK gO
 clear gP gN gK gO
 have HB := am (Below.refl w.heap.size w)
 unfold gI.f at h
 have H := h
 clear h
 obtain ⟨pN, A3, H⟩ := bd H
 refine tC H ?_ ?_ <;> clear H <;> intro c4 H <;> subst c4
 obtain ⟨⟨dB, bM⟩, A5, H⟩ := bd H
 dsimp only at H
 obtain ⟨bZ, A6, H⟩ := bd H
 refine ic H ?_ ?_ <;> clear H <;> intro XF H
 obtain ⟨rfl, rfl, rfl⟩ := sZ3 H
 repeat clear H
 have Dy := trivial
 have xk := trivial
 rotate_left
 obtain ⟨GP, hy112⟩ : ∃ y_ : List (S52), y_ = (([] : List (S52))) := ⟨_, rfl⟩
 replace H : (if 0 ≤ bZ then (if bZ ≤ (bM.length : Int) then ((some (bM.take (bZ : Int).toNat : List (S52))).bind fun M8 => (if GP.length + M8.length < 2199023255552 then ((some (GP ++ M8 : List (S52))).bind fun PR => (if 0 ≤ (wrap64 (bZ + 1)) then (if (wrap64 (bZ + 1)) ≤ (bM.length : Int) then ((some (bM.drop ((wrap64 (bZ + 1)) : Int).toNat : List (S52))).bind fun DA => (if PR.length + DA.length < 2199023255552 then (some (dB, (PR ++ DA), 0)) else (none))) else (none)) else (none))) else (none))) else (none)) else (none)) = some (r1, r2, r3) := by first | (rw [hy112]; with_reducible exact H) | (have H2_ := (Option.bind_some _ _).symm.trans H; rw [hy112]; with_reducible exact H2_) | (have H2_ := (Option.bind_some _ _).symm.trans H; with_reducible exact H2_) | with_reducible exact H | (rw [hy112]; exact H) | exact H
 have ZX := am hy112
 clear hy112
 obtain ⟨VJ, aK3, H⟩ := cP H
 obtain ⟨SV, a06, H⟩ := cP H
 obtain ⟨M8, MO, H⟩ := bY H
 obtain ⟨wl, H⟩ := cL H
 obtain ⟨PR, Hv, H⟩ := bY H
 obtain ⟨ji28, hji28⟩ : ∃ j_ : Int, (wrap64 (bZ + 1)) = j_ := ⟨_, rfl⟩
 replace H : (if 0 ≤ (ji28) then (if (ji28) ≤ (bM.length : Int) then ((some (bM.drop ((ji28) : Int).toNat : List (S52))).bind fun DA => (if PR.length + DA.length < 2199023255552 then (some (dB, (PR ++ DA), 0)) else (none))) else (none)) else (none)) = some (r1, r2, r3) := by first | (rw [hji28] at H; exact H) | (simp only [hji28] at H ⊢; exact H)
 (try rw [hji28] at A3)
 (try rw [hji28] at A5)
 (try rw [hji28] at A6)
 have hji28w : (IntKind.i64.wrap (bZ + 1)) = ji28 := (sD _).trans hji28
 obtain ⟨a07, aK7, H⟩ := cP H
 obtain ⟨MP, a08, H⟩ := cP H
 obtain ⟨DA, PY, H⟩ := bY H
 obtain ⟨wn, H⟩ := cL H
 obtain ⟨IY, SG⟩ := yv (PR ++ DA); first | replace H := bW SG H | rw [← SG.1] at H
 obtain ⟨rfl, rfl, rfl⟩ := sZ3 H
 repeat clear H
 have Dy := trivial
 have xl := trivial
 rotate_left
 obtain ⟨rfl, rfl, rfl⟩ := sZ3 H
 repeat clear H
 have xm := trivial
 rotate_left
 all_goals
  go_enter Tryz.func12, Tryz.ntmps12
  try go_wp2_with (first | ((with_reducible refine gD 2 ?_); refine bX 2 #[.slice eE aZ.length eF, .slice eV aI.length eC] 26 ?_; intro aW hg aOE hbox hb; have a6 := am hbox; have iS := am (u4 : w.heap.size ≤ aW); have j5 := iS; replace HB := bS iJ hb; clear hb hbox hg) | ((with_reducible refine gD 4 ?_); refine bX 4 #[.slice none 0 0, .slice none 0 0] 26 ?_; intro bK hg aOF hbox hb; have aQ := am hbox; have qJ := am (EF : w.heap.size ≤ bK); have oI := qJ; replace HB := bS fH hb; have dJ := nL d3 hg; have dL := nG d3 hg; replace a6 := bB d3 hb; clear hb hbox hg; have aHQ := nZ1 dJ dL; have aHR := cz2 a6) | ((with_reducible refine gC 31 ?_); revert Dy; intro Dy; refine cQ (some 9) Tryz.func31 (aN.calls k _ _ aZ _ _ aI true _ (pB dT) dS.1 (pB bV) eS.1 A3.out) ?_; rintro aOG hb; replace a6 := bB d3 hb; replace aQ := bB eW hb; replace HB := bS kO hb; clear hb; have aHS := cz2 a6) | ((with_reducible refine gC 32 ?_); revert Dy; intro Dy; refine cE (some 13) Tryz.func32 (dP.calls k _ _ aZ _ _ aI dB bM _ (pB dT) dS.1 (pB bV) eS.1 A5.out) ?_; rintro e aOH ⟨H6, D0, rfl, eH, lW, hb⟩; refine ⟨_, rfl, ?_⟩; have gG := am (Kd.dO (Kd.pX (M := fun k_ => (w.heap.size ≤ k_)) eH (aG kO) (fun k_ h_ => h_)) (aG kO)); have fD := am (Kd.jK (Kd.aJ (ok' := F12 w H6 aW bK) (Kd.S_N (Kd.lG lW)) (fun k_ hk_ => ⟨(Nat.le_trans (aG kO) hk_.2.1), hk_.1, (fB d3 k_ hk_.2.1), (fB eW k_ hk_.2.1)⟩)) (aG kO)); replace a6 := bB d3 hb; replace aQ := bB eW hb; replace HB := bS kO hb; clear hb eH lW) | ((with_reducible refine gD 6 ?_); revert Dy; intro Dy; refine bX 6 #[.slice none 0 0, .slice none 0 0] 26 ?_; intro bC hg aOI hbox hb; replace gG := RB uB hb; replace fD := am (Kd.iI (Kd.jU yF bC (Nat.le_of_eq hg.symm)) hb); have aV := am hbox; have C1 := am (UN : w.heap.size ≤ bC); have sO := C1; replace HB := bS kO hb; have fM := nL d3 hg; have gJ := nG d3 hg; replace a6 := bB d3 hb; have g4 := nL eW hg; have iL := nG eW hg; replace aQ := bB eW hb; clear hb hbox hg; obtain ⟨t7, tG, na⟩ := Kd.cZ gG.1; subst na; have aHT := nZ2 gJ fM iL g4; have aHU := cz2 aV; obtain ⟨xY, wP, nb⟩ := Kd.gM fD.1; subst nb; have aHV := cz2 a6) | ((with_reducible refine gC 35 ?_); revert xk; intro xk; refine cQ (some 16) Tryz.func35 (iM.calls k _ _ aZ _ _ aI a1 bZ _ (Kd.aU dT.1 fW) dS.1 (Kd.aU bV.1 fW) eS.1 A6.out) ?_; rintro aOJ hb; replace gG := am (Kd.jA (by refine rR ?_; exact (Kd.aT (fR (fR (tR gG aV))) (fun _ h_ => h_.1))) hb); replace fD := am (Kd.iI (by refine rN ?_; exact (Kd.aJ (fN (fN (Kd.aJ fD.1 (fun k_ hk => (⟨hk, hk.2⟩ : _ ∧ k_ ≠ bC))))) (fun _ h_ => h_.1))) hb); replace a6 := am (aX (g := aW) (o := .cells #[.slice eE aZ.length eF, .slice eV aI.length eC] 26 (0, 0)) YR hb); replace aQ := am (aX (g := bK) (o := .cells #[.slice none 0 0, .slice none 0 0] 26 (0, 0)) YS hb); replace aV := am (aX (g := bC) (o := .cells #[.slice t7 dB.length tG, .slice xY bM.length wP] 26 (0, 0)) (qP aV) hb); replace HB := bS fW hb; clear hb; have aHW := cz2 aV; have aHX := cz2 aQ) | ((with_reducible refine gC 35 ?_); revert xl; intro xl; refine cQ (some 16) Tryz.func35 (iM.calls k _ _ aZ _ _ aI a1 bZ _ (Kd.aU dT.1 fW) dS.1 (Kd.aU bV.1 fW) eS.1 A6.out) ?_; rintro a4H hb; replace gG := am (Kd.jA (by refine rR ?_; exact (Kd.aT (fR (fR (tR gG aV))) (fun _ h_ => h_.1))) hb); replace fD := am (Kd.iI (by refine rN ?_; exact (Kd.aJ (fN (fN (Kd.aJ fD.1 (fun k_ hk => (⟨hk, hk.2⟩ : _ ∧ k_ ≠ bC))))) (fun _ h_ => h_.1))) hb); replace a6 := am (aX (g := aW) (o := .cells #[.slice eE aZ.length eF, .slice eV aI.length eC] 26 (0, 0)) YR hb); replace aQ := am (aX (g := bK) (o := .cells #[.slice none 0 0, .slice none 0 0] 26 (0, 0)) YS hb); replace aV := am (aX (g := bC) (o := .cells #[.slice t7 dB.length tG, .slice xY bM.length wP] 26 (0, 0)) (qP aV) hb); replace HB := bS fW hb; clear hb) | ((with_reducible refine gC 31 ?_); revert xm; intro xm; refine cQ (some 9) Tryz.func31 (aN.calls k _ _ aZ _ _ aI false _ (pB dT) dS.1 (pB bV) eS.1 A3.out) ?_; rintro aOK hb; replace a6 := bB d3 hb; replace aQ := bB eW hb; replace HB := bS kO hb; clear hb; have aHY := cz2 aQ))
 ·refine cT bK 26 #[.slice t7 dB.length tG, .slice xY bM.length wP] (qP aQ) Tryz.underlying26 ?_
  exact ⟨_, _, eR, mR gG aQ, by refine rN ?_; exact Kd.aJ (fN (fN (Kd.aJ fD.1 (fun k_ hk => (⟨hk, hk.1.2.2.2⟩ : _ ∧ k_ ≠ bK))))) (fun _ hk => ⟨hk.1.1.1, hk.1.1.2.1⟩), fW⟩
 ·replace gG := RD gG
  replace fD := ND fD
  replace a6 := BD a6
  replace aQ := BD aQ
  replace aV := BD aV
  replace HB := am (aY HB.1)
  have q48 : (bZ : Int) ≤ ((bM.length : Int) : Int) := oT
  obtain ⟨i048, dp, _, hsz48, _⟩ := info_parts tZ
  have hroom48 : bM.length ≤ wP := (Kd.d9 fD.1).2.1
  have hC48 : Kd.F k52 _ _ xY bM.length bM := (Kd.V_at (base := w.heap.size) (Kd.N_V fD.1)).2.2
  have hcut48 := XO (P := Tryz.prog) 24 52 .i64 Tryz.underlying24 dp xY bM.length wP bZ (oT) q48 hroom48
  have pn := Kd.Du (m := (bZ : Int).toNat) hC48 (by omega)
  have hy48 : M8.length = (bZ : Int).toNat := (by rw [MO.out, List.length_take]; omega)
  rw [← MO.out] at pn
  rw [← hy48] at hcut48
  have jN := am (show Kd.V k52 52 _ w.heap.size _ (.slice xY M8.length wP) M8 from Kd.V_mk (by omega) pn)
  have aGX := am (show M8.length ≤ wP from by omega)
  clear pn hC48 hroom48 dp hsz48
  have KY48 := am hy48
  clear hy48
  replace q48 := eq_true q48
  have q49 : ((ji28) : Int) ≤ ((bM.length : Int) : Int) := oT
  obtain ⟨i049, dq, _, hsz49, _⟩ := info_parts tZ
  have hroom49 : bM.length ≤ wP := (Kd.d9 fD.1).2.1
  have hC49 : Kd.F k52 _ _ xY bM.length bM := (Kd.V_at (base := w.heap.size) (Kd.N_V fD.1)).2.2
  have aF0 : (0 : Int) ≤ ((ji28) : Int) := oT
  have hcut49 := T9 (P := Tryz.prog) 24 52 .i64 Tryz.underlying24 dq 3 hsz49 xY bM.length wP (ji28) aF0 q49
  have Ry := Kd.Oa (m := ((ji28) : Int).toNat) (c := wP) hC49 (by omega) hroom49
  obtain ⟨A49, hA49⟩ : ∃ A1, A1 = (if wP = ((ji28) : Int).toNat then xY else (xY : Option Addr).map (·.add (((ji28) : Int).toNat * 3))) := ⟨_, rfl⟩
  obtain ⟨Em, Xa⟩ : ∃ c1, c1 = wP - ((ji28) : Int).toNat := ⟨_, rfl⟩
  have hy49 : DA.length = bM.length - ((ji28) : Int).toNat := (by rw [PY.out, List.length_drop] <;> omega)
  rw [show (bM).drop ((ji28) : Int).toNat = DA from PY.out.symm] at Ry
  replace Ry : Kd.F k52 _ _ A49 DA.length DA := (by rw [hA49]; exact Ry)
  rw [← hy49, ← hA49, ← Xa] at hcut49
  have wS := am (show Kd.V k52 52 _ w.heap.size _ (.slice A49 DA.length Em) DA from Kd.V_mk (by rw [hy49, Xa]; exact Nat.sub_le_sub_right hroom49 _) Ry)
  have aH0 := am (show DA.length ≤ Em from by rw [hy49, Xa]; exact Nat.sub_le_sub_right hroom49 _)
  clear Ry hC49 hroom49 dq hsz49 Xa
  have KY49 := am hy49
  have KA49 := am hA49
  clear hy49 hA49
  replace q49 := eq_true q49
  refine sT [13] 14 (uA2 aV) (fun hHeld => ?_)
  refine fP gI.tab7 gI.KJ (fun HT_ HW_ => ?_)
  generalize a4H.drew = w47 at gG fD a6 aQ aV HB jN wS hHeld ⊢
  refine pU5 1 3 6 8 9 ?_
  refine tK2 2 (some 22) ?_
  refine pU1 4 ?_
  refine tK2 7 (some 27) ?_
  refine pU1 10 ?_
  refine oN 0 (some 20) fun K hK => ?_
  refine Kd.L9 k52 _ 52 ?hg (N' := 20) ?hd (xs := ([] : List (S52))) (inner := []) (ok := (F23 w (.slice t7 dB.length tG) (.slice xY bM.length wP) aW bK bC)) (okp := (F23 w (.slice t7 dB.length tG) (.slice xY bM.length wP) aW bK bC)) ?hr ?hp (fun _ hk => hk) ((show ∀ k_, w47.heap.size ≤ k_ → (F23 w (.slice t7 dB.length tG) (.slice xY bM.length wP) aW bK bC) k_ from fun k_ hk => ⟨(Nat.le_trans (aG fW) hk), Kd.fresh' (Kd.R_lt uB) k_ hk, Kd.fresh' (Kd.N_lt yF) k_ hk, fB d3 k_ hk, fB eW k_ hk, fB iD k_ hk⟩) _ (Nat.le_refl _)) (Below.refl _ _) (Nat.le_refl _) (by simp) ?_; (case hd => rfl); (case hg => rfl); (case hr => first | (go_simp; done) | (go_simp; rfl)); (case hp => exact (Reps.none _ _))
  intro Yp w50 Bg hb hg_ hnew_
  clear hg_ hnew_
  (first | rw [← ZX.out] at Bg | (simp only [Int.reduceToNat] at Bg; rw [← ZX.out] at Bg))
  replace gG := RB uB hb
  replace fD := am (Kd.rW yF (Kd.y7 Bg) hb)
  replace jN := am (Kd.pI (rV jN.1) (Kd.y7 Bg) hb)
  replace wS := am (Kd.pI (rV wS.1) (Kd.y7 Bg) hb)
  have GS := am (Kd.jK Bg (aG fW))
  replace a6 := bB d3 hb
  replace aQ := bB eW hb
  replace aV := bB iD hb
  replace HB := bS fW hb
  clear hb Bg
  refine nK hK (uA2 aV).1 fun hHeld => ?_
  clear hK K
  refine oN 5 (some 25) fun K hK => ?_
  refine Kd.o6 k52 (w0 := w) w.heap.size (by rfl) (.tmp 20) (.tmp 24) 24 52 Ag0 64 rfl Tryz.underlying24 tZ rfl (by decide) (by omega) Yp GP M8 _ _ _ (F13 w (.slice t7 dB.length tG) aW bK bC) (FA (F13 w (.slice t7 dB.length tG) aW bK bC) Yp) rfl rfl ?aO ?aR (fun _ hk => hk) ?aF ?aB ?aS ?aL ?_
  (case aR => exact (by skip; exact Kd.V_F (Kd.dQ (ok' := (FA (F13 w (.slice t7 dB.length tG) aW bK bC) Yp)) (jN.1) (fun k_ hk => ⟨⟨hk.1.1.1, ⟨hk.1.1.2.1, ⟨hk.1.1.2.2.1, ⟨hk.1.1.2.2.2, hk.1.2⟩⟩⟩⟩, hk.2⟩))))
  (case aB => exact fW)
  (case aF => exact (fun k_ hk => ⟨(Nat.le_trans (aG fW) hk), Kd.fresh' (Kd.R_lt uB) k_ hk, fB d3 k_ hk, fB eW k_ hk, fB iD k_ hk⟩))
  (case aO => exact (by refine rN ?_; exact Kd.aJ GS.1 (fun _ hk => ⟨hk.1, ⟨hk.2.1, ⟨hk.2.2.2.1, ⟨hk.2.2.2.2.1, hk.2.2.2.2.2⟩⟩⟩⟩)))
  (case aS => exact (aG fW))
  (case aL => have := wl.out; omega)
  intro PM w52 ho hb hg hat
  rw [← Hv.out] at ho
  replace a6 := gkN d3 hg GS a6
  replace aQ := gkN eW hg GS aQ
  replace gG := am (Kd.uQ uB (Kd.lZ (rN GS.1)) (by decide) hg)
  replace fD := am (Kd.vH (ok := (F13 w (.slice t7 dB.length tG) aW bK bC)) (by refine rN ?_; exact Kd.aJ fD.1 (fun _ hk => ⟨⟨hk.1.1.1, ⟨hk.1.1.2.1, ⟨hk.1.1.2.2.1, ⟨hk.1.1.2.2.2, hk.1.2⟩⟩⟩⟩, hk.2⟩)) hg hat)
  replace aV := gkN iD hg GS aV
  replace jN := am (Kd.lU (ok := (F13 w (.slice t7 dB.length tG) aW bK bC)) (by refine rV ?_; exact Kd.dQ jN.1 (fun _ hk => ⟨⟨hk.1.1.1, ⟨hk.1.1.2.1, ⟨hk.1.1.2.2.1, ⟨hk.1.1.2.2.2, hk.1.2⟩⟩⟩⟩, hk.2⟩)) hg hat)
  replace wS := am (Kd.lU (ok := (F13 w (.slice t7 dB.length tG) aW bK bC)) (by refine rV ?_; exact Kd.dQ wS.1 (fun _ hk => ⟨⟨hk.1.1.1, ⟨hk.1.1.2.1, ⟨hk.1.1.2.2.1, ⟨hk.1.1.2.2.2, hk.1.2⟩⟩⟩⟩, hk.2⟩)) hg hat)
  replace HB := am hb
  have eU := am ho
  clear GS
  clear ho hb hg hat
  refine nK hK (uA2 aV).1 fun hHeld => ?_
  clear hK K
  refine oN 11 (some 31) fun K hK => ?_
  refine Kd.o6 k52 (w0 := w) w.heap.size (by rfl) (.tmp 25) (.tmp 30) 24 52 Ag0 64 rfl Tryz.underlying24 tZ rfl (by decide) (by omega) PM PR DA _ _ _ (F13 w (.slice t7 dB.length tG) aW bK bC) (FA (F13 w (.slice t7 dB.length tG) aW bK bC) PM) rfl rfl ?aO ?aR (fun _ hk => hk) ?aF ?aB ?aS ?aL ?_
  (case aR => exact (by skip; exact Kd.V_F (Kd.dQ (ok' := (FA (F13 w (.slice t7 dB.length tG) aW bK bC) PM)) (wS.1) (fun k_ hk => ⟨⟨hk.1.1, ⟨hk.1.2.1, ⟨hk.1.2.2.1, ⟨hk.1.2.2.2.1, hk.1.2.2.2.2⟩⟩⟩⟩, hk.2⟩))))
  (case aB => exact fW)
  (case aF => exact (fun k_ hk => ⟨(Nat.le_trans (aG fW) hk), Kd.fresh' (Kd.R_lt uB) k_ hk, fB d3 k_ hk, fB eW k_ hk, fB iD k_ hk⟩))
  (case aO => exact (rN eU.1))
  (case aS => exact (aG fW))
  (case aL => have := wn.out; omega)
  intro a4A w53 ho hb hg hat
  rw [← SG.out] at ho
  replace a6 := gkN d3 hg eU a6
  replace aQ := gkN eW hg eU aQ
  replace gG := am (Kd.uQ uB (Kd.lZ (rN eU.1)) (by decide) hg)
  replace fD := am (Kd.vH (ok := (F13 w (.slice t7 dB.length tG) aW bK bC)) yF hg hat)
  replace aV := gkN iD hg eU aV
  replace jN := am (Kd.lU (ok := (F13 w (.slice t7 dB.length tG) aW bK bC)) (rV jN.1) hg hat)
  replace wS := am (Kd.lU (ok := (F13 w (.slice t7 dB.length tG) aW bK bC)) (rV wS.1) hg hat)
  replace HB := am hb
  have mO := am ho
  clear eU
  clear ho hb hg hat
  obtain ⟨gj, mq, a1N⟩ := Kd.gM mO.1
  (first | subst a1N | (obtain ⟨f4_, f5_⟩ := sj a1N; subst f4_; subst f5_))
  refine nK hK (uA2 aV).1 fun hHeld => ?_
  clear hK K
  refine pU1 12 ?_
  refine lN 13 none fun K hK => ?_
  have aSZ : w53.cell? ⟨bC, 1, none⟩ = some (.slice xY bM.length wP) := (bP aV.1 1).trans rfl
  have aLL := gF aV.1 1
  have a99 := fM.1
  have a9A := g4.1
  have a8B := gJ.1
  have a8C := iL.1
  refine AC (w1 := ?_) (by rfl) rfl ?_ ?_
  rotate_left
  ·go_simp
   rfl
  refine hK.out _ _ ?_
  clear hK K
  refine dN ?_
  have Z56 := cz2 aV
  have Z57 := cz2 aQ
  try go_wp2
  refine cT bK 26 #[.slice t7 dB.length tG, .slice gj IY.length mq] (by refine rB ?_; refine cO (cs := #[.slice t7 dB.length tG, .slice none 0 0]) ?_ 1 _ rfl; refine rB ?_; refine cO (cs := #[.slice none 0 0, .slice none 0 0]) ?_ 0 _ rfl; refine rB ?_; refine dD ?_ g4.1 _; refine rB ?_; exact aQ.1) Tryz.underlying26 ?_
  exact ⟨_, _, by first | rfl | (simp [tH, tJ] <;> rfl) | (simp only [← hji28]; first | rfl | (simp [tH, tJ] <;> rfl)) | (simp [*, tH, tJ] <;> rfl), by refine rR ?_; exact Kd.aT (fR (fR (Kd.u6 (p := ⟨bC, 1, none⟩) (Kd.gZ (tR gG aV) aQ.1 (by decide)) (fun _ hk => hk.1.2) (.slice gj IY.length mq)))) (fun _ hk => hk.1.1.1), by refine rN ?_; exact Kd.aJ (fN (fN (Kd.I1 (p := ⟨bC, 1, none⟩) (Kd.aJ (Kd.aJ mO.1 (fun k_ hk => (⟨hk, hk.2.2.2.2⟩ : _ ∧ k_ ≠ bC))) (fun k_ hk => (⟨hk, hk.1.2.2.2.1⟩ : _ ∧ k_ ≠ bK))) (fun _ hk => hk.1.2) (.slice gj IY.length mq)))) (fun _ hk => ⟨hk.1.1.1, hk.1.1.2.1⟩), fW⟩
 refine cT bK 26 #[.slice none 0 0, .slice none 0 0] ue Tryz.underlying26 ?_
 exact ⟨_, _, eR, by first | exact Kd.sP _ _ _ _ _ | exact Kd.yR _ _ _ _ _ | exact Kd.yT _ _ _ _ _ | exact Kd.yS _ _ _ _ _ | exact Kd.wU _ _ _ _ _, by first | exact Kd.wU _ _ _ _ _ | exact Kd.yR _ _ _ _ _ | exact Kd.yT _ _ _ _ _ | exact Kd.yS _ _ _ _ _ | exact Kd.sP _ _ _ _ _, kO⟩
def iE.l0 : Nat → List ByteArray → List ByteArray → Int → Option (Bool)
 | 0, _, _, _ => none
 | k + 1, b, c, a => if a < (b.length : Int) then (if 0 ≤ a then (if a < (c.length : Int) then (if (rdOf ByteArray.empty b a).toList = (rdOf ByteArray.empty c a).toList then (iE.l0 k b c (wrap64 (a + 1))) else (some false)) else (none)) else (none)) else (some true)
def iE.f (k : Nat) (l0 : List ByteArray) (l1 : List ByteArray) : Option (Bool) := if (l0.length : Int) = (l1.length : Int) then (iE.l0 k l0 l1 0) else (some false)
theorem iE.calls (k : Nat) (A0 : Option Addr) (c0 : Nat) (l0 : List ByteArray) (A1 : Option Addr) (c1 : Nat) (l1 : List ByteArray) (r : Bool) (w : World) (tM : Kd.C Kd.string w A0 l0.length l0) (yO : l0.length ≤ c0) (H5 : Kd.C Kd.string w A1 l1.length l1) (H4 : l1.length ≤ c1) (h : iE.f k l0 l1 = some r) :
  Calls Tryz.prog 48 #[.slice A0 l0.length c0, .slice A1 l1.length c1] w fun e w' => e = .returned (.bool r) ∧ kX w w' := by
 obtain ⟨tV, S0⟩ := mZ2 tM yO
 obtain ⟨HH, KY⟩ := mZ2 H5 H4
 clear tM yO H5 H4
 unfold iE.f at h
 have H := h
 clear h
 by_cases c3 : (l0.length : Int) = (l1.length : Int)
 ·rw [if_pos c3] at H
  have FS : ((l0.length : Int) == (l1.length : Int)) = true := beq_iff_eq.mpr c3
  have Le : ((l0.length : Int) != (l1.length : Int)) = false := bne_eq_false_iff_eq.mpr c3
  have a0A : (l0.length == l1.length) = true := by first | simpa using c3 | (simp at c3 ⊢; omega)
  clear c3
  have H' := am H
  repeat clear H
  go_enter Tryz.func48, Tryz.ntmps48
  go_wp2
  repeat (go_quiet (fail); try go_wp2)
  go_loopg [5] k (fun kq v5 w' => ∃ (bR : Int), v5 = .int .i64 bR ∧ aC (iE.l0 kq l0 l1 bR = some r) ∧ aC (kq ≤ k) ∧ kX w w')
  case atStart => exact ⟨(0), dU, H', ⟨Nat.le_refl _⟩, iB⟩
  clear H'
  try clear c1
  try clear c3
  try clear FS
  try clear Le
  try clear a0A
  obtain ⟨bR, rfl, HA, HK1, ⟨m1, rfl⟩⟩ := hrel
  cases gk with
  | zero => exact absurd HA.out (by simp [iE.l0])
  | succ k1 =>
   have H := HA.out
   clear HA
   simp only [iE.l0] at H
   refine ic H ?_ ?_ <;> clear H <;> intro CH H
   ·obtain ⟨FT, H⟩ := cN H
    obtain ⟨MQ, H⟩ := cN H
    refine iq H ?_ ?_ <;> clear H <;> intro c7 XF aSH H
    ·have H' := am H
     repeat clear H
     obtain ⟨kM, oE, lH, yE, yH⟩ := aS tV b0 bR
     cases oE
     obtain ⟨pJ, uM, oW, EE, EH⟩ := aS HH b0 bR
     cases uM
     go_wp2
     repeat (go_quiet (fail); try go_wp2)
     go_roundg k1
     case measure => have := HK1.out; omega
     case rel => exact ⟨(wrap64 (bR + 1)), dU, H', ⟨by have := HK1.out; omega⟩, iB⟩
    ·obtain rfl := Option.some.inj H
     repeat clear H
     obtain ⟨kM, oE, lH, yE, yH⟩ := aS tV b0 bR
     cases oE
     obtain ⟨pJ, uM, oW, EE, EH⟩ := aS HH b0 bR
     cases uM
     go_wp2
     repeat (go_quiet (fail); try go_wp2)
     go_ret
     exact ⟨by first | rfl | (simp; done) | (simp [*]; done), iB⟩
   ·obtain rfl := Option.some.inj H
    repeat clear H
    go_wp2
    repeat (go_quiet (fail); try go_wp2)
    go_ret
    exact ⟨by first | rfl | (simp; done) | (simp [*]; done), iB⟩
 rw [if_neg c3] at H
 have FS : ((l0.length : Int) == (l1.length : Int)) = false := beq_eq_false_iff_ne.mpr c3
 have Le : ((l0.length : Int) != (l1.length : Int)) = true := bne_iff_ne.mpr c3
 have a0A : (l0.length == l1.length) = false := by first | simpa using c3 | (simp at c3 ⊢; omega)
 obtain rfl := Option.some.inj H
 repeat clear H
 go_enter Tryz.func48, Tryz.ntmps48
 go_wp2
 repeat (go_quiet (fail); try go_wp2)
 go_ret
 exact ⟨by first | rfl | (simp; done) | (simp [*]; done), iB⟩
mutual
def eX.j0 : Nat → Bool → List ByteArray → List (S52) → List ByteArray → List (S52) → Option (Bool)
 | 0, _, _, _, _, _ => none
 | k + 1, a, b, c, d, e => if a = true then (some false) else (eX.l0 k 0 b c d e)
def eX.l0 : Nat → Int → List ByteArray → List (S52) → List ByteArray → List (S52) → Option (Bool)
 | 0, _, _, _, _, _ => none
 | k + 1, a, d, b, e, c => if a < (b.length : Int) then (if 0 ≤ a then (if a < (c.length : Int) then (if ((aA b a).f0).toList = ((aA c a).f0).toList then ((iE.f k ((aA b a).f1) ((aA c a).f1)).bind fun g => (if g = true then ((iE.f k ((aA b a).f2) ((aA c a).f2)).bind fun h => (if h = true then (eX.l0 k (wrap64 (a + 1)) d b e c) else (some false))) else (some false))) else (some false)) else (none)) else (none)) else (some true)
end
def eX.f (k : Nat) (aZ : List ByteArray) (aI : List (S52)) (rF : List ByteArray) (nH : List (S52)) : Option (Bool) := (iE.f k aZ rF).bind fun a => (if a = true then (eX.j0 k ((aI.length : Int) != (nH.length : Int)) aZ aI rF nH) else (eX.j0 k true aZ aI rF nH))
def eX.T6 : Bool × List (List Nat × List Nat) := (true, [([], []), ([0], [0]), ([], []), ([1, 2], [1, 2]), ([3], [3]), ([4], [4]), ([], []), ([6], [6]), ([], []), ([7, 8], [7, 8]), ([9], [9]), ([10], [10]), ([5, 11], [5, 11]), ([12], [12]), ([13], [13]), ([14, 13], [13, 14]), ([13], [13]), ([15, 16, 13], [13, 15, 16]), ([17, 13], [13, 17]), ([18, 13], [13, 18]), ([13], [13]), ([20, 13], [13, 20]), ([13], [13]), ([21, 22, 13], [13, 21, 22]), ([23, 13], [13, 23]), ([24, 13], [13, 24]), ([19, 25, 13, 13], [13, 19, 25]), ([26, 13], [13, 26]), ([13, 27], [13, 27]), ([28, 26], [28]), ([29], [29]), ([30, 29], [29, 30]), ([29], [29]), ([31, 32, 29], [29, 31, 32]), ([33, 29], [29, 33]), ([34, 29], [29, 34]), ([29], [29]), ([36, 29], [29, 36]), ([29], [29]), ([37, 38, 29], [29, 37, 38]), ([39, 29], [29, 39]), ([40, 29], [29, 40]), ([35, 41, 29, 29], [29, 35, 41]), ([42, 29], [29, 42]), ([29, 43], [29, 43])])
def eX.B6 : List Nat := [0, 1, 0, 7, 15, 31, 0, 64, 0, 448, 960, 1984, 4095, 8191, 16383, 32767, 16383, 131071, 262143, 524287, 16383, 1064959, 16383, 7356415, 15745023, 32522239, 67108863, 134217727, 268435455, 536870911, 1073741823, 2147483647, 1073741823, 8589934591, 17179869183, 34359738367, 1073741823, 69793218559, 1073741823, 482110078975, 1031865892863, 2131377520639, 4398046511103, 8796093022207, 17592186044415]
theorem eX.tab6 : rtab .any (opsOf Tryz.f13 6) = eX.T6 := by kernel_rfl
theorem eX.DL : o5 eX.T6.2 eX.B6 = true := by kernel_rfl
theorem eX.calls (k : Nat) (eE : Option Addr) (eF : Nat) (aZ : List ByteArray) (eV : Option Addr) (eC : Nat) (aI : List (S52)) (EI : Option Addr) (FQ : Nat) (rF : List ByteArray) (H0 : Option Addr) (FR : Nat) (nH : List (S52)) (r : Bool) (w : World) (gP : Kd.C Kd.string w eE aZ.length aZ) (gN : aZ.length ≤ eF) (gK : Kd.C k52 w eV aI.length aI) (gO : aI.length ≤ eC) (Bi : Kd.C Kd.string w EI rF.length rF) (Bd : rF.length ≤ FQ) (Bj : Kd.C k52 w H0 nH.length nH) (Be : nH.length ≤ FR) (h : eX.f k aZ aI rF nH = some r) :
  Calls Tryz.prog 13 #[.agg #[.slice eE aZ.length eF, .slice eV aI.length eC], .agg #[.slice EI rF.length FQ, .slice H0 nH.length FR]] w fun e w' => e = .returned (.bool r) ∧ Below w.heap.size w w' := by
 have hu26 := Tryz.underlying26
 obtain ⟨dT, dS⟩ := mZ2 gP gN
 obtain ⟨bV, eS⟩ := mZ2 gK gO
 obtain ⟨V8, V5⟩ := mZ2 Bi Bd
 obtain ⟨qY, Zk⟩ := mZ2 Bj Be
 clear gP gN gK gO Bi Bd Bj Be
 have HB := am (Below.refl w.heap.size w)
 unfold eX.f at h
 have H := h
 clear h
 have ie := am H
 clear H
 go_enter Tryz.func13, Tryz.ntmps13
 go_upto_region 1 with (first | ((with_reducible refine gD 2 ?_); (try (refine vL (by rfl) ?_; dsimp only)); refine bX 2 #[.slice eE aZ.length eF, .slice eV aI.length eC] 26 ?_; intro aW hg w4 hbox hb; have a6 := am hbox; have iS := am (u4 : w.heap.size ≤ aW); have j5 := iS; replace HB := bS iJ hb; clear hb hbox hg) | ((with_reducible refine gD 3 ?_); (try (refine vL (by rfl) ?_; dsimp only)); refine bX 3 #[.slice EI rF.length FQ, .slice H0 nH.length FR] 26 ?_; intro bK hg w5 hbox hb; have aQ := am hbox; have qJ := am (EF : w.heap.size ≤ bK); have oI := qJ; replace HB := bS fH hb; have dJ := nL d3 hg; have dL := nG d3 hg; replace a6 := bB d3 hb; clear hb hbox hg))
 (try simp only [Act.put, List.setIfInBounds_toArray, List.set_cons_zero, List.set_cons_succ])
 go_cut [20] (fun v20 wc => ∃ (kq : Nat) (Ug : Bool), v20 = .bool Ug ∧ aC (eX.j0 kq Ug aZ aI rF nH = some r) ∧ aC (kq ≤ k) ∧ aC (wc.heap[aW]? = some (.cells #[(.slice eE aZ.length eF), (.slice eV aI.length eC)] 26 (0, 0))) ∧ aC (wc.heap[bK]? = some (.cells #[(.slice EI rF.length FQ), (.slice H0 nH.length FR)] 26 (0, 0))) ∧ aC (Below w.heap.size w wc))
 case first =>
  have H := ie.1
  clear ie
  obtain ⟨pN, A6, H⟩ := bd H
  refine tC H ?_ ?_ <;> clear H <;> intro c7 H <;> subst c7
  ·have H' := am H
   repeat clear H
   have Z8 := nZ1 dJ dL
   have Z9 := cz2 a6
   have Z10 := cz2 aQ
   go_wp2_with (first | ((with_reducible refine gC 48 ?_); refine cQ (some 10) Tryz.func48 (iE.calls k _ _ aZ _ _ rF true _ (pB dT) dS.1 (pB V8) V5.1 A6.out) ?_; rintro w' ⟨nd, rfl⟩))
   go_meet
   exact ⟨_, (((aI.length : Int) != (nH.length : Int))), dU, H', ⟨by first | omega | exact Nat.le_refl _⟩, ⟨rB a6.1⟩, ⟨rB aQ.1⟩, ⟨kO⟩⟩
  have H' := am H
  repeat clear H
  have Uq := nZ1 dJ dL
  have Ur := cz2 a6
  have Us := cz2 aQ
  go_wp2_with (first | ((with_reducible refine gC 48 ?_); refine cQ (some 10) Tryz.func48 (iE.calls k _ _ aZ _ _ rF false _ (pB dT) dS.1 (pB V8) V5.1 A6.out) ?_; rintro w' ⟨nd, rfl⟩))
  go_meet
  exact ⟨_, (true), dU, H', ⟨by first | omega | exact Nat.le_refl _⟩, ⟨rB a6.1⟩, ⟨rB aQ.1⟩, ⟨kO⟩⟩
 clear ie
 obtain ⟨kq, Ug, rfl, HA, HJ2, a6, aQ, HB⟩ := hcut
 cases kq with
 | zero => exact absurd HA.out (by simp [eX.j0])
 | succ kj2 =>
  have H := HA.out
  clear HA
  simp only [eX.j0] at H
  refine tC H ?_ ?_ <;> (repeat clear H) <;> intro Dl H <;> subst Dl
  ·obtain rfl := Option.some.inj H
   repeat clear H
   go_wp2
   go_ret
   exact ⟨eR, kO⟩
  ·have H' := am H
   repeat clear H
   go_wp2
   go_loopg [5] kj2 (fun kq v5 w' => ∃ (sI : Int), v5 = .int .i64 sI ∧ aC (eX.l0 kq sI aZ aI rF nH = some r) ∧ aC (kq ≤ kj2) ∧ aC (w'.heap[aW]? = some (.cells #[(.slice eE aZ.length eF), (.slice eV aI.length eC)] 26 (0, 0))) ∧ aC (w'.heap[bK]? = some (.cells #[(.slice EI rF.length FQ), (.slice H0 nH.length FR)] 26 (0, 0))) ∧ aC (Below w.heap.size w w'))
   case atStart => exact ⟨(0), dU, H', ⟨Nat.le_refl _⟩, ⟨rB a6.1⟩, ⟨rB aQ.1⟩, ⟨kO⟩⟩
   case round =>
    clear H'
    try clear Dl
    obtain ⟨sI, rfl, HA, HK2, a6, aQ, HB⟩ := hrel
    cases gk with
    | zero => exact absurd HA.out (by simp [eX.l0])
    | succ k2 =>
     have H := HA.out
     clear HA
     simp only [eX.l0] at H
     refine ic H ?_ ?_ <;> clear H <;> intro Ak H
     ·obtain ⟨GY, H⟩ := cN H
      obtain ⟨Ii, H⟩ := cN H
      refine iq H ?_ ?_ <;> clear H <;> intro Ld I9 zz H
      ·obtain ⟨QQ, Nf, H⟩ := bd H
       refine tC H ?_ ?_ <;> clear H <;> intro bf H <;> subst bf
       ·obtain ⟨bZ, Uy, H⟩ := bd H
        refine tC H ?_ ?_ <;> clear H <;> intro c22 H <;> subst c22
        ·have H' := am H
         repeat clear H
         have yr := nZ1 dJ dL
         have Z24 := cz2 a6
         try go_wp2
         replace a6 := BD a6
         replace aQ := BD aQ
         replace HB := am (aY HB.1)
         obtain ⟨kS, rA, rD, rC, rE, tY, x9, xA, xB, nD, nE, nF, mY, pP, pR, tT, G8, GB⟩ := qK bV HB sI
         cases tY
         obtain ⟨u9, AF, AK, AG, AL, AO, oS, oU, oV, qV, mT, mU, qR, wZ, lX, oJ, QK, K4⟩ := qK qY HB sI
         cases AO
         obtain ⟨tO, qG, qL, sK, sL, zH, nY, nZ, o0, oA, o1, o2, o9, tU, qS, x5, K1, F9⟩ := qK bV HB sI
         obtain rfl : kS = tO := (by injection zH)
         obtain ⟨ea_, ec_⟩ := eZ2 nE o1
         subst ea_
         subst ec_
         obtain ⟨ea_, ec_⟩ := eZ2 nF o2
         subst ea_
         subst ec_
         obtain ⟨wN, BU, CF, BV, CG, FW, l4, l5, l6, t6, m0, m3, lY, pQ, rU, zP, YQ, YX⟩ := qK qY HB sI
         obtain rfl : u9 = wN := (by injection FW)
         obtain ⟨ea_, ec_⟩ := eZ2 mT m0
         subst ea_
         subst ec_
         obtain ⟨ea_, ec_⟩ := eZ2 mU m3
         subst ea_
         subst ec_
         obtain ⟨Ad, fh, lh, fi, ll, Ew, G0, G1, G2, NA, NB, NC, WY, Vg, MK, WU, qi, qw⟩ := qK bV HB sI
         obtain rfl : kS = Ad := (by injection Ew)
         obtain ⟨ea_, ec_⟩ := eZ2 nE NB
         subst ea_
         subst ec_
         obtain ⟨ea_, ec_⟩ := eZ2 nF NC
         subst ea_
         subst ec_
         obtain ⟨Ic, Nn, Ql, Np, Qm, Rc, G3, G4, G5, RG, JQ, JR, R5, Hf, J3, QY, a3C, a3J⟩ := qK qY HB sI
         obtain rfl : u9 = Ic := (by injection Rc)
         obtain ⟨ea_, ec_⟩ := eZ2 mT JQ
         subst ea_
         subst ec_
         obtain ⟨ea_, ec_⟩ := eZ2 mU JR
         subst ea_
         subst ec_
         refine sT [] 45 (uB2 a6 (uB2 aQ (uBx HB x9 (uBx HB xA (uBx HB xB (uBx HB oS (uBx HB oU (uBx HB oV (uBx HB nY (uBx HB nZ (uBx HB o0 (uBx HB l4 (uBx HB l5 (uBx HB l6 (uBx HB G0 (uBx HB G1 (uBx HB G2 (uBx HB G3 (uBx HB G4 (uAx HB G5)))))))))))))))))))) (fun hHeld => ?_)
         refine fP eX.tab6 eX.DL (fun HT_ HW_ => ?_)
         generalize wr.drew = ug at a6 aQ HB mY pR qR lX o9 qS lY rU WY MK R5 J3 nD nE nF qV mT mU oA o1 o2 t6 m0 m3 NA NB NC RG JQ JR hHeld ⊢
         refine pU4 0 2 6 8 ?_
         refine tK22 1 (some 29) ?_
         refine pU2 3 4 ?_
         refine tK22 5 (some 33) ?_
         refine tK22 7 (some 35) ?_
         refine pU2 9 10 ?_
         refine tK22 11 (some 39) ?_
         refine pU6 12 13 14 16 20 22 ?_
         refine tK22 15 (some 43) ?_
         refine pU2 17 18 ?_
         refine tK22 19 (some 47) ?_
         refine tK22 21 (some 49) ?_
         refine pU2 23 24 ?_
         refine tK22 25 (some 53) ?_
         refine oN 26 (some 54) fun K hK => ?_
         refine gQ Tryz.func48 (iE.calls k2 _ _ ((aA aI sI).f1) _ _ ((aA nH sI).f1) true _ (pB o9) tU.1 (pB lY) pQ.1 Nf.out) ?_
         rintro w' ⟨nd, rfl⟩
         refine nK hK (uB2 a6 (uB2 aQ (uBx HB x9 (uBx HB xA (uBx HB xB (uBx HB oS (uBx HB oU (uBx HB oV (uBx HB nY (uBx HB nZ (uBx HB o0 (uBx HB l4 (uBx HB l5 (uBx HB l6 (uBx HB G0 (uBx HB G1 (uBx HB G2 (uBx HB G3 (uBx HB G4 (uAx HB G5)))))))))))))))))))).1 fun hHeld => ?_
         clear hK K
         refine pU7 27 28 29 30 32 36 38 ?_
         refine tK22 31 (some 59) ?_
         refine pU2 33 34 ?_
         refine tK22 35 (some 63) ?_
         refine tK22 37 (some 65) ?_
         refine pU2 39 40 ?_
         refine tK22 41 (some 69) ?_
         refine oN 42 (some 70) fun K hK => ?_
         refine gQ Tryz.func48 (iE.calls k2 _ _ ((aA aI sI).f2) _ _ ((aA nH sI).f2) true _ ((Kd.aU MK.1 kO)) WU.1 ((Kd.aU J3.1 kO)) QY.1 Uy.out) ?_
         rintro w' ⟨nd, rfl⟩
         refine nK hK (uB2 a6 (uB2 aQ (uBx HB x9 (uBx HB xA (uBx HB xB (uBx HB oS (uBx HB oU (uBx HB oV (uBx HB nY (uBx HB nZ (uBx HB o0 (uBx HB l4 (uBx HB l5 (uBx HB l6 (uBx HB G0 (uBx HB G1 (uBx HB G2 (uBx HB G3 (uBx HB G4 (uAx HB G5)))))))))))))))))))).1 fun hHeld => ?_
         clear hK K
         refine pU2 43 44 ?_
         refine dN ?_
         try go_wp2
         go_roundg k2
         case measure => have := HJ2.out; have := HK2.out; omega
         case rel => exact ⟨(wrap64 (sI + 1)), dU, H', ⟨by have := HJ2.out; have := HK2.out; omega⟩, ⟨rB a6.1⟩, ⟨rB aQ.1⟩, ⟨kO⟩⟩
        ·obtain rfl := Option.some.inj H
         repeat clear H
         have Z26 := nZ1 dJ dL
         have Z27 := cz2 a6
         try go_wp2
         replace a6 := BD a6
         replace aQ := BD aQ
         replace HB := am (aY HB.1)
         obtain ⟨kS, rA, rD, rC, rE, tY, x9, xA, xB, nD, nE, nF, mY, pP, pR, tT, G8, GB⟩ := qK bV HB sI
         cases tY
         obtain ⟨u9, AF, AK, AG, AL, AO, oS, oU, oV, qV, mT, mU, qR, wZ, lX, oJ, QK, K4⟩ := qK qY HB sI
         cases AO
         obtain ⟨tO, qG, qL, sK, sL, zH, nY, nZ, o0, oA, o1, o2, o9, tU, qS, x5, K1, F9⟩ := qK bV HB sI
         obtain rfl : kS = tO := (by injection zH)
         obtain ⟨ea_, ec_⟩ := eZ2 nE o1
         subst ea_
         subst ec_
         obtain ⟨ea_, ec_⟩ := eZ2 nF o2
         subst ea_
         subst ec_
         obtain ⟨wN, BU, CF, BV, CG, FW, l4, l5, l6, t6, m0, m3, lY, pQ, rU, zP, YQ, YX⟩ := qK qY HB sI
         obtain rfl : u9 = wN := (by injection FW)
         obtain ⟨ea_, ec_⟩ := eZ2 mT m0
         subst ea_
         subst ec_
         obtain ⟨ea_, ec_⟩ := eZ2 mU m3
         subst ea_
         subst ec_
         obtain ⟨Ad, fh, lh, fi, ll, Ew, G0, G1, G2, NA, NB, NC, WY, Vg, MK, WU, qi, qw⟩ := qK bV HB sI
         obtain rfl : kS = Ad := (by injection Ew)
         obtain ⟨ea_, ec_⟩ := eZ2 nE NB
         subst ea_
         subst ec_
         obtain ⟨ea_, ec_⟩ := eZ2 nF NC
         subst ea_
         subst ec_
         obtain ⟨Ic, Nn, Ql, Np, Qm, Rc, G3, G4, G5, RG, JQ, JR, R5, Hf, J3, QY, a3C, a3J⟩ := qK qY HB sI
         obtain rfl : u9 = Ic := (by injection Rc)
         obtain ⟨ea_, ec_⟩ := eZ2 mT JQ
         subst ea_
         subst ec_
         obtain ⟨ea_, ec_⟩ := eZ2 mU JR
         subst ea_
         subst ec_
         refine sT [] 45 (uB2 a6 (uB2 aQ (uBx HB x9 (uBx HB xA (uBx HB xB (uBx HB oS (uBx HB oU (uBx HB oV (uBx HB nY (uBx HB nZ (uBx HB o0 (uBx HB l4 (uBx HB l5 (uBx HB l6 (uBx HB G0 (uBx HB G1 (uBx HB G2 (uBx HB G3 (uBx HB G4 (uAx HB G5)))))))))))))))))))) (fun hHeld => ?_)
         refine fP eX.tab6 eX.DL (fun HT_ HW_ => ?_)
         generalize wr.drew = w28 at a6 aQ HB mY pR qR lX o9 qS lY rU WY MK R5 J3 nD nE nF qV mT mU oA o1 o2 t6 m0 m3 NA NB NC RG JQ JR hHeld ⊢
         refine pU4 0 2 6 8 ?_
         refine tK22 1 (some 29) ?_
         refine pU2 3 4 ?_
         refine tK22 5 (some 33) ?_
         refine tK22 7 (some 35) ?_
         refine pU2 9 10 ?_
         refine tK22 11 (some 39) ?_
         refine pU6 12 13 14 16 20 22 ?_
         refine tK22 15 (some 43) ?_
         refine pU2 17 18 ?_
         refine tK22 19 (some 47) ?_
         refine tK22 21 (some 49) ?_
         refine pU2 23 24 ?_
         refine tK22 25 (some 53) ?_
         refine oN 26 (some 54) fun K hK => ?_
         refine gQ Tryz.func48 (iE.calls k2 _ _ ((aA aI sI).f1) _ _ ((aA nH sI).f1) true _ (pB o9) tU.1 (pB lY) pQ.1 Nf.out) ?_
         rintro w' ⟨nd, rfl⟩
         refine nK hK (uB2 a6 (uB2 aQ (uBx HB x9 (uBx HB xA (uBx HB xB (uBx HB oS (uBx HB oU (uBx HB oV (uBx HB nY (uBx HB nZ (uBx HB o0 (uBx HB l4 (uBx HB l5 (uBx HB l6 (uBx HB G0 (uBx HB G1 (uBx HB G2 (uBx HB G3 (uBx HB G4 (uAx HB G5)))))))))))))))))))).1 fun hHeld => ?_
         clear hK K
         refine pU7 27 28 29 30 32 36 38 ?_
         refine tK22 31 (some 59) ?_
         refine pU2 33 34 ?_
         refine tK22 35 (some 63) ?_
         refine tK22 37 (some 65) ?_
         refine pU2 39 40 ?_
         refine tK22 41 (some 69) ?_
         refine oN 42 (some 70) fun K hK => ?_
         refine gQ Tryz.func48 (iE.calls k2 _ _ ((aA aI sI).f2) _ _ ((aA nH sI).f2) false _ ((Kd.aU MK.1 kO)) WU.1 ((Kd.aU J3.1 kO)) QY.1 Uy.out) ?_
         rintro w' ⟨nd, rfl⟩
         refine nK hK (uB2 a6 (uB2 aQ (uBx HB x9 (uBx HB xA (uBx HB xB (uBx HB oS (uBx HB oU (uBx HB oV (uBx HB nY (uBx HB nZ (uBx HB o0 (uBx HB l4 (uBx HB l5 (uBx HB l6 (uBx HB G0 (uBx HB G1 (uBx HB G2 (uBx HB G3 (uBx HB G4 (uAx HB G5)))))))))))))))))))).1 fun hHeld => ?_
         clear hK K
         refine pU2 43 44 ?_
         refine dN ?_
         try go_wp2
         go_ret
         exact ⟨eR, kO⟩
       ·obtain rfl := Option.some.inj H
        repeat clear H
        have Z29 := nZ1 dJ dL
        have Z30 := cz2 a6
        try go_wp2
        replace a6 := BD a6
        replace aQ := BD aQ
        replace HB := am (aY HB.1)
        obtain ⟨kS, rA, rD, rC, rE, tY, x9, xA, xB, nD, nE, nF, mY, pP, pR, tT, G8, GB⟩ := qK bV HB sI
        cases tY
        obtain ⟨u9, AF, AK, AG, AL, AO, oS, oU, oV, qV, mT, mU, qR, wZ, lX, oJ, QK, K4⟩ := qK qY HB sI
        cases AO
        obtain ⟨tO, qG, qL, sK, sL, zH, nY, nZ, o0, oA, o1, o2, o9, tU, qS, x5, K1, F9⟩ := qK bV HB sI
        obtain rfl : kS = tO := (by injection zH)
        obtain ⟨ea_, ec_⟩ := eZ2 nE o1
        subst ea_
        subst ec_
        obtain ⟨ea_, ec_⟩ := eZ2 nF o2
        subst ea_
        subst ec_
        obtain ⟨wN, BU, CF, BV, CG, FW, l4, l5, l6, t6, m0, m3, lY, pQ, rU, zP, YQ, YX⟩ := qK qY HB sI
        obtain rfl : u9 = wN := (by injection FW)
        obtain ⟨ea_, ec_⟩ := eZ2 mT m0
        subst ea_
        subst ec_
        obtain ⟨ea_, ec_⟩ := eZ2 mU m3
        subst ea_
        subst ec_
        refine sT [] 45 (uB2 a6 (uB2 aQ (uBx HB x9 (uBx HB xA (uBx HB xB (uBx HB oS (uBx HB oU (uBx HB oV (uBx HB nY (uBx HB nZ (uBx HB o0 (uBx HB l4 (uBx HB l5 (uAx HB l6)))))))))))))) (fun hHeld => ?_)
        refine fP eX.tab6 eX.DL (fun HT_ HW_ => ?_)
        generalize wr.drew = se at a6 aQ HB mY pR qR lX o9 qS lY rU nD nE nF qV mT mU oA o1 o2 t6 m0 m3 hHeld ⊢
        refine pU4 0 2 6 8 ?_
        refine tK16 1 (some 29) ?_
        refine pU2 3 4 ?_
        refine tK16 5 (some 33) ?_
        refine tK16 7 (some 35) ?_
        refine pU2 9 10 ?_
        refine tK16 11 (some 39) ?_
        refine pU6 12 13 14 16 20 22 ?_
        refine tK16 15 (some 43) ?_
        refine pU2 17 18 ?_
        refine tK16 19 (some 47) ?_
        refine tK16 21 (some 49) ?_
        refine pU2 23 24 ?_
        refine tK16 25 (some 53) ?_
        refine oN 26 (some 54) fun K hK => ?_
        refine gQ Tryz.func48 (iE.calls k2 _ _ ((aA aI sI).f1) _ _ ((aA nH sI).f1) false _ (pB o9) tU.1 (pB lY) pQ.1 Nf.out) ?_
        rintro w' ⟨nd, rfl⟩
        refine nK hK (uB2 a6 (uB2 aQ (uBx HB x9 (uBx HB xA (uBx HB xB (uBx HB oS (uBx HB oU (uBx HB oV (uBx HB nY (uBx HB nZ (uBx HB o0 (uBx HB l4 (uBx HB l5 (uAx HB l6)))))))))))))).1 fun hHeld => ?_
        clear hK K
        refine pU3 27 28 29 ?_
        refine pV8 30 31 32 33 34 35 36 37 ?_
        refine pV6 38 39 40 41 42 43 ?_
        refine pU1 44 ?_
        refine dN ?_
        try go_wp2
        go_ret
        exact ⟨eR, kO⟩
      ·obtain rfl := Option.some.inj H
       repeat clear H
       have Z32 := nZ1 dJ dL
       have yw := cz2 a6
       try go_wp2
       replace a6 := BD a6
       replace aQ := BD aQ
       replace HB := am (aY HB.1)
       obtain ⟨kS, rA, rD, rC, rE, tY, x9, xA, xB, nD, nE, nF, mY, pP, pR, tT, G8, GB⟩ := qK bV HB sI
       cases tY
       obtain ⟨u9, AF, AK, AG, AL, AO, oS, oU, oV, qV, mT, mU, qR, wZ, lX, oJ, QK, K4⟩ := qK qY HB sI
       cases AO
       refine sT [] 45 (uB2 a6 (uB2 aQ (uBx HB x9 (uBx HB xA (uBx HB xB (uBx HB oS (uBx HB oU (uAx HB oV)))))))) (fun hHeld => ?_)
       refine fP eX.tab6 eX.DL (fun HT_ HW_ => ?_)
       generalize wr.drew = w34 at a6 aQ HB mY pR qR lX nD nE nF qV mT mU hHeld ⊢
       refine pU4 0 2 6 8 ?_
       refine tK10 1 (some 29) ?_
       refine pU2 3 4 ?_
       refine tK10 5 (some 33) ?_
       refine tK10 7 (some 35) ?_
       refine pU2 9 10 ?_
       refine tK10 11 (some 39) ?_
       refine pU2 12 13 ?_
       refine pV8 14 15 16 17 18 19 20 21 ?_
       refine pV6 22 23 24 25 26 27 ?_
       refine pU2 28 29 ?_
       refine pV8 30 31 32 33 34 35 36 37 ?_
       refine pV6 38 39 40 41 42 43 ?_
       refine pU1 44 ?_
       refine dN ?_
       try go_wp2
       go_ret
       exact ⟨eR, kO⟩
     ·obtain rfl := Option.some.inj H
      repeat clear H
      have Z35 := nZ1 dJ dL
      have Z36 := cz2 a6
      go_wp2
      go_ret
      exact ⟨eR, kO⟩
end Go.Proofs.YtaofjgnhapnndaaGreat.Q
namespace Go.Proofs.YtaofjgnhapnndaaGreat.Q
open Go.RowKit Go.Proofs.YtaofjgnhapnndaaGreatW.PrintWords Go.Proofs.YtaofjgnhapnndaaGreatW.PrintLast Go.Proofs.YtaofjgnhapnndaaGreatW.PrintMore
set_option linter.unusedVariables false
set_option linter.unusedSimpArgs false
def kE.l0 : Nat → List ByteArray → ByteArray → Int → Option (Bool)
 | 0, _, _, _ => none
 | k + 1, b, c, a => if a < (b.length : Int) then (if 0 ≤ a then (if (rdOf ByteArray.empty b a).toList = c.toList then (some true) else (kE.l0 k b c (wrap64 (a + 1)))) else (none)) else (some false)
def kE.f (k : Nat) (l0 : List ByteArray) (a1 : ByteArray) : Option (Bool) := kE.l0 k l0 a1 0
theorem kE.calls (k : Nat) (A0 : Option Addr) (c0 : Nat) (l0 : List ByteArray) (a1 : ByteArray) (r : Bool) (w : World) (tM : Kd.C Kd.string w A0 l0.length l0) (yO : l0.length ≤ c0) (h : kE.f k l0 a1 = some r) :
  Calls Tryz.prog 53 #[.slice A0 l0.length c0, .string a1] w fun e w' => e = .returned (.bool r) ∧ kX w w' := by
 obtain ⟨tV, S0⟩ := mZ2 tM yO
 clear tM yO
 unfold kE.f at h
 have H := h
 clear h
 have H' := am H
 repeat clear H
 go_enter Tryz.func53, Tryz.ntmps53
 go_wp2
 go_loopg [5] k (fun kq v5 w' => ∃ (bR : Int), v5 = .int .i64 bR ∧ aC (kE.l0 kq l0 a1 bR = some r) ∧ aC (kq ≤ k) ∧ kX w w')
 case atStart => exact ⟨(0), dU, H', ⟨Nat.le_refl _⟩, iB⟩
 clear H'
 obtain ⟨bR, rfl, HA, HK1, ⟨m1, rfl⟩⟩ := hrel
 cases gk with
 | zero => exact absurd HA.out (by simp [kE.l0])
 | succ k1 =>
  have H := HA.out
  clear HA
  simp only [kE.l0] at H
  refine ic H ?_ ?_ <;> clear H <;> intro FS H
  ·obtain ⟨CH, H⟩ := cN H
   refine iq H ?_ ?_ <;> clear H <;> intro c5 FT aCF H
   ·obtain rfl := Option.some.inj H
    repeat clear H
    obtain ⟨kM, oE, lH, yE, yH⟩ := aS tV b0 bR
    cases oE
    go_wp2
    go_ret
    exact ⟨by first | rfl | (simp; done) | (simp [*]; done), iB⟩
   ·have H' := am H
    repeat clear H
    obtain ⟨kM, oE, lH, yE, yH⟩ := aS tV b0 bR
    cases oE
    go_wp2
    go_roundg k1
    case measure => have := HK1.out; omega
    case rel => exact ⟨(wrap64 (bR + 1)), dU, H', ⟨by have := HK1.out; omega⟩, iB⟩
  ·obtain rfl := Option.some.inj H
   repeat clear H
   go_wp2
   go_ret
   exact ⟨by first | rfl | (simp; done) | (simp [*]; done), iB⟩
mutual
def dY.l0 : Nat → ByteArray → List ByteArray → Int → List ByteArray → List (S52) → Option (List ByteArray)
 | 0, _, _, _, _, _ => none
 | k + 1, d, a, b, e, c => if b < (c.length : Int) then (dY.l1 k d a b 0 e c) else (some a)
def dY.l1 : Nat → ByteArray → List ByteArray → Int → Int → List ByteArray → List (S52) → Option (List ByteArray)
 | 0, _, _, _, _, _, _ => none
 | k + 1, c, e, a, d, f, b => if 0 ≤ a then (if a < (b.length : Int) then (if d < (((aA b a).f2).length : Int) then (dY.j2 k c e a d (((aA b a).f0).toList == c.toList) f b) else (dY.j2 k c e a d false f b)) else (none)) else (none)
def dY.j2 : Nat → ByteArray → List ByteArray → Int → Int → Bool → List ByteArray → List (S52) → Option (List ByteArray)
 | 0, _, _, _, _, _, _, _ => none
 | k + 1, e, d, a, c, h, g, b => if h = true then (if 0 ≤ a then (if a < (b.length : Int) then (if 0 ≤ c then (if c < (((aA b a).f2).length : Int) then ((kE.f k ((aA b a).f1) (rdOf ByteArray.empty ((aA b a).f2) c)).bind fun i => (if i = true then (dY.l1 k e d a (wrap64 (c + 1)) g b) else (if d.length < 8796093022208 then (dY.l1 k e (d ++ [rdOf ByteArray.empty ((aA b a).f2) c]) a (wrap64 (c + 1)) g b) else (none)))) else (none)) else (none)) else (none)) else (none)) else (dY.l0 k e d (wrap64 (a + 1)) g b)
end
def dY.f (k : Nat) (aZ : List ByteArray) (aI : List (S52)) (a1 : ByteArray) : Option (List ByteArray) := dY.l0 k a1 (([] : List ByteArray)) 0 aZ aI
theorem dY.calls (k : Nat) (eE : Option Addr) (eF : Nat) (aZ : List ByteArray) (eV : Option Addr) (eC : Nat) (aI : List (S52)) (a1 : ByteArray) (r : List ByteArray) (w : World) (gP : Kd.C Kd.string w eE aZ.length aZ) (gN : aZ.length ≤ eF) (gK : Kd.C k52 w eV aI.length aI) (gO : aI.length ≤ eC) (h : dY.f k aZ aI a1 = some r) :
  Calls Tryz.prog 18 #[.agg #[.slice eE aZ.length eF, .slice eV aI.length eC], .string a1] w fun e w' => ∃ v0_ : Value, e = .returned (v0_) ∧ Kd.R Kd.string 9 w' w.heap.size (fun _ => True) v0_ r ∧ Below w.heap.size w w' := by
 have hu26 := Tryz.underlying26
 obtain ⟨dT, dS⟩ := mZ2 gP gN
 obtain ⟨bV, eS⟩ := mZ2 gK gO
 clear gP gN gK gO
 have HB := am (Below.refl w.heap.size w)
 unfold dY.f at h
 have H := h
 clear h
 obtain ⟨Nb, hy102⟩ : ∃ y_ : List ByteArray, y_ = (([] : List ByteArray)) := ⟨_, rfl⟩
 replace H : (dY.l0 k a1 Nb 0 aZ aI) = some r := by first | (rw [hy102]; with_reducible exact H) | (have H2_ := (Option.bind_some _ _).symm.trans H; rw [hy102]; with_reducible exact H2_) | (have H2_ := (Option.bind_some _ _).symm.trans H; with_reducible exact H2_) | with_reducible exact H | (rw [hy102]; exact H) | exact H
 have PX := am hy102
 clear hy102
 have H' := am H
 repeat clear H
 go_enter Tryz.func18, Tryz.ntmps18
 go_wp2_with (first | ((with_reducible refine gD 2 ?_); refine bX 2 #[.slice eE aZ.length eF, .slice eV aI.length eC] 26 ?_; intro aW hg w3 hbox hb; have a6 := am hbox; have iS := am (u4 : w.heap.size ≤ aW); have j5 := iS; replace HB := bS iJ hb; clear hb hbox hg) | ((with_reducible refine jW (N := 8) rfl ?_); refine lS 9 8 PX ?_; intro Mx w4 Bf hb; have EL := am (Kd.dO Bf (aG fH)); replace a6 := bB d3 hb; replace HB := bS fH hb; clear hb Bf))
 repeat (go_quiet (first | ((with_reducible refine gD 2 ?_); refine bX 2 #[.slice eE aZ.length eF, .slice eV aI.length eC] 26 ?_; intro aW hg w3 hbox hb; have a6 := am hbox; have iS := am (u4 : w.heap.size ≤ aW); have j5 := am (u4 : w.heap.size ≤ aW); replace HB := bS iJ hb; clear hb hbox hg) | ((with_reducible refine jW (N := 8) rfl ?_); refine Kd.SI Kd.string _ 9 ?hg (N := 8) ?hd (xs := ([] : List ByteArray)) (inner := []) (ok := fun _ => True) (okp := fun _ => True) ?hr ?hp (fun _ hk => hk) trivial (Below.refl _ _) (Nat.le_refl _) (by simp) ?_; (case hd => rfl); (case hg => rfl); (case hr => first | (go_simp; done) | (go_simp; rfl)); (case hp => exact (Reps.none _ _)); intro Mx w4 Bf hb hg_ hnew_; clear hg_ hnew_; (first | rw [← PX.out] at Bf | (simp only [Int.reduceToNat] at Bf; rw [← PX.out] at Bf)); have EL := am (Kd.dO Bf (aG fH)); replace a6 := bB d3 hb; replace HB := bS fH hb; clear hb Bf)); try go_wp2_with (first | ((with_reducible refine gD 2 ?_); refine bX 2 #[.slice eE aZ.length eF, .slice eV aI.length eC] 26 ?_; intro aW hg w3 hbox hb; have a6 := am hbox; have iS := am (u4 : w.heap.size ≤ aW); have j5 := am (u4 : w.heap.size ≤ aW); replace HB := bS iJ hb; clear hb hbox hg) | ((with_reducible refine jW (N := 8) rfl ?_); refine Kd.SI Kd.string _ 9 ?hg (N := 8) ?hd (xs := ([] : List ByteArray)) (inner := []) (ok := fun _ => True) (okp := fun _ => True) ?hr ?hp (fun _ hk => hk) trivial (Below.refl _ _) (Nat.le_refl _) (by simp) ?_; (case hd => rfl); (case hg => rfl); (case hr => first | (go_simp; done) | (go_simp; rfl)); (case hp => exact (Reps.none _ _)); intro Mx w4 Bf hb hg_ hnew_; clear hg_ hnew_; (first | rw [← PX.out] at Bf | (simp only [Int.reduceToNat] at Bf; rw [← PX.out] at Bf)); have EL := am (Kd.dO Bf (aG fH)); replace a6 := bB d3 hb; replace HB := bS fH hb; clear hb Bf)))
 go_loopg [5, 6] k (fun kq v5 v6 w' => ∃ (bR : List ByteArray) (vB : Int), v6 = .int .i64 vB ∧ aC (dY.l0 kq a1 bR vB aZ aI = some r) ∧ aC (kq ≤ k) ∧ aC (Kd.R Kd.string 9 w' w.heap.size (fun _ => True) v5 bR) ∧ aC (w'.heap[aW]? = some (.cells #[(.slice eE aZ.length eF), (.slice eV aI.length eC)] 26 (0, 0))) ∧ aC (Below w.heap.size w w'))
 case atStart => exact ⟨(Nb), (0), dU, H', ⟨Nat.le_refl _⟩, ⟨rR EL.1⟩, ⟨rB a6.1⟩, ⟨fH⟩⟩
 clear H'
 obtain ⟨bR, vB, rfl, HA, HK1, HE, a6, HB⟩ := hrel
 cases gk with
 | zero => exact absurd HA.out (by simp [dY.l0])
 | succ k1 =>
  have H := HA.out
  clear HA
  simp only [dY.l0] at H
  refine ic H ?_ ?_ <;> clear H <;> intro MQ H
  ·have H' := am H
   repeat clear H
   have Z7 := cz2 a6
   go_wp2
   repeat (go_quiet (fail); try go_wp2)
   go_loopg [5, 7] k1 (fun kq v5 v7 w' => ∃ (sI : List ByteArray) (BS : Int), v7 = .int .i64 BS ∧ aC (dY.l1 kq a1 sI vB BS aZ aI = some r) ∧ aC (kq ≤ k1) ∧ aC (Kd.R Kd.string 9 w' w.heap.size (fun _ => True) v5 sI) ∧ aC (w'.heap[aW]? = some (.cells #[(.slice eE aZ.length eF), (.slice eV aI.length eC)] 26 (0, 0))) ∧ aC (Below w.heap.size w w'))
   case atStart => exact ⟨(bR), (0), dU, H', ⟨Nat.le_refl _⟩, ⟨rR HE.1⟩, ⟨rB a6.1⟩, ⟨fH⟩⟩
   case round =>
    clear H'
    try clear MQ
    try clear Z7
    obtain ⟨sI, BS, rfl, HA, HK2, HE, a6, HB⟩ := hrel
    cases gk with
    | zero => exact absurd HA.out (by simp [dY.l1])
    | succ k2 =>
     have H := HA.out
     clear HA
     simp only [dY.l1] at H
     have HC8 := am H
     clear H
     go_upto_region 6 with ((fail))
     repeat (go_quiet (fail); go_upto_region 6 with (fail))
     go_cut [34] (fun v34 wc => ∃ (kq : Nat) (Uk : Bool), v34 = .bool Uk ∧ aC (dY.j2 kq a1 sI vB BS Uk aZ aI = some r) ∧ aC (kq ≤ k2) ∧ aC (Kd.R Kd.string 9 wc w.heap.size (fun _ => True) u5 sI) ∧ aC (wc.heap[aW]? = some (.cells #[(.slice eE aZ.length eF), (.slice eV aI.length eC)] 26 (0, 0))) ∧ aC (Below w.heap.size w wc))
     case first =>
      have H := HC8.1
      clear HC8
      obtain ⟨FU, H⟩ := cN H
      (first | rw [FU] | (simp only [sD, wV]; rw [FU]) | skip)
      obtain ⟨I7, H⟩ := cN H
      refine ic H ?_ ?_ <;> clear H <;> intro I8 H
      ·have H' := am H
       repeat clear H
       have Ur := cz2 a6
       obtain ⟨u9, AF, AK, AG, AL, AO, qV, mT, mU, qR, wZ, lX, oJ, QK, K4⟩ := aT52 bV HB vB
       cases AO
       obtain ⟨tO, qG, qL, sK, sL, zH, oA, o1, o2, o9, tU, qS, x5, K1, F9⟩ := aT52 bV HB vB
       obtain rfl : u9 = tO := (by injection zH)
       obtain ⟨ea_, ec_⟩ := eZ2 mT o1
       subst ea_
       subst ec_
       obtain ⟨ea_, ec_⟩ := eZ2 mU o2
       subst ea_
       subst ec_
       go_wp2
       repeat (go_quiet (fail); try go_wp2)
       go_meet
       case rel => exact ⟨_, ((((aA aI vB).f0).toList == a1.toList)), dU, H', ⟨by have := HK1.out; have := HK2.out; first | omega | exact Nat.le_refl _⟩, ⟨rR HE.1⟩, ⟨rB a6.1⟩, ⟨fH⟩⟩
      ·have H' := am H
       repeat clear H
       have Us := cz2 a6
       obtain ⟨u9, AF, AK, AG, AL, AO, qV, mT, mU, qR, wZ, lX, oJ, QK, K4⟩ := aT52 bV HB vB
       cases AO
       go_wp2
       repeat (go_quiet (fail); try go_wp2)
       go_meet
       case rel => exact ⟨_, (false), dU, H', ⟨by have := HK1.out; have := HK2.out; first | omega | exact Nat.le_refl _⟩, ⟨rR HE.1⟩, ⟨rB a6.1⟩, ⟨fH⟩⟩
     case rest =>
      clear HC8
      try clear MQ
      try clear Z7
      obtain ⟨kq, Uk, rfl, HA, HJ7, HE, a6, HB⟩ := hcut
      cases kq with
      | zero => exact absurd HA.out (by simp [dY.j2])
      | succ kj7 =>
       have H := HA.out
       clear HA
       simp only [dY.j2] at H
       refine tC H ?_ ?_ <;> (repeat clear H) <;> intro Dl H <;> subst Dl
       ·obtain ⟨Ak, H⟩ := cN H
        obtain ⟨GY, H⟩ := cN H
        obtain ⟨Ii, H⟩ := cN H
        obtain ⟨I9, H⟩ := cN H
        obtain ⟨ZB, Nf, H⟩ := bd H
        refine tC H ?_ ?_ <;> clear H <;> intro bf H <;> subst bf
        ·have H' := am H
         repeat clear H
         have yq := cz2 a6
         obtain ⟨wN, BU, CF, BV, CG, FW, t6, m0, m3, lY, pQ, rU, zP, YQ, YX⟩ := aT52 bV HB vB
         cases FW
         obtain ⟨Q0, Nl, Qj, Nm, Qk, Eu, JN, JO, JP, R4, WT, MJ, He, qh, qv⟩ := aT52 bV HB vB
         obtain rfl : wN = Q0 := (by injection Eu)
         obtain ⟨ea_, ec_⟩ := eZ2 m0 JO
         subst ea_
         subst ec_
         obtain ⟨ea_, ec_⟩ := eZ2 m3 JP
         subst ea_
         subst ec_
         obtain ⟨Ad, Ew, NA, qi, qw⟩ := aS MJ HB BS
         cases Ew
         go_wp2_with (first | (go_at_call 53; refine cM (kE.calls kj7 _ _ ((aA aI vB).f1) (rdOf ByteArray.empty ((aA aI vB).f2) BS) true _ (pB lY) pQ.1 Nf.out) ?_; rintro w' ⟨nd, rfl⟩; (try exact dR)))
         repeat (go_quiet (first | (go_at_call 53; refine cM (kE.calls kj7 _ _ ((aA aI vB).f1) (rdOf ByteArray.empty ((aA aI vB).f2) BS) true _ (pB lY) pQ.1 Nf.out) ?_; rintro w' ⟨nd, rfl⟩; (try exact dR))); try go_wp2_with (first | (go_at_call 53; refine cM (kE.calls kj7 _ _ ((aA aI vB).f1) (rdOf ByteArray.empty ((aA aI vB).f2) BS) true _ (pB lY) pQ.1 Nf.out) ?_; rintro w' ⟨nd, rfl⟩; (try exact dR))))
         go_roundg kj7
         case measure => have := HK1.out; have := HK2.out; have := HJ7.out; omega
         case rel => exact ⟨(sI), (wrap64 (BS + 1)), dU, H', ⟨by have := HK1.out; have := HK2.out; have := HJ7.out; omega⟩, ⟨rR HE.1⟩, ⟨rB a6.1⟩, ⟨fH⟩⟩
        ·obtain ⟨Ox, H⟩ := cL H
         obtain ⟨Gv, SE⟩ := yv (sI ++ [rdOf ByteArray.empty ((aA aI vB).f2) BS]); first | replace H := bW SE H | rw [← SE.1] at H
         have H' := am H
         repeat clear H
         have yr := cz2 a6
         obtain ⟨wN, BU, CF, BV, CG, FW, t6, m0, m3, lY, pQ, rU, zP, YQ, YX⟩ := aT52 bV HB vB
         cases FW
         obtain ⟨Q0, Nl, Qj, Nm, Qk, Eu, JN, JO, JP, R4, WT, MJ, He, qh, qv⟩ := aT52 bV HB vB
         obtain rfl : wN = Q0 := (by injection Eu)
         obtain ⟨ea_, ec_⟩ := eZ2 m0 JO
         subst ea_
         subst ec_
         obtain ⟨ea_, ec_⟩ := eZ2 m3 JP
         subst ea_
         subst ec_
         obtain ⟨Ad, Ew, NA, qi, qw⟩ := aS MJ HB BS
         cases Ew
         go_wp2_with (first | (go_at_call 53; refine cM (kE.calls kj7 _ _ ((aA aI vB).f1) (rdOf ByteArray.empty ((aA aI vB).f2) BS) false _ (pB lY) pQ.1 Nf.out) ?_; rintro w' ⟨nd, rfl⟩; (try exact dR); obtain ⟨qZ, WI, XA, l8, lI, TC, DO, y9, xC, DG, J0, kZ, xZ, TR, TW⟩ := aT52 bV HB vB; obtain rfl : wN = qZ := (by injection TC); obtain ⟨ea_, ec_⟩ := eZ2 m0 y9; subst ea_; subst ec_; obtain ⟨ea_, ec_⟩ := eZ2 m3 xC; subst ea_; subst ec_; obtain ⟨oR, LD, yA, UK, UU⟩ := aS kZ HB BS; cases LD) | ((with_reducible refine lQ (b := .append) (xs := #[.tmp 54, .tmp 64]) rfl ?_); at_builtin; refine Kd.wT Kd.string (w0 := w) w.heap.size rfl (.tmp 54) (.tmp 64) 23 9 (.string ⟨#[]⟩) 16 rfl Tryz.underlying23 sQ rfl (by decide) (by omega) u5 sI (rdOf ByteArray.empty ((aA aI vB).f2) BS) [.string (rdOf ByteArray.empty ((aA aI vB).f2) BS)] (fun _ => True) (fun _ => False) rfl rfl ?aP (fun _ hk => hk.elim) ?aF ?aO ?aB ?aS ?aL ?_; (case aP => exact rfl); (case aB => exact fH); (case aF => exact (fun _ _ => trivial)); (case aO => exact (rR HE.1)); (case aS => exact (aG fH)); (case aL => have := Ox.out; omega); intro Ud w24 ho hb hg hat; rw [← SE.out] at ho; replace a6 := gkR d3 hg HE a6; replace HB := am hb; have GT := am ho; clear HE; clear ho hb hg hat))
         repeat (go_quiet (first | (go_at_call 53; refine cM (kE.calls kj7 _ _ ((aA aI vB).f1) (rdOf ByteArray.empty ((aA aI vB).f2) BS) false _ (pB lY) pQ.1 Nf.out) ?_; rintro w' ⟨nd, rfl⟩; (try exact dR); obtain ⟨qZ, WI, XA, l8, lI, TC, DO, y9, xC, DG, J0, kZ, xZ, TR, TW⟩ := aT52 bV HB vB; obtain rfl : wN = qZ := (by injection TC); have ea_ := Option.some.inj (m0.symm.trans y9); injection ea_ with ea_ en_ ec_; subst ea_; subst ec_; clear en_; have ea_ := Option.some.inj (m3.symm.trans xC); injection ea_ with ea_ en_ ec_; subst ea_; subst ec_; clear en_; obtain ⟨oR, LD, yA, UK, UU⟩ := aS kZ HB BS; cases LD) | ((with_reducible refine lQ (b := .append) (xs := #[.tmp 54, .tmp 64]) rfl ?_); at_builtin; refine Kd.wT Kd.string (w0 := w) w.heap.size rfl (.tmp 54) (.tmp 64) 23 9 (.string ⟨#[]⟩) 16 rfl Tryz.underlying23 sQ rfl (by decide) (by omega) u5 sI (rdOf ByteArray.empty ((aA aI vB).f2) BS) [.string (rdOf ByteArray.empty ((aA aI vB).f2) BS)] (fun _ => True) (fun _ => False) rfl rfl ?aP (fun _ hk => hk.elim) ?aF ?aO ?aB ?aS ?aL ?_; (case aP => exact rfl); (case aB => exact fH); (case aF => exact (fun _ _ => trivial)); (case aO => exact (rR HE.1)); (case aS => exact (aG fH)); (case aL => have := Ox.out; omega); intro Ud w24 ho hb hg hat; rw [← SE.out] at ho; replace a6 := gkR d3 hg HE a6; replace HB := am hb; have GT := am ho; clear HE; clear ho hb hg hat)); try go_wp2_with (first | (go_at_call 53; refine cM (kE.calls kj7 _ _ ((aA aI vB).f1) (rdOf ByteArray.empty ((aA aI vB).f2) BS) false _ (pB lY) pQ.1 Nf.out) ?_; rintro w' ⟨nd, rfl⟩; (try exact dR); obtain ⟨qZ, WI, XA, l8, lI, TC, DO, y9, xC, DG, J0, kZ, xZ, TR, TW⟩ := aT52 bV HB vB; obtain rfl : wN = qZ := (by injection TC); have ea_ := Option.some.inj (m0.symm.trans y9); injection ea_ with ea_ en_ ec_; subst ea_; subst ec_; clear en_; have ea_ := Option.some.inj (m3.symm.trans xC); injection ea_ with ea_ en_ ec_; subst ea_; subst ec_; clear en_; obtain ⟨oR, LD, yA, UK, UU⟩ := aS kZ HB BS; cases LD) | ((with_reducible refine lQ (b := .append) (xs := #[.tmp 54, .tmp 64]) rfl ?_); at_builtin; refine Kd.wT Kd.string (w0 := w) w.heap.size rfl (.tmp 54) (.tmp 64) 23 9 (.string ⟨#[]⟩) 16 rfl Tryz.underlying23 sQ rfl (by decide) (by omega) u5 sI (rdOf ByteArray.empty ((aA aI vB).f2) BS) [.string (rdOf ByteArray.empty ((aA aI vB).f2) BS)] (fun _ => True) (fun _ => False) rfl rfl ?aP (fun _ hk => hk.elim) ?aF ?aO ?aB ?aS ?aL ?_; (case aP => exact rfl); (case aB => exact fH); (case aF => exact (fun _ _ => trivial)); (case aO => exact (rR HE.1)); (case aS => exact (aG fH)); (case aL => have := Ox.out; omega); intro Ud w24 ho hb hg hat; rw [← SE.out] at ho; replace a6 := gkR d3 hg HE a6; replace HB := am hb; have GT := am ho; clear HE; clear ho hb hg hat)))
         go_roundg kj7
         case measure => have := HK1.out; have := HK2.out; have := HJ7.out; omega
         case rel => exact ⟨(Gv), (wrap64 (BS + 1)), dU, H', ⟨by have := HK1.out; have := HK2.out; have := HJ7.out; omega⟩, ⟨rR GT.1⟩, ⟨rB a6.1⟩, ⟨fH⟩⟩
       ·have H' := am H
        repeat clear H
        go_wp2
        repeat (go_quiet (fail); try go_wp2)
        go_roundg kj7
        case measure => have := HK1.out; have := HK2.out; have := HJ7.out; omega
        case rel => exact ⟨(sI), (wrap64 (vB + 1)), dU, H', ⟨by have := HK1.out; have := HK2.out; have := HJ7.out; omega⟩, ⟨rR HE.1⟩, ⟨rB a6.1⟩, ⟨fH⟩⟩
  ·obtain rfl := Option.some.inj H
   repeat clear H
   have Z25 := cz2 a6
   go_wp2
   repeat (go_quiet (fail); try go_wp2)
   go_ret
   exact ⟨_, eR, rR HE.1, fH⟩
end Go.Proofs.YtaofjgnhapnndaaGreat.Q
namespace Go.Proofs.YtaofjgnhapnndaaGreat.Q
open Go.RowKit Go.Proofs.YtaofjgnhapnndaaGreatW.PrintWords Go.Proofs.YtaofjgnhapnndaaGreatW.PrintLast Go.Proofs.YtaofjgnhapnndaaGreatW.PrintMore
set_option linter.unusedVariables false
set_option linter.unusedSimpArgs false
def bE (w0 W : World) (g : Nat) (f0 : List Int) (f1 : Int) : Prop := ∃ A0 c0, W.heap[g]? = some (.cells #[.slice A0 f0.length c0, .int .i64 f1] 68 (0, 0)) ∧ w0.heap.size ≤ g ∧ Kd.C (Kd.int .u8) w0 A0 f0.length f0
theorem bE.grown {w0 W : World} {g : Nat} {f0 : List Int} {f1 : Int} {W1 : World} {row : Option Nat} (h : bE w0 W g f0 f1) (hw : W.grownBy W1 row) (hne : some g ≠ row) : bE w0 W1 g f0 f1 := by
 obtain ⟨A0, c0, hb, hg, tM⟩ := h
 exact ⟨A0, c0, wC hb hw hne, hg, tM⟩
theorem bE.Xw {w0 W : World} {g : Nat} {f0 : List Int} {f1 : Int} {α : Type} {d : Kd α} {e : Nat} {base : Nat} {ok : Nat → Prop} {v : Value} {xs : List α} (h : bE w0 W g f0 f1) (ho : Kd.N d e W base ok v xs) (ht : e ≠ 68) : some g ≠ v.ownBlock := by
 obtain ⟨A0, c0, hb, hg, tM⟩ := h
 exact Kd.N_ne ho hb ht
theorem bE.fresh {w0 W : World} {g : Nat} {f0 : List Int} {f1 : Int} (h : bE w0 W g f0 f1) : ∀ k, W.heap.size ≤ k → k ≠ g := by
 obtain ⟨A0, c0, hb, hg, tM⟩ := h
 exact Kd.jD hb
theorem bE.kept {w0 W : World} {g : Nat} {f0 : List Int} {f1 : Int} {W1 : World} {S : Nat → Prop} (h : bE w0 W g f0 f1) (hk : Kept W W1 S) (hne : ¬ S g) : bE w0 W1 g f0 f1 := by
 obtain ⟨A0, c0, hb, hg, tM⟩ := h
 exact ⟨A0, c0, eB hb hk hne, hg, tM⟩
theorem bE.below {w0 W : World} {g : Nat} {f0 : List Int} {f1 : Int} {W1 : World} (h : bE w0 W g f0 f1) (hw : Below W.heap.size W W1) : bE w0 W1 g f0 f1 := h.grown (II hw none) (by simp)
theorem bE.alloc {w0 W : World} {g : Nat} {f0 : List Int} {f1 : Int} (h : bE w0 W g f0 f1) (o : Obj) : bE w0 (W.alloc o) g f0 f1 := h.below (cB (Below.refl _ _) o)
theorem bE.drewN {w0 W : World} {g : Nat} {f0 : List Int} {f1 : Int} (h : bE w0 W g f0 f1) (m : Nat) : bE w0 (W.drewN m) g f0 f1 := h
theorem bE.drew {w0 W : World} {g : Nat} {f0 : List Int} {f1 : Int} (h : bE w0 W g f0 f1) : bE w0 W.drew g f0 f1 := h
theorem bE.at_ {w0 W : World} {g : Nat} {f0 : List Int} {f1 : Int} {w' : World} {m : Nat} (hq : W.drewN m = w') (h : bE w0 W g f0 f1) : bE w0 w' g f0 f1 := by subst hq; exact bE.drewN h m
theorem bE.apart {w0 W : World} {g : Nat} {f0 : List Int} {f1 : Int} {α : Type} {d : Kd α} {e : Nat} {base : Nat} {ok : Nat → Prop} {v : Value} {xs : List α} (h : bE w0 W g f0 f1) (ho : d.R e W base ok v xs) (ht : ∀ q, q ∈ e :: d.E → q ≠ 68) : d.R e W base (fun k => ok k ∧ k ≠ g) v xs := by
 obtain ⟨A0, c0, hb, hg, tM⟩ := h
 exact Kd.gZ ho hb ht
theorem bE.own_ne {w0 W : World} {g : Nat} {f0 : List Int} {f1 : Int} {α : Type} {d : Kd α} {e : Nat} {base : Nat} {ok : Nat → Prop} {v : Value} {xs : List α} (h : bE w0 W g f0 f1) (ho : d.R e W base ok v xs) (ht : e ≠ 68) : some g ≠ v.ownBlock := by
 obtain ⟨A0, c0, hb, hg, tM⟩ := h
 exact Kd.R_ne ho hb ht
theorem bE.lt {w0 W : World} {g : Nat} {f0 : List Int} {f1 : Int} (h : bE w0 W g f0 f1) : g < W.heap.size := by
 obtain ⟨A0, c0, hb, hg, tM⟩ := h
 exact fO hb
theorem bE.ge {w0 W : World} {g : Nat} {f0 : List Int} {f1 : Int} (h : bE w0 W g f0 f1) : w0.heap.size ≤ g := by
 obtain ⟨A0, c0, hb, hg, tM⟩ := h
 exact hg
theorem bE.Su {w0 W : World} {g : Nat} {f0 : List Int} {f1 : Int} {a : Nat} {cs : Array Value} {t : TypeId} {fr : Nat × Nat} (h : bE w0 W g f0 f1) (hb2 : W.heap[a]? = some (.cells cs t fr)) (ht : t ≠ 68) : g ≠ a := by
 obtain ⟨A0, c0, hb, hg, tM⟩ := h
 rintro rfl
 rw [hb] at hb2
 injection hb2 with hb2
 injection hb2 with _ ht2
 exact ht ht2.symm
theorem bE.far {w0 W : World} {g : Nat} {f0 : List Int} {f1 : Int} {p : Addr} (h : bE w0 W g f0 f1) (hne : g ≠ p.block) (u : Value) : bE w0 (W.setCell p u) g f0 f1 := by
 obtain ⟨A0, c0, hb, hg, tM⟩ := h
 exact ⟨A0, c0, dD hb hne u, hg, tM⟩
theorem JE {W : World} {g : Nat} {A0 : Option Addr} {c0 : Nat} {f0 : List Int} {f1 : Int} (h : W.heap[g]? = some (.cells #[.slice A0 f0.length c0, .int .i64 f1] 68 (0, 0))) : W.cell? ⟨g, 0, none⟩ = some (.slice A0 f0.length c0) := (bP h 0).trans rfl
theorem JF {W : World} {g : Nat} {A0 : Option Addr} {c0 : Nat} {f0 : List Int} {f1 : Int} (h : W.heap[g]? = some (.cells #[.slice A0 f0.length c0, .int .i64 f1] 68 (0, 0))) : W.cell? ⟨g, 1, none⟩ = some (.int .i64 f1) := (bP h 1).trans rfl
theorem bE.FB {w0 W : World} {g : Nat} {f0 : List Int} {f1 : Int} (h : bE w0 W g f0 f1) (x : Int) : bE w0 (W.setCell ⟨g, 1, none⟩ (.int .i64 x)) g f0 x := by
 obtain ⟨A0, c0, hb, hg, tM⟩ := h
 exact ⟨A0, c0, by simpa using R8 hb 1 (.int .i64 x), hg, tM⟩
def vP.f (l0 : List Int) : Option (List Int × Int) := if (l0.length : Int) > 2000 then (if 2000 ≤ (l0.length : Int) then (some (l0.take 2000, 0)) else (none)) else (some (l0, 0))
theorem vP.calls (A0 : Option Addr) (c0 : Nat) (l0 : List Int) (r1 : List Int) (r2 : Int) (w0 w : World) (hB : Below w0.heap.size w0 w) (tM : Kd.C (Kd.int .u8) w0 A0 l0.length l0) (yO : l0.length ≤ c0) (h : vP.f l0 = some (r1, r2)) :
  Calls Tryz.prog 19 #[.slice A0 l0.length c0] w fun e w' => ∃ g_ : Nat, e = .returned (.pointer (some ⟨g_, 0, none⟩)) ∧ bE w0 w' g_ r1 r2 ∧ Below w0.heap.size w0 w' ∧ Below w.heap.size w w' := by
 have hu68 := Tryz.underlying68
 obtain ⟨tV, S0⟩ := mZ2 tM yO
 clear tM yO
 have HBW := am (Below.refl w.heap.size w)
 have HW0 := am hB.size
 have HB := am hB
 clear hB
 unfold vP.f at h
 have H := h
 clear h
 by_cases c2 : (l0.length : Int) > 2000
 ·rw [if_pos c2] at H
  have OX : decide (2000 < (l0.length : Int)) = true := decide_eq_true c2
  have XE : decide (2000 < l0.length) = true := decide_eq_true (by omega)
  clear c2
  obtain ⟨FS, Le, H⟩ := cP H
  obtain ⟨rfl, rfl⟩ := sZ2 H
  repeat clear H
  obtain ⟨i04, a2F, _, hsz4, _⟩ := info_parts info5
  obtain ⟨hcut4, hA4, hC4⟩ := EG (P := Tryz.prog) (Value.int .u8) 0 22 5 .i64 Tryz.underlying22 a2F hsz4 A0 c0 l0 2000 (by omega) (oT) S0.1
  have vx := am (Kd.xE (h1 := fun _ => rfl) (hA4 _ (Kd.vO tV.1)))
  have aGT := am hC4
  clear hA4 hC4 a2F hsz4
  go_enter Tryz.func19, Tryz.ntmps19
  go_wp2_with (first | ((with_reducible refine gD 10 ?_); refine bX 10 #[.slice A0 (l0.take 2000).length c0, .int .i64 0] 68 ?_; intro bK hg w5 hbox hb; replace HB := bS iJ hb; have aQ := am hbox; have qJ := am (by rw [hg]; exact (aG (by repeat (first | (with_reducible first | exact HBW.out | apply cB | apply bA | apply aY) | exact HBW.out))) : w.heap.size ≤ bK); have oI := am (Nat.le_trans HW0.out (by rw [hg]; exact (aG (by repeat (first | (with_reducible first | exact HBW.out | apply cB | apply bA | apply aY) | exact HBW.out))) : w.heap.size ≤ bK) : w0.heap.size ≤ bK); replace HBW := am (jB HBW.out hb); clear hb hbox hg))
  go_ret
  exact ⟨_, rfl, (show bE w0 _ bK (l0.take 2000) 0 from ⟨_, _, rB aQ.1, oI.1, vx.1⟩), by repeat (first | (with_reducible first | exact HB.1 | apply cB | apply bA | apply aY | refine aK ?_ oI.1) | exact HB.1), by repeat (first | (with_reducible first | exact HBW.out | apply cB | apply bA | apply aY | refine aK ?_ qJ.out) | exact HBW.out)⟩
 rw [if_neg c2] at H
 have OX : decide (2000 < (l0.length : Int)) = false := decide_eq_false c2
 have XE : decide (2000 < l0.length) = false := decide_eq_false (by omega)
 clear c2
 obtain ⟨rfl, rfl⟩ := sZ2 H
 repeat clear H
 go_enter Tryz.func19, Tryz.ntmps19
 go_wp2_with (first | ((with_reducible refine gD 10 ?_); refine bX 10 #[.slice A0 l0.length c0, .int .i64 0] 68 ?_; intro uT hg w6 hbox hb; replace HB := bS iJ hb; have kK := am hbox; have ZS := am (by rw [hg]; exact (aG (by repeat (first | (with_reducible first | exact HBW.out | apply cB | apply bA | apply aY) | exact HBW.out))) : w.heap.size ≤ uT); have K9 := am (Nat.le_trans HW0.out (by rw [hg]; exact (aG (by repeat (first | (with_reducible first | exact HBW.out | apply cB | apply bA | apply aY) | exact HBW.out))) : w.heap.size ≤ uT) : w0.heap.size ≤ uT); replace HBW := am (jB HBW.out hb); clear hb hbox hg))
 go_ret
 exact ⟨_, rfl, (show bE w0 _ uT l0 0 from ⟨_, _, rB kK.1, K9.1, tV.1⟩), by repeat (first | (with_reducible first | exact HB.1 | apply cB | apply bA | apply aY | refine aK ?_ K9.1) | exact HB.1), by repeat (first | (with_reducible first | exact HBW.out | apply cB | apply bA | apply aY | refine aK ?_ ZS.out) | exact HBW.out)⟩
def dZ.j0 : Nat → Int → Bool → List Int → Int → Option (Int × Int)
 | 0, _, _, _, _ => none
 | k + 1, c, d, a, b => if d = true then (some (0, b)) else (if (wrap64 (b - 1)) < (a.length : Int) then (if 0 ≤ (wrap64 (b - 1)) then (if c = 0 then (none) else (some (Int.tmod (wrap64 (rd a (wrap64 (b - 1)))) c, b))) else (none)) else (if (a.length : Int) = 0 then (none) else (if 0 ≤ (Int.tmod (wrap64 (b - 1)) (a.length : Int)) then (if (Int.tmod (wrap64 (b - 1)) (a.length : Int)) < (a.length : Int) then (if 0 ≤ (Int.tmod (wrap64 ((wrap64 ((wrap64 (b - 1)) * 7)) + 3)) (a.length : Int)) then (if (Int.tmod (wrap64 ((wrap64 ((wrap64 (b - 1)) * 7)) + 3)) (a.length : Int)) < (a.length : Int) then (if c = 0 then (none) else (some (Int.tmod (Go.bits .xor .i64 (wrap64 ((wrap64 ((wrap64 ((wrap64 ((wrap64 (rd a (Int.tmod (wrap64 (b - 1)) (a.length : Int)))) * 131)) + (wrap64 ((wrap64 (rd a (Int.tmod (wrap64 ((wrap64 ((wrap64 (b - 1)) * 7)) + 3)) (a.length : Int)))) * 1117)))) + (wrap64 ((wrap64 (b - 1)) * 29)))) + (wrap64 ((wrap64 (Int.tdiv (wrap64 (b - 1)) (a.length : Int))) * 53)))) (wrap64 (Int.tdiv (wrap64 ((wrap64 ((wrap64 ((wrap64 ((wrap64 (rd a (Int.tmod (wrap64 (b - 1)) (a.length : Int)))) * 131)) + (wrap64 ((wrap64 (rd a (Int.tmod (wrap64 ((wrap64 ((wrap64 (b - 1)) * 7)) + 3)) (a.length : Int)))) * 1117)))) + (wrap64 ((wrap64 (b - 1)) * 29)))) + (wrap64 ((wrap64 (Int.tdiv (wrap64 (b - 1)) (a.length : Int))) * 53)))) 64))) c, b))) else (none)) else (none)) else (none)) else (none))))
def dZ.f (k : Nat) (fX : List Int) (mI : Int) (a1 : Int) : Option (Int × Int) := if a1 < 1 then (dZ.j0 k a1 true fX (wrap64 (mI + 1))) else (dZ.j0 k a1 ((fX.length : Int) == 0) fX (wrap64 (mI + 1)))
theorem dZ.calls (k : Nat) (g : Nat) (fX : List Int) (mI : Int) (a1 : Int) (r1 : Int) (r2 : Int) (w0 w : World) (hI : bE w0 w g fX mI) (hB : Below w0.heap.size w0 w) (h : dZ.f k fX mI a1 = some (r1, r2)) :
  Calls Tryz.prog 21 #[.pointer (some ⟨g, 0, none⟩), .int .i64 a1] w fun e w' => e = .returned (.int .i64 r1) ∧ bE w0 w' g fX r2 ∧ Below w0.heap.size w0 w' ∧ bN w w' g none := by
 have uD := am hI
 have HK := am (bN.refl w g none)
 have HL := am hB.size
 clear hI
 have HW0 := am hB.size
 have HB := am hB
 clear hB
 unfold dZ.f at h
 have H := h
 clear h
 have ie := am H
 clear H
 obtain ⟨ASz4_0, cSz4_0, HGz4, hgz4, HSz4_0⟩ := uD.out
 have ph := JE HGz4
 have pi := JF HGz4
 have pj := gF HGz4 1
 clear HGz4 hgz4
 go_enter Tryz.func21, Tryz.ntmps21
 go_upto_region 2 with ((fail))
 repeat (go_quiet (fail); go_upto_region 2 with (fail))
 go_cut [24] (fun v24 wc => ∃ (kq : Nat) (Ki : Bool), v24 = .bool Ki ∧ aC (dZ.j0 kq a1 Ki fX (wrap64 (mI + 1)) = some (r1, r2)) ∧ aC (kq ≤ k) ∧ aC (bE w0 wc g fX (wrap64 (mI + 1))) ∧ aC (bN w wc g none) ∧ aC (Below w0.heap.size w0 wc))
 case first =>
  have H := ie.1
  clear ie
  by_cases c5 : a1 < 1
  ·rw [if_pos c5] at H
   have FT : decide (a1 < 1) = true := decide_eq_true c5
   clear c5
   (first | rw [FT] | (simp only [sD, wV]; rw [FT]) | skip)
   have H' := am H
   repeat clear H
   go_wp2
   repeat (go_quiet (fail); try go_wp2)
   go_meet
   exact ⟨_, (true), dU, H', ⟨by first | omega | exact Nat.le_refl _⟩, ⟨CU⟩, ⟨G9⟩, ⟨IP⟩⟩
  rw [if_neg c5] at H
  have FT : decide (a1 < 1) = false := decide_eq_false c5
  clear c5
  (first | rw [FT] | (simp only [sD, wV]; rw [FT]) | skip)
  have H' := am H
  repeat clear H
  obtain ⟨ASz6_0, cSz6_0, HGz6, hgz6, HSz6_0⟩ := uD.out
  have aE2 := JE HGz6
  have aE3 := JF HGz6
  have aEB := gF HGz6 1
  clear HGz6 hgz6
  go_wp2
  repeat (go_quiet (fail); try go_wp2)
  go_meet
  exact ⟨_, (((fX.length : Int) == 0)), dU, H', ⟨by first | omega | exact Nat.le_refl _⟩, ⟨CU⟩, ⟨G9⟩, ⟨IP⟩⟩
 clear ie
 try clear ph pi pj
 obtain ⟨kq, Ki, rfl, HA, HJ2, uD, HK, HB⟩ := hcut
 cases kq with
 | zero => exact absurd HA.out (by simp [dZ.j0])
 | succ kj2 =>
  have H := HA.out
  clear HA
  simp only [dZ.j0] at H
  by_cases c7 : Ki = true
  ·subst c7
   replace H := iT H
   obtain ⟨rfl, rfl⟩ := sZ2 H
   repeat clear H
   go_wp2
   repeat (go_quiet (fail); try go_wp2)
   go_ret
   exact ⟨eR, CU, IP, G9⟩
  ·replace c7 := Bool.eq_false_iff.mpr c7
   subst c7
   replace H := iF H
   by_cases c8 : (wrap64 ((wrap64 (mI + 1)) - 1)) < (fX.length : Int)
   ·rw [if_pos c8] at H
    have H3 : decide ((wrap64 ((wrap64 (mI + 1)) - 1)) < (fX.length : Int)) = true := decide_eq_true c8
    clear c8
    obtain ⟨ji9, hji9⟩ : ∃ j_ : Int, (wrap64 ((wrap64 (mI + 1)) - 1)) = j_ := ⟨_, rfl⟩
    replace H : (if 0 ≤ (ji9) then (if a1 = 0 then (none) else (some (Int.tmod (wrap64 (rd fX (ji9))) a1, (wrap64 (mI + 1))))) else (none)) = some (r1, r2) := by first | (rw [hji9] at H; exact H) | (simp only [hji9] at H ⊢; exact H)
    (try rw [hji9] at H3)
    have hji9w : (IntKind.i64.wrap ((wrap64 (mI + 1)) - 1)) = ji9 := (sD _).trans hji9
    by_cases Ai : 0 ≤ (ji9)
    ·rw [if_pos Ai] at H
     have I7 : decide (0 ≤ (ji9)) = true := decide_eq_true Ai
     clear Ai
     by_cases Ng : a1 = 0
     ·rw [if_pos Ng] at H
      exact absurd H (by simp)
     ·rw [if_neg Ng] at H
      have I8 : (a1 == 0) = false := beq_eq_false_iff_ne.mpr Ng
      have zw : (a1 != 0) = true := bne_iff_ne.mpr Ng
      obtain ⟨rfl, rfl⟩ := sZ2 H
      repeat clear H
      obtain ⟨ASz12_0, cSz12_0, HGz12, hgz12, HSz12_0⟩ := uD.out
      have a5P := JE HGz12
      have a5Q := JF HGz12
      have a6S := gF HGz12 1
      clear HGz12 hgz12
      have yE : 0 ≤ ((ji9) : Int) := oT
      have yH : (ji9) < (fX.length : Int) := oT
      obtain ⟨kM, oE, lH⟩ := Kd.Eg HSz12_0 (ji9) yE yH
      cases oE
      replace lH := uI HB.1 lH
      replace yE := eq_true yE
      replace yH := eq_true yH
      go_wp2
      repeat (go_quiet (fail); try go_wp2)
      go_ret
      exact ⟨by first | rfl | (simp [tH, tJ] <;> rfl) | (simp only [← hji9]; first | rfl | (simp [tH, tJ] <;> rfl)) | (simp [*, tH, tJ] <;> rfl), CU, IP, G9⟩
    ·rw [if_neg Ai] at H
     exact absurd H (by simp)
   ·rw [if_neg c8] at H
    have H3 : decide ((wrap64 ((wrap64 (mI + 1)) - 1)) < (fX.length : Int)) = false := decide_eq_false c8
    clear c8
    by_cases Lb : (fX.length : Int) = 0
    ·rw [if_pos Lb] at H
     exact absurd H (by simp)
    ·rw [if_neg Lb] at H
     have VI : ((fX.length : Int) == 0) = false := beq_eq_false_iff_ne.mpr Lb
     have zy : ((fX.length : Int) != 0) = true := bne_iff_ne.mpr Lb
     have aJW : ¬ (fX = []) := fun h_ => Lb (by rw [h_]; rfl)
     obtain ⟨ji14, hji14⟩ : ∃ j_ : Int, (Int.tmod (wrap64 ((wrap64 (mI + 1)) - 1)) (fX.length : Int)) = j_ := ⟨_, rfl⟩
     replace H : (if 0 ≤ (ji14) then (if (ji14) < (fX.length : Int) then (if 0 ≤ (Int.tmod (wrap64 ((wrap64 ((wrap64 ((wrap64 (mI + 1)) - 1)) * 7)) + 3)) (fX.length : Int)) then (if (Int.tmod (wrap64 ((wrap64 ((wrap64 ((wrap64 (mI + 1)) - 1)) * 7)) + 3)) (fX.length : Int)) < (fX.length : Int) then (if a1 = 0 then (none) else (some (Int.tmod (Go.bits .xor .i64 (wrap64 ((wrap64 ((wrap64 ((wrap64 ((wrap64 (rd fX (ji14))) * 131)) + (wrap64 ((wrap64 (rd fX (Int.tmod (wrap64 ((wrap64 ((wrap64 ((wrap64 (mI + 1)) - 1)) * 7)) + 3)) (fX.length : Int)))) * 1117)))) + (wrap64 ((wrap64 ((wrap64 (mI + 1)) - 1)) * 29)))) + (wrap64 ((wrap64 (Int.tdiv (wrap64 ((wrap64 (mI + 1)) - 1)) (fX.length : Int))) * 53)))) (wrap64 (Int.tdiv (wrap64 ((wrap64 ((wrap64 ((wrap64 ((wrap64 (rd fX (ji14))) * 131)) + (wrap64 ((wrap64 (rd fX (Int.tmod (wrap64 ((wrap64 ((wrap64 ((wrap64 (mI + 1)) - 1)) * 7)) + 3)) (fX.length : Int)))) * 1117)))) + (wrap64 ((wrap64 ((wrap64 (mI + 1)) - 1)) * 29)))) + (wrap64 ((wrap64 (Int.tdiv (wrap64 ((wrap64 (mI + 1)) - 1)) (fX.length : Int))) * 53)))) 64))) a1, (wrap64 (mI + 1))))) else (none)) else (none)) else (none)) else (none)) = some (r1, r2) := by first | (rw [hji14] at H; exact H) | (simp only [hji14] at H ⊢; exact H)
     by_cases ls : 0 ≤ (ji14)
     ·rw [if_pos ls] at H
      have Ak : decide (0 ≤ (ji14)) = true := decide_eq_true ls
      clear ls
      by_cases Al : (ji14) < (fX.length : Int)
      ·rw [if_pos Al] at H
       have GY : decide ((ji14) < (fX.length : Int)) = true := decide_eq_true Al
       clear Al
       obtain ⟨ji17, hji17⟩ : ∃ j_ : Int, (Int.tmod (wrap64 ((wrap64 ((wrap64 ((wrap64 (mI + 1)) - 1)) * 7)) + 3)) (fX.length : Int)) = j_ := ⟨_, rfl⟩
       replace H : (if 0 ≤ (ji17) then (if (ji17) < (fX.length : Int) then (if a1 = 0 then (none) else (some (Int.tmod (Go.bits .xor .i64 (wrap64 ((wrap64 ((wrap64 ((wrap64 ((wrap64 (rd fX (ji14))) * 131)) + (wrap64 ((wrap64 (rd fX (ji17))) * 1117)))) + (wrap64 ((wrap64 ((wrap64 (mI + 1)) - 1)) * 29)))) + (wrap64 ((wrap64 (Int.tdiv (wrap64 ((wrap64 (mI + 1)) - 1)) (fX.length : Int))) * 53)))) (wrap64 (Int.tdiv (wrap64 ((wrap64 ((wrap64 ((wrap64 ((wrap64 (rd fX (ji14))) * 131)) + (wrap64 ((wrap64 (rd fX (ji17))) * 1117)))) + (wrap64 ((wrap64 ((wrap64 (mI + 1)) - 1)) * 29)))) + (wrap64 ((wrap64 (Int.tdiv (wrap64 ((wrap64 (mI + 1)) - 1)) (fX.length : Int))) * 53)))) 64))) a1, (wrap64 (mI + 1))))) else (none)) else (none)) = some (r1, r2) := by first | (rw [hji17] at H; exact H) | (simp only [hji17] at H ⊢; exact H)
       by_cases Ld : 0 ≤ (ji17)
       ·rw [if_pos Ld] at H
        have I9 : decide (0 ≤ (ji17)) = true := decide_eq_true Ld
        clear Ld
        by_cases c19 : (ji17) < (fX.length : Int)
        ·rw [if_pos c19] at H
         have aK0 : decide ((ji17) < (fX.length : Int)) = true := decide_eq_true c19
         clear c19
         by_cases bf : a1 = 0
         ·rw [if_pos bf] at H
          exact absurd H (by simp)
         ·rw [if_neg bf] at H
          have a00 : (a1 == 0) = false := beq_eq_false_iff_ne.mpr bf
          have aK1 : (a1 != 0) = true := bne_iff_ne.mpr bf
          obtain ⟨rfl, rfl⟩ := sZ2 H
          repeat clear H
          obtain ⟨ASz21_0, cSz21_0, HGz21, hgz21, HSz21_0⟩ := uD.out
          have Xc := JE HGz21
          have Xd := JF HGz21
          have Xf := gF HGz21 1
          clear HGz21 hgz21
          have EE : 0 ≤ ((ji14) : Int) := oT
          have EH : (ji14) < (fX.length : Int) := oT
          obtain ⟨pJ, uM, oW⟩ := Kd.Eg HSz21_0 (ji14) EE EH
          cases uM
          replace oW := uI HB.1 oW
          replace EE := eq_true EE
          replace EH := eq_true EH
          have G7 : 0 ≤ ((ji17) : Int) := oT
          have GA : (ji17) < (fX.length : Int) := oT
          obtain ⟨pK, zG, sA⟩ := Kd.Eg HSz21_0 (ji17) G7 GA
          obtain rfl : pJ = pK := (by injection zG)
          replace sA := uI HB.1 sA
          replace G7 := eq_true G7
          replace GA := eq_true GA
          go_wp2
          repeat (go_quiet (fail); try go_wp2)
          go_ret
          exact ⟨by first | rfl | (simp [tH, tJ] <;> rfl) | (simp only [← hji14, ← hji17]; first | rfl | (simp [tH, tJ] <;> rfl)) | (simp [*, tH, tJ] <;> rfl), CU, IP, G9⟩
        ·rw [if_neg c19] at H
         exact absurd H (by simp)
       ·rw [if_neg Ld] at H
        exact absurd H (by simp)
      ·rw [if_neg Al] at H
       exact absurd H (by simp)
     ·rw [if_neg ls] at H
      exact absurd H (by simp)
def gL.l0 : Nat → List ByteArray → Int → List Int → Int → List ByteArray → Option (List ByteArray × (List (S52)) × Int)
 | 0, _, _, _, _, _ => none
 | k + 1, b, a, d, g, c => if a < (b.length : Int) then ((dZ.f k d g 5).bind fun e => (if e.1 > 0 then (if 0 ≤ a then (if c.length < 8796093022208 then (gL.l0 k b (wrap64 (a + 1)) d e.2 (c ++ [rdOf ByteArray.empty b a])) else (none)) else (none)) else (gL.l0 k b (wrap64 (a + 1)) d e.2 c))) else (some (c, ([] : List (S52)), g))
def gL.f (k : Nat) (fX : List Int) (mI : Int) : Option (List ByteArray × (List (S52)) × Int) := gL.l0 k (([(⟨#[106]⟩ : ByteArray), (⟨#[107, 101, 103]⟩ : ByteArray), (⟨#[116, 117, 110]⟩ : ByteArray), (⟨#[118, 97, 116]⟩ : ByteArray), (⟨#[119]⟩ : ByteArray)] : List ByteArray)) 0 fX mI ([] : List ByteArray)
def gL.T7 : Bool × List (List Nat × List Nat) := (true, [([], []), ([0], [0]), ([], []), ([], []), ([2, 3], [2, 3]), ([4], [4]), ([5], [5]), ([1, 6], [1, 6]), ([0, 1, 2, 3, 4, 5, 6, 7], []), ([8, 7, 7, 0, 1, 2, 3, 4, 5, 6, 7], [7, 8])])
def gL.B7 : List Nat := [0, 1, 0, 0, 12, 28, 60, 127, 255, 511]
theorem gL.tab7 : rtab .any (opsOf Tryz.f20 7) = gL.T7 := by kernel_rfl
theorem gL.KJ : o5 gL.T7.2 gL.B7 = true := by kernel_rfl
theorem gL.calls (k : Nat) (g : Nat) (fX : List Int) (mI : Int) (r1 : List ByteArray) (r2 : List (S52)) (r3 : Int) (w0 w : World) (hI : bE w0 w g fX mI) (hB : Below w0.heap.size w0 w) (h : gL.f k fX mI = some (r1, r2, r3)) :
  Calls Tryz.prog 20 #[.pointer (some ⟨g, 0, none⟩)] w fun e w' => ∃ v0_ : Value, e = .returned (.agg #[v0_, .slice none 0 0]) ∧ Kd.R Kd.string 9 w' w.heap.size (fun _ => True) v0_ r1 ∧ bE w0 w' g fX r3 ∧ Below w0.heap.size w0 w' ∧ bN w w' g none := by
 have hu26 := Tryz.underlying26
 have uD := am hI
 have HK := am (bN.refl w g none)
 have HL := am hB.size
 clear hI
 have HW0 := am hB.size
 have HB := am hB
 clear hB
 unfold gL.f at h
 have H := h
 clear h
 obtain ⟨GO, KI⟩ := yv (([(⟨#[106]⟩ : ByteArray), (⟨#[107, 101, 103]⟩ : ByteArray), (⟨#[116, 117, 110]⟩ : ByteArray), (⟨#[118, 97, 116]⟩ : ByteArray), (⟨#[119]⟩ : ByteArray)] : List ByteArray)); first | replace H := bW KI H | rw [← KI.1] at H
 have H' := am H
 repeat clear H
 go_enter Tryz.func20, Tryz.ntmps20
 go_wp2_with (first | ((with_reducible refine gD 2 ?_); refine bX 2 #[.slice none 0 0, .slice none 0 0] 26 ?_; intro aW hg w2 hbox hb; replace HB := bS IP hb; have a6 := am hbox; have iS := am (Yc : w.heap.size ≤ aW); have j5 := am (Nat.le_trans HW0.out (Yc : w.heap.size ≤ aW) : w0.heap.size ≤ aW); replace HK := kU w g G9 hb; have zR := am (by rw [hg]; exact Nat.ne_of_lt (bE.lt (show bE w0 _ g fX mI from CU)) : g ≠ aW); have oO := am (by rw [hg]; exact Nat.ne_of_gt (bE.lt (show bE w0 _ g fX mI from CU)) : aW ≠ g); replace uD := am (bE.below CU hb); clear hb hbox hg) | ((with_reducible refine gD 3 ?_); refine bX 3 #[.slice none 0 0, .slice none 0 0] 26 ?_; intro bK hg w3 hbox hb; replace HB := am (jB (by repeat (first | (with_reducible first | exact HB.1 | apply cB | apply bA | apply aY | refine aK ?_ (bE.ge uD.out) | refine aK ?_ j5.1) | exact HB.1)) hb); have aQ := am hbox; have qJ := am (Yb : w.heap.size ≤ bK); have oI := am (Nat.le_trans HW0.out (Yb : w.heap.size ≤ bK) : w0.heap.size ≤ bK); replace HK := kU w g a3H hb; have dJ := nL d3 hg; have dL := nG d3 hg; replace a6 := bB d3 hb; have DH := am (by rw [hg]; exact Nat.ne_of_lt (bE.lt (show bE w0 _ g fX mI from Mn)) : g ≠ bK); have pS := am (by rw [hg]; exact Nat.ne_of_gt (bE.lt (show bE w0 _ g fX mI from Mn)) : bK ≠ g); replace uD := am (bE.below Mn hb); clear hb hbox hg; have Z4 := nZ2 dL dJ pS DH; have Z6 := cz2 aQ) | ((with_reducible refine jW (N := 7) rfl ?_); refine lS 9 7 KI ?_; intro IV w7 dw hb; have mX := am (Kd.dO dw (kz w g LW)); replace a6 := am (aX (g := aW) (o := .cells #[.slice none 0 0, .slice none 0 0] 26 (0, 0)) (qF a6 dJ) hb); replace aQ := am (aX (g := bK) (o := .cells #[.slice none 0 0, .slice none 0 0] 26 (0, 0)) ue hb); replace HK := kU w g LW hb; replace HB := bS UM hb; replace uD := am (bE.below (show bE w0 ((w3.setCell ⟨bK, 0, none⟩ (.slice none 0 0)).setCell ⟨bK, 1, none⟩ (.slice none 0 0)) g fX mI from LV) hb); clear hb dw))
 go_loopg [5] k (fun kq v5 w' => ∃ (bR : Int) (uZ : Int) (zO : List ByteArray) (BP : Value), v5 = .int .i64 bR ∧ aC (gL.l0 kq GO bR fX uZ zO = some (r1, r2, r3)) ∧ aC (kq ≤ k) ∧ aC (Kd.R Kd.string 9 w' w.heap.size (fun k_ => some k_ ≠ (BP : Value).ownBlock) IV GO) ∧ aC (Kd.R Kd.string 9 w' w.heap.size (fun k_ => some k_ ≠ (IV : Value).ownBlock) BP zO) ∧ aC (w'.heap[aW]? = some (.cells #[(.slice none 0 0), (.slice none 0 0)] 26 (0, 0))) ∧ aC (w'.heap[bK]? = some (.cells #[BP, (.slice none 0 0)] 26 (0, 0))) ∧ aC (bE w0 w' g fX uZ) ∧ aC (bN w w' g none) ∧ aC (Below w0.heap.size w0 w'))
 case atStart => exact ⟨(0), (mI), (([] : List ByteArray)), (.slice none 0 0), dU, H', ⟨Nat.le_refl _⟩, ⟨by refine rR ?_; exact Kd.aT mX.1 (fun _ hk => (by simp [Value.ownBlock]))⟩, ⟨by first | exact Kd.sP _ _ _ _ _ | exact Kd.yR _ _ _ _ _ | exact Kd.yT _ _ _ _ _ | exact Kd.yS _ _ _ _ _ | exact Kd.wU _ _ _ _ _⟩, ⟨rB a6.1⟩, ⟨rB aQ.1⟩, ⟨LV⟩, ⟨LW⟩, ⟨UM⟩⟩
 clear H'
 try clear Z6
 obtain ⟨bR, uZ, zO, BP, rfl, HA, HK1, iG, oL, a6, aQ, uD, HK, HB⟩ := hrel
 cases gk with
 | zero => exact absurd HA.out (by simp [gL.l0])
 | succ k1 =>
  have H := HA.out
  clear HA
  simp only [gL.l0] at H
  refine ic H ?_ ?_ <;> clear H <;> intro FU H
  obtain ⟨⟨BO, bM⟩, sv, H⟩ := bd H
  dsimp only at H
  by_cases Ng : BO > 0
  rw [if_pos Ng] at H
  have I8 : decide (0 < BO) = true := decide_eq_true Ng
  clear Ng
  obtain ⟨SU, H⟩ := cN H
  obtain ⟨Ov, H⟩ := cL H
  obtain ⟨Yy, SC⟩ := yv (zO ++ [rdOf ByteArray.empty GO bR]); first | replace H := bW SC H | rw [← SC.1] at H
  have H' := am H
  repeat clear H
  obtain ⟨aQK, aCH, aD3⟩ := Kd.cZ iG.1
  subst aD3
  have jg := trivial
  rotate_left
  rw [if_neg Ng] at H
  have I8 : decide (0 < BO) = false := decide_eq_false Ng
  clear Ng
  have H' := am H
  repeat clear H
  obtain ⟨zV, p1, Fg⟩ := Kd.cZ iG.1
  subst Fg
  have jg := trivial
  rotate_left
  obtain ⟨rfl, rfl, rfl⟩ := sZ3 H
  repeat clear H
  obtain ⟨kF, jP, mx⟩ := Kd.cZ iG.1
  subst mx
  have yr := nZ2 dL dJ pS DH
  have Z25 := cz2 aQ
  obtain ⟨aAK, aCI, aD7⟩ := Kd.cZ oL.1
  subst aD7
  have Z27 := nZ1 oO zR
  have Z28 := cz2 a6
  rotate_left
  all_goals
   try go_wp2_with (first | ((with_reducible refine gC 21 ?_); revert jg; intro jg; refine cQ (some 15) Tryz.func21 (dZ.calls k1 g fX uZ 5 BO bM w0 _ (LV) (UM) sv.out) ?_; rintro a4K ⟨hi, hb, hk⟩; replace iG := am (Kd.aT (Kd.xG (bE.apart (show bE w0 _ g fX uZ from LV) F7 (by decide)) hk (fun _ h => h.2)) (fun _ h => h.1)); replace oL := am (Kd.aT (Kd.xG (bE.apart (show bE w0 _ g fX uZ from LV) (rR oL.1) (by decide)) hk (fun _ h => h.2)) (fun _ h => h.1)); replace a6 := kb d3 hk oO; replace aQ := kb eW hk pS; replace HK := kT w g LW hk; replace HB := am hb; replace uD := am hi; clear hb hk hi))
  ·replace iG := RD iG
   replace oL := RD oL
   replace a6 := BD a6
   replace aQ := BD aQ
   replace uD := am (bE.drew uD.out)
   replace HK := am (wG HK.out)
   replace HB := am (aY HB.1)
   obtain ⟨Q0, Eu, JN, qh, qv⟩ := aS (am (Kd.bH iG.1).2.2) b0 bR
   cases Eu
   refine sT (S := fun w' => w'.cell? ⟨bK, 0, none⟩ = some (BP) ∧ w'.cell? ⟨bK, 1, none⟩ = some (.slice none 0 0) ∧ w'.cell? (Q0.add (bR).toNat) = some (.string (rdOf ByteArray.empty GO bR))) [7, 9] 10 ⟨⟨(bP aQ.1 0).trans rfl, (bP aQ.1 1).trans rfl, JN⟩⟩ (fun hHeld => ?_)
   refine fP gL.tab7 gL.KJ (fun HT_ HW_ => ?_)
   generalize a4K.drew = w16 at iG oL a6 aQ uD HK HB JN hHeld ⊢
   refine pU4 0 2 3 4 ?_
   refine tK3 1 (some 18) ?_
   refine tK3 5 (some 22) ?_
   refine oN 6 (some 23) fun K hK => ?_
   refine M6 (w1 := ?_) (v := ?_) (by rfl) rfl ?_ ?_
   rotate_left 2
   ·go_simp
    constructor
    ·rfl
    ·rfl
   refine hK.out _ _ ⟨(bP (bF aQ.1 _) 0).trans rfl, (bP (bF aQ.1 _) 1).trans rfl, (World.cell?_alloc_lt _ _ _ (World.block_lt_of_cell? _ _ (hHeld.2.2))).trans (hHeld.2.2)⟩ (fun hHeld => ?_)
   clear hK K
   refine nM ?_
   refine lN 7 (some 24) fun K hK => ?_
   refine Kd.zT Kd.string w.heap.size (by rfl) (.tmp 18) (.tmp 23) 23 9 (.string ⟨#[]⟩) 16 rfl Tryz.underlying23 sQ rfl (by decide) (by omega) BP zO (rdOf ByteArray.empty GO bR) [.string (rdOf ByteArray.empty GO bR)] (fun k_ => some k_ ≠ (.slice (some Q0) GO.length aCH : Value).ownBlock) (fun _ => False) rfl rfl ?aP (fun _ hk => hk.elim) ?aF ?aO (Below.refl _ _) ?aS ?aL ?_
   (case aP => exact rfl)
   (case aF => exact (fun k_ hk => Kd.fresh' (Kd.R_lt F7) k_ hk))
   (case aO => exact (rR oL.1))
   (case aS => exact (kz w g LW))
   (case aL => have := Ov.out; omega)
   intro sc w17 ho hb hg hat
   rw [← SC.out] at ho
   replace iG := am (Kd.uP (ok := (fun _ => True)) (by refine rR ?_; exact Kd.aT iG.1 (fun _ hk => ⟨trivial, hk⟩)) hg hat)
   replace a6 := gkR d3 hg oL a6
   replace aQ := gkR eW hg oL aQ
   replace HB := am (FP UM HL.out hb)
   replace uD := am (bE.grown LV hg (bE.own_ne uD.out oL.1 (by decide)))
   replace HK := am (bN.trans LW (bN.F5 hg g) (Kd.X4 oL.1))
   have wM := am ho
   clear oL
   clear ho hb hg hat
   obtain ⟨jL, jC, Wu⟩ := Kd.cZ wM.1
   (first | subst Wu | (obtain ⟨f4_, f5_⟩ := sj Wu; subst f4_; subst f5_))
   refine hK.out _ _ ?_
   clear hK K
   refine nM ?_
   refine pU1 8 ?_
   refine lN 9 none fun K hK => ?_
   have aSV : w17.cell? ⟨bK, 0, none⟩ = some (BP) := (bP aQ.1 0).trans rfl
   have aLH := gF aQ.1 0
   have a8Z := dJ.1
   have a7V := dL.1
   refine AC (w1 := ?_) (by rfl) rfl ?_ ?_
   rotate_left
   ·go_simp
    rfl
   refine hK.out _ _ ?_
   clear hK K
   refine dN ?_
   try go_wp2
   go_roundg k1
   case measure => have := HK1.out; omega
   case rel => exact ⟨(wrap64 (bR + 1)), (bM), (Yy), (.slice jL Yy.length jC), dU, H', ⟨by have := HK1.out; omega⟩, ⟨by refine rR ?_; exact Kd.aT (fR (tR iG aQ)) (fun _ hk => hk.1.2)⟩, ⟨mR wM aQ⟩, ⟨qF a6 dJ⟩, ⟨by refine rB ?_; refine cO (cs := #[BP, .slice none 0 0]) ?_ 0 _ rfl; refine rB ?_; exact aQ.1⟩, ⟨LV⟩, ⟨LW⟩, ⟨UM⟩⟩
  ·go_roundg k1
   case measure => have := HK1.out; omega
   case rel => exact ⟨(wrap64 (bR + 1)), (bM), (zO), (BP), dU, H', ⟨by have := HK1.out; omega⟩, ⟨rR iG.1⟩, ⟨rR oL.1⟩, ⟨rB a6.1⟩, ⟨rB aQ.1⟩, ⟨LV⟩, ⟨LW⟩, ⟨UM⟩⟩
  ·refine cR aW 26 #[.slice aAK zO.length aCI, .slice none 0 0] (qP a6) Tryz.underlying26 ?_
   exact ⟨_, eR, mR oL a6, LV, UM, LW⟩
theorem TG {w W : World} {g n : Nat} {ad : Addr} {xs : List S52} (hf : ∀ W_, bN w W_ g none → Kd.C k52 W_ (some ad) n xs) (hk : bN w W g none) (i : Int) (h0 : 0 ≤ i) (h1 : i < n) {A2 : Option Addr} {c2 : Nat}
  (hx : W.cell? ⟨(ad.add (i.toNat * 3)).block, (ad.add (i.toNat * 3)).off + 2, none⟩ = some (.slice A2 (aA xs i).f2.length c2)) : ∀ W_, bN w W_ g none → Kd.C Kd.string W_ A2 (aA xs i).f2.length (aA xs i).f2 := by
 intro W_ hk_
 have hne : (⟨(ad.add (i.toNat * 3)).block, (ad.add (i.toNat * 3)).off + 2, none⟩ : Addr).block ≠ g := by
  show (ad.add (i.toNat * 3)).block ≠ g
  rw [add_block]
  exact Kd.uS hf (by omega) (by decide)
 obtain ⟨a, _, _, B, b, e, _, _, hw, _⟩ := CB (hf w (bN.refl w g none)) i h0 h1
 cases e
 have e1 := (wF hk hw hne).symm.trans hx
 obtain ⟨a, _, _, B2, b2, e, _, _, hw2, _, _, _, hc⟩ := CB (hf W_ hk_) i h0 h1
 cases e
 have e2 := (wF hk_ hw hne).symm.trans hw2
 injection e1 with e1
 injection e1 with e1 _ _
 injection e2 with e2
 injection e2 with e2 _ _
 rw [← e1, e2]
 exact hc
theorem Rl {w : World} {g n : Nat} {A : Option Addr} {l : List ByteArray} (h : ∀ W_, bN w W_ g none → Kd.C Kd.string W_ A n l) : ∀ ad, A = some ad → 0 < n → ad.block ≠ g := fun ad e hn => by
  subst e
  exact Kd.uS h hn (by decide)
def l7.f (k : Nat) (fX : List Int) (mI : Int) (l1 : List ByteArray) : Option (ByteArray × Int) := (dZ.f k fX mI (l1.length : Int)).bind fun a => (if 0 ≤ a.1 then (if a.1 < (l1.length : Int) then (some (rdOf ByteArray.empty l1 a.1, a.2)) else (none)) else (none))
theorem l7.calls (k : Nat) (g : Nat) (fX : List Int) (mI : Int) (A1 : Option Addr) (c1 : Nat) (l1 : List ByteArray) (r1 : ByteArray) (r2 : Int) (w0 w : World) (hI : bE w0 w g fX mI) (hB : Below w0.heap.size w0 w) (H5 : Kd.C Kd.string w A1 l1.length l1) (H4 : l1.length ≤ c1) (hf1 : ∀ ad, A1 = some ad → 0 < l1.length → ad.block ≠ g) (h : l7.f k fX mI l1 = some (r1, r2)) :
  Calls Tryz.prog 54 #[.pointer (some ⟨g, 0, none⟩), .slice A1 l1.length c1] w fun e w' => e = .returned (.string r1) ∧ bE w0 w' g fX r2 ∧ Below w0.heap.size w0 w' ∧ bN w w' g none := by
 obtain ⟨HH, KY⟩ := mZ2 H5 H4
 clear H5 H4
 have uD := am hI
 have HK := am (bN.refl w g none)
 have HL := am hB.size
 clear hI
 have HW0 := am hB.size
 have HB := am hB
 clear hB
 unfold l7.f at h
 have H := h
 clear h
 obtain ⟨⟨PJ, vA⟩, A3, H⟩ := bd H
 dsimp only at H
 obtain ⟨CH, H⟩ := cN H
 obtain ⟨FT, H⟩ := cN H
 obtain ⟨rfl, rfl⟩ := sZ2 H
 repeat clear H
 go_enter Tryz.func54, Tryz.ntmps54
 go_wp2_with (first | ((with_reducible refine gC 21 ?_); refine cQ (some 9) Tryz.func21 (dZ.calls k g fX mI (l1.length : Int) PJ vA w0 _ (CU) (IP) A3.out) ?_; rintro w6 ⟨hi, hb, hk⟩; replace HK := kT w g G9 hk; replace HB := am hb; replace uD := am hi; clear hb hk hi; have G7 : 0 ≤ (PJ : Int) := oT; have GA : PJ < (l1.length : Int) := oT; obtain ⟨pK, zG, sA⟩ := Kd.xP HH.1 PJ G7 GA; cases zG; replace sA := wF HK.out sA (by first | (rw [add_block]; exact hf1 _ rfl (by omega)) | exact hf1 _ rfl (by omega) | exact hf1 pK rfl (by omega)); replace G7 := eq_true G7; replace GA := eq_true GA))
 go_ret
 exact ⟨eR, CU, IP, G9⟩
def sG.f  : Option (List ByteArray) := some (([(⟨#[97, 108, 101]⟩ : ByteArray), (⟨#[98]⟩ : ByteArray), (⟨#[99, 45, 99]⟩ : ByteArray), (⟨#[100, 97, 114, 107]⟩ : ByteArray), (⟨#[120, 57]⟩ : ByteArray)] : List ByteArray))
theorem sG.calls  (r : List ByteArray) (w : World) (h : sG.f  = some r) :
  Calls Tryz.prog 55 #[] w fun e w' => ∃ v0_ : Value, e = .returned (v0_) ∧ Kd.R Kd.string 9 w' w.heap.size (fun _ => True) v0_ r ∧ Below w.heap.size w w' := by
 have HB := am (Below.refl w.heap.size w)
 unfold sG.f at h
 have H := h
 clear h
 obtain ⟨Dg, SA⟩ := yv (([(⟨#[97, 108, 101]⟩ : ByteArray), (⟨#[98]⟩ : ByteArray), (⟨#[99, 45, 99]⟩ : ByteArray), (⟨#[100, 97, 114, 107]⟩ : ByteArray), (⟨#[120, 57]⟩ : ByteArray)] : List ByteArray)); first | replace H := bW SA H | rw [← SA.1] at H
 obtain rfl := Option.some.inj H
 repeat clear H
 go_enter Tryz.func55, Tryz.ntmps55
 go_wp2_with (first | ((with_reducible refine jW (N := 1) rfl ?_); refine lS 9 1 SA ?_; intro Cz w1 Rv hb; have DC := am (Kd.dO Rv (aG iJ)); replace HB := bS iJ hb; clear hb Rv))
 go_ret
 exact ⟨_, eR, rR DC.1, iJ⟩
def iN.l0 : Nat → List ByteArray → Int → List ByteArray → Int → List Int → Int → Option (List ByteArray × Int)
 | 0, _, _, _, _, _, _ => none
 | k + 1, b, d, c, a, e, h => if a < (b.length : Int) then ((dZ.f k e h d).bind fun g => (if g.1 = 0 then (if 0 ≤ a then (if c.length < 8796093022208 then (iN.l0 k b d (c ++ [rdOf ByteArray.empty b a]) (wrap64 (a + 1)) e g.2) else (none)) else (none)) else (iN.l0 k b d c (wrap64 (a + 1)) e g.2))) else (some (c, h))
def iN.f (k : Nat) (fX : List Int) (mI : Int) (l1 : List ByteArray) (a2 : Int) : Option (List ByteArray × Int) := iN.l0 k l1 a2 (([] : List ByteArray)) 0 fX mI
theorem iN.calls (k : Nat) (g : Nat) (fX : List Int) (mI : Int) (A1 : Option Addr) (c1 : Nat) (l1 : List ByteArray) (a2 : Int) (r1 : List ByteArray) (r2 : Int) (w0 w : World) (hI : bE w0 w g fX mI) (hB : Below w0.heap.size w0 w) (H5 : Kd.C Kd.string w A1 l1.length l1) (H4 : l1.length ≤ c1) (hf1 : ∀ ad, A1 = some ad → 0 < l1.length → ad.block ≠ g) (h : iN.f k fX mI l1 a2 = some (r1, r2)) :
  Calls Tryz.prog 56 #[.pointer (some ⟨g, 0, none⟩), .slice A1 l1.length c1, .int .i64 a2] w fun e w' => ∃ v0_ : Value, e = .returned (v0_) ∧ Kd.R Kd.string 9 w' w.heap.size (fun _ => True) v0_ r1 ∧ bE w0 w' g fX r2 ∧ Below w0.heap.size w0 w' ∧ bN w w' g none := by
 obtain ⟨HH, KY⟩ := mZ2 H5 H4
 clear H5 H4
 have uD := am hI
 have HK := am (bN.refl w g none)
 have HL := am hB.size
 clear hI
 have HW0 := am hB.size
 have HB := am hB
 clear hB
 unfold iN.f at h
 have H := h
 clear h
 obtain ⟨Dg, hy101⟩ : ∃ y_ : List ByteArray, y_ = (([] : List ByteArray)) := ⟨_, rfl⟩
 replace H : (iN.l0 k l1 a2 Dg 0 fX mI) = some (r1, r2) := by first | (rw [hy101]; with_reducible exact H) | (have H2_ := (Option.bind_some _ _).symm.trans H; rw [hy101]; with_reducible exact H2_) | (have H2_ := (Option.bind_some _ _).symm.trans H; with_reducible exact H2_) | with_reducible exact H | (rw [hy101]; exact H) | exact H
 have SA := am hy101
 clear hy101
 have H' := am H
 repeat clear H
 go_enter Tryz.func56, Tryz.ntmps56
 go_wp2_with (first | ((with_reducible refine jW (N := 9) rfl ?_); refine lS 9 9 SA ?_; intro Cz w4 Bf hb; have DC := am (Kd.dO Bf (kz w g G9)); replace HK := kU w g G9 hb; replace HB := bS IP hb; replace uD := am (bE.below CU hb); clear hb Bf))
 go_loopg [7, 8] k (fun kq v7 v8 w' => ∃ (oG : List ByteArray) (AE : Int) (uZ : Int), v8 = .int .i64 AE ∧ aC (iN.l0 kq l1 a2 oG AE fX uZ = some (r1, r2)) ∧ aC (kq ≤ k) ∧ aC (Kd.R Kd.string 9 w' w.heap.size (fun _ => True) v7 oG) ∧ aC (bE w0 w' g fX uZ) ∧ aC (bN w w' g none) ∧ aC (Below w0.heap.size w0 w'))
 case atStart => exact ⟨(Dg), (0), (mI), dU, H', ⟨Nat.le_refl _⟩, ⟨rR DC.1⟩, ⟨CU⟩, ⟨G9⟩, ⟨IP⟩⟩
 clear H'
 try clear c1
 obtain ⟨oG, AE, uZ, rfl, HA, HK1, wO, uD, HK, HB⟩ := hrel
 cases gk with
 | zero => exact absurd HA.out (by simp [iN.l0])
 | succ k1 =>
  have H := HA.out
  clear HA
  simp only [iN.l0] at H
  refine ic H ?_ ?_ <;> clear H <;> intro MQ H
  ·obtain ⟨⟨dB, mV⟩, A7, H⟩ := bd H
   dsimp only at H
   refine iq H ?_ ?_ <;> clear H <;> intro c8 H3 aCG H
   ·obtain ⟨FU, H⟩ := cN H
    obtain ⟨Ou, H⟩ := cL H
    obtain ⟨V0, MN⟩ := yv (oG ++ [rdOf ByteArray.empty l1 AE]); first | replace H := bW MN H | rw [← MN.1] at H
    have H' := am H
    repeat clear H
    go_wp2_with (first | ((with_reducible refine gC 21 ?_); refine cQ (some 18) Tryz.func21 (dZ.calls k1 g fX uZ a2 dB mV w0 _ (CU) (IP) A7.out) ?_; rintro w11 ⟨hi, hb, hk⟩; replace wO := am (Kd.aT (Kd.xG (bE.apart (show bE w0 _ g fX uZ from CU) (rR wO.1) (by decide)) hk (fun _ h => h.2)) (fun _ h => h.1)); replace HK := kT w g G9 hk; replace HB := am hb; replace uD := am hi; clear hb hk hi; have K1 : 0 ≤ (AE : Int) := oT; have F9 : AE < (l1.length : Int) := oT; obtain ⟨tO, zH, oA⟩ := Kd.xP HH.1 AE K1 F9; cases zH; replace oA := wF HK.out oA (by first | (rw [add_block]; exact hf1 _ rfl (by omega)) | exact hf1 _ rfl (by omega) | exact hf1 tO rfl (by omega)); replace K1 := eq_true K1; replace F9 := eq_true F9) | ((with_reducible refine lQ (b := .append) (xs := #[.tmp 20, .tmp 25]) rfl ?_); at_builtin; refine Kd.wT Kd.string w.heap.size rfl (.tmp 20) (.tmp 25) 23 9 (.string ⟨#[]⟩) 16 rfl Tryz.underlying23 sQ rfl (by decide) (by omega) u7 oG (rdOf ByteArray.empty l1 AE) [.string (rdOf ByteArray.empty l1 AE)] (fun _ => True) (fun _ => False) rfl rfl ?aP (fun _ hk => hk.elim) ?aF ?aO (Below.refl _ _) ?aS ?aL ?_; (case aP => exact rfl); (case aF => exact (fun _ _ => trivial)); (case aO => exact (rR wO.1)); (case aS => exact (kz w g G9)); (case aL => have := Ou.out; omega); intro D0 w12 ho hb hg hat; rw [← MN.out] at ho; replace HB := am (FP IP HL.out hb); replace uD := am (bE.grown CU hg (bE.own_ne uD.out wO.1 (by decide))); replace HK := am (bN.trans G9 (bN.F5 hg g) (Kd.X4 wO.1)); have fD := am ho; clear wO; clear ho hb hg hat))
    go_roundg k1
    case measure => have := HK1.out; omega
    case rel => exact ⟨(V0), (wrap64 (AE + 1)), (mV), dU, H', ⟨by have := HK1.out; omega⟩, ⟨rR fD.1⟩, ⟨CU⟩, ⟨G9⟩, ⟨IP⟩⟩
   ·have H' := am H
    repeat clear H
    go_wp2_with (first | ((with_reducible refine gC 21 ?_); refine cQ (some 18) Tryz.func21 (dZ.calls k1 g fX uZ a2 dB mV w0 _ (CU) (IP) A7.out) ?_; rintro Na ⟨hi, hb, hk⟩; replace wO := am (Kd.aT (Kd.xG (bE.apart (show bE w0 _ g fX uZ from CU) (rR wO.1) (by decide)) hk (fun _ h => h.2)) (fun _ h => h.1)); replace HK := kT w g G9 hk; replace HB := am hb; replace uD := am hi; clear hb hk hi))
    go_roundg k1
    case measure => have := HK1.out; omega
    case rel => exact ⟨(oG), (wrap64 (AE + 1)), (mV), dU, H', ⟨by have := HK1.out; omega⟩, ⟨rR wO.1⟩, ⟨CU⟩, ⟨G9⟩, ⟨IP⟩⟩
  ·obtain ⟨rfl, rfl⟩ := sZ2 H
   repeat clear H
   go_wp2
   go_ret
   exact ⟨_, eR, rR wO.1, CU, IP, G9⟩
mutual
def bQ.j0 : Nat → Bool → List Int → Int → List ByteArray → List (S52) → Int → ByteArray → Option (Int × ByteArray × List ByteArray × Int)
 | 0, _, _, _, _, _, _, _ => none
 | k + 1, h, c, d, e, a, g, i => if h = true then ((dZ.f k c d (a.length : Int)).bind fun b => (if 0 ≤ b.1 then (if b.1 < (a.length : Int) then (bQ.j1 k c b.2 e a g ((aA a b.1).f0)) else (none)) else (none))) else (bQ.j1 k c d e a g i)
def bQ.j1 : Nat → List Int → Int → List ByteArray → List (S52) → Int → ByteArray → Option (Int × ByteArray × List ByteArray × Int)
 | 0, _, _, _, _, _, _ => none
 | k + 1, e, g, b, a, h, d => (iM.f k b a d).bind fun c => (if c ≥ 0 then (if 0 ≤ c then (if c < (a.length : Int) then (bQ.j2 k ((aA a c).f2) e g b a h d) else (none)) else (none)) else (bQ.j2 k b e g b a h d))
def bQ.j2 : Nat → List ByteArray → List Int → Int → List ByteArray → List (S52) → Int → ByteArray → Option (Int × ByteArray × List ByteArray × Int)
 | 0, _, _, _, _, _, _, _ => none
 | k + 1, c, b, i, d, e, g, h => (dZ.f k b i 9).bind fun a => (if a.1 = 0 then (bQ.j3 k c a.1 (a.1 == 0) b a.2 d e g h) else (if a.1 = 1 then (bQ.j3 k c a.1 (a.1 == 1) b a.2 d e g h) else (bQ.j3 k c a.1 (a.1 == 2) b a.2 d e g h)))
def bQ.j4 : Nat → List Int → Int → Int → ByteArray → List ByteArray → Option (Int × ByteArray × List ByteArray × Int)
 | 0, _, _, _, _, _ => none
 | k + 1, c, i, d, e, b => (dZ.f k c i 24).bind fun a => (if a.1 = 0 then ((l7.f k c a.2 (([(⟨#[]⟩ : ByteArray), (⟨#[97]⟩ : ByteArray), (⟨#[122, 122]⟩ : ByteArray), (⟨#[116, 117, 110]⟩ : ByteArray)] : List ByteArray))).bind fun g => (if b.length < 8796093022208 then (some (d, e, (b ++ [g.1]), g.2)) else (none))) else (if a.1 = 1 then ((l7.f k c a.2 (([(⟨#[]⟩ : ByteArray), (⟨#[65]⟩ : ByteArray), (⟨#[122, 122]⟩ : ByteArray)] : List ByteArray))).bind fun h => (some (d, h.1, b, h.2))) else (some (d, e, b, a.2))))
def bQ.j3 : Nat → List ByteArray → Int → Bool → List Int → Int → List ByteArray → List (S52) → Int → ByteArray → Option (Int × ByteArray × List ByteArray × Int)
 | 0, _, _, _, _, _, _, _, _, _ => none
 | k + 1, d, e, l, a, b, m, p, n, c => if l = true then ((sG.f).bind fun o => ((l7.f k a b o).bind fun g => ((iN.f k a g.2 m 2).bind fun h => (bQ.j4 k a h.2 1 g.1 h.1)))) else (if e = 3 then ((iN.f k a b d 2).bind fun i => (bQ.j4 k a i.2 3 c i.1)) else (if e = 4 then (bQ.j4 k a b 4 c ([] : List ByteArray)) else ((iN.f k a b d 2).bind fun j => (bQ.j4 k a j.2 n c j.1))))
end
def bQ.f (k : Nat) (fX : List Int) (mI : Int) (rF : List ByteArray) (nH : List (S52)) : Option (Int × ByteArray × List ByteArray × Int) := (sG.f).bind fun c => ((l7.f k fX mI c).bind fun a => (if (nH.length : Int) > 0 then ((dZ.f k fX a.2 8).bind fun b => (bQ.j0 k (decide (b.1 > 0)) fX b.2 rF nH 2 a.1)) else (bQ.j0 k false fX a.2 rF nH 2 a.1)))
def bQ.T3 : Bool × List (List Nat × List Nat) := (true, [([], []), ([0], [0]), ([], []), ([], []), ([3], [3]), ([4], [4]), ([2, 5], [2, 5]), ([1, 6], [1, 6]), ([7], [7]), ([8], [8]), ([0, 1, 2, 3, 4, 5, 6, 7, 8, 9], []), ([10, 9, 6, 0, 1, 2, 3, 4, 5, 6, 7, 8, 9], [9, 10])])
def bQ.B3 : List Nat := [0, 1, 0, 0, 8, 24, 60, 127, 255, 511, 1023, 2047]
theorem bQ.tab3 : rtab .any (opsOf Tryz.f22 3) = bQ.T3 := by kernel_rfl
theorem bQ.zt : o5 bQ.T3.2 bQ.B3 = true := by kernel_rfl
def bQ.T23 : Bool × List (List Nat × List Nat) := (true, [([], []), ([0], [0]), ([], []), ([], []), ([2, 3], [2, 3]), ([4], [4]), ([1, 5, 4], [1, 5]), ([0, 1, 2, 3, 4, 5, 6], []), ([7, 6, 6, 0, 1, 2, 3, 4, 5, 6], [6, 7])])
def bQ.B23 : List Nat := [0, 1, 0, 0, 12, 28, 63, 127, 255]
theorem bQ.a3T : rtab .any (opsOf Tryz.f22 23) = bQ.T23 := by kernel_rfl
theorem bQ.kw : o5 bQ.T23.2 bQ.B23 = true := by kernel_rfl
theorem bQ.calls (k : Nat) (g : Nat) (fX : List Int) (mI : Int) (EI : Option Addr) (FQ : Nat) (rF : List ByteArray) (H0 : Option Addr) (FR : Nat) (nH : List (S52)) (r1 : Int) (r2 : ByteArray) (r3 : List ByteArray) (r4 : Int) (w0 w : World) (hI : bE w0 w g fX mI) (hB : Below w0.heap.size w0 w) (Bi : Kd.C Kd.string w EI rF.length rF) (Bd : rF.length ≤ FQ) (hf1_0 : ∀ ad, EI = some ad → 0 < rF.length → ad.block ≠ g) (Bj : ∀ W_, bN w W_ g none → Kd.C k52 W_ H0 nH.length nH) (Be : nH.length ≤ FR) (h : bQ.f k fX mI rF nH = some (r1, r2, r3, r4)) :
  Calls Tryz.prog 22 #[.pointer (some ⟨g, 0, none⟩), .agg #[.slice EI rF.length FQ, .slice H0 nH.length FR]] w fun e w' => ∃ v2_ : Value, e = .returned (.agg #[.int .i64 r1, .string r2, v2_]) ∧ Kd.R Kd.string 9 w' w.heap.size (fun _ => True) v2_ r3 ∧ bE w0 w' g fX r4 ∧ Below w0.heap.size w0 w' ∧ bN w w' g none := by
 have hu26 := Tryz.underlying26
 have hu31 := Tryz.underlying31
 have V8 := am Bi
 have V5 := am Bd
 clear Bi Bd
 have qY := am Bj
 have Zk := am Be
 clear Bj Be
 have uD := am hI
 have HK := am (bN.refl w g none)
 have HL := am hB.size
 clear hI
 have HW0 := am hB.size
 have HB := am hB
 clear hB
 unfold bQ.f at h
 have H := h
 clear h
 obtain ⟨pN, A3, H⟩ := bd H
 obtain ⟨⟨BO, bM⟩, A4, H⟩ := bd H
 dsimp only at H
 have HC5 := am H
 clear H
 go_enter Tryz.func22, Tryz.ntmps22
 go_upto_region 2 with (first | ((with_reducible refine gD 3 ?_); refine bX 3 #[.slice EI rF.length FQ, .slice H0 nH.length FR] 26 ?_; intro aW hg w6 hbox hb; replace HB := bS IP hb; have a6 := am (hbox); have iS := am (Yc : w.heap.size ≤ aW); have j5 := am (Nat.le_trans HW0.out (Yc : w.heap.size ≤ aW) : w0.heap.size ≤ aW); replace HK := am (bN.trans (G9) (bN.of_below hb g none) (.inl rfl)); have zR := am (by rw [hg]; exact Nat.ne_of_lt (bE.lt (show bE w0 _ g fX mI from CU)) : g ≠ aW); have oO := am (by rw [hg]; exact Nat.ne_of_gt (bE.lt (show bE w0 _ g fX mI from CU)) : aW ≠ g); replace uD := am (bE.below (CU) hb); clear hb hbox hg) | ((with_reducible refine gD 4 ?_); refine bX 4 #[.int .i64 0, .string (⟨#[]⟩ : ByteArray), .slice none 0 0] 31 ?_; intro bK hg w7 hbox hb; replace HB := am (jB (by repeat (first | (with_reducible first | exact HB.1 | apply cB | apply bA | apply aY | refine aK ?_ (bE.ge uD.out) | refine aK ?_ j5.1) | exact HB.1)) hb); have aQ := am (hbox); have qJ := am (Yb : w.heap.size ≤ bK); have oI := am (Nat.le_trans HW0.out (Yb : w.heap.size ≤ bK) : w0.heap.size ≤ bK); replace HK := am (bN.trans (a3H) (bN.of_below hb g none) (.inl rfl)); have dJ := nL d3 hg; have dL := nG d3 hg; replace a6 := bB d3 hb; have DH := am (by rw [hg]; exact Nat.ne_of_lt (bE.lt (show bE w0 _ g fX mI from Mn)) : g ≠ bK); have pS := am (by rw [hg]; exact Nat.ne_of_gt (bE.lt (show bE w0 _ g fX mI from Mn)) : bK ≠ g); replace uD := am (bE.below (Mn) hb); clear hb hbox hg) | ((with_reducible refine gC 55 ?_); refine cE (some 9) Tryz.func55 (sG.calls  pN _ A3.out) ?_; rintro e w8 ⟨IV, rfl, eH, hb⟩; refine ⟨_, rfl, ?_⟩; have mX := am (Kd.dO eH (qE (w := w) (g := g) (row := none) (LW))); replace a6 := bB d3 hb; replace aQ := bB eW hb; replace HK := am (bN.trans (LW) (bN.of_below hb g none) (.inl rfl)); replace HB := bS UM hb; replace uD := am (bE.below (LV) hb); (try clear hb); (try clear eH); obtain ⟨EJ, EV, eo9⟩ := Kd.cZ mX.1; subst eo9) | ((with_reducible refine gC 54 ?_); refine cQ (some 10) Tryz.func54 (l7.calls k g fX mI _ _ pN BO bM w0 _ ((LV)) ((UM)) (pC (Kd.bH mX.1).2.2) ((Kd.bH mX.1).2.1) (EX (bE.own_ne uD.out mX.1 (by decide))) A4.out) ?_; rintro w10 ⟨hi, hb, hk⟩; replace a6 := kb d3 hk oO; replace aQ := kb eW hk pS; replace mX := am (Kd.aT (Kd.xG (bE.apart (show bE w0 _ g fX mI from LV) (rR mX.1) (by decide)) hk (fun _ h => h.2)) (fun _ h => h.1)); replace HK := am (bN.trans (LW) hk (.inl rfl)); replace HB := am (hb); replace uD := am (hi); (try clear hb); (try clear hk); (try clear hi)) | ((with_reducible refine gD 5 ?_); refine bX 5 #[.int .i64 0, .string (⟨#[]⟩ : ByteArray), .slice none 0 0] 31 ?_; intro o8 hg w11 hbox hb; replace mX := am (Kd.jA (rR mX.1) hb); replace HB := bS UM hb; have fE := am (hbox); have C0 := am (by rw [hg]; exact (qE (w := w) (g := g) (row := none) (LW)) : w.heap.size ≤ o8); have Hb := am (Nat.le_trans HW0.out (by rw [hg]; exact (qE (w := w) (g := g) (row := none) (LW)) : w.heap.size ≤ o8) : w0.heap.size ≤ o8); replace HK := am (bN.trans (LW) (bN.of_below hb g none) (.inl rfl)); have gV := nL d3 hg; have nQ := nG d3 hg; replace a6 := bB d3 hb; have iK := nL eW hg; have qB := nG eW hg; replace aQ := bB eW hb; have zS := am (by rw [hg]; exact Nat.ne_of_lt (bE.lt (show bE w0 _ g fX bM from LV)) : g ≠ o8); have oP := am (by rw [hg]; exact Nat.ne_of_gt (bE.lt (show bE w0 _ g fX bM from LV)) : o8 ≠ g); replace uD := am (bE.below (LV) hb); clear hb hbox hg; have aLN := nQ.1; have aMI := gV.1; have aLO := qB.1; have aMJ := iK.1; have aLP := oP.1; have aMK := zS.1; obtain ⟨MX, MY, MZ, N0, N1, N2⟩ := cz3 fE))
 (try simp only [Act.put, List.setIfInBounds_toArray, List.set_cons_zero, List.set_cons_succ])
 go_cut [20] (fun v20 wc => ∃ (kq : Nat) (Uh : Bool) (O8 : Int), v20 = .bool Uh ∧ aC (bQ.j0 kq Uh fX O8 rF nH 2 BO = some (r1, r2, r3, r4)) ∧ aC (kq ≤ k) ∧ aC (wc.heap[aW]? = some (.cells #[(.slice EI rF.length FQ), (.slice H0 nH.length FR)] 26 (0, 0))) ∧ aC (wc.heap[bK]? = some (.cells #[.int .i64 0, .string (⟨#[]⟩ : ByteArray), (.slice none 0 0)] 31 (0, 0))) ∧ aC (wc.heap[o8]? = some (.cells #[.int .i64 2, .string BO, (.slice none 0 0)] 31 (0, 0))) ∧ aC (bE w0 wc g fX O8) ∧ aC (bN w wc g none) ∧ aC (Below w0.heap.size w0 wc))
 case first =>
  have H := HC5.1
  clear HC5
  by_cases Al : (nH.length : Int) > 0
  ·rw [if_pos Al] at H
   have GY : decide (0 < (nH.length : Int)) = true := decide_eq_true Al
   have Qr : decide (0 < nH.length) = true := decide_eq_true (by omega)
   clear Al
   (first | rw [GY] | (simp only [sD, wV]; rw [GY]) | skip)
   obtain ⟨⟨CY, ZB⟩, A17, H⟩ := bd H
   dsimp only at H
   have H' := am H
   clear H
   have aLQ := dJ.1
   have aML := dL.1
   have aLR := gV.1
   have aMM := nQ.1
   have aLS := oO.1
   have aMN := zR.1
   obtain ⟨Xc, Xd, a6T, Xf⟩ := cz2 a6
   go_wp2_with (first | (go_at_call 21; refine cM (dZ.calls k g fX bM 8 CY ZB w0 _ ((tL)) ((wX)) A17.out) ?_; rintro uf ⟨hi, hb, hk⟩; replace a6 := am (bN.blk hk (g' := aW) (o := .cells #[.slice EI rF.length FQ, .slice H0 nH.length FR] 26 (0, 0)) (by refine rB ?_; refine dD ?_ gV.1 _; refine rB ?_; refine dD ?_ gV.1 _; refine rB ?_; refine dD ?_ gV.1 _; refine rB ?_; exact a6.1) oO.1 (by simp)); replace aQ := am (bN.blk hk (g' := bK) (o := .cells #[.int .i64 0, .string (⟨#[]⟩ : ByteArray), .slice none 0 0] 31 (0, 0)) (by refine rB ?_; refine dD ?_ iK.1 _; refine rB ?_; refine dD ?_ iK.1 _; refine rB ?_; refine dD ?_ iK.1 _; refine rB ?_; exact aQ.1) pS.1 (by simp)); replace mX := am (Kd.aT (Kd.xG (bE.apart (show bE w0 _ g fX bM from tL) (by refine rR ?_; exact (Kd.aT (fR (fR (fR (tR mX fE)))) (fun _ h_ => h_.1))) (by decide)) hk (fun _ h => h.2)) (fun _ h => h.1)); replace fE := am (bN.blk hk (g' := o8) (o := .cells #[.int .i64 2, .string BO, .slice none 0 0] 31 (0, 0)) (by refine rB ?_; refine cO (cs := #[.int .i64 2, .string BO, .slice none 0 0]) ?_ 2 _ rfl; refine rB ?_; refine cO (cs := #[.int .i64 2, .string (⟨#[]⟩ : ByteArray), .slice none 0 0]) ?_ 1 _ rfl; refine rB ?_; refine cO (cs := #[.int .i64 0, .string (⟨#[]⟩ : ByteArray), .slice none 0 0]) ?_ 0 _ rfl; refine rB ?_; exact fE.1) oP.1 (by simp)); replace HK := am (bN.trans (sE) hk (.inl rfl)); replace HB := am (hb); replace uD := am (hi); (try clear hb); (try clear hk); (try clear hi)))
   go_meet
   exact ⟨_, (decide (CY > 0)), (ZB), (dU), H', ⟨by first | omega | exact Nat.le_refl _⟩, ⟨rB a6.1⟩, ⟨rB aQ.1⟩, ⟨rB fE.1⟩, ⟨tL⟩, ⟨sE⟩, ⟨wX⟩⟩
  rw [if_neg Al] at H
  have GY : decide (0 < (nH.length : Int)) = false := decide_eq_false Al
  have Qr : decide (0 < nH.length) = false := decide_eq_false (by omega)
  clear Al
  (first | rw [GY] | (simp only [sD, wV]; rw [GY]) | skip)
  have H' := am H
  clear H
  have aLT := dJ.1
  have aMO := dL.1
  have aLU := gV.1
  have aMP := nQ.1
  have aLV := oO.1
  have aMQ := zR.1
  obtain ⟨a5R, a5S, a6U, a6V⟩ := cz2 a6
  go_wp2
  go_meet
  exact ⟨_, (false), (bM), (dU), H', ⟨by first | omega | exact Nat.le_refl _⟩, ⟨by refine rB ?_; refine dD ?_ gV.1 _; refine rB ?_; refine dD ?_ gV.1 _; refine rB ?_; refine dD ?_ gV.1 _; refine rB ?_; exact a6.1⟩, ⟨by refine rB ?_; refine dD ?_ iK.1 _; refine rB ?_; refine dD ?_ iK.1 _; refine rB ?_; refine dD ?_ iK.1 _; refine rB ?_; exact aQ.1⟩, ⟨by refine rB ?_; refine cO (cs := #[.int .i64 2, .string BO, .slice none 0 0]) ?_ 2 _ rfl; refine rB ?_; refine cO (cs := #[.int .i64 2, .string (⟨#[]⟩ : ByteArray), .slice none 0 0]) ?_ 1 _ rfl; refine rB ?_; refine cO (cs := #[.int .i64 0, .string (⟨#[]⟩ : ByteArray), .slice none 0 0]) ?_ 0 _ rfl; refine rB ?_; exact fE.1⟩, ⟨tL⟩, ⟨sE⟩, ⟨wX⟩⟩
 clear HC5
 try clear MX MY MZ N0 N1 N2
 obtain ⟨kq, Uh, O8, rfl, HA, HJ4, a6, aQ, fE, uD, HK, HB⟩ := hcut
 cases kq with
 | zero => exact absurd HA.out (by simp [bQ.j0])
 | succ kj4 =>
  have H := HA.out
  clear HA
  simp only [bQ.j0] at H
  have ib := am H
  clear H
  go_upto_if 20 with ((fail))
  go_cut [] (fun wc => ∃ (kq : Nat) (FF : Int) (kH : ByteArray), aC (bQ.j1 kq fX FF rF nH 2 kH = some (r1, r2, r3, r4)) ∧ aC (kq ≤ kj4) ∧ aC (wc.heap[aW]? = some (.cells #[(.slice EI rF.length FQ), (.slice H0 nH.length FR)] 26 (0, 0))) ∧ aC (wc.heap[bK]? = some (.cells #[.int .i64 0, .string (⟨#[]⟩ : ByteArray), (.slice none 0 0)] 31 (0, 0))) ∧ aC (wc.heap[o8]? = some (.cells #[.int .i64 2, .string kH, (.slice none 0 0)] 31 (0, 0))) ∧ aC (bE w0 wc g fX FF) ∧ aC (bN w wc g none) ∧ aC (Below w0.heap.size w0 wc))
  case first =>
   have H := ib.1
   clear ib
   refine tC H ?_ ?_ <;> (repeat clear H) <;> intro c28 H <;> subst c28
   ·obtain ⟨⟨bZ, PK⟩, A29, H⟩ := bd H
    dsimp only at H
    obtain ⟨MP, H⟩ := cN H
    (first | rw [MP] | (simp only [sD, wV]; rw [MP]) | skip)
    obtain ⟨a09, H⟩ := cN H
    have H' := am H
    clear H
    try go_wp2
    replace a6 := am (cK a6.1)
    replace aQ := am (cK aQ.1)
    replace fE := am (cK fE.1)
    replace uD := am (bE.drew uD.out)
    replace HK := am (wG HK.out)
    replace HB := am (aY HB.1)
    have qj : 0 ≤ (bZ : Int) := oT
    have qx : bZ < (nH.length : Int) := oT
    obtain ⟨I2, fj, lm, fk, ln, aCU, YG, YH, YI, Jj, Jc, Jk, Jd⟩ := CB (Kd.KX qY.1 HK.out) bZ qj qx
    have a9F := YI
    have a9E := YH
    have a9D := YG
    cases aCU
    have hne113_2 := (show (⟨(I2.add ((bZ).toNat * 3)).block, (I2.add ((bZ).toNat * 3)).off + 2, none⟩ : Addr).block ≠ g from by first | (rw [add_block]; exact Kd.uS qY.1 (by omega) (by decide)) | (show (Addr.add _ _).block ≠ _; rw [add_block]; exact Kd.uS qY.1 (by omega) (by decide)) | exact Kd.uS qY.1 (by omega) (by decide) | (dsimp only; exact Kd.uS qY.1 (by omega) (by decide)))
    have hlt113_2 := (Kd.XU qY.1 (by omega) (by decide))
    have hne113_1 := (show (⟨(I2.add ((bZ).toNat * 3)).block, (I2.add ((bZ).toNat * 3)).off + 1, none⟩ : Addr).block ≠ g from by first | (rw [add_block]; exact Kd.uS qY.1 (by omega) (by decide)) | (show (Addr.add _ _).block ≠ _; rw [add_block]; exact Kd.uS qY.1 (by omega) (by decide)) | exact Kd.uS qY.1 (by omega) (by decide) | (dsimp only; exact Kd.uS qY.1 (by omega) (by decide)))
    have hlt113_1 := (Kd.XU qY.1 (by omega) (by decide))
    have hne113_0 := (show ((I2.add ((bZ).toNat * 3)) : Addr).block ≠ g from by first | (rw [add_block]; exact Kd.uS qY.1 (by omega) (by decide)) | (show (Addr.add _ _).block ≠ _; rw [add_block]; exact Kd.uS qY.1 (by omega) (by decide)) | exact Kd.uS qY.1 (by omega) (by decide) | (dsimp only; exact Kd.uS qY.1 (by omega) (by decide)))
    have hlt113_0 := (Kd.XU qY.1 (by omega) (by decide))
    have Vo := am Jc
    have a4S := am Jj
    clear Jc Jj
    have Vp := am Jd
    have a4T := am Jk
    clear Jd Jk
    replace qj := eq_true qj
    replace qx := eq_true qx
    refine sT (S := fun w' => w'.cell? ⟨aW, 0, none⟩ = some (.slice EI rF.length FQ) ∧ w'.cell? ⟨aW, 1, none⟩ = some (.slice (some I2) nH.length FR) ∧ w'.cell? (I2.add ((bZ).toNat * 3)) = some (.string ((aA nH bZ).f0)) ∧ w'.cell? ⟨(I2.add ((bZ).toNat * 3)).block, (I2.add ((bZ).toNat * 3)).off + 1, none⟩ = some (.slice fj ((aA nH bZ).f1).length lm) ∧ w'.cell? ⟨(I2.add ((bZ).toNat * 3)).block, (I2.add ((bZ).toNat * 3)).off + 2, none⟩ = some (.slice fk ((aA nH bZ).f2).length ln)) [] 12 ⟨⟨(bP a6.1 0).trans rfl, (bP a6.1 1).trans rfl, YG, YH, YI⟩⟩ (fun hHeld => ?_); refine fP bQ.tab3 bQ.zt (fun HT_ HW_ => ?_)
    generalize wc.drew = w32 at a6 aQ fE uD HK HB Vo Vp YG YH YI hHeld ⊢
    refine pU 0 (some 21) ?_
    refine pU 2 (some 23) ?_
    refine pU 3 (some 24) ?_
    refine tK5 1 (some 22) ?_
    refine tK5 4 (some 25) ?_
    refine pU 5 (some 26) ?_
    refine oN 6 (some 27) fun K hK => ?_
    refine GZ Tryz.func21 (by kernel_rfl) rfl #[.pointer (some ⟨g, 0, none⟩), .int .i64 (nH.length : Int)] (by rfl) rfl rfl (AS) ?_
    with_reducible refine (dZ.calls kj4 g fX O8 (nH.length : Int) bZ PK w0 _ ?side1 ?side2 A29.out).mono ?_
    (case side1 => exact (tL))
    (case side2 => exact (wX))
    rintro e w33 ⟨rfl, hi, hb, hk⟩
    have HS2_ := wF hk (hHeld.2.2.1) (by first | (rw [add_block]; exact hne113_0) | (show (Addr.add _ _).block ≠ _; rw [add_block]; exact hne113_0) | exact hne113_0)
    have HS3_ := wF hk (hHeld.2.2.2.1) (by first | (rw [add_block]; exact hne113_1) | (show (Addr.add _ _).block ≠ _; rw [add_block]; exact hne113_1) | exact hne113_1)
    have HS4_ := wF hk (hHeld.2.2.2.2) (by first | (rw [add_block]; exact hne113_2) | (show (Addr.add _ _).block ≠ _; rw [add_block]; exact hne113_2) | exact hne113_2)
    refine ⟨_, rfl, ?_⟩
    replace a6 := kb d3 hk oO
    replace aQ := kb eW hk pS
    replace fE := kb K3 hk oP
    replace HK := am (bN.trans (sE) hk (.inl rfl))
    replace HB := am (hb)
    replace uD := am (hi)
    (try clear hb)
    (try clear hb2)
    (try clear hk)
    (try clear hi)
    refine hK.out _ _ ⟨(bP a6.1 0).trans rfl, (bP a6.1 1).trans rfl, HS2_, HS3_, HS4_⟩ (fun hHeld => ?_)
    clear hK K
    refine nM ?_
    refine pU 7 (some 28) ?_
    refine pU 8 (some 29) ?_
    refine tK5 9 (some 30) ?_
    refine pU 10 (some 31) ?_
    refine oN 11 none fun K hK => ?_
    have aSY : w33.cell? ⟨o8, 1, none⟩ = some (.string BO) := (bP fE.1 1).trans rfl
    have aLK := gF fE.1 1
    have a97 := gV.1
    have a98 := iK.1
    have a88 := nQ.1
    have a8A := qB.1
    refine AC (w1 := ?_) (by rfl) rfl ?_ ?_
    rotate_left
    ·go_simp
     rfl
    refine hK.out _ _ ⟨((cell_far (p := ⟨o8, _, none⟩) gV.1 _).trans (hHeld.1)), ((cell_far (p := ⟨o8, _, none⟩) gV.1 _).trans (hHeld.2.1)), ((cell_far (p := ⟨o8, _, none⟩) (by first | exact Nat.ne_of_lt (Nat.lt_of_lt_of_le hlt113_0 C0.out) | (rw [add_block]; exact Nat.ne_of_lt (Nat.lt_of_lt_of_le hlt113_0 C0.out)) | (show (Addr.add _ _).block ≠ _; rw [add_block]; exact Nat.ne_of_lt (Nat.lt_of_lt_of_le hlt113_0 C0.out)) | (dsimp only; exact Nat.ne_of_lt (Nat.lt_of_lt_of_le hlt113_0 C0.out))) _).trans (hHeld.2.2.1)), ((cell_far (p := ⟨o8, _, none⟩) (by first | exact Nat.ne_of_lt (Nat.lt_of_lt_of_le hlt113_1 C0.out) | (rw [add_block]; exact Nat.ne_of_lt (Nat.lt_of_lt_of_le hlt113_1 C0.out)) | (show (Addr.add _ _).block ≠ _; rw [add_block]; exact Nat.ne_of_lt (Nat.lt_of_lt_of_le hlt113_1 C0.out)) | (dsimp only; exact Nat.ne_of_lt (Nat.lt_of_lt_of_le hlt113_1 C0.out))) _).trans (hHeld.2.2.2.1)), ((cell_far (p := ⟨o8, _, none⟩) (by first | exact Nat.ne_of_lt (Nat.lt_of_lt_of_le hlt113_2 C0.out) | (rw [add_block]; exact Nat.ne_of_lt (Nat.lt_of_lt_of_le hlt113_2 C0.out)) | (show (Addr.add _ _).block ≠ _; rw [add_block]; exact Nat.ne_of_lt (Nat.lt_of_lt_of_le hlt113_2 C0.out)) | (dsimp only; exact Nat.ne_of_lt (Nat.lt_of_lt_of_le hlt113_2 C0.out))) _).trans (hHeld.2.2.2.2))⟩ (fun hHeld => ?_)
    clear hK K
    refine VM (XP HT_.out (by kernel_rfl)) ?_
    try go_wp2
    go_meet
    case rel => exact ⟨_, (PK), ((aA nH bZ).f0), H', ⟨by have := HJ4.out; first | omega | exact Nat.le_refl _⟩, ⟨by refine rB ?_; refine dD ?_ gV.1 _; refine rB ?_; exact a6.1⟩, ⟨by refine rB ?_; refine dD ?_ iK.1 _; refine rB ?_; exact aQ.1⟩, ⟨by refine rB ?_; refine cO (cs := #[.int .i64 2, .string BO, .slice none 0 0]) ?_ 1 _ rfl; refine rB ?_; exact fE.1⟩, ⟨tL⟩, ⟨sE⟩, ⟨wX⟩⟩
   ·have H' := am H
    clear H
    go_wp2
    go_meet
    case rel => exact ⟨_, (O8), (BO), H', ⟨by have := HJ4.out; first | omega | exact Nat.le_refl _⟩, ⟨rB a6.1⟩, ⟨rB aQ.1⟩, ⟨rB fE.1⟩, ⟨tL⟩, ⟨sE⟩, ⟨wX⟩⟩
  case rest =>
   clear ib
   try clear MX MY MZ N0 N1 N2
   obtain ⟨kq, FF, kH, HA, WX, a6, aQ, fE, uD, HK, HB⟩ := hcut
   cases kq with
   | zero => exact absurd HA.out (by simp [bQ.j1])
   | succ kj26 =>
    have H := HA.out
    clear HA
    simp only [bQ.j1] at H
    obtain ⟨O2, A35, H⟩ := bd H
    have ig := am H
    clear H
    have aLW := dJ.1
    have aMR := dL.1
    have aLX := gV.1
    have aMS := nQ.1
    have aLY := oO.1
    have aMT := zR.1
    obtain ⟨XY, XZ, Y8, Y9⟩ := cz2 a6
    have aLZ := qB.1
    have aMU := iK.1
    have aM0 := oP.1
    have aMV := zS.1
    obtain ⟨Y0, Y1, Y2, YA, YB, YC⟩ := cz3 fE
    go_upto_if 39 with (first | ((with_reducible refine gC 35 ?_); refine cQ (some 35) Tryz.func35 (iM.calls kj26 _ _ rF _ _ nH kH O2 _ (Kd.WS (⟨#[]⟩ : ByteArray) V8.1 (sE) hf1_0) V5.1 (Kd.KX qY.1 (sE)) Zk.1 A35.out) ?_; rintro ZK hb; replace a6 := bB d3 hb; replace aQ := bB eW hb; replace fE := bB K3 hb; replace HK := am (bN.trans (sE) (bN.of_below hb g none) (.inl rfl)); replace HB := bS wX hb; replace uD := am (bE.below (tL) hb); (try clear hb); obtain ⟨Y3, Y4, YD, YE⟩ := cz2 a6))
    (try simp only [Act.put, List.setIfInBounds_toArray, List.set_cons_zero, List.set_cons_succ])
    go_cut [7] (fun v7 wc => ∃ (kq : Nat) (KV : List ByteArray), aC (bQ.j2 kq KV fX FF rF nH 2 kH = some (r1, r2, r3, r4)) ∧ aC (kq ≤ kj26) ∧ aC (∃ A_ c_, v7 = .slice A_ KV.length c_ ∧ Kd.C Kd.string w A_ KV.length KV ∧ KV.length ≤ c_ ∧ (∀ ad, A_ = some ad → 0 < KV.length → ad.block ≠ g)) ∧ aC (wc.heap[aW]? = some (.cells #[(.slice EI rF.length FQ), (.slice H0 nH.length FR)] 26 (0, 0))) ∧ aC (wc.heap[bK]? = some (.cells #[.int .i64 0, .string (⟨#[]⟩ : ByteArray), (.slice none 0 0)] 31 (0, 0))) ∧ aC (wc.heap[o8]? = some (.cells #[.int .i64 2, .string kH, (.slice none 0 0)] 31 (0, 0))) ∧ aC (bE w0 wc g fX FF) ∧ aC (bN w wc g none) ∧ aC (Below w0.heap.size w0 wc))
    case first =>
     have H := ig.1
     clear ig
     by_cases bn : O2 ≥ 0
     ·rw [if_pos bn] at H
      have VK : decide (0 ≤ O2) = true := decide_eq_true bn
      clear bn
      (first | rw [VK] | (simp only [sD, wV]; rw [VK]) | skip)
      obtain ⟨a0B, H⟩ := cN H
      obtain ⟨bo, H⟩ := cN H
      have H' := am H
      clear H
      have aM1 := dJ.1
      have aMW := dL.1
      have aM2 := gV.1
      have aMX := nQ.1
      have aM3 := oO.1
      have aMY := zR.1
      obtain ⟨a5T, a5U, a6W, a6X⟩ := cz2 a6
      obtain ⟨aJV, a9W, aBR, a9X, aBS, aCV, a9I, a9J, Jp, a4Z, a4U, a5A, Vh, a3D, a3K⟩ := aT52 (am (Kd.KX qY.1 HK.out)) b0 O2
      cases aCV
      go_wp2
      go_meet
      case rel => exact ⟨_, ((aA nH O2).f2), H', ⟨by have := HJ4.out; have := WX.out; first | omega | exact Nat.le_refl _⟩, ⟨⟨_, _, rfl, (TG qY.1 HK.out O2 (of_eq_true a3D) (of_eq_true a3K) Jp) w (bN.refl w g none), Vh.1, Rl (TG qY.1 HK.out O2 (of_eq_true a3D) (of_eq_true a3K) Jp)⟩⟩, ⟨rB a6.1⟩, ⟨rB aQ.1⟩, ⟨rB fE.1⟩, ⟨tL⟩, ⟨sE⟩, ⟨wX⟩⟩
     ·rw [if_neg bn] at H
      have VK : decide (0 ≤ O2) = false := decide_eq_false bn
      clear bn
      (first | rw [VK] | (simp only [sD, wV]; rw [VK]) | skip)
      have H' := am H
      clear H
      go_wp2
      go_meet
      case rel => exact ⟨_, (rF), H', ⟨by have := HJ4.out; have := WX.out; first | omega | exact Nat.le_refl _⟩, ⟨⟨_, _, rfl, V8.1, V5.1, hf1_0⟩⟩, ⟨rB a6.1⟩, ⟨rB aQ.1⟩, ⟨rB fE.1⟩, ⟨tL⟩, ⟨sE⟩, ⟨wX⟩⟩
    case rest =>
     clear ig
     try clear MX MY MZ N0 N1 N2
     try clear XY XZ Y8 Y9
     try clear Y0 Y1 Y2 YA YB YC
     try clear Y3 Y4 YD YE
     obtain ⟨kq, KV, HA, Dx, HM7, a6, aQ, fE, uD, HK, HB⟩ := hcut
     obtain ⟨A7m, c7m, rfl, hr7m_, hc7m_, hf7m⟩ := HM7.out
     clear HM7
     have HR7m := am hr7m_
     have HC7m := am hc7m_
     clear hr7m_ hc7m_
     cases kq with
     | zero => exact absurd HA.out (by simp [bQ.j2])
     | succ kj35 =>
      have H := HA.out
      clear HA
      simp only [bQ.j2] at H
      obtain ⟨⟨Mw, lC⟩, A53, H⟩ := bd H
      dsimp only at H
      have ii := am H
      clear H
      go_upto_block 0 with (first | ((with_reducible refine gC 21 ?_); refine cQ (some 47) Tryz.func21 (dZ.calls kj35 g fX FF 9 Mw lC w0 _ ((tL)) ((wX)) A53.out) ?_; rintro w55 ⟨hi, hb, hk⟩; replace a6 := kb d3 hk oO; replace aQ := kb eW hk pS; replace fE := kb K3 hk oP; replace HK := am (bN.trans (sE) hk (.inl rfl)); replace HB := am (hb); replace uD := am (hi); (try clear hb); (try clear hk); (try clear hi)))
      (try simp only [Act.put, List.setIfInBounds_toArray, List.set_cons_zero, List.set_cons_succ])
      go_cut [] (fun wc => ∃ (kq : Nat) (D7 : Int) (pF : Int) (xJ : ByteArray) (xK : List ByteArray) (O5 : Value), aC (bQ.j4 kq fX D7 pF xJ xK = some (r1, r2, r3, r4)) ∧ aC (kq ≤ kj35) ∧ aC (Kd.R Kd.string 9 wc w.heap.size (fun _ => True) O5 xK) ∧ aC (wc.heap[aW]? = some (.cells #[(.slice EI rF.length FQ), (.slice H0 nH.length FR)] 26 (0, 0))) ∧ aC (wc.heap[bK]? = some (.cells #[.int .i64 0, .string (⟨#[]⟩ : ByteArray), (.slice none 0 0)] 31 (0, 0))) ∧ aC (wc.heap[o8]? = some (.cells #[.int .i64 pF, .string xJ, O5] 31 (0, 0))) ∧ aC (bE w0 wc g fX D7) ∧ aC (bN w wc g none) ∧ aC (Below w0.heap.size w0 wc))
      case first =>
       have H := ii.1
       clear ii
       have ij := am H
       clear H
       go_upto_if 52 with ((fail))
       go_cut [52] (fun v52 wc => ∃ (kq : Nat) (ZJ : Bool), v52 = .bool ZJ ∧ aC (bQ.j3 kq KV Mw ZJ fX lC rF nH 2 kH = some (r1, r2, r3, r4)) ∧ aC (kq ≤ kj35) ∧ aC (wc.heap[aW]? = some (.cells #[(.slice EI rF.length FQ), (.slice H0 nH.length FR)] 26 (0, 0))) ∧ aC (wc.heap[bK]? = some (.cells #[.int .i64 0, .string (⟨#[]⟩ : ByteArray), (.slice none 0 0)] 31 (0, 0))) ∧ aC (wc.heap[o8]? = some (.cells #[.int .i64 2, .string kH, (.slice none 0 0)] 31 (0, 0))) ∧ aC (bE w0 wc g fX lC) ∧ aC (bN w wc g none) ∧ aC (Below w0.heap.size w0 wc))
       case first =>
        have H := ij.1
        clear ij
        refine iq H ?_ ?_ <;> clear H <;> intro c57 An aKI H
        ·(first | rw [An] | (simp only [sD, wV]; rw [An]) | skip)
         have H' := am H
         clear H
         go_wp2
         go_meet
         case rel => exact ⟨_, ((Mw == 0)), (dU), H', ⟨by have := HJ4.out; have := WX.out; have := Dx.out; first | omega | exact Nat.le_refl _⟩, ⟨rB a6.1⟩, ⟨rB aQ.1⟩, ⟨rB fE.1⟩, ⟨tL⟩, ⟨sE⟩, ⟨wX⟩⟩
        ·(first | rw [An] | (simp only [sD, wV]; rw [An]) | skip)
         refine iq H ?_ ?_ <;> clear H <;> intro c58 a0G aKK H
         ·have H' := am H
          clear H
          go_wp2
          go_meet
          case rel => exact ⟨_, ((Mw == 1)), (dU), H', ⟨by have := HJ4.out; have := WX.out; have := Dx.out; first | omega | exact Nat.le_refl _⟩, ⟨rB a6.1⟩, ⟨rB aQ.1⟩, ⟨rB fE.1⟩, ⟨tL⟩, ⟨sE⟩, ⟨wX⟩⟩
         ·have H' := am H
          clear H
          go_wp2
          go_meet
          case rel => exact ⟨_, ((Mw == 2)), (dU), H', ⟨by have := HJ4.out; have := WX.out; have := Dx.out; first | omega | exact Nat.le_refl _⟩, ⟨rB a6.1⟩, ⟨rB aQ.1⟩, ⟨rB fE.1⟩, ⟨tL⟩, ⟨sE⟩, ⟨wX⟩⟩
       case rest =>
        clear ij
        try clear MX MY MZ N0 N1 N2
        try clear XY XZ Y8 Y9
        try clear Y0 Y1 Y2 YA YB YC
        try clear Y3 Y4 YD YE
        obtain ⟨kq, ZJ, rfl, HA, Vn, a6, aQ, fE, uD, HK, HB⟩ := hcut
        cases kq with
        | zero => exact absurd HA.out (by simp [bQ.j3])
        | succ kj55 =>
         have H := HA.out
         clear HA
         simp only [bQ.j3] at H
         rcases tf ZJ with c59 | c59 <;> subst c59
         ·replace H : ((sG.f).bind fun yK => ((l7.f kj55 fX lC yK).bind fun az => ((iN.f kj55 fX az.2 rF 2).bind fun ba => (bQ.j4 kj55 fX ba.2 1 az.1 ba.1)))) = some (r1, r2, r3, r4) := iT H
          obtain ⟨yK, A60, H⟩ := bd H
          obtain ⟨⟨tN, Cu⟩, A61, H⟩ := bd H
          dsimp only at H
          obtain ⟨⟨rr, uC⟩, A62, H⟩ := bd H
          dsimp only at H
          have H' := am H
          clear H
          have aM4 := nQ.1
          have aMZ := gV.1
          have aM5 := qB.1
          have aN0 := iK.1
          have aM6 := oP.1
          have aN1 := zS.1
          obtain ⟨a5V, a5W, a5X, a6Y, a6Z, a7A⟩ := cz3 fE
          go_wp2_with (first | ((with_reducible refine gC 55 ?_); refine cE (some 58) Tryz.func55 (sG.calls  yK _ A60.out) ?_; rintro e w67 ⟨Yq, rfl, eH, hb⟩; refine ⟨_, rfl, ?_⟩; have vF := am (Kd.dO eH (qE (w := w) (g := g) (row := none) (sE))); replace a6 := am (aX (g := aW) (o := .cells #[.slice EI rF.length FQ, .slice H0 nH.length FR] 26 (0, 0)) (by refine rB ?_; refine dD ?_ gV.1 _; refine rB ?_; exact a6.1) hb); replace aQ := am (aX (g := bK) (o := .cells #[.int .i64 0, .string (⟨#[]⟩ : ByteArray), .slice none 0 0] 31 (0, 0)) (by refine rB ?_; refine dD ?_ iK.1 _; refine rB ?_; exact aQ.1) hb); replace fE := am (aX (g := o8) (o := .cells #[.int .i64 1, .string kH, .slice none 0 0] 31 (0, 0)) (by refine rB ?_; refine cO (cs := #[.int .i64 2, .string kH, .slice none 0 0]) ?_ 0 _ rfl; refine rB ?_; exact fE.1) hb); replace HK := am (bN.trans (sE) (bN.of_below hb g none) (.inl rfl)); replace HB := bS wX hb; replace uD := am (bE.below (show bE w0 (wc.setCell ⟨o8, 0, none⟩ (.int .i64 1)) g fX lC from tL) hb); (try clear hb); (try clear eH); obtain ⟨aQP, aSR, aDK⟩ := Kd.cZ vF.1; subst aDK) | ((with_reducible refine gC 54 ?_); refine cQ (some 59) Tryz.func54 (l7.calls kj55 g fX lC _ _ yK tN Cu w0 _ ((tL)) ((wX)) (pC (Kd.bH vF.1).2.2) ((Kd.bH vF.1).2.1) (EX (bE.own_ne uD.out vF.1 (by decide))) A61.out) ?_; rintro w69 ⟨hi, hb, hk⟩; replace a6 := kb d3 hk oO; replace aQ := kb eW hk pS; replace fE := kb K3 hk oP; replace vF := am (Kd.aT (Kd.xG (bE.apart (show bE w0 _ g fX lC from tL) (rR vF.1) (by decide)) hk (fun _ h => h.2)) (fun _ h => h.1)); replace HK := am (bN.trans (sE) hk (.inl rfl)); replace HB := am (hb); replace uD := am (hi); (try clear hb); (try clear hk); (try clear hi); obtain ⟨a5Y, a5Z, a6A, a7B, a7C, a7D⟩ := cz3 fE; have aM7 := dJ.1; have aN2 := dL.1; have aM8 := oO.1; have aN3 := zR.1; obtain ⟨a6B, a6C, a7E, a7F⟩ := cz2 a6) | ((with_reducible refine gC 56 ?_); refine cE (some 64) Tryz.func56 (iN.calls kj55 g fX Cu _ _ rF 2 rr uC w0 _ ((tL)) ((wX)) (Kd.WS (⟨#[]⟩ : ByteArray) V8.1 (sE) hf1_0) V5.1 hf1_0 A62.out) ?_; rintro e w74 ⟨My, rfl, eH, hi, hb, hk⟩; refine ⟨_, rfl, ?_⟩; replace a6 := am (bN.blk hk (g' := aW) (o := .cells #[.slice EI rF.length FQ, .slice H0 nH.length FR] 26 (0, 0)) (by refine rB ?_; refine dD ?_ gV.1 _; refine rB ?_; exact a6.1) oO.1 (by simp)); replace aQ := am (bN.blk hk (g' := bK) (o := .cells #[.int .i64 0, .string (⟨#[]⟩ : ByteArray), .slice none 0 0] 31 (0, 0)) (by refine rB ?_; refine dD ?_ iK.1 _; refine rB ?_; exact aQ.1) pS.1 (by simp)); have C2 := am (Kd.dO (Kd.fF eH (Kd.R_lt (by refine rR ?_; exact (Kd.aT (fR (tR vF fE)) (fun _ h_ => h_.1))))) (qE (w := w) (g := g) (row := none) (sE))); replace vF := am (Kd.aT (Kd.Eb (Kd.Ea (bE.apart (show bE w0 _ g fX Cu from tL) (by refine rR ?_; exact (Kd.aT (fR (tR vF fE)) (fun _ h_ => h_.1))) (by decide)) hk) (Kd.bT eH)) (fun _ h_ => h_.1)); replace fE := am (bN.blk hk (g' := o8) (o := .cells #[.int .i64 1, .string tN, .slice none 0 0] 31 (0, 0)) (by refine rB ?_; refine cO (cs := #[.int .i64 1, .string kH, .slice none 0 0]) ?_ 1 _ rfl; refine rB ?_; exact fE.1) oP.1 (by simp)); replace HK := am (bN.trans (sE) hk (.inl rfl)); replace HB := am (hb); replace uD := am (hi); (try clear hb); (try clear hk); (try clear hi); (try clear eH); obtain ⟨aAT, aCP, aDN⟩ := Kd.cZ C2.1; subst aDN; obtain ⟨a6D, a6E, a6F, a7G, a7H, a7I⟩ := cz3 fE))
          go_meet
          case rel => exact ⟨_, (uC), (1), (tN), (rr), (.slice aAT rr.length aCP), H', ⟨by have := HJ4.out; have := WX.out; have := Dx.out; have := Vn.out; first | omega | exact Nat.le_refl _⟩, ⟨by refine rR ?_; exact Kd.aT (fR (tR C2 fE)) (fun _ hk => trivial)⟩, ⟨by refine rB ?_; refine dD ?_ gV.1 _; refine rB ?_; exact a6.1⟩, ⟨by refine rB ?_; refine dD ?_ iK.1 _; refine rB ?_; exact aQ.1⟩, ⟨by refine rB ?_; refine cO (cs := #[.int .i64 1, .string tN, .slice none 0 0]) ?_ 2 _ rfl; refine rB ?_; exact fE.1⟩, ⟨tL⟩, ⟨sE⟩, ⟨wX⟩⟩
         ·replace H := iF H
          refine iq H ?_ ?_ <;> clear H <;> intro c77 aKV aKW H
          ·obtain ⟨⟨rt, Tu⟩, A78, H⟩ := bd H
           dsimp only at H
           have H' := am H
           clear H
           have aM9 := nQ.1
           have aN4 := gV.1
           have aMA := qB.1
           have aN5 := iK.1
           have aMB := oP.1
           have aN6 := zS.1
           obtain ⟨a6G, a6H, a6I, a7J, a7K, a7L⟩ := cz3 fE
           go_wp2_with (first | ((with_reducible refine gC 56 ?_); refine cE (some 71) Tryz.func56 (iN.calls kj55 g fX lC _ _ KV 2 rt Tu w0 _ ((tL)) ((wX)) (Kd.WS (⟨#[]⟩ : ByteArray) HR7m.1 (sE) hf7m) HC7m.1 hf7m A78.out) ?_; rintro e w83 ⟨U6, rfl, eH, hi, hb, hk⟩; refine ⟨_, rfl, ?_⟩; replace a6 := am (bN.blk hk (g' := aW) (o := .cells #[.slice EI rF.length FQ, .slice H0 nH.length FR] 26 (0, 0)) (by refine rB ?_; refine dD ?_ gV.1 _; refine rB ?_; exact a6.1) oO.1 (by simp)); replace aQ := am (bN.blk hk (g' := bK) (o := .cells #[.int .i64 0, .string (⟨#[]⟩ : ByteArray), .slice none 0 0] 31 (0, 0)) (by refine rB ?_; refine dD ?_ iK.1 _; refine rB ?_; exact aQ.1) pS.1 (by simp)); replace fE := am (bN.blk hk (g' := o8) (o := .cells #[.int .i64 3, .string kH, .slice none 0 0] 31 (0, 0)) (by refine rB ?_; refine cO (cs := #[.int .i64 2, .string kH, .slice none 0 0]) ?_ 0 _ rfl; refine rB ?_; exact fE.1) oP.1 (by simp)); have yQ := am (Kd.dO eH (qE (w := w) (g := g) (row := none) (sE))); replace HK := am (bN.trans (sE) hk (.inl rfl)); replace HB := am (hb); replace uD := am (hi); (try clear hb); (try clear hk); (try clear hi); (try clear eH); obtain ⟨UD, SZ, Wz⟩ := Kd.cZ yQ.1; subst Wz; obtain ⟨a6J, a6K, a6L, a7M, a7N, a7O⟩ := cz3 fE))
           go_meet
           case rel => exact ⟨_, (Tu), (3), (kH), (rt), (.slice UD rt.length SZ), H', ⟨by have := HJ4.out; have := WX.out; have := Dx.out; have := Vn.out; first | omega | exact Nat.le_refl _⟩, ⟨by refine rR ?_; exact Kd.aT (fR (tR yQ fE)) (fun _ hk => trivial)⟩, ⟨by refine rB ?_; refine dD ?_ gV.1 _; refine rB ?_; exact a6.1⟩, ⟨by refine rB ?_; refine dD ?_ iK.1 _; refine rB ?_; exact aQ.1⟩, ⟨by refine rB ?_; refine cO (cs := #[.int .i64 3, .string kH, .slice none 0 0]) ?_ 2 _ rfl; refine rB ?_; exact fE.1⟩, ⟨tL⟩, ⟨sE⟩, ⟨wX⟩⟩
          ·refine iq H ?_ ?_ <;> clear H <;> intro c86 aL1 aL2 H
           ·have H' := am H
            clear H
            have aMC := nQ.1
            have aN7 := gV.1
            have aMD := qB.1
            have aN8 := iK.1
            have aME := oP.1
            have aN9 := zS.1
            obtain ⟨a6M, a6N, a6O, a7P, a7Q, a7R⟩ := cz3 fE
            go_wp2
            go_meet
            case rel => exact ⟨_, (lC), (4), (kH), (([] : List ByteArray)), (.slice none 0 0), H', ⟨by have := HJ4.out; have := WX.out; have := Dx.out; have := Vn.out; first | omega | exact Nat.le_refl _⟩, ⟨by first | exact Kd.sP _ _ _ _ _ | exact Kd.yR _ _ _ _ _ | exact Kd.yT _ _ _ _ _ | exact Kd.yS _ _ _ _ _ | exact Kd.wU _ _ _ _ _⟩, ⟨by refine rB ?_; refine dD ?_ gV.1 _; refine rB ?_; exact a6.1⟩, ⟨by refine rB ?_; refine dD ?_ iK.1 _; refine rB ?_; exact aQ.1⟩, ⟨by refine rB ?_; refine cO (cs := #[.int .i64 2, .string kH, .slice none 0 0]) ?_ 0 _ rfl; refine rB ?_; exact fE.1⟩, ⟨tL⟩, ⟨sE⟩, ⟨wX⟩⟩
           ·obtain ⟨⟨t131, Tv⟩, A91, H⟩ := bd H
            dsimp only at H
            have H' := am H
            clear H
            go_wp2_with (first | ((with_reducible refine gC 56 ?_); refine cE (some 50) Tryz.func56 (iN.calls kj55 g fX lC _ _ KV 2 t131 Tv w0 _ ((tL)) ((wX)) (Kd.WS (⟨#[]⟩ : ByteArray) HR7m.1 (sE) hf7m) HC7m.1 hf7m A91.out) ?_; rintro e w92 ⟨a4B, rfl, eH, hi, hb, hk⟩; refine ⟨_, rfl, ?_⟩; replace a6 := kb d3 hk oO; replace aQ := kb eW hk pS; replace fE := kb K3 hk oP; have ZU := am (Kd.dO eH (qE (w := w) (g := g) (row := none) (sE))); replace HK := am (bN.trans (sE) hk (.inl rfl)); replace HB := am (hb); replace uD := am (hi); (try clear hb); (try clear hk); (try clear hi); (try clear eH); obtain ⟨aAX, aCT, aDV⟩ := Kd.cZ ZU.1; subst aDV; have aMF := nQ.1; have aNA := gV.1; have aMG := qB.1; have aNB := iK.1; have aMH := oP.1; have aNC := zS.1; obtain ⟨a6P, a6Q, a6R, a7S, a7T, a7U⟩ := cz3 fE))
            go_meet
            case rel => exact ⟨_, (Tv), (2), (kH), (t131), (.slice aAX t131.length aCT), H', ⟨by have := HJ4.out; have := WX.out; have := Dx.out; have := Vn.out; first | omega | exact Nat.le_refl _⟩, ⟨by refine rR ?_; exact Kd.aT (fR (tR ZU fE)) (fun _ hk => trivial)⟩, ⟨by refine rB ?_; refine dD ?_ gV.1 _; refine rB ?_; exact a6.1⟩, ⟨by refine rB ?_; refine dD ?_ iK.1 _; refine rB ?_; exact aQ.1⟩, ⟨by refine rB ?_; refine cO (cs := #[.int .i64 2, .string kH, .slice none 0 0]) ?_ 2 _ rfl; refine rB ?_; exact fE.1⟩, ⟨tL⟩, ⟨sE⟩, ⟨wX⟩⟩
      case rest =>
       clear ii
       try clear MX MY MZ N0 N1 N2
       try clear XY XZ Y8 Y9
       try clear Y0 Y1 Y2 YA YB YC
       try clear Y3 Y4 YD YE
       obtain ⟨kq, D7, pF, xJ, xK, O5, HA, aQR, kR, a6, aQ, fE, uD, HK, HB⟩ := hcut
       cases kq with
       | zero => exact absurd HA.out (by simp [bQ.j4])
       | succ kj53 =>
        have H := HA.out
        clear HA
        simp only [bQ.j4] at H
        obtain ⟨⟨Tw, IU⟩, A98, H⟩ := bd H
        dsimp only at H
        refine iq H ?_ ?_ <;> clear H <;> intro c99 aL9 aLA H
        obtain ⟨PS, PZ⟩ := yv (([(⟨#[]⟩ : ByteArray), (⟨#[97]⟩ : ByteArray), (⟨#[122, 122]⟩ : ByteArray), (⟨#[116, 117, 110]⟩ : ByteArray)] : List ByteArray)); first | replace H := bW PZ H | rw [← PZ.1] at H
        obtain ⟨⟨Gq, aFA⟩, fg, H⟩ := bd H
        dsimp only at H
        obtain ⟨iz, H⟩ := cL H
        obtain ⟨a4Q, Pq⟩ := yv (xK ++ [Gq]); first | replace H := bW Pq H | rw [← Pq.1] at H
        simp only [Option.some.injEq, Prod.mk.injEq] at H
        obtain ⟨rfl, rfl, rfl, rfl⟩ := H
        have jh := trivial
        rotate_left
        refine iq H ?_ ?_ <;> clear H <;> intro aSA aBU aBV H
        obtain ⟨aGA, Hw⟩ := yv (([(⟨#[]⟩ : ByteArray), (⟨#[65]⟩ : ByteArray), (⟨#[122, 122]⟩ : ByteArray)] : List ByteArray)); first | replace H := bW Hw H | rw [← Hw.1] at H
        obtain ⟨⟨Yi, Yj⟩, aA0, H⟩ := bd H
        dsimp only at H
        simp only [Option.some.injEq, Prod.mk.injEq] at H
        obtain ⟨rfl, rfl, rfl, rfl⟩ := H
        have jh := trivial
        have Vw := trivial
        rotate_left
        simp only [Option.some.injEq, Prod.mk.injEq] at H
        obtain ⟨rfl, rfl, rfl, rfl⟩ := H
        have xn := trivial
        rotate_left
        all_goals
         try go_wp2_with (first | ((with_reducible refine gC 21 ?_); revert jh; intro jh; refine cQ (some 77) Tryz.func21 (dZ.calls kj53 g fX D7 24 Tw IU w0 _ ((tL)) ((wX)) A98.out) ?_; rintro a4M ⟨hi, hb, hk⟩; replace kR := am (Kd.aT (Kd.xG (bE.apart (show bE w0 _ g fX D7 from tL) (QC) (by decide)) hk (fun _ h => h.2)) (fun _ h => h.1)); replace a6 := kb d3 hk oO; replace aQ := kb eW hk pS; replace fE := kb K3 hk oP; replace HK := am (bN.trans (sE) hk (.inl rfl)); replace HB := am (hb); replace uD := am (hi); (try clear hb); (try clear hk); (try clear hi)) | ((with_reducible refine jW (N := 91) rfl ?_); revert Vw; intro Vw; refine Kd.SI Kd.string _ 9 ?hg (N := 91) ?hd (xs := ([(⟨#[]⟩ : ByteArray), (⟨#[65]⟩ : ByteArray), (⟨#[122, 122]⟩ : ByteArray)] : List ByteArray)) (inner := [.string (⟨#[]⟩ : ByteArray), .string (⟨#[65]⟩ : ByteArray), .string (⟨#[122, 122]⟩ : ByteArray)]) (ok := fun _ => True) (okp := fun _ => True) ?hr ?hp (fun _ hk => hk) trivial (Below.refl _ _) (Nat.le_refl _) (by simp) ?_; (case hd => rfl); (case hg => rfl); (case hr => first | (go_simp; done) | (go_simp; rfl)); (case hp => exact (Reps.one (show Kd.M Kd.string _ _ _ (⟨#[]⟩ : ByteArray) [.string (⟨#[]⟩ : ByteArray)] from rfl) (Reps.one (show Kd.M Kd.string _ _ _ (⟨#[65]⟩ : ByteArray) [.string (⟨#[65]⟩ : ByteArray)] from rfl) (Reps.one (show Kd.M Kd.string _ _ _ (⟨#[122, 122]⟩ : ByteArray) [.string (⟨#[122, 122]⟩ : ByteArray)] from rfl) (Reps.none _ _))))); intro aTL aOL VP hb hg_ hnew_; clear hg_ hnew_; (first | rw [← Hw.out] at VP | (simp only [Int.reduceToNat] at VP; rw [← Hw.out] at VP)); have V6 := am (Kd.dO (Kd.fF VP (Kd.R_lt (QC))) (qE (w := w) (g := g) (row := none) (sE))); replace kR := am (Kd.dV (QC) (Kd.bT VP) hb); replace a6 := bB d3 hb; replace aQ := bB eW hb; replace fE := bB K3 hb; replace HK := am (bN.trans (sE) (bN.of_below hb g none) (.inl rfl)); replace HB := bS wX hb; replace uD := am (bE.below (tL) hb); clear hb VP; obtain ⟨aAP, aCN, nc⟩ := Kd.cZ V6.1; subst nc) | ((with_reducible refine gC 54 ?_); revert Vw; intro Vw; refine cQ (some 92) Tryz.func54 (l7.calls kj53 g fX IU _ _ aGA Yi Yj w0 _ ((tL)) ((wX)) (pC (Kd.bH V6.1).2.2) ((Kd.bH V6.1).2.1) (EX (bE.own_ne uD.out V6.1 (by decide))) aA0.out) ?_; rintro aOM ⟨hi, hb, hk⟩; replace kR := am (Kd.aT (Kd.xG (bE.apart (show bE w0 _ g fX IU from tL) (QC) (by decide)) hk (fun _ h => h.2)) (fun _ h => h.1)); replace a6 := kb d3 hk oO; replace aQ := kb eW hk pS; replace fE := kb K3 hk oP; replace V6 := am (Kd.aT (Kd.xG (bE.apart (show bE w0 _ g fX IU from tL) (rR V6.1) (by decide)) hk (fun _ h => h.2)) (fun _ h => h.1)); replace HK := am (bN.trans (sE) hk (.inl rfl)); replace HB := am (hb); replace uD := am (hi); (try clear hb); (try clear hk); (try clear hi); have a8F := nQ.1; have a8P := gV.1; have a8G := qB.1; have a8Q := iK.1; have a8H := oP.1; have a8R := zS.1; obtain ⟨ta, tb, tc, tn, tp, tq⟩ := cz3 fE; have a8I := dL.1; have a8S := dJ.1; have a8J := pS.1; have a8T := DH.1; obtain ⟨td, te, tg, tr, tu, tv⟩ := cz3 aQ; obtain ⟨ft, ma, nf⟩ := Kd.cZ kR.1; subst nf) | ((with_reducible refine gC 21 ?_); revert xn; intro xn; refine cQ (some 77) Tryz.func21 (dZ.calls kj53 g fX D7 24 Tw IU w0 _ ((tL)) ((wX)) A98.out) ?_; rintro aON ⟨hi, hb, hk⟩; replace kR := am (Kd.aT (Kd.xG (bE.apart (show bE w0 _ g fX D7 from tL) (QC) (by decide)) hk (fun _ h => h.2)) (fun _ h => h.1)); replace a6 := kb d3 hk oO; replace aQ := kb eW hk pS; replace fE := kb K3 hk oP; replace HK := am (bN.trans (sE) hk (.inl rfl)); replace HB := am (hb); replace uD := am (hi); (try clear hb); (try clear hk); (try clear hi); have a8K := nQ.1; have a8U := gV.1; have a8L := qB.1; have a8V := iK.1; have a8M := oP.1; have a8W := zS.1; obtain ⟨th, ti, tj, tw, tx, tz⟩ := cz3 fE; have a8N := dL.1; have a8X := dJ.1; have a8O := pS.1; have a8Y := DH.1; obtain ⟨tk, tl, tm, ua, ub, uc⟩ := cz3 aQ; obtain ⟨fu, mb, ng⟩ := Kd.cZ kR.1; subst ng))
        ·replace kR := am (Kd.uK kR.1)
         replace a6 := am (cK a6.1)
         replace aQ := am (cK aQ.1)
         replace fE := am (cK fE.1)
         replace uD := am (bE.drew uD.out)
         replace HK := am (wG HK.out)
         replace HB := am (aY HB.1)
         refine sT [8] 9 (uA3 fE) (fun hHeld => ?_); refine fP bQ.a3T bQ.kw (fun HT_ HW_ => ?_)
         generalize a4M.drew = aFS at kR a6 aQ fE uD HK HB hHeld ⊢
         refine pU 0 (some 80) ?_
         refine pU 2 (some 82) ?_
         refine tK3 1 (some 81) ?_
         refine oN 3 (some 83) fun K hK => ?_
         refine Kd.LA Kd.string _ 9 ?hg (N := 83) ?hd (xs := ([(⟨#[]⟩ : ByteArray), (⟨#[97]⟩ : ByteArray), (⟨#[122, 122]⟩ : ByteArray), (⟨#[116, 117, 110]⟩ : ByteArray)] : List ByteArray)) (inner := [.string (⟨#[]⟩ : ByteArray), .string (⟨#[97]⟩ : ByteArray), .string (⟨#[122, 122]⟩ : ByteArray), .string (⟨#[116, 117, 110]⟩ : ByteArray)]) (ok := fun _ => True) (okp := fun _ => True) ?hr ?hp (fun _ hk => hk) trivial (Below.refl _ _) (Nat.le_refl _) (by simp) ?_; (case hd => rfl); (case hg => rfl); (case hr => first | (go_simp; done) | (go_simp; rfl)); (case hp => exact (Reps.one (show Kd.M Kd.string _ _ _ (⟨#[]⟩ : ByteArray) [.string (⟨#[]⟩ : ByteArray)] from rfl) (Reps.one (show Kd.M Kd.string _ _ _ (⟨#[97]⟩ : ByteArray) [.string (⟨#[97]⟩ : ByteArray)] from rfl) (Reps.one (show Kd.M Kd.string _ _ _ (⟨#[122, 122]⟩ : ByteArray) [.string (⟨#[122, 122]⟩ : ByteArray)] from rfl) (Reps.one (show Kd.M Kd.string _ _ _ (⟨#[116, 117, 110]⟩ : ByteArray) [.string (⟨#[116, 117, 110]⟩ : ByteArray)] from rfl) (Reps.none _ _))))))
         intro aFL M7 VO hb hg_ hnew_
         clear hg_ hnew_
         (first | rw [← PZ.out] at VO | (simp only [Int.reduceToNat] at VO; rw [← PZ.out] at VO))
         have AZ := am (Kd.dO (Kd.fF VO (Kd.R_lt (QC))) (qE (w := w) (g := g) (row := none) (sE)))
         replace kR := am (Kd.dV (QC) (Kd.bT VO) hb)
         replace a6 := bB d3 hb
         replace aQ := bB eW hb
         replace fE := bB K3 hb
         replace HK := am (bN.trans (sE) (bN.of_below hb g none) (.inl rfl))
         replace HB := bS wX hb
         replace uD := am (bE.below (tL) hb)
         clear hb VO
         obtain ⟨MC, MS, Ir⟩ := Kd.cZ AZ.1
         (first | subst Ir | (injection Ir with f1_ f2_ f3_; have f4_ := f1_.symm; have f5_ := f3_.symm; clear f1_ f2_ f3_; subst f4_; subst f5_))
         refine hK.out _ _ (uA3 fE).1 (fun hHeld => ?_)
         clear hK K
         refine nM ?_
         refine oN 4 (some 84) fun K hK => ?_
         refine gQ Tryz.func54 (l7.calls kj53 g fX IU _ _ PS Gq aFA w0 _ ((tL)) ((wX)) (pC (Kd.bH AZ.1).2.2) ((Kd.bH AZ.1).2.1) (EX (bE.own_ne uD.out AZ.1 (by decide))) fg.out) ?_
         rintro aFT ⟨hi, hb, hk⟩
         replace kR := am (Kd.aT (Kd.xG (bE.apart (show bE w0 _ g fX IU from tL) (QC) (by decide)) hk (fun _ h => h.2)) (fun _ h => h.1))
         replace a6 := kb d3 hk oO
         replace aQ := kb eW hk pS
         replace fE := kb K3 hk oP
         replace AZ := am (Kd.aT (Kd.xG (bE.apart (show bE w0 _ g fX IU from tL) (rR AZ.1) (by decide)) hk (fun _ h => h.2)) (fun _ h => h.1))
         replace HK := am (bN.trans (sE) hk (.inl rfl))
         replace HB := am (hb)
         replace uD := am (hi)
         (try clear hb)
         (try clear hb2)
         (try clear hk)
         (try clear hi)
         refine hK.out _ _ (uA3 fE).1 (fun hHeld => ?_)
         clear hK K
         refine nM ?_
         refine oN 5 (some 85) fun K hK => ?_
         refine M6 (w1 := ?_) (v := ?_) (by rfl) rfl ?_ ?_
         rotate_left 2
         ·go_simp
          constructor
          ·rfl
          ·rfl
         refine hK.out _ _ ⟨(bP (bF fE.1 _) 0).trans rfl, (bP (bF fE.1 _) 1).trans rfl, (bP (bF fE.1 _) 2).trans rfl⟩ (fun hHeld => ?_)
         clear hK K
         refine nM ?_
         refine oN 6 (some 86) fun K hK => ?_
         refine Kd.zT Kd.string w.heap.size (by rfl) (.tmp 81) (.tmp 85) 23 9 (.string ⟨#[]⟩) 16 rfl Tryz.underlying23 sQ rfl (by decide) (by omega) O5 xK Gq [.string Gq] (fun k_ => some k_ ≠ (.slice MC PS.length MS : Value).ownBlock) (fun _ => False) rfl rfl ?aP (fun _ hk => hk.elim) ?aF ?aO (Below.refl _ _) ?aS ?aL ?_
         (case aP => exact rfl)
         (case aF => exact (fun k_ hk => Kd.fresh' (Kd.R_lt (rR AZ.1)) k_ hk))
         (case aO => exact (by refine rR ?_; exact Kd.aT kR.1 (fun _ hk => hk.2)))
         (case aS => exact (qE (w := w) (g := g) (row := none) (sE)))
         (case aL => have := iz.out; omega)
         intro aTK a4E ho hb hg hat
         rw [← Pq.out] at ho
         replace a6 := gkR d3 hg kR a6
         replace aQ := gkR eW hg kR aQ
         replace fE := gkR K3 hg kR fE
         replace AZ := am (Kd.uP (ok := (fun _ => True)) (rR AZ.1) hg hat)
         replace HB := am (FP (wX) HL.out hb)
         replace uD := am (bE.grown (tL) hg (bE.own_ne uD.out kR.1 (by decide)))
         replace HK := am (bN.trans (sE) (bN.F5 hg g) (Kd.X4 kR.1))
         have Zp := am (ho)
         clear kR
         clear ho hb hg hat
         obtain ⟨Zd, br, da⟩ := Kd.cZ Zp.1
         (first | subst da | (injection da with f1_ f2_ f3_; have f4_ := f1_.symm; have f5_ := f3_.symm; clear f1_ f2_ f3_; subst f4_; subst f5_))
         refine hK.out _ _ (uA3 fE).1 (fun hHeld => ?_)
         clear hK K
         refine nM ?_
         refine pU 7 (some 87) ?_
         refine Sk (i := 8) (N := none) (bz 9 511) rfl rfl (Fz HT_.out (by kernel_rfl)) (by decide) (fun K hK => ?_)
         have aNE : a4E.cell? ⟨o8, 2, none⟩ = some (O5) := (bP fE.1 2).trans rfl
         have aE4 := gF fE.1 2
         have a2Q := gV.1
         have a2R := iK.1
         have a2G := nQ.1
         have a2H := qB.1
         refine AC (w1 := ?_) (by rfl) rfl ?_ ?_
         rotate_left
         ·go_simp
          rfl
         refine hK.out _ _ ?_
         clear hK K
         refine VM (XP HT_.out (by kernel_rfl)) ?_
         have aEC := nQ.1
         have aEH := gV.1
         have aED := qB.1
         have aEI := iK.1
         have aEE := oP.1
         have aEJ := zS.1
         obtain ⟨a1T, a1U, a1V, a1Z, a2A, a2B⟩ := cz3 fE
         have aEF := dL.1
         have aEK := dJ.1
         have aEG := pS.1
         have aEL := DH.1
         obtain ⟨a1W, a1X, a1Y, a2C, a2D, a2E⟩ := cz3 aQ
         try go_wp2
         refine bodyPost_ret (results_cell_row rfl _ _ bK 31 #[.int .i64 pF, .string xJ, .slice Zd a4Q.length br] (0, 0) _ rfl (by refine rB ?_; refine cO (cs := #[.int .i64 pF, .string xJ, .slice none 0 0]) ?_ 2 _ rfl; refine rB ?_; refine cO (cs := #[.int .i64 pF, .string (⟨#[]⟩ : ByteArray), .slice none 0 0]) ?_ 1 _ rfl; refine rB ?_; refine cO (cs := #[.int .i64 0, .string (⟨#[]⟩ : ByteArray), .slice none 0 0]) ?_ 0 _ rfl; refine rB ?_; refine dD ?_ iK.1 _; refine rB ?_; exact aQ.1) Tryz.underlying31 rfl (by kernel_rfl)) rfl ?_
         exact ⟨_, eR, by refine rR ?_; exact Kd.aT (fR (fR (fR (Kd.u6 (p := ⟨o8, 2, none⟩) (Kd.gZ (tR Zp fE) aQ.1 (by decide)) (fun _ hk => hk.1.2) (.slice Zd a4Q.length br))))) (fun _ hk => trivial), tL, wX, sE⟩
        ·refine bodyPost_ret (results_cell_row rfl _ _ bK 31 #[.int .i64 pF, .string Yi, .slice ft xK.length ma] (0, 0) _ rfl (by refine rB ?_; refine cO (cs := #[.int .i64 pF, .string Yi, .slice none 0 0]) ?_ 2 _ rfl; refine rB ?_; refine cO (cs := #[.int .i64 pF, .string (⟨#[]⟩ : ByteArray), .slice none 0 0]) ?_ 1 _ rfl; refine rB ?_; refine cO (cs := #[.int .i64 0, .string (⟨#[]⟩ : ByteArray), .slice none 0 0]) ?_ 0 _ rfl; refine rB ?_; refine dD ?_ iK.1 _; refine rB ?_; exact aQ.1) Tryz.underlying31 rfl (by kernel_rfl)) rfl ?_
         exact ⟨_, eR, by refine rR ?_; exact Kd.aT (fR (fR (fR (Kd.u6 (p := ⟨o8, 1, none⟩) (Kd.gZ (tR kR fE) aQ.1 (by decide)) (fun _ hk => hk.1.2) (.string Yi))))) (fun _ hk => trivial), tL, wX, sE⟩
        ·refine bodyPost_ret (results_cell_row rfl _ _ bK 31 #[.int .i64 pF, .string xJ, .slice fu xK.length mb] (0, 0) _ rfl (by refine rB ?_; refine cO (cs := #[.int .i64 pF, .string xJ, .slice none 0 0]) ?_ 2 _ rfl; refine rB ?_; refine cO (cs := #[.int .i64 pF, .string (⟨#[]⟩ : ByteArray), .slice none 0 0]) ?_ 1 _ rfl; refine rB ?_; refine cO (cs := #[.int .i64 0, .string (⟨#[]⟩ : ByteArray), .slice none 0 0]) ?_ 0 _ rfl; refine rB ?_; exact aQ.1) Tryz.underlying31 rfl (by kernel_rfl)) rfl ?_
         exact ⟨_, eR, by refine rR ?_; exact Kd.aT (fR (fR (fR (tR kR aQ)))) (fun _ hk => trivial), tL, wX, sE⟩
end Go.Proofs.YtaofjgnhapnndaaGreat.Q
namespace Go.Proofs.YtaofjgnhapnndaaGreat.Q
open Go.RowKit Go.Proofs.YtaofjgnhapnndaaGreatW.PrintWords Go.Proofs.YtaofjgnhapnndaaGreatW.PrintLast Go.Proofs.YtaofjgnhapnndaaGreatW.PrintMore
set_option linter.unusedVariables false
set_option linter.unusedSimpArgs false
mutual
def dC.j0 : Nat → ByteArray → List ByteArray → Bool → List ByteArray → List (S52) → List ByteArray → List (S52) → Option (List ByteArray × (List (S52)) × Int)
 | 0, _, _, _, _, _, _, _ => none
 | k + 1, c, e, g, h, d, a, b => if g = true then (some (a, b, 2)) else ((iM.f k h d c).bind fun i => (if i ≥ 0 then (some (a, b, 3)) else (if (d.length : Int) ≥ 5 then (some (a, b, 4)) else (dC.l0 k c e 0 a b))))
def dC.l0 : Nat → ByteArray → List ByteArray → Int → List ByteArray → List (S52) → Option (List ByteArray × (List (S52)) × Int)
 | 0, _, _, _, _, _ => none
 | k + 1, c, d, a, e, b => if a < (b.length : Int) then (if 0 ≤ a then (if (Op.bytesLess (((aA b a).f0).toList) c.toList) = true then (dC.l0 k c d (wrap64 (a + 1)) e b) else ((some (([] : List (S52)) : List (S52))).bind fun g => (if a ≤ (b.length : Int) then ((some (b.take (a : Int).toNat : List (S52))).bind fun h => (if g.length + h.length < 2199023255552 then ((some (g ++ h : List (S52))).bind fun i => ((jE.f d).bind fun u => (if i.length < 2199023255552 then ((some (i ++ [(⟨c, ([] : List ByteArray), u⟩ : S52)] : List (S52))).bind fun j => ((some (b.drop (a : Int).toNat : List (S52))).bind fun l => (if j.length + l.length < 2199023255552 then ((dP.f k e (j ++ l)).bind fun m => (some (m.1, m.2, 0))) else (none)))) else (none)))) else (none))) else (none)))) else (none)) else ((some (([] : List (S52)) : List (S52))).bind fun n => (if 0 ≤ a then (if a ≤ (b.length : Int) then ((some (b.take (a : Int).toNat : List (S52))).bind fun o => (if n.length + o.length < 2199023255552 then ((some (n ++ o : List (S52))).bind fun p => ((jE.f d).bind fun v => (if p.length < 2199023255552 then ((some (p ++ [(⟨c, ([] : List ByteArray), v⟩ : S52)] : List (S52))).bind fun q => ((some (b.drop (a : Int).toNat : List (S52))).bind fun r => (if q.length + r.length < 2199023255552 then ((dP.f k e (q ++ r)).bind fun s => (some (s.1, s.2, 0))) else (none)))) else (none)))) else (none))) else (none)) else (none)))
end
def dC.f (k : Nat) (aZ : List ByteArray) (aI : List (S52)) (a1 : ByteArray) (l2 : List ByteArray) : Option (List ByteArray × (List (S52)) × Int) := (aN.f k aZ aI).bind fun b => (if b = true then ((dP.f k aZ aI).bind fun a => ((dF.f k a1).bind fun c => (if c = true then ((dI.f k l2 aZ).bind fun d => (dC.j0 k a1 l2 (!d) aZ aI a.1 a.2)) else (dC.j0 k a1 l2 true aZ aI a.1 a.2)))) else (some (([] : List ByteArray), ([] : List (S52)), 1)))
def dC.T13 : Bool × List (List Nat × List Nat) := (true, [([], []), ([], []), ([1], [1]), ([], []), ([2, 3], [2, 3]), ([0, 4], [0, 4]), ([], []), ([], []), ([7, 5], [7]), ([6, 8], [6, 8]), ([9], [9]), ([5, 10, 8], [5, 10]), ([], []), ([12], [12]), ([], []), ([13, 14], [13, 14]), ([11, 15, 11], [11, 15]), ([0, 1, 2, 3, 4, 5, 6, 7, 8, 9, 10, 11, 12, 13, 14, 15, 16], []), ([17, 16, 16, 0, 1, 2, 3, 4, 5, 6, 7, 8, 9, 10, 11, 12, 13, 14, 15, 16], [16, 17])])
def dC.B13 : List Nat := [0, 0, 2, 0, 14, 31, 0, 0, 191, 511, 1023, 2047, 0, 4096, 0, 28672, 65535, 131071, 262143]
theorem dC.eu : rtab .any (opsOf Tryz.f6 13) = dC.T13 := by kernel_rfl
theorem dC.Qd : o5 dC.T13.2 dC.B13 = true := by kernel_rfl
theorem dC.calls (k : Nat) (eE : Option Addr) (eF : Nat) (aZ : List ByteArray) (eV : Option Addr) (eC : Nat) (aI : List (S52)) (a1 : ByteArray) (A2 : Option Addr) (c2 : Nat) (l2 : List ByteArray) (r1 : List ByteArray) (r2 : List (S52)) (r3 : Int) (w : World) (gP : Kd.C Kd.string w eE aZ.length aZ) (gN : aZ.length ≤ eF) (gK : Kd.C k52 w eV aI.length aI) (gO : aI.length ≤ eC) (Q7 : Kd.C Kd.string w A2 l2.length l2) (MA : l2.length ≤ c2) (h : dC.f k aZ aI a1 l2 = some (r1, r2, r3)) :
  Calls Tryz.prog 6 #[.agg #[.slice eE aZ.length eF, .slice eV aI.length eC], .string a1, .slice A2 l2.length c2] w fun e w' => ∃ v0_ v1_ : Value, e = .returned (.tuple #[.agg #[v0_, v1_], .int .i64 r3]) ∧ Kd.R Kd.string 9 w' w.heap.size (fun k_ => (w.heap.size ≤ k_)) v0_ r1 ∧ Kd.N k52 52 w' w.heap.size (F10 w v0_) v1_ r2 ∧ Below w.heap.size w w' := by
 have hu26 := Tryz.underlying26
 have hu52 := Tryz.underlying52
 obtain ⟨dT, dS⟩ := mZ2 gP gN
 obtain ⟨bV, eS⟩ := mZ2 gK gO
 obtain ⟨B0, yN⟩ := mZ2 Q7 MA
 clear gP gN gK gO Q7 MA
 have HB := am (Below.refl w.heap.size w)
 unfold dC.f at h
 have H := h
 clear h
 obtain ⟨pN, A4, H⟩ := bd H
 refine tC H ?_ ?_ <;> clear H <;> intro c5 H <;> subst c5
 ·obtain ⟨⟨dB, bM⟩, A6, H⟩ := bd H
  dsimp only at H
  have HC7 := am H
  clear H
  go_enter Tryz.func6, Tryz.ntmps6
  go_upto_region 4 with (first | ((with_reducible refine gD 3 ?_); refine bX 3 #[.slice eE aZ.length eF, .slice eV aI.length eC] 26 ?_; intro aW hg w8 hbox hb; have a6 := am hbox; have iS := am (u4 : w.heap.size ≤ aW); have j5 := iS; replace HB := bS iJ hb; clear hb hbox hg) | ((with_reducible refine gD 6 ?_); refine bX 6 #[.slice none 0 0, .slice none 0 0] 26 ?_; intro bK hg w9 hbox hb; have aQ := am hbox; have qJ := am (EF : w.heap.size ≤ bK); have oI := qJ; replace HB := bS fH hb; have dJ := nL d3 hg; have dL := nG d3 hg; replace a6 := bB d3 hb; clear hb hbox hg; have Z10 := nZ1 dJ dL; have Uq := cz2 a6) | ((with_reducible refine gC 31 ?_); refine cQ (some 11) Tryz.func31 (aN.calls k _ _ aZ _ _ aI true _ (pB dT) dS.1 (pB bV) eS.1 A4.out) ?_; rintro w12 hb; replace a6 := bB d3 hb; replace aQ := bB eW hb; replace HB := bS kO hb; clear hb; have Us := cz2 a6) | ((with_reducible refine gC 32 ?_); refine cE (some 15) Tryz.func32 (dP.calls k _ _ aZ _ _ aI dB bM _ (pB dT) dS.1 (pB bV) eS.1 A6.out) ?_; rintro e w14 ⟨H6, D0, rfl, eH, lW, hb⟩; refine ⟨_, rfl, ?_⟩; have gG := am (Kd.dO (Kd.pX (M := fun k_ => (w.heap.size ≤ k_)) eH (aG kO) (fun k_ h_ => h_)) (aG kO)); have fD := am (Kd.jK (Kd.aJ (ok' := F12 w H6 aW bK) (Kd.S_N (Kd.lG lW)) (fun k_ hk_ => ⟨(Nat.le_trans (aG kO) hk_.2.1), hk_.1, (fB d3 k_ hk_.2.1), (fB eW k_ hk_.2.1)⟩)) (aG kO)); replace a6 := bB d3 hb; replace aQ := bB eW hb; replace HB := bS kO hb; clear hb eH lW) | ((with_reducible refine gD 8 ?_); refine bX 8 #[.slice none 0 0, .slice none 0 0] 26 ?_; intro bC hg w15 hbox hb; replace gG := RB uB hb; replace fD := am (Kd.iI (Kd.jU yF bC (Nat.le_of_eq hg.symm)) hb); have aV := am hbox; have C1 := am (UN : w.heap.size ≤ bC); have sO := C1; replace HB := bS kO hb; have fM := nL d3 hg; have gJ := nG d3 hg; replace a6 := bB d3 hb; have g4 := nL eW hg; have iL := nG eW hg; replace aQ := bB eW hb; clear hb hbox hg; obtain ⟨l9, kY, aD4⟩ := Kd.cZ gG.1; subst aD4; have Z17 := nZ2 gJ fM iL g4; have Z19 := cz2 aV; obtain ⟨zV, p1, Fg⟩ := Kd.gM fD.1; subst Fg))
  (try simp only [Act.put, List.setIfInBounds_toArray, List.set_cons_zero, List.set_cons_succ])
  go_cut [25] (fun v25 wc => ∃ (kq : Nat) (Ui : Bool), v25 = .bool Ui ∧ aC (dC.j0 kq a1 l2 Ui aZ aI dB bM = some (r1, r2, r3)) ∧ aC (kq ≤ k) ∧ aC (Kd.R Kd.string 9 wc w.heap.size (fun k_ => (w.heap.size ≤ k_)) (.slice l9 dB.length kY) dB) ∧ aC (Kd.N k52 52 wc w.heap.size (F13 w (.slice l9 dB.length kY) aW bK bC) (.slice zV bM.length p1) bM) ∧ aC (wc.heap[aW]? = some (.cells #[(.slice eE aZ.length eF), (.slice eV aI.length eC)] 26 (0, 0))) ∧ aC (wc.heap[bK]? = some (.cells #[(.slice none 0 0), (.slice none 0 0)] 26 (0, 0))) ∧ aC (wc.heap[bC]? = some (.cells #[(.slice l9 dB.length kY), (.slice zV bM.length p1)] 26 (0, 0))) ∧ aC (Below w.heap.size w wc))
  case first =>
   have H := HC7.1
   clear HC7
   obtain ⟨bZ, Uy, H⟩ := bd H
   refine tC H ?_ ?_ <;> clear H <;> intro c22 H <;> subst c22
   ·obtain ⟨PK, Gw, H⟩ := bd H
    have H' := am H
    repeat clear H
    go_wp2_with (first | ((with_reducible refine gC 33 ?_); refine cQ (some 17) Tryz.func33 (dF.calls k a1 true _ Uy.out) ?_; rintro w' ⟨nd, rfl⟩; have Z24 := nZ2 dJ dL fM gJ; have Z26 := cz2 a6) | (go_at_call 34; refine cM (dI.calls k _ _ l2 _ _ aZ PK _ (Kd.aU B0.1 fW) yN.1 (Kd.aU dT.1 fW) dS.1 Gw.out) ?_; rintro w' ⟨nd, rfl⟩))
    go_meet
    exact ⟨_, (!PK), dU, H', ⟨by first | omega | exact Nat.le_refl _⟩, ⟨mR gG aV⟩, ⟨by refine rN ?_; exact Kd.aJ (fN (fN (Kd.aJ fD.1 (fun k_ hk => (⟨hk, hk.2⟩ : _ ∧ k_ ≠ bC))))) (fun _ hk => ⟨hk.1.1.1, ⟨hk.1.1.2.1, ⟨hk.1.1.2.2.1, ⟨hk.1.1.2.2.2, hk.1.2⟩⟩⟩⟩)⟩, ⟨qF a6 fM⟩, ⟨qF aQ g4⟩, ⟨qP aV⟩, ⟨fW⟩⟩
   have H' := am H
   repeat clear H
   go_wp2_with (first | ((with_reducible refine gC 33 ?_); refine cQ (some 17) Tryz.func33 (dF.calls k a1 false _ Uy.out) ?_; rintro w' ⟨nd, rfl⟩))
   go_meet
   exact ⟨_, (true), dU, H', ⟨by first | omega | exact Nat.le_refl _⟩, ⟨mR gG aV⟩, ⟨by refine rN ?_; exact Kd.aJ (fN (fN (Kd.aJ fD.1 (fun k_ hk => (⟨hk, hk.2⟩ : _ ∧ k_ ≠ bC))))) (fun _ hk => ⟨hk.1.1.1, ⟨hk.1.1.2.1, ⟨hk.1.1.2.2.1, ⟨hk.1.1.2.2.2, hk.1.2⟩⟩⟩⟩)⟩, ⟨qF a6 fM⟩, ⟨qF aQ g4⟩, ⟨qP aV⟩, ⟨fW⟩⟩
  clear HC7
  try clear c2
  try clear c5
  try clear Uq
  try clear Us
  try clear Z19
  obtain ⟨kq, Ui, rfl, HA, HJ6, aH, aD, a6, aQ, aV, HB⟩ := hcut
  cases kq with
  | zero => exact absurd HA.out (by simp [dC.j0])
  | succ kj6 =>
   have H := HA.out
   clear HA
   simp only [dC.j0] at H
   refine tC H ?_ ?_ <;> (repeat clear H) <;> intro c27 H <;> subst c27
   obtain ⟨rfl, rfl, rfl⟩ := sZ3 H
   repeat clear H
   have Z28 := nZ2 gJ fM iL g4
   have Z30 := cz2 aV
   have Z31 := nZ1 dL dJ
   have Z32 := cz2 aQ
   rotate_left
   obtain ⟨K5, A33, H⟩ := bd H
   by_cases lw : K5 ≥ 0
   rw [if_pos lw] at H
   have bk : decide (0 ≤ K5) = true := decide_eq_true lw
   clear lw
   obtain ⟨rfl, rfl, rfl⟩ := sZ3 H
   repeat clear H
   have Z35 := nZ2 dJ dL fM gJ
   have Z37 := cz2 a6
   have xo := trivial
   rotate_left
   rw [if_neg lw] at H
   have bk : decide (0 ≤ K5) = false := decide_eq_false lw
   clear lw
   by_cases lx : (aI.length : Int) ≥ 5
   rw [if_pos lx] at H
   have Qu : decide (5 ≤ (aI.length : Int)) = true := decide_eq_true lx
   have bm : decide (5 ≤ aI.length) = true := decide_eq_true (by omega)
   clear lx
   obtain ⟨rfl, rfl, rfl⟩ := sZ3 H
   repeat clear H
   have Z43 := nZ2 dJ dL fM gJ
   have zd := cz2 a6
   have xp := trivial
   rotate_left
   rw [if_neg lx] at H
   have Qu : decide (5 ≤ (aI.length : Int)) = false := decide_eq_false lx
   have bm : decide (5 ≤ aI.length) = false := decide_eq_false (by omega)
   clear lx
   have H' := am H
   repeat clear H
   have Z51 := nZ2 dJ dL fM gJ
   have Z53 := cz2 a6
   have xq := trivial
   rotate_left
   all_goals
    go_wp2_with (first | ((with_reducible refine gC 35 ?_); revert xo; intro xo; refine cQ (some 29) Tryz.func35 (iM.calls kj6 _ _ aZ _ _ aI a1 K5 _ (pB dT) dS.1 (pB bV) eS.1 A33.out) ?_; rintro aOO hb; replace aH := RB fU hb; replace aD := NE lE hb; replace a6 := bB d3 hb; replace aQ := bB eW hb; replace aV := bB iD hb; replace HB := bS fW hb; clear hb; have aI0 := nZ1 iL g4; have aI1 := cz2 aV; have aI2 := cz2 aQ) | ((with_reducible refine gC 35 ?_); revert xp; intro xp; refine cQ (some 29) Tryz.func35 (iM.calls kj6 _ _ aZ _ _ aI a1 K5 _ (pB dT) dS.1 (pB bV) eS.1 A33.out) ?_; rintro aOP hb; replace aH := RB fU hb; replace aD := NE lE hb; replace a6 := bB d3 hb; replace aQ := bB eW hb; replace aV := bB iD hb; replace HB := bS fW hb; clear hb; have aI3 := cz2 a6; have aI4 := nZ1 iL g4; have aI5 := cz2 aV; have aI6 := cz2 aQ) | ((with_reducible refine gC 35 ?_); revert xq; intro xq; refine cQ (some 29) Tryz.func35 (iM.calls kj6 _ _ aZ _ _ aI a1 K5 _ (pB dT) dS.1 (pB bV) eS.1 A33.out) ?_; rintro aOQ hb; replace aH := RB fU hb; replace aD := NE lE hb; replace a6 := bB d3 hb; replace aQ := bB eW hb; replace aV := bB iD hb; replace HB := bS fW hb; clear hb; have yx := cz2 a6))
   ·refine cT bK 26 #[.slice l9 dB.length kY, .slice zV bM.length p1] (qP aQ) Tryz.underlying26 ?_
    exact ⟨_, _, eR, mR aH aQ, by refine rN ?_; exact Kd.aJ (fN (fN (Kd.aJ aD.1 (fun k_ hk => (⟨hk, hk.2.2.2.1⟩ : _ ∧ k_ ≠ bK))))) (fun _ hk => ⟨hk.1.1, hk.1.2.1⟩), fW⟩
   ·refine cT bK 26 #[.slice l9 dB.length kY, .slice zV bM.length p1] (qP aQ) Tryz.underlying26 ?_
    exact ⟨_, _, eR, mR aH aQ, by refine rN ?_; exact Kd.aJ (fN (fN (Kd.aJ aD.1 (fun k_ hk => (⟨hk, hk.2.2.2.1⟩ : _ ∧ k_ ≠ bK))))) (fun _ hk => ⟨hk.1.1, hk.1.2.1⟩), fW⟩
   ·refine cT bK 26 #[.slice l9 dB.length kY, .slice zV bM.length p1] (qP aQ) Tryz.underlying26 ?_
    exact ⟨_, _, eR, mR aH aQ, by refine rN ?_; exact Kd.aJ (fN (fN (Kd.aJ aD.1 (fun k_ hk => (⟨hk, hk.2.2.2.1⟩ : _ ∧ k_ ≠ bK))))) (fun _ hk => ⟨hk.1.1, hk.1.2.1⟩), fW⟩
   ·go_loopg [9] kj6 (fun kq v9 w' => ∃ (oB : Int), v9 = .int .i64 oB ∧ aC (dC.l0 kq a1 l2 oB dB bM = some (r1, r2, r3)) ∧ aC (kq ≤ kj6) ∧ aC (Kd.R Kd.string 9 w' w.heap.size (fun k_ => (w.heap.size ≤ k_)) (.slice l9 dB.length kY) dB) ∧ aC (Kd.N k52 52 w' w.heap.size (F13 w (.slice l9 dB.length kY) aW bK bC) (.slice zV bM.length p1) bM) ∧ aC (w'.heap[aW]? = some (.cells #[(.slice eE aZ.length eF), (.slice eV aI.length eC)] 26 (0, 0))) ∧ aC (w'.heap[bK]? = some (.cells #[(.slice none 0 0), (.slice none 0 0)] 26 (0, 0))) ∧ aC (w'.heap[bC]? = some (.cells #[(.slice l9 dB.length kY), (.slice zV bM.length p1)] 26 (0, 0))) ∧ aC (Below w.heap.size w w'))
    case atStart => exact ⟨(0), dU, H', ⟨Nat.le_refl _⟩, ⟨rR aH.1⟩, ⟨rN aD.1⟩, ⟨rB a6.1⟩, ⟨rB aQ.1⟩, ⟨rB aV.1⟩, ⟨fW⟩⟩
    case round =>
     clear H'
     try clear c2
     try clear c5
     try clear c27
     try clear lw
     try clear bk
     try clear lx
     try clear Qu
     try clear bm
     try clear Uq
     try clear Us
     try clear Z19
     try clear Z53
     try clear yx
     obtain ⟨oB, rfl, HA, HK2, aH, aD, a6, aQ, aV, HB⟩ := hrel
     cases gk with
     | zero => exact absurd HA.out (by simp [dC.l0])
     | succ k2 =>
      have H := HA.out
      clear HA
      simp only [dC.l0] at H
      refine ic H ?_ ?_ <;> clear H <;> intro a0F H
      ·obtain ⟨An, H⟩ := cN H
       refine tC H ?_ ?_ <;> clear H <;> intro a0G H
       ·have H' := am H
        repeat clear H
        have Z59 := nZ2 gJ fM iL g4
        have Z61 := cz2 aV
        have QL : 0 ≤ (oB : Int) := oT
        have QN : oB < (bM.length : Int) := oT
        obtain ⟨tE, KW, LC, OA, OW, XR, RH, JS, JT, N5, N3, N6, N4⟩ := CB (Kd.d9 aD.1).2.2 oB QL QN
        cases XR
        obtain ⟨ce114, hce114, hMe114, hcc114⟩ := Kd.Hu aD.1 z52 oB QL (by first | exact QN | exact oT | (have e_ := (Kd.d9 aD.1).1; omega))
        obtain ⟨ua114_1, uc114_1, ua114_2, uc114_2, rfl, GJ, FY, GK, FZ⟩ := wE hMe114
        have BJ := hcc114 1 _ rfl
        rw [tF _ _ 1 (by omega)] at BJ
        replace BJ := Option.some.inj (BJ.symm.trans JS)
        injection BJ with hva_ hvn_ hvc_
        rw [hva_] at FY
        rw [hvc_] at GJ
        have sS := am (show Kd.V Kd.string 9 _ w.heap.size _ _ ((aA bM oB).f1) from Kd.V_mk GJ FY)
        clear hva_ hvn_ hvc_ FY GJ
        have BK := hcc114 2 _ rfl
        rw [tF _ _ 2 (by omega)] at BK
        replace BK := Option.some.inj (BK.symm.trans JT)
        injection BK with hva_ hvn_ hvc_
        rw [hva_] at FZ
        rw [hvc_] at GK
        have sU := am (show Kd.V Kd.string 9 _ w.heap.size _ _ ((aA bM oB).f2) from Kd.V_mk GK FZ)
        clear hva_ hvn_ hvc_ FZ GK
        clear hcc114 hce114
        have x7 := am N3
        have J1 := am N5
        clear N3 N5
        have zQ := am N4
        have R0 := am N6
        clear N4 N6
        replace QL := eq_true QL
        replace QN := eq_true QN
        go_wp2
        go_roundg k2
        case measure => have := HJ6.out; have := HK2.out; omega
        case rel => exact ⟨(wrap64 (oB + 1)), dU, H', ⟨by have := HJ6.out; have := HK2.out; omega⟩, ⟨rR aH.1⟩, ⟨rN aD.1⟩, ⟨rB a6.1⟩, ⟨rB aQ.1⟩, ⟨rB aV.1⟩, ⟨fW⟩⟩
       ·obtain ⟨M8, hy115⟩ : ∃ y_ : List (S52), y_ = (([] : List (S52))) := ⟨_, rfl⟩
        replace H : (if oB ≤ (bM.length : Int) then ((some (bM.take (oB : Int).toNat : List (S52))).bind fun Dh => (if M8.length + Dh.length < 2199023255552 then ((some (M8 ++ Dh : List (S52))).bind fun DA => ((jE.f l2).bind fun uC => (if DA.length < 2199023255552 then ((some (DA ++ [(⟨a1, ([] : List ByteArray), uC⟩ : S52)] : List (S52))).bind fun M9 => ((some (bM.drop (oB : Int).toNat : List (S52))).bind fun O9 => (if M9.length + O9.length < 2199023255552 then ((dP.f k2 dB (M9 ++ O9)).bind fun bb => (some (bb.1, bb.2, 0))) else (none)))) else (none)))) else (none))) else (none)) = some (r1, r2, r3) := by first | (rw [hy115]; with_reducible exact H) | (have H2_ := (Option.bind_some _ _).symm.trans H; rw [hy115]; with_reducible exact H2_) | (have H2_ := (Option.bind_some _ _).symm.trans H; with_reducible exact H2_) | with_reducible exact H | (rw [hy115]; exact H) | exact H
        have MO := am hy115
        clear hy115
        have aKM := eq_true (oT : 0 ≤ oB)
        obtain ⟨a0H, aKN, H⟩ := cP H
        obtain ⟨Dh, ao, H⟩ := bY H
        obtain ⟨ws, H⟩ := cL H
        obtain ⟨DA, PY, H⟩ := bY H
        obtain ⟨uC, A65, H⟩ := bd H
        obtain ⟨wt, H⟩ := cL H
        obtain ⟨M9, Pn, H⟩ := bY H
        have aKO := eq_true (oT : 0 ≤ oB)
        have aKP := eq_true (oT : oB ≤ (bM.length : Int))
        obtain ⟨O9, VE, H⟩ := bY H
        obtain ⟨wu, H⟩ := cL H
        obtain ⟨PS, PZ⟩ := yv (M9 ++ O9); first | replace H := bW PZ H | rw [← PZ.1] at H
        obtain ⟨⟨Gq, O4⟩, A70, H⟩ := bd H
        dsimp only at H
        obtain ⟨rfl, rfl, rfl⟩ := sZ3 H
        repeat clear H
        have Z71 := nZ2 gJ fM iL g4
        have Z73 := cz2 aV
        have QL : 0 ≤ (oB : Int) := oT
        have QN : oB < (bM.length : Int) := oT
        obtain ⟨tE, KW, LC, OA, OW, XR, RH, JS, JT, N5, N3, N6, N4⟩ := CB (Kd.d9 aD.1).2.2 oB QL QN
        cases XR
        obtain ⟨ce114, hce114, hMe114, hcc114⟩ := Kd.Hu aD.1 z52 oB QL (by first | exact QN | exact oT | (have e_ := (Kd.d9 aD.1).1; omega))
        obtain ⟨ua114_1, uc114_1, ua114_2, uc114_2, rfl, GJ, FY, GK, FZ⟩ := wE hMe114
        have BJ := hcc114 1 _ rfl
        rw [tF _ _ 1 (by omega)] at BJ
        replace BJ := Option.some.inj (BJ.symm.trans JS)
        injection BJ with hva_ hvn_ hvc_
        rw [hva_] at FY
        rw [hvc_] at GJ
        have sS := am (show Kd.V Kd.string 9 _ w.heap.size _ _ ((aA bM oB).f1) from Kd.V_mk GJ FY)
        clear hva_ hvn_ hvc_ FY GJ
        have BK := hcc114 2 _ rfl
        rw [tF _ _ 2 (by omega)] at BK
        replace BK := Option.some.inj (BK.symm.trans JT)
        injection BK with hva_ hvn_ hvc_
        rw [hva_] at FZ
        rw [hvc_] at GK
        have sU := am (show Kd.V Kd.string 9 _ w.heap.size _ _ ((aA bM oB).f2) from Kd.V_mk GK FZ)
        clear hva_ hvn_ hvc_ FZ GK
        clear hcc114 hce114
        have x7 := am N3
        have J1 := am N5
        clear N3 N5
        have zQ := am N4
        have R0 := am N6
        clear N4 N6
        replace QL := eq_true QL
        replace QN := eq_true QN
        try go_wp2
        replace aH := RD aH
        replace aD := ND aD
        replace sS := am (Kd.Ee sS.out)
        replace sU := am (Kd.Ee sU.out)
        replace a6 := BD a6
        replace aQ := BD aQ
        replace aV := BD aV
        replace x7 := am (Kd.pO x7.1)
        replace zQ := am (Kd.pO zQ.1)
        replace HB := am (aY HB.1)
        have q75 : (oB : Int) ≤ ((bM.length : Int) : Int) := oT
        obtain ⟨i075, dt, _, hsz75, _⟩ := info_parts tZ
        have hroom75 : bM.length ≤ p1 := (Kd.d9 aD.1).2.1
        have hC75 : Kd.F k52 _ _ (some tE) bM.length bM := (Kd.V_at (base := w.heap.size) (Kd.N_V aD.1)).2.2
        have hcut75 := XO (P := Tryz.prog) 24 52 .i64 Tryz.underlying24 dt (some tE) bM.length p1 oB (oT) q75 hroom75
        have pp := Kd.Du (m := (oB : Int).toNat) hC75 (by omega)
        have hy75 : Dh.length = (oB : Int).toNat := (by rw [ao.out, List.length_take]; omega)
        rw [← ao.out] at pp
        rw [← hy75] at hcut75
        have eU := am (show Kd.V k52 52 _ w.heap.size _ (.slice (some tE) Dh.length p1) Dh from Kd.V_mk (by omega) pp)
        have aGY := am (show Dh.length ≤ p1 from by omega)
        clear pp hC75 hroom75 dt hsz75
        have KY75 := am hy75
        clear hy75
        replace q75 := eq_true q75
        have q76 : (oB : Int) ≤ ((bM.length : Int) : Int) := oT
        obtain ⟨i076, du, _, hsz76, _⟩ := info_parts tZ
        have hroom76 : bM.length ≤ p1 := (Kd.d9 aD.1).2.1
        have hC76 : Kd.F k52 _ _ (some tE) bM.length bM := (Kd.V_at (base := w.heap.size) (Kd.N_V aD.1)).2.2
        have aF1 : (0 : Int) ≤ (oB : Int) := oT
        have hcut76 := T9 (P := Tryz.prog) 24 52 .i64 Tryz.underlying24 du 3 hsz76 (some tE) bM.length p1 oB aF1 q76
        have Rz := Kd.Oa (m := (oB : Int).toNat) (c := p1) hC76 (by omega) hroom76
        obtain ⟨A76, hA76⟩ : ∃ A1, A1 = (if p1 = (oB : Int).toNat then (some tE) else ((some tE) : Option Addr).map (·.add ((oB : Int).toNat * 3))) := ⟨_, rfl⟩
        obtain ⟨c76, Xb⟩ : ∃ c1, c1 = p1 - (oB : Int).toNat := ⟨_, rfl⟩
        have hy76 : O9.length = bM.length - (oB : Int).toNat := (by rw [VE.out, List.length_drop] <;> omega)
        rw [show (bM).drop (oB : Int).toNat = O9 from VE.out.symm] at Rz
        replace Rz : Kd.F k52 _ _ A76 O9.length O9 := (by rw [hA76]; exact Rz)
        rw [← hy76, ← hA76, ← Xb] at hcut76
        have y6 := am (show Kd.V k52 52 _ w.heap.size _ (.slice A76 O9.length c76) O9 from Kd.V_mk (by rw [hy76, Xb]; exact Nat.sub_le_sub_right hroom76 _) Rz)
        have aH2 := am (show O9.length ≤ c76 from by rw [hy76, Xb]; exact Nat.sub_le_sub_right hroom76 _)
        clear Rz hC76 hroom76 du hsz76 Xb
        have KY76 := am hy76
        have KA76 := am hA76
        clear hy76 hA76
        replace q76 := eq_true q76
        refine sT [18] 19 (uA2 aV) (fun hHeld => ?_)
        refine fP dC.eu dC.Qd (fun HT_ HW_ => ?_)
        generalize wr.drew = w74 at aH aD sS sU a6 aQ aV x7 zQ HB eU y6 hHeld ⊢
        refine pU6 1 3 6 7 12 14 ?_
        refine tK2 2 (some 56) ?_
        refine pU1 4 ?_
        refine tK2 13 (some 67) ?_
        refine pU1 15 ?_
        refine oN 0 (some 54) fun K hK => ?_
        refine Kd.L9 k52 _ 52 ?hg (N' := 54) ?hd (xs := ([] : List (S52))) (inner := []) (ok := (F23 w (.slice l9 dB.length kY) (.slice (some tE) bM.length p1) aW bK bC)) (okp := (F23 w (.slice l9 dB.length kY) (.slice (some tE) bM.length p1) aW bK bC)) ?hr ?hp (fun _ hk => hk) ((show ∀ k_, w74.heap.size ≤ k_ → (F23 w (.slice l9 dB.length kY) (.slice (some tE) bM.length p1) aW bK bC) k_ from fun k_ hk => ⟨(Nat.le_trans (aG fW) hk), Kd.fresh' (Kd.R_lt fU) k_ hk, Kd.fresh' (Kd.N_lt lE) k_ hk, fB d3 k_ hk, fB eW k_ hk, fB iD k_ hk⟩) _ (Nat.le_refl _)) (Below.refl _ _) (Nat.le_refl _) (by simp) ?_; (case hd => rfl); (case hg => rfl); (case hr => first | (go_simp; done) | (go_simp; rfl)); (case hp => exact (Reps.none _ _))
        intro Da w77 LI hb hg_ hnew_
        clear hg_ hnew_
        (first | rw [← MO.out] at LI | (simp only [Int.reduceToNat] at LI; rw [← MO.out] at LI))
        replace aH := RB fU hb
        replace aD := am (Kd.rW lE (by first | exact Kd.y7 LI | exact Kd.E9 LI) hb)
        replace sS := am (Kd.pI (rV sS.out) (by first | exact Kd.y7 LI | exact Kd.E9 LI) hb)
        replace sU := am (Kd.pI (rV sU.out) (by first | exact Kd.y7 LI | exact Kd.E9 LI) hb)
        replace eU := am (Kd.pI (rV eU.1) (by first | exact Kd.y7 LI | exact Kd.E9 LI) hb)
        replace y6 := am (Kd.pI (rV y6.1) (by first | exact Kd.y7 LI | exact Kd.E9 LI) hb)
        have wR := am (Kd.jK LI (aG fW))
        replace a6 := bB d3 hb
        replace aQ := bB eW hb
        replace aV := bB iD hb
        replace x7 := am (Kd.aU (by repeat (first | (with_reducible exact x7.1) | (with_reducible refine Kd.nW ?_ _) | (with_reducible refine Kd.nX ?_ _) | (with_reducible refine Kd.pO ?_) | exact x7.1)) hb)
        replace zQ := am (Kd.aU (by repeat (first | (with_reducible exact zQ.1) | (with_reducible refine Kd.nW ?_ _) | (with_reducible refine Kd.nX ?_ _) | (with_reducible refine Kd.pO ?_) | exact zQ.1)) hb)
        replace HB := bS fW hb
        clear hb LI
        refine nK hK (uA2 aV).1 fun hHeld => ?_
        clear hK K
        refine oN 5 (some 59) fun K hK => ?_
        refine Kd.o6 k52 (w0 := w) w.heap.size (by rfl) (.tmp 54) (.tmp 58) 24 52 Ag0 64 rfl Tryz.underlying24 tZ rfl (by decide) (by omega) Da M8 Dh _ _ _ (F13 w (.slice l9 dB.length kY) aW bK bC) (FA (F13 w (.slice l9 dB.length kY) aW bK bC) Da) rfl rfl ?aO ?aR (fun _ hk => hk) ?aF ?aB ?aS ?aL ?_
        (case aR => exact (by skip; exact Kd.V_F (Kd.dQ (ok' := (FA (F13 w (.slice l9 dB.length kY) aW bK bC) Da)) (eU.1) (fun k_ hk => ⟨⟨hk.1.1, ⟨hk.1.2.1, ⟨hk.1.2.2.1, ⟨hk.1.2.2.2.1, hk.1.2.2.2.2⟩⟩⟩⟩, hk.2⟩))))
        (case aB => exact fW)
        (case aF => exact (fun k_ hk => ⟨(Nat.le_trans (aG fW) hk), Kd.fresh' (Kd.R_lt fU) k_ hk, fB d3 k_ hk, fB eW k_ hk, fB iD k_ hk⟩))
        (case aO => exact (by refine rN ?_; exact Kd.aJ wR.1 (fun _ hk => ⟨hk.1, ⟨hk.2.1, ⟨hk.2.2.2.1, ⟨hk.2.2.2.2.1, hk.2.2.2.2.2⟩⟩⟩⟩)))
        (case aS => exact (aG fW))
        (case aL => have := ws.out; omega)
        intro My w79 ho hb hg hat
        rw [← PY.out] at ho
        replace aH := am (Kd.uQ fU (Kd.lZ (rN wR.1)) (by decide) hg)
        replace aD := am (Kd.vH (ok := (F13 w (.slice l9 dB.length kY) aW bK bC)) lE hg hat)
        replace a6 := gkN d3 hg wR a6
        replace aQ := gkN eW hg wR aQ
        replace aV := gkN iD hg wR aV
        replace sS := am (Kd.lU (ok := (F23 w (.slice l9 dB.length kY) (.slice (some tE) bM.length p1) aW bK bC)) (by refine rV ?_; exact Kd.dQ sS.out (fun _ hk => ⟨⟨hk.1.1.1, ⟨hk.1.1.2.1, ⟨hk.1.2, ⟨hk.1.1.2.2.1, ⟨hk.1.1.2.2.2.1, hk.1.1.2.2.2.2⟩⟩⟩⟩⟩, hk.2⟩)) hg hat)
        replace sU := am (Kd.lU (ok := (F23 w (.slice l9 dB.length kY) (.slice (some tE) bM.length p1) aW bK bC)) (by refine rV ?_; exact Kd.dQ sU.out (fun _ hk => ⟨⟨hk.1.1.1, ⟨hk.1.1.2.1, ⟨hk.1.2, ⟨hk.1.1.2.2.1, ⟨hk.1.1.2.2.2.1, hk.1.1.2.2.2.2⟩⟩⟩⟩⟩, hk.2⟩)) hg hat)
        replace eU := am (Kd.lU (ok := (F13 w (.slice l9 dB.length kY) aW bK bC)) (rV eU.1) hg hat)
        replace y6 := am (Kd.lU (ok := (F13 w (.slice l9 dB.length kY) aW bK bC)) (rV y6.1) hg hat)
        replace HB := am hb
        have C2 := am ho
        clear wR
        clear ho hb hg hat
        refine nK hK (uA2 aV).1 fun hHeld => ?_
        clear hK K
        refine oN 8 (some 62) fun K hK => ?_
        refine gE Tryz.func36 (jE.calls _ _ l2 uC _ (pB B0) yN.1 A65.out) ?_
        rintro e w80 ⟨K7, rfl, eH, hb⟩
        refine ⟨_, rfl, ?_⟩
        replace aD := am (Kd.rW lE (Kd.bT eH) hb)
        replace sS := am (Kd.pI (rV sS.out) (Kd.bT eH) hb)
        replace sU := am (Kd.pI (rV sU.out) (Kd.bT eH) hb)
        replace eU := am (Kd.pI (rV eU.1) (Kd.bT eH) hb)
        replace y6 := am (Kd.pI (rV y6.1) (Kd.bT eH) hb)
        replace C2 := am (Kd.rW (rN C2.1) (Kd.bT eH) hb)
        have C3 := am (Kd.dO (Kd.fF (Kd.pX (M := fun k_ => (w.heap.size ≤ k_)) eH (aG fW) (fun k_ h_ => h_)) (Kd.R_lt fU)) (aG fW))
        replace aH := am (Kd.dV fU (Kd.bT eH) hb)
        replace a6 := bB d3 hb
        replace aQ := bB eW hb
        replace aV := bB iD hb
        replace HB := bS fW hb
        clear hb eH
        obtain ⟨Kj, Lh, a1Q⟩ := Kd.cZ C3.1
        (first | subst a1Q | (obtain ⟨f4_, f5_⟩ := sj a1Q; subst f4_; subst f5_))
        refine nK hK (uA2 aV).1 fun hHeld => ?_
        clear hK K
        refine pU1 9 ?_
        refine oN 10 (some 64) fun K hK => ?_
        refine M6 (w1 := ?_) (v := ?_) (by rfl) rfl ?_ ?_
        rotate_left 2
        ·go_simp
         constructor
         ·rfl
         ·rfl
        refine hK.out _ _ ⟨(bP (bF aV.1 _) 0).trans rfl, (bP (bF aV.1 _) 1).trans rfl⟩ (fun hHeld => ?_)
        clear hK K
        refine nM ?_
        refine oN 11 (some 65) fun K hK => ?_
        refine Kd.KH k52 (w0 := w) w.heap.size (by rfl) (.tmp 59) (.tmp 64) 24 52 Ag0 64 rfl Tryz.underlying24 tZ rfl (by decide) (by omega) My DA (⟨a1, ([] : List ByteArray), uC⟩ : S52) [.string a1, .slice none 0 0, .slice Kj uC.length Lh] (F13 w (.slice l9 dB.length kY) aW bK bC) (FA (F13 w (.slice l9 dB.length kY) aW bK bC) My) rfl rfl ?aP (fun _ hk => hk) ?aF ?aO ?aB ?aS ?aL ?_
        (case aP => exact (RL _ _ (⟨a1, ([] : List ByteArray), uC⟩ : S52) (Nat.le_refl _) (Kd.Od _ _ _) (Kd.bH (Kd.aT (ok' := (FA (F13 w (.slice l9 dB.length kY) aW bK bC) My)) (Kd.gZ (Kd.gZ (Kd.gZ (Kd.iU (C3.1) (Kd.lZ C2.1) (by decide)) a6.1 (by decide)) aQ.1 (by decide)) aV.1 (by decide)) (fun k_ hk => ⟨⟨hk.1.1.1.1.1.1, ⟨hk.1.1.1.1.2, ⟨hk.1.1.2, ⟨hk.1.2, hk.2⟩⟩⟩⟩, hk.1.1.1.2⟩))).2.1 (Kd.R_F (Kd.aT (ok' := (FA (F13 w (.slice l9 dB.length kY) aW bK bC) My)) (Kd.gZ (Kd.gZ (Kd.gZ (Kd.iU (C3.1) (Kd.lZ C2.1) (by decide)) a6.1 (by decide)) aQ.1 (by decide)) aV.1 (by decide)) (fun k_ hk => ⟨⟨hk.1.1.1.1.1.1, ⟨hk.1.1.1.1.2, ⟨hk.1.1.2, ⟨hk.1.2, hk.2⟩⟩⟩⟩, hk.1.1.1.2⟩)))))
        (case aB => exact fW)
        (case aF => exact (fun k_ hk => ⟨(Nat.le_trans (aG fW) hk), Kd.fresh' (Kd.R_lt fU) k_ hk, fB d3 k_ hk, fB eW k_ hk, fB iD k_ hk⟩))
        (case aO => exact (by refine rN ?_; exact Kd.aJ C2.1 (fun _ hk => ⟨hk.1.1, ⟨hk.1.2.1, ⟨hk.1.2.2.1, ⟨hk.1.2.2.2.1, hk.1.2.2.2.2⟩⟩⟩⟩)))
        (case aS => exact (aG fW))
        (case aL => have := wt.out; omega)
        intro Mz w82 ho hb hg hat
        rw [← Pn.out] at ho
        replace aH := am (Kd.uQ fU (Kd.lZ (rN C2.1)) (by decide) hg)
        replace aD := am (Kd.vH (ok := (F23 w (.slice l9 dB.length kY) (.slice Kj uC.length Lh) aW bK bC)) (by refine rN ?_; exact Kd.aJ aD.1 (fun _ hk => ⟨⟨hk.1.1.1, ⟨hk.1.1.2.1, ⟨hk.2, ⟨hk.1.1.2.2.1, ⟨hk.1.1.2.2.2.1, hk.1.1.2.2.2.2⟩⟩⟩⟩⟩, hk.1.2⟩)) hg hat)
        replace a6 := gkN d3 hg C2 a6
        replace aQ := gkN eW hg C2 aQ
        replace aV := gkN iD hg C2 aV
        replace sS := am (Kd.lU (ok := (F33 w (.slice l9 dB.length kY) (.slice (some tE) bM.length p1) (.slice Kj uC.length Lh) aW bK bC)) (by refine rV ?_; exact Kd.dQ sS.out (fun _ hk => ⟨⟨hk.1.1.1, ⟨hk.1.1.2.1, ⟨hk.1.1.2.2.1, ⟨hk.2, ⟨hk.1.1.2.2.2.1, ⟨hk.1.1.2.2.2.2.1, hk.1.1.2.2.2.2.2⟩⟩⟩⟩⟩⟩, hk.1.2⟩)) hg hat)
        replace sU := am (Kd.lU (ok := (F33 w (.slice l9 dB.length kY) (.slice (some tE) bM.length p1) (.slice Kj uC.length Lh) aW bK bC)) (by refine rV ?_; exact Kd.dQ sU.out (fun _ hk => ⟨⟨hk.1.1.1, ⟨hk.1.1.2.1, ⟨hk.1.1.2.2.1, ⟨hk.2, ⟨hk.1.1.2.2.2.1, ⟨hk.1.1.2.2.2.2.1, hk.1.1.2.2.2.2.2⟩⟩⟩⟩⟩⟩, hk.1.2⟩)) hg hat)
        replace eU := am (Kd.lU (ok := (F23 w (.slice l9 dB.length kY) (.slice Kj uC.length Lh) aW bK bC)) (by refine rV ?_; exact Kd.dQ eU.1 (fun _ hk => ⟨⟨hk.1.1.1, ⟨hk.1.1.2.1, ⟨hk.2, ⟨hk.1.1.2.2.1, ⟨hk.1.1.2.2.2.1, hk.1.1.2.2.2.2⟩⟩⟩⟩⟩, hk.1.2⟩)) hg hat)
        replace y6 := am (Kd.lU (ok := (F23 w (.slice l9 dB.length kY) (.slice Kj uC.length Lh) aW bK bC)) (by refine rV ?_; exact Kd.dQ y6.1 (fun _ hk => ⟨⟨hk.1.1.1, ⟨hk.1.1.2.1, ⟨hk.2, ⟨hk.1.1.2.2.1, ⟨hk.1.1.2.2.2.1, hk.1.1.2.2.2.2⟩⟩⟩⟩⟩, hk.1.2⟩)) hg hat)
        replace HB := am hb
        have vG := am ho
        clear C2
        clear C3
        clear ho hb hg hat
        refine nK hK (uA2 aV).1 fun hHeld => ?_
        clear hK K
        refine oN 16 (some 70) fun K hK => ?_
        refine Kd.o6 k52 (w0 := w) w.heap.size (by rfl) (.tmp 65) (.tmp 69) 24 52 Ag0 64 rfl Tryz.underlying24 tZ rfl (by decide) (by omega) Mz M9 O9 _ _ _ (F13 w (.slice l9 dB.length kY) aW bK bC) (FA (F13 w (.slice l9 dB.length kY) aW bK bC) Mz) rfl rfl ?aO ?aR (fun _ hk => hk) ?aF ?aB ?aS ?aL ?_
        (case aR => exact (by skip; exact Kd.V_F (Kd.dQ (ok' := (FA (F13 w (.slice l9 dB.length kY) aW bK bC) Mz)) (y6.1) (fun k_ hk => ⟨⟨hk.1.1, ⟨hk.1.2.1, ⟨hk.1.2.2.2.1, ⟨hk.1.2.2.2.2.1, hk.1.2.2.2.2.2⟩⟩⟩⟩, hk.2⟩))))
        (case aB => exact fW)
        (case aF => exact (fun k_ hk => ⟨(Nat.le_trans (aG fW) hk), Kd.fresh' (Kd.R_lt fU) k_ hk, fB d3 k_ hk, fB eW k_ hk, fB iD k_ hk⟩))
        (case aO => exact (rN vG.1))
        (case aS => exact (aG fW))
        (case aL => have := wu.out; omega)
        intro aFL w83 ho hb hg hat
        rw [← PZ.out] at ho
        replace aH := am (Kd.uQ fU (Kd.lZ (rN vG.1)) (by decide) hg)
        replace aD := am (Kd.vH (ok := (F13 w (.slice l9 dB.length kY) aW bK bC)) (by refine rN ?_; exact Kd.aJ aD.1 (fun _ hk => ⟨⟨hk.1.1, ⟨hk.1.2.1, ⟨hk.1.2.2.2.1, ⟨hk.1.2.2.2.2.1, hk.1.2.2.2.2.2⟩⟩⟩⟩, hk.2⟩)) hg hat)
        replace a6 := gkN d3 hg vG a6
        replace aQ := gkN eW hg vG aQ
        replace aV := gkN iD hg vG aV
        replace sS := am (Kd.lU (ok := (F23 w (.slice l9 dB.length kY) (.slice (some tE) bM.length p1) aW bK bC)) (by refine rV ?_; exact Kd.dQ sS.out (fun _ hk => ⟨⟨hk.1.1, ⟨hk.1.2.1, ⟨hk.1.2.2.1, ⟨hk.1.2.2.2.2.1, ⟨hk.1.2.2.2.2.2.1, hk.1.2.2.2.2.2.2⟩⟩⟩⟩⟩, hk.2⟩)) hg hat)
        replace sU := am (Kd.lU (ok := (F23 w (.slice l9 dB.length kY) (.slice (some tE) bM.length p1) aW bK bC)) (by refine rV ?_; exact Kd.dQ sU.out (fun _ hk => ⟨⟨hk.1.1, ⟨hk.1.2.1, ⟨hk.1.2.2.1, ⟨hk.1.2.2.2.2.1, ⟨hk.1.2.2.2.2.2.1, hk.1.2.2.2.2.2.2⟩⟩⟩⟩⟩, hk.2⟩)) hg hat)
        replace eU := am (Kd.lU (ok := (F13 w (.slice l9 dB.length kY) aW bK bC)) (by refine rV ?_; exact Kd.dQ eU.1 (fun _ hk => ⟨⟨hk.1.1, ⟨hk.1.2.1, ⟨hk.1.2.2.2.1, ⟨hk.1.2.2.2.2.1, hk.1.2.2.2.2.2⟩⟩⟩⟩, hk.2⟩)) hg hat)
        replace y6 := am (Kd.lU (ok := (F13 w (.slice l9 dB.length kY) aW bK bC)) (by refine rV ?_; exact Kd.dQ y6.1 (fun _ hk => ⟨⟨hk.1.1, ⟨hk.1.2.1, ⟨hk.1.2.2.2.1, ⟨hk.1.2.2.2.2.1, hk.1.2.2.2.2.2⟩⟩⟩⟩, hk.2⟩)) hg hat)
        replace HB := am hb
        have AZ := am ho
        clear vG
        clear ho hb hg hat
        obtain ⟨UD, SZ, Wz⟩ := Kd.gM AZ.1
        (first | subst Wz | (obtain ⟨f4_, f5_⟩ := sj Wz; subst f4_; subst f5_))
        refine nK hK (uA2 aV).1 fun hHeld => ?_
        clear hK K
        refine pU1 17 ?_
        refine lN 18 none fun K hK => ?_
        have aT1 : w83.cell? ⟨bC, 1, none⟩ = some (.slice (some tE) bM.length p1) := (bP aV.1 1).trans rfl
        have aLM := gF aV.1 1
        have a9B := fM.1
        have a9C := g4.1
        have a8D := gJ.1
        have a8E := iL.1
        refine AC (w1 := ?_) (by rfl) rfl ?_ ?_
        rotate_left
        ·go_simp
         rfl
        refine hK.out _ _ ?_
        clear hK K
        refine dN ?_
        have Z86 := cz2 aV
        try go_wp2_with (first | ((with_reducible refine kV (f := 32) rfl ?_); refine uN (some 73) rfl rfl Tryz.func32 (by kernel_rfl) rfl #[.agg #[.slice l9 dB.length kY, .slice UD PS.length SZ]] rfl AS ?_; (with_reducible refine (dP.calls k2 _ _ dB _ _ PS Gq O4 _ ?side1 ?side2 ?side3 ?side4 A70.out).mono ?_); (case side1 => refine (Kd.bH (e := 9) (base := w.heap.size) (ok := fun k_ => (w.heap.size ≤ k_)) (n := dB.length) (c := kY) ?_).2.2; exact (by refine rR ?_; exact Kd.aT (fR (tR aH aV)) (fun _ hk => hk.1.1))); (case side2 => exact (Kd.bH aH.1).2.1); (case side3 => refine (Kd.d9 (e := 52) (base := w.heap.size) (ok := fun k_ => ((w.heap.size ≤ k_) ∧ (some k_ ≠ (.slice l9 dB.length kY : Value).ownBlock ∧ (k_ ≠ aW ∧ (k_ ≠ bK ∧ k_ ≠ bC))))) (n := PS.length) (c := SZ) ?_).2.2; exact (by refine rN ?_; exact (Kd.aJ (fN (Kd.aJ AZ.1 (fun k_ hk => (⟨hk, hk.2.2.2.2⟩ : _ ∧ k_ ≠ bC)))) (fun _ h_ => h_.1)))); (case side4 => exact (Kd.d9 AZ.1).2.1); rintro e w87 ⟨aFN, a4C, rfl, eH, lW, hb⟩; refine ⟨_, rfl, ?_⟩; replace sS := am (Kd.dQ (Kd.nU (Kd.nU (Kd.DK (by refine rV ?_; exact (Kd.dQ (Kd.iZ (p := ⟨bC, 1, none⟩) (Kd.dQ sS.out (fun k_ hk => (⟨hk, hk.1.2.2.2.2.2⟩ : _ ∧ k_ ≠ bC))) (fun _ hk => hk.2) (.slice UD PS.length SZ)) (fun _ h_ => h_.1))) hb) (Kd.bT eH)) kN) (fun _ h_ => h_.1)); replace sU := am (Kd.dQ (Kd.nU (Kd.nU (Kd.DK (by refine rV ?_; exact (Kd.dQ (Kd.iZ (p := ⟨bC, 1, none⟩) (Kd.dQ sU.out (fun k_ hk => (⟨hk, hk.1.2.2.2.2.2⟩ : _ ∧ k_ ≠ bC))) (fun _ hk => hk.2) (.slice UD PS.length SZ)) (fun _ h_ => h_.1))) hb) (Kd.bT eH)) kN) (fun _ h_ => h_.1)); replace eU := am (Kd.dQ (Kd.nU (Kd.nU (Kd.DK (by refine rV ?_; exact (Kd.dQ (Kd.iZ (p := ⟨bC, 1, none⟩) (Kd.dQ eU.1 (fun k_ hk => (⟨hk, hk.1.2.2.2.2⟩ : _ ∧ k_ ≠ bC))) (fun _ hk => hk.2) (.slice UD PS.length SZ)) (fun _ h_ => h_.1))) hb) (Kd.bT eH)) kN) (fun _ h_ => h_.1)); replace y6 := am (Kd.dQ (Kd.nU (Kd.nU (Kd.DK (by refine rV ?_; exact (Kd.dQ (Kd.iZ (p := ⟨bC, 1, none⟩) (Kd.dQ y6.1 (fun k_ hk => (⟨hk, hk.1.2.2.2.2⟩ : _ ∧ k_ ≠ bC))) (fun _ hk => hk.2) (.slice UD PS.length SZ)) (fun _ h_ => h_.1))) hb) (Kd.bT eH)) kN) (fun _ h_ => h_.1)); have Zo := am (Kd.dO (Kd.fF (Kd.pX (M := fun k_ => (w.heap.size ≤ k_)) eH (aG fW) (fun k_ h_ => h_)) (Kd.R_lt (by refine rR ?_; exact (Kd.aT (fR (tR aH aV)) (fun _ h_ => h_.1))))) (aG fW)); have MI := am (Kd.jK (Kd.aJ (ok' := F43 w aFN (.slice l9 dB.length kY) (.slice (some tE) bM.length p1) (.slice UD PS.length SZ) aW bK bC) (Kd.S_N (Kd.lG lW)) (fun k_ hk_ => ⟨(Nat.le_trans (aG fW) hk_.2.1), hk_.1, (Kd.fresh' (Kd.R_lt (by refine rR ?_; exact (Kd.aT (fR (tR aH aV)) (fun _ h_ => h_.1)))) k_ hk_.2.1), (Kd.fresh' (Kd.N_lt (by refine rN ?_; exact (Kd.aJ (fN (Kd.aJ aD.1 (fun k_ hk => (⟨hk, hk.1.2.2.2.2⟩ : _ ∧ k_ ≠ bC)))) (fun _ h_ => h_.1)))) k_ hk_.2.1), (Kd.fresh' (Kd.N_lt (by refine rN ?_; exact (Kd.aJ (fN (Kd.aJ AZ.1 (fun k_ hk => (⟨hk, hk.2.2.2.2⟩ : _ ∧ k_ ≠ bC)))) (fun _ h_ => h_.1)))) k_ hk_.2.1), (Kd.jD (g := aW) (o := .cells #[.slice eE aZ.length eF, .slice eV aI.length eC] 26 (0, 0)) Xz k_ hk_.2.1), (Kd.jD (g := bK) (o := .cells #[.slice none 0 0, .slice none 0 0] 26 (0, 0)) Ya k_ hk_.2.1), (Kd.jD (g := bC) (o := .cells #[.slice l9 dB.length kY, .slice UD PS.length SZ] 26 (0, 0)) (by refine rB ?_; refine cO (cs := #[.slice l9 dB.length kY, .slice (some tE) bM.length p1]) ?_ 1 _ rfl; refine rB ?_; exact aV.1) k_ hk_.2.1)⟩)) (aG fW)); replace aH := am (Kd.dV (by refine rR ?_; exact (Kd.aT (fR (tR aH aV)) (fun _ h_ => h_.1))) (Kd.bT eH) hb); replace aD := am (Kd.aJ (Kd.eY (Kd.eY (Kd.mZ (by refine rN ?_; exact (Kd.aJ (fN (Kd.aJ aD.1 (fun k_ hk => (⟨hk, hk.1.2.2.2.2⟩ : _ ∧ k_ ≠ bC)))) (fun _ h_ => h_.1))) hb) (Kd.bT eH)) kN) (fun _ h_ => h_.1)); replace AZ := am (Kd.aJ (Kd.eY (Kd.eY (Kd.mZ (by refine rN ?_; exact (Kd.aJ (fN (Kd.aJ AZ.1 (fun k_ hk => (⟨hk, hk.2.2.2.2⟩ : _ ∧ k_ ≠ bC)))) (fun _ h_ => h_.1))) hb) (Kd.bT eH)) kN) (fun _ h_ => h_.1)); replace a6 := am (aX (g := aW) (o := .cells #[.slice eE aZ.length eF, .slice eV aI.length eC] 26 (0, 0)) Xz hb); replace aQ := am (aX (g := bK) (o := .cells #[.slice none 0 0, .slice none 0 0] 26 (0, 0)) Ya hb); replace aV := am (aX (g := bC) (o := .cells #[.slice l9 dB.length kY, .slice UD PS.length SZ] 26 (0, 0)) (by refine rB ?_; refine cO (cs := #[.slice l9 dB.length kY, .slice (some tE) bM.length p1]) ?_ 1 _ rfl; refine rB ?_; exact aV.1) hb); replace HB := bS fW hb; clear hb eH lW; obtain ⟨aAW, aCS, aDR⟩ := Kd.cZ Zo.1; subst aDR; have Z89 := nZ1 dL dJ; have Z90 := cz2 aQ; obtain ⟨Dr, Et, oz⟩ := Kd.gM MI.1; subst oz))
        refine cT bK 26 #[.slice aAW Gq.length aCS, .slice Dr O4.length Et] (qP aQ) Tryz.underlying26 ?_
        exact ⟨_, _, eR, mR Zo aQ, by refine rN ?_; exact Kd.aJ (fN (fN (Kd.aJ MI.1 (fun k_ hk => (⟨hk, hk.2.2.2.2.2.2.1⟩ : _ ∧ k_ ≠ bK))))) (fun _ hk => ⟨hk.1.1, hk.1.2.1⟩), fW⟩
      ·obtain ⟨sk, hy146⟩ : ∃ y_ : List (S52), y_ = (([] : List (S52))) := ⟨_, rfl⟩
       replace H : (if 0 ≤ oB then (if oB ≤ (bM.length : Int) then ((some (bM.take (oB : Int).toNat : List (S52))).bind fun Di => (if sk.length + Di.length < 2199023255552 then ((some (sk ++ Di : List (S52))).bind fun Yz => ((jE.f l2).bind fun FE => (if Yz.length < 2199023255552 then ((some (Yz ++ [(⟨a1, ([] : List ByteArray), FE⟩ : S52)] : List (S52))).bind fun Um => ((some (bM.drop (oB : Int).toNat : List (S52))).bind fun QV => (if Um.length + QV.length < 2199023255552 then ((dP.f k2 dB (Um ++ QV)).bind fun bc => (some (bc.1, bc.2, 0))) else (none)))) else (none)))) else (none))) else (none)) else (none)) = some (r1, r2, r3) := by first | (rw [hy146]; with_reducible exact H) | (have H2_ := (Option.bind_some _ _).symm.trans H; rw [hy146]; with_reducible exact H2_) | (have H2_ := (Option.bind_some _ _).symm.trans H; with_reducible exact H2_) | with_reducible exact H | (rw [hy146]; exact H) | exact H
       have ap := am hy146
       clear hy146
       obtain ⟨aL3, aL4, H⟩ := cP H
       obtain ⟨aL5, aL6, H⟩ := cP H
       obtain ⟨Di, aq, H⟩ := bY H
       obtain ⟨ww, H⟩ := cL H
       obtain ⟨Yz, xx, H⟩ := bY H
       obtain ⟨FE, A95, H⟩ := bd H
       obtain ⟨wx, H⟩ := cL H
       obtain ⟨Um, xy, H⟩ := bY H
       have aL7 := eq_true (oT : 0 ≤ oB)
       have aL8 := eq_true (oT : oB ≤ (bM.length : Int))
       obtain ⟨QV, ar, H⟩ := bY H
       obtain ⟨wy, H⟩ := cL H
       obtain ⟨Dj, Pr⟩ := yv (Um ++ QV); first | replace H := bW Pr H | rw [← Pr.1] at H
       obtain ⟨⟨ru, rv⟩, fg, H⟩ := bd H
       dsimp only at H
       obtain ⟨rfl, rfl, rfl⟩ := sZ3 H
       repeat clear H
       have aB5 := nZ2 gJ fM iL g4
       have aB6 := cz2 aV
       try go_wp2
       replace aH := RD aH
       replace aD := ND aD
       replace a6 := BD a6
       replace aQ := BD aQ
       replace aV := BD aV
       replace HB := am (aY HB.1)
       have K4 : (oB : Int) ≤ ((bM.length : Int) : Int) := oT
       obtain ⟨i0105, Rq, _, hsz105, _⟩ := info_parts tZ
       have hroom105 : bM.length ≤ p1 := (Kd.d9 aD.1).2.1
       have hC105 : Kd.F k52 _ _ zV bM.length bM := (Kd.V_at (base := w.heap.size) (Kd.N_V aD.1)).2.2
       have hcut105 := XO (P := Tryz.prog) 24 52 .i64 Tryz.underlying24 Rq zV bM.length p1 oB (oT) K4 hroom105
       have Rx := Kd.Du (m := (oB : Int).toNat) hC105 (by omega)
       have hy105 : Di.length = (oB : Int).toNat := (by rw [aq.out, List.length_take]; omega)
       rw [← aq.out] at Rx
       rw [← hy105] at hcut105
       have DE := am (show Kd.V k52 52 _ w.heap.size _ (.slice zV Di.length p1) Di from Kd.V_mk (by omega) Rx)
       have aH3 := am (show Di.length ≤ p1 from by omega)
       clear Rx hC105 hroom105 Rq hsz105
       have KY105 := am hy105
       clear hy105
       replace K4 := eq_true K4
       have F9 : (oB : Int) ≤ ((bM.length : Int) : Int) := oT
       obtain ⟨i0106, Rs, _, hsz106, _⟩ := info_parts tZ
       have hroom106 : bM.length ≤ p1 := (Kd.d9 aD.1).2.1
       have hC106 : Kd.F k52 _ _ zV bM.length bM := (Kd.V_at (base := w.heap.size) (Kd.N_V aD.1)).2.2
       have a3I : (0 : Int) ≤ (oB : Int) := oT
       have hcut106 := T9 (P := Tryz.prog) 24 52 .i64 Tryz.underlying24 Rs 3 hsz106 zV bM.length p1 oB a3I F9
       have Bh := Kd.Oa (m := (oB : Int).toNat) (c := p1) hC106 (by omega) hroom106
       obtain ⟨uh, hA106⟩ : ∃ A1, A1 = (if p1 = (oB : Int).toNat then zV else (zV : Option Addr).map (·.add ((oB : Int).toNat * 3))) := ⟨_, rfl⟩
       obtain ⟨zv, Ja⟩ : ∃ c1, c1 = p1 - (oB : Int).toNat := ⟨_, rfl⟩
       have hy106 : QV.length = bM.length - (oB : Int).toNat := (by rw [ar.out, List.length_drop] <;> omega)
       rw [show (bM).drop (oB : Int).toNat = QV from ar.out.symm] at Bh
       replace Bh : Kd.F k52 _ _ uh QV.length QV := (by rw [hA106]; exact Bh)
       rw [← hy106, ← hA106, ← Ja] at hcut106
       have DF := am (show Kd.V k52 52 _ w.heap.size _ (.slice uh QV.length zv) QV from Kd.V_mk (by rw [hy106, Ja]; exact Nat.sub_le_sub_right hroom106 _) Bh)
       have aH4 := am (show QV.length ≤ zv from by rw [hy106, Ja]; exact Nat.sub_le_sub_right hroom106 _)
       clear Bh hC106 hroom106 Rs hsz106 Ja
       have KY106 := am hy106
       have KA106 := am hA106
       clear hy106 hA106
       replace F9 := eq_true F9
       refine sT [18] 19 (uA2 aV) (fun hHeld => ?_)
       refine fP dC.eu dC.Qd (fun HT_ HW_ => ?_)
       generalize wr.drew = M7 at aH aD a6 aQ aV HB DE DF hHeld ⊢
       refine pU6 1 3 6 7 12 14 ?_
       refine tK2 2 (some 56) ?_
       refine pU1 4 ?_
       refine tK2 13 (some 67) ?_
       refine pU1 15 ?_
       refine oN 0 (some 54) fun K hK => ?_
       refine Kd.L9 k52 _ 52 ?hg (N' := 54) ?hd (xs := ([] : List (S52))) (inner := []) (ok := (F23 w (.slice l9 dB.length kY) (.slice zV bM.length p1) aW bK bC)) (okp := (F23 w (.slice l9 dB.length kY) (.slice zV bM.length p1) aW bK bC)) ?hr ?hp (fun _ hk => hk) ((show ∀ k_, M7.heap.size ≤ k_ → (F23 w (.slice l9 dB.length kY) (.slice zV bM.length p1) aW bK bC) k_ from fun k_ hk => ⟨(Nat.le_trans (aG fW) hk), Kd.fresh' (Kd.R_lt fU) k_ hk, Kd.fresh' (Kd.N_lt lE) k_ hk, fB d3 k_ hk, fB eW k_ hk, fB iD k_ hk⟩) _ (Nat.le_refl _)) (Below.refl _ _) (Nat.le_refl _) (by simp) ?_; (case hd => rfl); (case hg => rfl); (case hr => first | (go_simp; done) | (go_simp; rfl)); (case hp => exact (Reps.none _ _))
       intro Ys aFT IK hb hg_ hnew_
       clear hg_ hnew_
       (first | rw [← ap.out] at IK | (simp only [Int.reduceToNat] at IK; rw [← ap.out] at IK))
       replace aH := RB fU hb
       replace aD := am (Kd.rW lE (by first | exact Kd.y7 IK | exact Kd.E9 IK) hb)
       replace DE := am (Kd.pI (rV DE.1) (by first | exact Kd.y7 IK | exact Kd.E9 IK) hb)
       replace DF := am (Kd.pI (rV DF.1) (by first | exact Kd.y7 IK | exact Kd.E9 IK) hb)
       have GU := am (Kd.jK IK (aG fW))
       replace a6 := bB d3 hb
       replace aQ := bB eW hb
       replace aV := bB iD hb
       replace HB := bS fW hb
       clear hb IK
       refine nK hK (uA2 aV).1 fun hHeld => ?_
       clear hK K
       refine oN 5 (some 59) fun K hK => ?_
       refine Kd.o6 k52 (w0 := w) w.heap.size (by rfl) (.tmp 54) (.tmp 58) 24 52 Ag0 64 rfl Tryz.underlying24 tZ rfl (by decide) (by omega) Ys sk Di _ _ _ (F13 w (.slice l9 dB.length kY) aW bK bC) (FA (F13 w (.slice l9 dB.length kY) aW bK bC) Ys) rfl rfl ?aO ?aR (fun _ hk => hk) ?aF ?aB ?aS ?aL ?_
       (case aR => exact (by skip; exact Kd.V_F (Kd.dQ (ok' := (FA (F13 w (.slice l9 dB.length kY) aW bK bC) Ys)) (DE.1) (fun k_ hk => ⟨⟨hk.1.1, ⟨hk.1.2.1, ⟨hk.1.2.2.1, ⟨hk.1.2.2.2.1, hk.1.2.2.2.2⟩⟩⟩⟩, hk.2⟩))))
       (case aB => exact fW)
       (case aF => exact (fun k_ hk => ⟨(Nat.le_trans (aG fW) hk), Kd.fresh' (Kd.R_lt fU) k_ hk, fB d3 k_ hk, fB eW k_ hk, fB iD k_ hk⟩))
       (case aO => exact (by refine rN ?_; exact Kd.aJ GU.1 (fun _ hk => ⟨hk.1, ⟨hk.2.1, ⟨hk.2.2.2.1, ⟨hk.2.2.2.2.1, hk.2.2.2.2.2⟩⟩⟩⟩)))
       (case aS => exact (aG fW))
       (case aL => have := ww.out; omega)
       intro Yt aFU ho hb hg hat
       rw [← xx.out] at ho
       replace aH := am (Kd.uQ fU (Kd.lZ (rN GU.1)) (by decide) hg)
       replace aD := am (Kd.vH (ok := (F13 w (.slice l9 dB.length kY) aW bK bC)) lE hg hat)
       replace a6 := gkN d3 hg GU a6
       replace aQ := gkN eW hg GU aQ
       replace aV := gkN iD hg GU aV
       replace DE := am (Kd.lU (ok := (F13 w (.slice l9 dB.length kY) aW bK bC)) (rV DE.1) hg hat)
       replace DF := am (Kd.lU (ok := (F13 w (.slice l9 dB.length kY) aW bK bC)) (rV DF.1) hg hat)
       replace HB := am hb
       have KE := am ho
       clear GU
       clear ho hb hg hat
       refine nK hK (uA2 aV).1 fun hHeld => ?_
       clear hK K
       refine oN 8 (some 62) fun K hK => ?_
       refine gE Tryz.func36 (jE.calls _ _ l2 FE _ (pB B0) yN.1 A95.out) ?_
       rintro e aFV ⟨a4D, rfl, eH, hb⟩
       refine ⟨_, rfl, ?_⟩
       replace aD := am (Kd.rW lE (Kd.bT eH) hb)
       replace DE := am (Kd.pI (rV DE.1) (Kd.bT eH) hb)
       replace DF := am (Kd.pI (rV DF.1) (Kd.bT eH) hb)
       replace KE := am (Kd.rW (rN KE.1) (Kd.bT eH) hb)
       have HD := am (Kd.dO (Kd.fF (Kd.pX (M := fun k_ => (w.heap.size ≤ k_)) eH (aG fW) (fun k_ h_ => h_)) (Kd.R_lt fU)) (aG fW))
       replace aH := am (Kd.dV fU (Kd.bT eH) hb)
       replace a6 := bB d3 hb
       replace aQ := bB eW hb
       replace aV := bB iD hb
       replace HB := bS fW hb
       clear hb eH
       obtain ⟨Gx, Ik, db⟩ := Kd.cZ HD.1
       (first | subst db | (obtain ⟨f4_, f5_⟩ := sj db; subst f4_; subst f5_))
       refine nK hK (uA2 aV).1 fun hHeld => ?_
       clear hK K
       refine pU1 9 ?_
       refine oN 10 (some 64) fun K hK => ?_
       refine M6 (w1 := ?_) (v := ?_) (by rfl) rfl ?_ ?_
       rotate_left 2
       ·go_simp
        constructor
        ·rfl
        ·rfl
       refine hK.out _ _ ⟨(bP (bF aV.1 _) 0).trans rfl, (bP (bF aV.1 _) 1).trans rfl⟩ (fun hHeld => ?_)
       clear hK K
       refine nM ?_
       refine oN 11 (some 65) fun K hK => ?_
       refine Kd.KH k52 (w0 := w) w.heap.size (by rfl) (.tmp 59) (.tmp 64) 24 52 Ag0 64 rfl Tryz.underlying24 tZ rfl (by decide) (by omega) Yt Yz (⟨a1, ([] : List ByteArray), FE⟩ : S52) [.string a1, .slice none 0 0, .slice Gx FE.length Ik] (F13 w (.slice l9 dB.length kY) aW bK bC) (FA (F13 w (.slice l9 dB.length kY) aW bK bC) Yt) rfl rfl ?aP (fun _ hk => hk) ?aF ?aO ?aB ?aS ?aL ?_
       (case aP => exact (RL _ _ (⟨a1, ([] : List ByteArray), FE⟩ : S52) (Nat.le_refl _) (Kd.Od _ _ _) (Kd.bH (Kd.aT (ok' := (FA (F13 w (.slice l9 dB.length kY) aW bK bC) Yt)) (Kd.gZ (Kd.gZ (Kd.gZ (Kd.iU (HD.1) (Kd.lZ KE.1) (by decide)) a6.1 (by decide)) aQ.1 (by decide)) aV.1 (by decide)) (fun k_ hk => ⟨⟨hk.1.1.1.1.1.1, ⟨hk.1.1.1.1.2, ⟨hk.1.1.2, ⟨hk.1.2, hk.2⟩⟩⟩⟩, hk.1.1.1.2⟩))).2.1 (Kd.R_F (Kd.aT (ok' := (FA (F13 w (.slice l9 dB.length kY) aW bK bC) Yt)) (Kd.gZ (Kd.gZ (Kd.gZ (Kd.iU (HD.1) (Kd.lZ KE.1) (by decide)) a6.1 (by decide)) aQ.1 (by decide)) aV.1 (by decide)) (fun k_ hk => ⟨⟨hk.1.1.1.1.1.1, ⟨hk.1.1.1.1.2, ⟨hk.1.1.2, ⟨hk.1.2, hk.2⟩⟩⟩⟩, hk.1.1.1.2⟩)))))
       (case aB => exact fW)
       (case aF => exact (fun k_ hk => ⟨(Nat.le_trans (aG fW) hk), Kd.fresh' (Kd.R_lt fU) k_ hk, fB d3 k_ hk, fB eW k_ hk, fB iD k_ hk⟩))
       (case aO => exact (by refine rN ?_; exact Kd.aJ KE.1 (fun _ hk => ⟨hk.1.1, ⟨hk.1.2.1, ⟨hk.1.2.2.1, ⟨hk.1.2.2.2.1, hk.1.2.2.2.2⟩⟩⟩⟩)))
       (case aS => exact (aG fW))
       (case aL => have := wx.out; omega)
       intro Yu aU5 ho hb hg hat
       rw [← xy.out] at ho
       replace aH := am (Kd.uQ fU (Kd.lZ (rN KE.1)) (by decide) hg)
       replace aD := am (Kd.vH (ok := (F23 w (.slice l9 dB.length kY) (.slice Gx FE.length Ik) aW bK bC)) (by refine rN ?_; exact Kd.aJ aD.1 (fun _ hk => ⟨⟨hk.1.1.1, ⟨hk.1.1.2.1, ⟨hk.2, ⟨hk.1.1.2.2.1, ⟨hk.1.1.2.2.2.1, hk.1.1.2.2.2.2⟩⟩⟩⟩⟩, hk.1.2⟩)) hg hat)
       replace a6 := gkN d3 hg KE a6
       replace aQ := gkN eW hg KE aQ
       replace aV := gkN iD hg KE aV
       replace DE := am (Kd.lU (ok := (F23 w (.slice l9 dB.length kY) (.slice Gx FE.length Ik) aW bK bC)) (by refine rV ?_; exact Kd.dQ DE.1 (fun _ hk => ⟨⟨hk.1.1.1, ⟨hk.1.1.2.1, ⟨hk.2, ⟨hk.1.1.2.2.1, ⟨hk.1.1.2.2.2.1, hk.1.1.2.2.2.2⟩⟩⟩⟩⟩, hk.1.2⟩)) hg hat)
       replace DF := am (Kd.lU (ok := (F23 w (.slice l9 dB.length kY) (.slice Gx FE.length Ik) aW bK bC)) (by refine rV ?_; exact Kd.dQ DF.1 (fun _ hk => ⟨⟨hk.1.1.1, ⟨hk.1.1.2.1, ⟨hk.2, ⟨hk.1.1.2.2.1, ⟨hk.1.1.2.2.2.1, hk.1.1.2.2.2.2⟩⟩⟩⟩⟩, hk.1.2⟩)) hg hat)
       replace HB := am hb
       have GV := am ho
       clear KE
       clear HD
       clear ho hb hg hat
       refine nK hK (uA2 aV).1 fun hHeld => ?_
       clear hK K
       refine oN 16 (some 70) fun K hK => ?_
       refine Kd.o6 k52 (w0 := w) w.heap.size (by rfl) (.tmp 65) (.tmp 69) 24 52 Ag0 64 rfl Tryz.underlying24 tZ rfl (by decide) (by omega) Yu Um QV _ _ _ (F13 w (.slice l9 dB.length kY) aW bK bC) (FA (F13 w (.slice l9 dB.length kY) aW bK bC) Yu) rfl rfl ?aO ?aR (fun _ hk => hk) ?aF ?aB ?aS ?aL ?_
       (case aR => exact (by skip; exact Kd.V_F (Kd.dQ (ok' := (FA (F13 w (.slice l9 dB.length kY) aW bK bC) Yu)) (DF.1) (fun k_ hk => ⟨⟨hk.1.1, ⟨hk.1.2.1, ⟨hk.1.2.2.2.1, ⟨hk.1.2.2.2.2.1, hk.1.2.2.2.2.2⟩⟩⟩⟩, hk.2⟩))))
       (case aB => exact fW)
       (case aF => exact (fun k_ hk => ⟨(Nat.le_trans (aG fW) hk), Kd.fresh' (Kd.R_lt fU) k_ hk, fB d3 k_ hk, fB eW k_ hk, fB iD k_ hk⟩))
       (case aO => exact (rN GV.1))
       (case aS => exact (aG fW))
       (case aL => have := wy.out; omega)
       intro aTP aFW ho hb hg hat
       rw [← Pr.out] at ho
       replace aH := am (Kd.uQ fU (Kd.lZ (rN GV.1)) (by decide) hg)
       replace aD := am (Kd.vH (ok := (F13 w (.slice l9 dB.length kY) aW bK bC)) (by refine rN ?_; exact Kd.aJ aD.1 (fun _ hk => ⟨⟨hk.1.1, ⟨hk.1.2.1, ⟨hk.1.2.2.2.1, ⟨hk.1.2.2.2.2.1, hk.1.2.2.2.2.2⟩⟩⟩⟩, hk.2⟩)) hg hat)
       replace a6 := gkN d3 hg GV a6
       replace aQ := gkN eW hg GV aQ
       replace aV := gkN iD hg GV aV
       replace DE := am (Kd.lU (ok := (F13 w (.slice l9 dB.length kY) aW bK bC)) (by refine rV ?_; exact Kd.dQ DE.1 (fun _ hk => ⟨⟨hk.1.1, ⟨hk.1.2.1, ⟨hk.1.2.2.2.1, ⟨hk.1.2.2.2.2.1, hk.1.2.2.2.2.2⟩⟩⟩⟩, hk.2⟩)) hg hat)
       replace DF := am (Kd.lU (ok := (F13 w (.slice l9 dB.length kY) aW bK bC)) (by refine rV ?_; exact Kd.dQ DF.1 (fun _ hk => ⟨⟨hk.1.1, ⟨hk.1.2.1, ⟨hk.1.2.2.2.1, ⟨hk.1.2.2.2.2.1, hk.1.2.2.2.2.2⟩⟩⟩⟩, hk.2⟩)) hg hat)
       replace HB := am hb
       have V7 := am ho
       clear GV
       clear ho hb hg hat
       obtain ⟨V2, SX, dc⟩ := Kd.gM V7.1
       (first | subst dc | (obtain ⟨f4_, f5_⟩ := sj dc; subst f4_; subst f5_))
       refine nK hK (uA2 aV).1 fun hHeld => ?_
       clear hK K
       refine pU1 17 ?_
       refine lN 18 none fun K hK => ?_
       have aNF : aFW.cell? ⟨bC, 1, none⟩ = some (.slice zV bM.length p1) := (bP aV.1 1).trans rfl
       have aE5 := gF aV.1 1
       have a2S := fM.1
       have a2T := g4.1
       have a2I := gJ.1
       have a2J := iL.1
       refine AC (w1 := ?_) (by rfl) rfl ?_ ?_
       rotate_left
       ·go_simp
        rfl
       refine hK.out _ _ ?_
       clear hK K
       refine dN ?_
       have aBA := cz2 aV
       try go_wp2_with (first | ((with_reducible refine kV (f := 32) rfl ?_); refine uN (some 73) rfl rfl Tryz.func32 (by kernel_rfl) rfl #[.agg #[.slice l9 dB.length kY, .slice V2 Dj.length SX]] rfl AS ?_; (with_reducible refine (dP.calls k2 _ _ dB _ _ Dj ru rv _ ?side1 ?side2 ?side3 ?side4 fg.out).mono ?_); (case side1 => refine (Kd.bH (e := 9) (base := w.heap.size) (ok := fun k_ => (w.heap.size ≤ k_)) (n := dB.length) (c := kY) ?_).2.2; exact (by refine rR ?_; exact Kd.aT (fR (tR aH aV)) (fun _ hk => hk.1.1))); (case side2 => exact (Kd.bH aH.1).2.1); (case side3 => refine (Kd.d9 (e := 52) (base := w.heap.size) (ok := fun k_ => ((w.heap.size ≤ k_) ∧ (some k_ ≠ (.slice l9 dB.length kY : Value).ownBlock ∧ (k_ ≠ aW ∧ (k_ ≠ bK ∧ k_ ≠ bC))))) (n := Dj.length) (c := SX) ?_).2.2; exact (by refine rN ?_; exact (Kd.aJ (fN (Kd.aJ V7.1 (fun k_ hk => (⟨hk, hk.2.2.2.2⟩ : _ ∧ k_ ≠ bC)))) (fun _ h_ => h_.1)))); (case side4 => exact (Kd.d9 V7.1).2.1); rintro e aU6 ⟨aFQ, aTQ, rfl, eH, lW, hb⟩; refine ⟨_, rfl, ?_⟩; replace DE := am (Kd.dQ (Kd.nU (Kd.nU (Kd.DK (by refine rV ?_; exact (Kd.dQ (Kd.iZ (p := ⟨bC, 1, none⟩) (Kd.dQ DE.1 (fun k_ hk => (⟨hk, hk.1.2.2.2.2⟩ : _ ∧ k_ ≠ bC))) (fun _ hk => hk.2) (.slice V2 Dj.length SX)) (fun _ h_ => h_.1))) hb) (Kd.bT eH)) kN) (fun _ h_ => h_.1)); replace DF := am (Kd.dQ (Kd.nU (Kd.nU (Kd.DK (by refine rV ?_; exact (Kd.dQ (Kd.iZ (p := ⟨bC, 1, none⟩) (Kd.dQ DF.1 (fun k_ hk => (⟨hk, hk.1.2.2.2.2⟩ : _ ∧ k_ ≠ bC))) (fun _ hk => hk.2) (.slice V2 Dj.length SX)) (fun _ h_ => h_.1))) hb) (Kd.bT eH)) kN) (fun _ h_ => h_.1)); have Zu := am (Kd.dO (Kd.fF (Kd.pX (M := fun k_ => (w.heap.size ≤ k_)) eH (aG fW) (fun k_ h_ => h_)) (Kd.R_lt (by refine rR ?_; exact (Kd.aT (fR (tR aH aV)) (fun _ h_ => h_.1))))) (aG fW)); have Zv := am (Kd.jK (Kd.aJ (ok' := F43 w aFQ (.slice l9 dB.length kY) (.slice zV bM.length p1) (.slice V2 Dj.length SX) aW bK bC) (Kd.S_N (Kd.lG lW)) (fun k_ hk_ => ⟨(Nat.le_trans (aG fW) hk_.2.1), hk_.1, (Kd.fresh' (Kd.R_lt (by refine rR ?_; exact (Kd.aT (fR (tR aH aV)) (fun _ h_ => h_.1)))) k_ hk_.2.1), (Kd.fresh' (Kd.N_lt (by refine rN ?_; exact (Kd.aJ (fN (Kd.aJ aD.1 (fun k_ hk => (⟨hk, hk.1.2.2.2.2⟩ : _ ∧ k_ ≠ bC)))) (fun _ h_ => h_.1)))) k_ hk_.2.1), (Kd.fresh' (Kd.N_lt (by refine rN ?_; exact (Kd.aJ (fN (Kd.aJ V7.1 (fun k_ hk => (⟨hk, hk.2.2.2.2⟩ : _ ∧ k_ ≠ bC)))) (fun _ h_ => h_.1)))) k_ hk_.2.1), (Kd.jD (g := aW) (o := .cells #[.slice eE aZ.length eF, .slice eV aI.length eC] 26 (0, 0)) Xz k_ hk_.2.1), (Kd.jD (g := bK) (o := .cells #[.slice none 0 0, .slice none 0 0] 26 (0, 0)) Ya k_ hk_.2.1), (Kd.jD (g := bC) (o := .cells #[.slice l9 dB.length kY, .slice V2 Dj.length SX] 26 (0, 0)) (by refine rB ?_; refine cO (cs := #[.slice l9 dB.length kY, .slice zV bM.length p1]) ?_ 1 _ rfl; refine rB ?_; exact aV.1) k_ hk_.2.1)⟩)) (aG fW)); replace aH := am (Kd.dV (by refine rR ?_; exact (Kd.aT (fR (tR aH aV)) (fun _ h_ => h_.1))) (Kd.bT eH) hb); replace aD := am (Kd.aJ (Kd.eY (Kd.eY (Kd.mZ (by refine rN ?_; exact (Kd.aJ (fN (Kd.aJ aD.1 (fun k_ hk => (⟨hk, hk.1.2.2.2.2⟩ : _ ∧ k_ ≠ bC)))) (fun _ h_ => h_.1))) hb) (Kd.bT eH)) kN) (fun _ h_ => h_.1)); replace V7 := am (Kd.aJ (Kd.eY (Kd.eY (Kd.mZ (by refine rN ?_; exact (Kd.aJ (fN (Kd.aJ V7.1 (fun k_ hk => (⟨hk, hk.2.2.2.2⟩ : _ ∧ k_ ≠ bC)))) (fun _ h_ => h_.1))) hb) (Kd.bT eH)) kN) (fun _ h_ => h_.1)); replace a6 := am (aX (g := aW) (o := .cells #[.slice eE aZ.length eF, .slice eV aI.length eC] 26 (0, 0)) Xz hb); replace aQ := am (aX (g := bK) (o := .cells #[.slice none 0 0, .slice none 0 0] 26 (0, 0)) Ya hb); replace aV := am (aX (g := bC) (o := .cells #[.slice l9 dB.length kY, .slice V2 Dj.length SX] 26 (0, 0)) (by refine rB ?_; refine cO (cs := #[.slice l9 dB.length kY, .slice zV bM.length p1]) ?_ 1 _ rfl; refine rB ?_; exact aV.1) hb); replace HB := bS fW hb; clear hb eH lW; obtain ⟨ul, a0J, a14⟩ := Kd.cZ Zu.1; subst a14; have aQZ := nZ1 dL dJ; have aR0 := cz2 aQ; obtain ⟨um, a0K, a15⟩ := Kd.gM Zv.1; subst a15))
       refine cT bK 26 #[.slice ul ru.length a0J, .slice um rv.length a0K] (qP aQ) Tryz.underlying26 ?_
       exact ⟨_, _, eR, mR Zu aQ, by refine rN ?_; exact Kd.aJ (fN (fN (Kd.aJ Zv.1 (fun k_ hk => (⟨hk, hk.2.2.2.2.2.2.1⟩ : _ ∧ k_ ≠ bK))))) (fun _ hk => ⟨hk.1.1, hk.1.2.1⟩), fW⟩
 obtain ⟨rfl, rfl, rfl⟩ := sZ3 H
 repeat clear H
 go_enter Tryz.func6, Tryz.ntmps6
 go_wp2_with (first | ((with_reducible refine gD 3 ?_); refine bX 3 #[.slice eE aZ.length eF, .slice eV aI.length eC] 26 ?_; intro aW hg aU7 hbox hb; have a6 := am hbox; have iS := am (u4 : w.heap.size ≤ aW); have j5 := iS; replace HB := bS iJ hb; clear hb hbox hg) | ((with_reducible refine gD 6 ?_); refine bX 6 #[.slice none 0 0, .slice none 0 0] 26 ?_; intro bK hg aU8 hbox hb; have aQ := am hbox; have qJ := am (EF : w.heap.size ≤ bK); have oI := qJ; replace HB := bS fH hb; have dJ := nL d3 hg; have dL := nG d3 hg; replace a6 := bB d3 hb; clear hb hbox hg; have aR2 := nZ1 dJ dL; have aBB := cz2 a6) | ((with_reducible refine gC 31 ?_); refine cQ (some 11) Tryz.func31 (aN.calls k _ _ aZ _ _ aI false _ (pB dT) dS.1 (pB bV) eS.1 A4.out) ?_; rintro aU9 hb; replace a6 := bB d3 hb; replace aQ := bB eW hb; replace HB := bS kO hb; clear hb; have aBD := cz2 aQ))
 refine cT bK 26 #[.slice none 0 0, .slice none 0 0] ue Tryz.underlying26 ?_
 exact ⟨_, _, eR, by first | exact Kd.sP _ _ _ _ _ | exact Kd.yR _ _ _ _ _ | exact Kd.yT _ _ _ _ _ | exact Kd.yS _ _ _ _ _ | exact Kd.wU _ _ _ _ _, by first | exact Kd.wU _ _ _ _ _ | exact Kd.yR _ _ _ _ _ | exact Kd.yT _ _ _ _ _ | exact Kd.yS _ _ _ _ _ | exact Kd.sP _ _ _ _ _, kO⟩
end Go.Proofs.YtaofjgnhapnndaaGreat.Q
namespace Go.Proofs.YtaofjgnhapnndaaGreat.Q
open Go.RowKit Go.Proofs.YtaofjgnhapnndaaGreatW.PrintWords Go.Proofs.YtaofjgnhapnndaaGreatW.PrintLast Go.Proofs.YtaofjgnhapnndaaGreatW.PrintMore
set_option linter.unusedVariables false
set_option linter.unusedSimpArgs false
def jI.l0 : Nat → Int → List ByteArray → Int → List ByteArray → List (S52) → Option (Bool)
 | 0, _, _, _, _, _ => none
 | k + 1, c, d, a, e, b => if a < (b.length : Int) then (if a = c then (jI.l0 k c d (wrap64 (a + 1)) e b) else (if 0 ≤ a then ((fI.f k ((aA b a).f1) d).bind fun g => (if g = true then (some true) else (jI.l0 k c d (wrap64 (a + 1)) e b))) else (none))) else (some false)
def jI.f (k : Nat) (aZ : List ByteArray) (aI : List (S52)) (a1 : Int) (l2 : List ByteArray) : Option (Bool) := jI.l0 k a1 l2 0 aZ aI
theorem jI.calls (k : Nat) (eE : Option Addr) (eF : Nat) (aZ : List ByteArray) (eV : Option Addr) (eC : Nat) (aI : List (S52)) (a1 : Int) (A2 : Option Addr) (c2 : Nat) (l2 : List ByteArray) (r : Bool) (w : World) (gP : Kd.C Kd.string w eE aZ.length aZ) (gN : aZ.length ≤ eF) (gK : Kd.C k52 w eV aI.length aI) (gO : aI.length ≤ eC) (Q7 : Kd.C Kd.string w A2 l2.length l2) (MA : l2.length ≤ c2) (h : jI.f k aZ aI a1 l2 = some r) :
  Calls Tryz.prog 40 #[.agg #[.slice eE aZ.length eF, .slice eV aI.length eC], .int .i64 a1, .slice A2 l2.length c2] w fun e w' => e = .returned (.bool r) ∧ Below w.heap.size w w' := by
 have hu26 := Tryz.underlying26
 obtain ⟨dT, dS⟩ := mZ2 gP gN
 obtain ⟨bV, eS⟩ := mZ2 gK gO
 obtain ⟨B0, yN⟩ := mZ2 Q7 MA
 clear gP gN gK gO Q7 MA
 have HB := am (Below.refl w.heap.size w)
 unfold jI.f at h
 have H := h
 clear h
 have H' := am H
 repeat clear H
 go_enter Tryz.func40, Tryz.ntmps40
 go_wp2_with (first | ((with_reducible refine gD 3 ?_); refine bX 3 #[.slice eE aZ.length eF, .slice eV aI.length eC] 26 ?_; intro aW hg w4 hbox hb; have a6 := am hbox; have iS := am (u4 : w.heap.size ≤ aW); have j5 := iS; replace HB := bS iJ hb; clear hb hbox hg))
 go_loopg [7] k (fun kq v7 w' => ∃ (oG : Int), v7 = .int .i64 oG ∧ aC (jI.l0 kq a1 l2 oG aZ aI = some r) ∧ aC (kq ≤ k) ∧ aC (w'.heap[aW]? = some (.cells #[(.slice eE aZ.length eF), (.slice eV aI.length eC)] 26 (0, 0))) ∧ aC (Below w.heap.size w w'))
 case atStart => exact ⟨(0), dU, H', ⟨Nat.le_refl _⟩, ⟨rB a6.1⟩, ⟨fH⟩⟩
 clear H'
 try clear c2
 obtain ⟨oG, rfl, HA, HK1, a6, HB⟩ := hrel
 cases gk with
 | zero => exact absurd HA.out (by simp [jI.l0])
 | succ k1 =>
  have H := HA.out
  clear HA
  simp only [jI.l0] at H
  refine ic H ?_ ?_ <;> clear H <;> intro FT H
  ·refine iq H ?_ ?_ <;> clear H <;> intro c6 MQ En H
   ·have H' := am H
    repeat clear H
    have Z7 := cz2 a6
    go_wp2
    go_roundg k1
    case measure => have := HK1.out; omega
    case rel => exact ⟨(wrap64 (oG + 1)), dU, H', ⟨by have := HK1.out; omega⟩, ⟨rB a6.1⟩, ⟨fH⟩⟩
   ·obtain ⟨H3, H⟩ := cN H
    obtain ⟨pN, A9, H⟩ := bd H
    refine tC H ?_ ?_ <;> clear H <;> intro Ai H <;> subst Ai
    ·obtain rfl := Option.some.inj H
     repeat clear H
     have Uq := cz2 a6
     obtain ⟨pJ, vD, vI, vE, vJ, uM, oW, qT, qU, rT, rP, vU, vT, EE, EH⟩ := aT52 bV HB oG
     cases uM
     go_wp2_with (first | (go_at_call 65; refine cM (fI.calls k1 _ _ ((aA aI oG).f1) _ _ l2 true _ (pB rT) rP.1 (pB B0) yN.1 A9.out) ?_; rintro w' ⟨nd, rfl⟩))
     go_ret
     exact ⟨eR, fH⟩
    ·have H' := am H
     repeat clear H
     have Ur := cz2 a6
     obtain ⟨pJ, vD, vI, vE, vJ, uM, oW, qT, qU, rT, rP, vU, vT, EE, EH⟩ := aT52 bV HB oG
     cases uM
     go_wp2_with (first | (go_at_call 65; refine cM (fI.calls k1 _ _ ((aA aI oG).f1) _ _ l2 false _ (pB rT) rP.1 (pB B0) yN.1 A9.out) ?_; rintro w' ⟨nd, rfl⟩))
     go_roundg k1
     case measure => have := HK1.out; omega
     case rel => exact ⟨(wrap64 (oG + 1)), dU, H', ⟨by have := HK1.out; omega⟩, ⟨rB a6.1⟩, ⟨fH⟩⟩
  ·obtain rfl := Option.some.inj H
   repeat clear H
   have Us := cz2 a6
   go_wp2
   go_ret
   exact ⟨eR, fH⟩
end Go.Proofs.YtaofjgnhapnndaaGreat.Q
