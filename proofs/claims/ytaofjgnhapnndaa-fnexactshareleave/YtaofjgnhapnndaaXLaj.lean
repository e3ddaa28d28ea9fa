/- Texts that the row needs: words on memory and rows, the contracts of the functions it reaches, and the plain lemmas on what they compute. -/
import Derived.Below
import Derived.Deep.Draws
import Derived.Deep.AppendLies
import Derived.Maps.AppendAt
import Derived.OwnWalk
import Derived.Laws.BytesArg
import Derived.Laws.MakeOwn
import Derived.Laws.OwnMore
import Derived.Deep.OwnRows
import Derived.Tactics
import Derived.Lib.ConvBytes
import Derived.Laws.Slices
import Derived.WalkKit
import Derived.KernelRfl
import Derived.RowKit3
import Derived.Deep.LoopGhost
import Derived.Deep.QuietTactic
import Derived.BigQuiet
import Derived.WideLaws
import Derived.Deep.DeepCutAuto
import Derived.Deep.CutBlock
import Derived.Deep.RegionHeld3
import Derived.Laws.Rows
import Derived.Lib.AppendStr
import Derived.ArgAppend
import Derived.Laws.IdiomCopy
import Derived.RowKit
import Derived.OrdersHeld
import Derived.Laws.BitsLemmas
import Derived.Laws.StructEq
import Derived.Test.YtaofjgnhapnndaaProg
import Derived.WalkLawsBesides
import Derived.Deep.RegionLaw
import Derived.Test.YtaofjgnhapnndaaRows
import Derived.ProofKit
import Derived.Shelf.Abstract
import Derived.Lib.SliceRun
import Derived.Test.YtaofjgnhapnndaaXLaa
import Derived.Test.YtaofjgnhapnndaaXLab
import Derived.Test.YtaofjgnhapnndaaXLac
import Derived.Test.YtaofjgnhapnndaaXLad
import Derived.Test.YtaofjgnhapnndaaXLae
import Derived.Test.YtaofjgnhapnndaaXLaf
import Derived.Test.YtaofjgnhapnndaaXLag
import Derived.Test.YtaofjgnhapnndaaXLah
import Derived.Test.YtaofjgnhapnndaaXLai
open Go.Proofs.YtaofjgnhapnndaaFL
namespace Go.Proofs.Ytaofjgnhapnndaa.Q
open Go.RowKit Go.Proofs.YtaofjgnhapnndaaW.PrintWords Go.Proofs.YtaofjgnhapnndaaW.PrintLast Go.Proofs.YtaofjgnhapnndaaW.PrintMore
set_option linter.unusedVariables false
set_option linter.unusedSimpArgs false
theorem run_clear_one (w : World) (t e ty : TypeId) (z : Value) (u0 u1 u2 : Value) (ht : Try.prog.underlying t = some (.slice e)) (hv : ∀ w, (zeroValue e).run Try.prog w = .ok z w) (hz : z.cells = #[u0, u1, u2]) (h1 : ∀ u ∈ [u0, u1, u2], u.oneCell' = true) (b o c : Nat)
  (hc : ∀ j, j < 3 → (w.cell? ⟨b, o + j, none⟩).isSome = true) (hf : ∀ j, j < 3 → w.frozen? ⟨b, o + j, none⟩ = false) :
  (Builtin.clear_ #[t] ty #[.slice (some ⟨b, o, none⟩) 1 c]).run Try.prog w = .ok (.tuple #[]) (w.setCells b o [u0, u1, u2]) := by
 have hzc : (Builtin.zeroCells z.cells 1).toList = [u0, u1, u2] := by
  rw [hz]
  simp only [Builtin.zeroCells]
  simp
  apply List.ext_getElem
  ·simp
  ·intro i h1 h2
   simp only [List.length_cons, List.length_nil] at h2
   obtain rfl | rfl | rfl : i = 0 ∨ i = 1 ∨ i = 2 := by omega
   all_goals simp
 have hst := run_storeCells_cells (P := Try.prog) b o [u0, u1, u2] 0 w (by simpa using hc) (by simpa using hf) h1
 simp only [Nat.add_zero] at hst
 simp [Builtin.clear_, run_underlying ht, hv, hzc, hst]
theorem dl_ne (i : Nat) : ((i : Int) == (i : Int) + 1) = false := beq_eq_false_iff_ne.2 (fun e => by omega)
theorem dl_p1 {i n : Nat} (h : i < n) : (i : Int) + 1 ≤ (n : Int) := by omega
theorem dl_wr {i n c : Nat} (h : i < n) (hn : n ≤ c) (hc : c ≤ 9223372036854775807) : wrap64 ((i : Int) + 1) = (i : Int) + 1 := by unfold wrap64; omega
theorem dl_room {i n c : Nat} (h : i < n) (hn : n ≤ c) : i + (n - (i + 1)) ≤ c := by omega
theorem S_cut {w w' : World} {base : Nat} {P : Nat → Prop} {g cap i : Nat} {xs : List S56} {f : Nat → Nat} {inner : List Value} {cur' : Array Value} (hi : i < xs.length)
  (h0 : P g) (hb : base ≤ g) (hn : xs.length ≤ cap) (hm : cap ≤ maxLen) (hr : Reps ((Kd.tag f k56).M w base (fun k => P k ∧ some k ≠ some g)) 3 xs.zipIdx inner)
  (hH : w'.heap[g]? = some (.cells cur' 56 (0, 0))) (hs : cur'.size = cap * 3) (ht : cur'.toList.take ((xs.length - 1) * 3) = inner.take (i * 3) ++ inner.drop ((i + 1) * 3))
  (hK : Kept w w' (fun k => k = g)) : Kd.S k56 56 w' base P (.slice (some ⟨g, 0, none⟩) (xs.length - 1) cap) (xs.eraseIdx i) := by
 have hl : (xs.eraseIdx i).length = xs.length - 1 := List.length_eraseIdx_of_lt hi
 have hil : inner.length = xs.length * 3 := by have := hr.1; rwa [List.length_zipIdx] at this
 refine ⟨fun k => if i < f k then f k - 1 else f k, fun k hk => by (have e : g = k := by simpa [Value.ownBlock] using hk); subst e; exact h0, inner.take (i * 3) ++ inner.drop ((i + 1) * 3), ⟨?_, ?_⟩, ?_, ?_⟩
 ·rw [List.length_append, List.length_take, List.length_drop, List.length_zipIdx, hl, hil]
  show _ = (xs.length - 1) * 3
  omega
 ·refine .inr ⟨g, cap, cur', ?_, hb, hH, ?_, hm, hs, ?_⟩
  ·rw [List.length_zipIdx, hl]
  ·rw [List.length_zipIdx, hl]; omega
  ·rw [List.length_zipIdx, hl]; exact ht
 ·rw [List.length_append, List.length_take, List.length_drop, List.length_zipIdx, hl, hil]
  show _ = (xs.length - 1) * 3
  omega
 ·intro j p hj
  rw [List.getElem?_zipIdx] at hj
  obtain ⟨x, hx, rfl⟩ := Option.map_eq_some_iff.mp hj
  have hjl : j < (xs.eraseIdx i).length := (List.getElem?_eq_some_iff.1 hx).1
  rw [List.getElem?_eraseIdx] at hx
  by_cases hji : j < i
  ·rw [if_pos hji] at hx
   have hM := hr.2 j (x, j) (Kd.zip_at hx)
   have e : ((inner.take (i * 3) ++ inner.drop ((i + 1) * 3)).drop (j * 3)).take 3 = (inner.drop (j * 3)).take 3 := by
    rw [List.drop_append_of_le_length (by rw [List.length_take, hil]; omega), List.take_append_of_le_length (by rw [List.length_drop, List.length_take, hil]; omega), List.drop_take, List.take_take, Nat.min_eq_left (by omega)]
   show (Kd.tag _ _).M _ _ _ _ (((inner.take (i * 3) ++ inner.drop ((i + 1) * 3)).drop (j * 3)).take 3)
   rw [e]
   refine (Kd.tag _ k56).M_mono (ok := fun k => (P k ∧ some k ≠ some g) ∧ f k = j) (fun k hk => ?_) (Kd.M_step (d := Kd.tag _ k56) (w := w) ?_ (fun k hk hlt => hK.2 k hlt (fun e => hk.1.2 (by rw [e]))))
   ·exact ⟨hk.1.1, fun e => hk.1.2 (by simpa [Value.ownBlock] using e)⟩
   ·refine k56.M_mono (fun k hk => ⟨⟨hk.1, hk.2⟩, ?_⟩) hM
    have := hk.2
    show (if i < f k then f k - 1 else f k) = _
    simp only at this
    rw [this, if_neg (by omega)]; omega
  ·rw [if_neg hji] at hx
   have hM := hr.2 (j + 1) (x, j + 1) (Kd.zip_at hx)
   have e : ((inner.take (i * 3) ++ inner.drop ((i + 1) * 3)).drop (j * 3)).take 3 = (inner.drop ((j + 1) * 3)).take 3 := by
    rw [List.drop_append, List.drop_eq_nil_of_le (by rw [List.length_take, hil]; omega), List.nil_append, List.length_take, hil, Nat.min_eq_left (by omega), List.drop_drop]
    congr 2; omega
   show (Kd.tag _ _).M _ _ _ _ (((inner.take (i * 3) ++ inner.drop ((i + 1) * 3)).drop (j * 3)).take 3)
   rw [e]
   refine (Kd.tag _ k56).M_mono (ok := fun k => (P k ∧ some k ≠ some g) ∧ f k = j + 1) (fun k hk => ?_) (Kd.M_step (d := Kd.tag _ k56) (w := w) ?_ (fun k hk hlt => hK.2 k hlt (fun e => hk.1.2 (by rw [e]))))
   ·exact ⟨hk.1.1, fun e => hk.1.2 (by simpa [Value.ownBlock] using e)⟩
   ·refine k56.M_mono (fun k hk => ⟨⟨hk.1, hk.2⟩, ?_⟩) hM
    have := hk.2
    show (if i < f k then f k - 1 else f k) = _
    simp only at this
    rw [this, if_pos (by omega)]; omega
set_option maxHeartbeats 4000000 in
set_option maxRecDepth 1000000 in
theorem slices_Delete.one (w0 w : World) (P : Nat → Prop) (A : Option Addr) (c : Nat) (xs : List S56) (i : Nat) (hi : i < xs.length) (hB : Below w0.heap.size w0 w) (h : Kd.S k56 56 w w0.heap.size P (.slice A xs.length c) xs) :
  Calls Try.prog 91 #[.slice A xs.length c, .int .i64 i, .int .i64 ((i : Int) + 1)] w fun e w' => e = .returned (.slice A (xs.length - 1) c) ∧ Kd.S k56 56 w' w0.heap.size P (.slice A (xs.length - 1) c) (xs.eraseIdx i) ∧ Below w0.heap.size w0 w' ∧ Kept w w' P := by
 obtain ⟨f, h0, inner, ho, hr⟩ := h
 obtain ⟨hil, ho⟩ := ho
 rw [List.length_zipIdx] at hil
 rcases ho with ⟨_, ho⟩ | ⟨g, cap, cur, hv, hbase, hheap, hncap, hcapm, hcur, htake⟩
 ·rw [List.length_zipIdx] at ho; omega
 rw [List.length_zipIdx] at hv hncap htake
 injection hv with ha _ hc
 subst ha; subst hc
 have hP : P g := h0 g rfl
 have hr' : Reps ((Kd.tag f k56).M w w0.heap.size (fun k => P k ∧ some k ≠ some g)) 3 xs.zipIdx inner := hr
 have hil' : inner.length = xs.length * 3 := hil
 have hcur' : cur.size = c * 3 := hcur
 have htake' : cur.toList.take (xs.length * 3) = inner := htake
 have hone : ∀ u ∈ inner, u.oneCell' = true := by
  intro u hu
  obtain ⟨j, hj, rfl⟩ := List.getElem_of_mem hu
  have hjx : j / 3 < xs.length := by omega
  have hM := hr'.2 (j / 3) (xs[j / 3], j / 3) (Kd.zip_at (List.getElem?_eq_getElem hjx))
  refine k56.K_one (k56.K_of_M hM) _ ?_
  refine List.mem_of_getElem? (i := j % 3) ?_
  rw [List.getElem?_take, if_pos (by omega), List.getElem?_drop, show j / 3 * 3 + j % 3 = j by omega, List.getElem?_eq_getElem hj]
 have hcell : ∀ j, j < xs.length * 3 → w.cell? ⟨g, j, none⟩ = inner[j]? := by
  intro j hj
  rw [blk_cell hheap j, ← htake', List.getElem?_take, if_pos hj, Array.getElem?_toList]
 have hfr : ∀ j, w.frozen? ⟨g, j, none⟩ = false := fun j => blk_frozen hheap j
 clear h0 hr hil hcur htake
 obtain ⟨news, hnews⟩ : ∃ news, news = inner.drop ((i + 1) * 3) := ⟨_, rfl⟩
 have hlen : news.length = (xs.length - (i + 1)) * 3 := by rw [hnews, List.length_drop, hil']; omega
 obtain ⟨B, hA, hsrc⟩ : ∃ B : Addr, (if c = i + 1 then some (⟨g, 0, none⟩ : Addr) else some ⟨g, (i + 1) * 3, none⟩) = some B ∧ Hid (∀ t u, news[t]? = some u → w.drew.cell? (B.add t) = some u) := by
  by_cases h : c = i + 1
  ·refine ⟨⟨g, 0, none⟩, by simp [h], fun t u hu => ?_⟩
   have h0 : news.length = 0 := by rw [hlen]; omega
   rw [List.length_eq_zero_iff.1 h0] at hu
   simp at hu
  ·refine ⟨⟨g, (i + 1) * 3, none⟩, by simp [h], fun t u hu => ?_⟩
   have ht : t < (xs.length - (i + 1)) * 3 := by
    have := (List.getElem?_eq_some_iff.1 hu).1
    rwa [hlen] at this
   rw [Addr.add_lit]
   show w.cell? _ = _
   rw [hcell _ (by omega), ← hu, hnews, List.getElem?_drop]
 have s2 : Hid (∀ u ∈ news, u.oneCell' = true) := by
  intro u hu
  rw [hnews] at hu
  exact hone u (List.mem_of_mem_drop hu)
 have s1 : Hid (news.length = (xs.length - (i + 1)) * 3) := hlen
 have s3 : Hid (∀ t, t < news.length → (w.drew.cell? ⟨g, 0 + i * 3 + t, none⟩).isSome = true ∧ w.drew.frozen? ⟨g, 0 + i * 3 + t, none⟩ = false) := by
  intro t ht
  rw [hlen] at ht
  refine ⟨?_, hfr _⟩
  show (w.cell? _).isSome = true
  rw [hcell _ (by omega), List.getElem?_eq_getElem (by omega)]
  rfl
 obtain ⟨i0, hi0, hz0, hz1, hz2⟩ := info_parts info56
 obtain ⟨W1, hW1⟩ : ∃ W1, W1 = w.drew.setCells g (0 + i * 3) news := ⟨_, rfl⟩
 obtain ⟨cur1, hh1, hs1, ht1⟩ := setCells_row (e := 56) news (0 + i * 3) w.drew cur hheap (by rw [hlen, hcur']; omega)
 rw [← hW1] at hh1
 have hcl : ∀ ty, (Builtin.clear_ #[29] ty #[.slice (some ⟨g, (i + (xs.length - (i + 1))) * 3, none⟩) (xs.length - (i + (xs.length - (i + 1)))) (c - (i + (xs.length - (i + 1))))]).run Try.prog W1 = .ok (.tuple #[]) (W1.setCells g ((i + (xs.length - (i + 1))) * 3) [.string ByteArray.empty, .slice none 0 0, .slice none 0 0]) := by
  intro ty
  rw [show xs.length - (i + (xs.length - (i + 1))) = 1 by omega]
  refine run_clear_one W1 _ 56 ty (.agg #[.string ByteArray.empty, .slice none 0 0, .slice none 0 0]) _ _ _ Try.underlying29 Try.zeroValue56 rfl (by simp [Value.oneCell']) g _ _ (fun t ht => ?_) (fun t ht => blk_frozen hh1 _)
  rw [blk_cell hh1, Array.getElem?_eq_getElem (by rw [hs1, hcur']; omega)]
  rfl
 obtain ⟨W2, hW2⟩ : ∃ W2, W2 = W1.setCells g ((i + (xs.length - (i + 1))) * 3) [.string ByteArray.empty, .slice none 0 0, .slice none 0 0] := ⟨_, rfl⟩
 obtain ⟨cur2, hh2, hs2, ht2⟩ := setCells_row (e := 56) [.string ByteArray.empty, .slice none 0 0, .slice none 0 0] ((i + (xs.length - (i + 1))) * 3) W1 cur1 hh1 (by rw [hs1, hcur']; simp only [List.length_cons, List.length_nil]; omega)
 rw [← hW2] at hh2
 have hK : Kept w W2 (fun k => k = g) := by
  rw [hW2, hW1]
  refine ⟨by rw [(setCells_same g _ _ _).2.2.2, (setCells_same g _ _ _).2.2.2]; exact Nat.le_refl _, fun k hk hne => ?_⟩
  rw [setCells_far _ _ _ hne, setCells_far _ _ _ hne]
  rfl
 have hBe : Below w0.heap.size w0 W2 := by
  have q2 := setCells_same g [.string ByteArray.empty, .slice none 0 0, .slice none 0 0] ((i + (xs.length - (i + 1))) * 3) W1
  have q1 := setCells_same g news (0 + i * 3) w.drew
  rw [← hW2] at q2; rw [← hW1] at q1
  refine ⟨by rw [q2.1, q1.1]; exact (below_drew1 hB).os, by rw [q2.2.1, q1.2.1]; exact (below_drew1 hB).tape, by rw [q2.2.2.1, q1.2.2.1]; exact (below_drew1 hB).output, Nat.le_trans hB.size hK.1, fun k hk => ?_⟩
  have hne : k ≠ g := by omega
  exact (hK.2 k (Nat.lt_of_lt_of_le hk hB.size) hne).trans (hB.block k hk)
 have htk : cur2.toList.take ((xs.length - 1) * 3) = inner.take (i * 3) ++ inner.drop ((i + 1) * 3) := by
  have e0 : i + (xs.length - (i + 1)) = xs.length - 1 := by omega
  have l1 : (cur1.toList.take ((xs.length - 1) * 3)).length = (xs.length - 1) * 3 := by rw [List.length_take, show cur1.toList.length = cur1.size from Array.length_toList, hs1, hcur']; omega
  rw [ht2, e0, List.append_assoc, List.take_append_of_le_length (by omega), List.take_take, Nat.min_self, ht1, ← hnews]
  have l2 : (cur.toList.take (0 + i * 3)).length = i * 3 := by rw [List.length_take, show cur.toList.length = cur.size from Array.length_toList, hcur']; omega
  have l3 : (cur.toList.take (0 + i * 3) ++ news).length = (xs.length - 1) * 3 := by rw [List.length_append, l2, hlen]; omega
  rw [List.take_append_of_le_length (by omega), List.take_of_length_le (by omega), Nat.zero_add, ← htake', List.take_take, Nat.min_eq_left (by omega)]
 have hS := S_cut (w' := W2) hi hP hbase hncap hcapm hr' hh2 (by rw [hs2, hs1, hcur']) htk hK
 have hcm : c ≤ 9223372036854775807 := hcapm
 clear hcapm
 have HS := Aside0.mk hS
 have HB := Aside0.mk hBe
 have HK := Aside0.mk (Kept.mono hK (S' := P) (fun k e => e ▸ hP))
 have hwr : wrap64 ((i : Int) + 1) = (i : Int) + 1 := dl_wr hi hncap hcm
 have hic : i ≤ c := Nat.le_trans (Nat.le_of_lt hi) hncap
 have hne : ((i : Int) == (i : Int) + 1) = false := dl_ne i
 have hp0 : (0 : Int) ≤ (i : Int) + 1 := Int.natCast_nonneg (i + 1)
 have hp1 : (i : Int) + 1 ≤ (xs.length : Int) := dl_p1 hi
 have hp2 : ((i : Int) + 1).toNat = i + 1 := Int.toNat_natCast (i + 1)
 have hx1 : xs.length ≤ c := hncap
 have hHW1 : Hid (W1 = w.drew.setCells g (0 + i * 3) news) := hW1
 have hHW2 : Hid (W2 = W1.setCells g ((i + (xs.length - (i + 1))) * 3) [.string ByteArray.empty, .slice none 0 0, .slice none 0 0]) := hW2
 clear hcm
 clear hS hBe hK htk hh2 hs2 ht2 hh1 hs1 ht1 hW1 hW2 hr' hil' hcur' htake' hone hcell hfr hnews hlen hheap hbase hncap hB hP
 go_enter Try.func91, Try.ntmps91
 go_wp2_with fail
 go_region_law (refine step_append_room rfl (.tmp 22) (.tmp 25) 29 rfl 56 i0 3 Try.underlying29 hi0 hz1 g 0 i c (by simp [Act.eval, Act.put]) B (xs.length - (i + 1)) (c - (i + 1)) news (by simp [Act.eval, Act.put]) s1.out hsrc.out s2.out (dl_room hi hx1) s3.out ?_; rw [← hHW1.out])
 go_wp2
 go_ret
 rw [← hHW2.out]
 exact ⟨by rw [show i + (xs.length - (i + 1)) = xs.length - 1 by omega]; rfl, HS.out, HB.out, HK.out⟩
end Go.Proofs.Ytaofjgnhapnndaa.Q
namespace Go.Proofs.Ytaofjgnhapnndaa.Q
open Go.RowKit Go.Proofs.YtaofjgnhapnndaaW.PrintWords Go.Proofs.YtaofjgnhapnndaaW.PrintLast Go.Proofs.YtaofjgnhapnndaaW.PrintMore
set_option linter.unusedVariables false
set_option linter.unusedSimpArgs false
def impl_ShareLeave.f (k : Nat) (l0 : List ByteArray) (l1 : List S56) (a1 : ByteArray) : Option (List ByteArray × List S56 × Int) :=
 (impl_ShareBookOk.f k l0 l1).bind fun ok => if ok = true then (impl_copyBook.f k l0 l1).bind fun c => (impl_ShareBook_at.f l0 l1 a1).bind fun i => if i < 0 then some (c.1, c.2, 3) else if i.toNat < c.2.length ∧ c.2.length ≤ 9223372036854775806 then some (c.1, c.2.eraseIdx i.toNat, 0) else none else some ([], [], 1)
theorem BkS.del {w0 w : World} {lo hi : Nat} {v0 : Value} {A : Option Addr} {c : Nat} {l0 : List ByteArray} {l1 : List S56} (h : BkS w0 w lo hi v0 (.slice A l1.length c) l0 l1) (hB : Below w0.heap.size w0 w) (i : Nat) (hi2 : i < l1.length) :
  Calls Try.prog 91 #[.slice A l1.length c, .int .i64 i, .int .i64 ((i : Int) + 1)] w fun e w' => e = .returned (.slice A (l1.eraseIdx i).length c) ∧ BkS w0 w' lo hi v0 (.slice A (l1.eraseIdx i).length c) l0 (l1.eraseIdx i) ∧ Below w0.heap.size w0 w' ∧ Kept w w' (fun k => lo ≤ k ∧ k < hi) := by
 refine (slices_Delete.one w0 w _ A c l1 i hi2 hB h.2).mono ?_
 rintro e w' ⟨he, hs, hb, hk⟩
 have e1 : (l1.eraseIdx i).length = l1.length - 1 := List.length_eraseIdx_of_lt hi2
 rw [e1]
 exact ⟨he, ⟨Kd.R_kept (Kd.R_tight rfl h.1) hk (fun k e hk2 => hk2.2 e) |> (fun q => Kd.R_mono q (fun k e => h.1.1 k e.symm)), hs⟩, hb, Kept.mono hk (fun k hk => hk.1)⟩
set_option maxHeartbeats 8000000 in
set_option maxRecDepth 100000 in
theorem impl_ShareLeave.calls (k : Nat) (A0_0 : Option Addr) (c0_0 : Nat) (l0 : List ByteArray) (A0_1 : Option Addr) (c0_1 : Nat) (l1 : List S56) (a1 : ByteArray) (r1 : List ByteArray) (r2 : List S56) (r3 : Int) (w : World) (hr0_0 : Kd.C Kd.string w A0_0 l0.length l0) (hc0_0 : l0.length ≤ c0_0) (hr0_1 : Kd.C k56 w A0_1 l1.length l1) (hc0_1 : l1.length ≤ c0_1) (h : impl_ShareLeave.f k l0 l1 a1 = some (r1, r2, r3)) :
  Calls Try.prog 47 #[.agg #[.slice A0_0 l0.length c0_0, .slice A0_1 l1.length c0_1], .string a1] w fun e w' => ∃ v0_ v1_ : Value, e = .returned (.tuple #[.agg #[v0_, v1_], .int .i64 r3]) ∧ Kd.R Kd.string 9 w' w.heap.size (fun _ => True) v0_ r1 ∧ Kd.S k56 56 w' w.heap.size (fun k_ => some k_ ≠ (v0_ : Value).ownBlock) v1_ r2 ∧ Below w.heap.size w w' := by
 have hu31 := Try.underlying31
 have HR0_0 := Aside0.mk hr0_0
 have HC0_0 := Aside0.mk hc0_0
 clear hr0_0 hc0_0
 have HR0_1 := Aside0.mk hr0_1
 have HC0_1 := Aside0.mk hc0_1
 clear hr0_1 hc0_1
 have HB := Aside0.mk (Below.refl w.heap.size w)
 unfold impl_ShareLeave.f at h
 have H := h
 clear h
 have H2 := Option.bind_eq_some_iff.mp H
 clear H
 obtain ⟨ok, D1_, H⟩ := H2
 have D1 := Aside0.mk D1_
 clear D1_
 by_cases c1 : ok = false
 ·subst c1
  rw [if_neg (by simp)] at H
  simp only [Option.some.injEq, Prod.mk.injEq] at H
  obtain ⟨rfl, rfl, rfl⟩ := H
  go_enter Try.func47, Try.ntmps47
  go_wp2_with (first | ((with_reducible refine gate_dst (N := 2) rfl ?_); refine box_event ?hg (N := 2) ?hd (cs := #[.slice A0_0 l0.length c0_0, .slice A0_1 l1.length c0_1]) (t := 31) ?hr ?_; (case hd => rfl); (case hg => rfl); (case hr => first | (go_simp; done) | (go_simp; rfl)); intro gb2 hg_ W1 hbox hb; have hk_ : Kept w W1 (fun _ => False) := Kept.noth hb; have LEW1 := Aside0.mk (show w.heap.size ≤ W1.heap.size from hk_.1); have GE2 := Aside0.mk (show w.heap.size ≤ gb2 from Nat.le_trans HB.out.size (Nat.le_of_eq hg_.symm)); have GL2 := Aside0.mk (show w.heap.size ≤ gb2 from Nat.le_of_eq hg_.symm); have GH2 := Aside0.mk (show gb2 < W1.heap.size from blk_lt hbox); have n_ := Aside0.mk (below_step HB.out hb); clear HB; have HB := n_; clear n_; have BK2 := Aside0.mk hbox; clear hb hbox hg_ hk_; (try clear hcz2_0 hcz2_1 hfz2_0 hfz2_1); have hcz2_0 : W1.cell? ⟨gb2, 0, none⟩ = some (.slice A0_0 l0.length c0_0) := (blk_cell BK2.out 0).trans rfl; have hcz2_1 : W1.cell? ⟨gb2, 1, none⟩ = some (.slice A0_1 l1.length c0_1) := (blk_cell BK2.out 1).trans rfl; have hfz2_0 := blk_frozen BK2.out 0; have hfz2_1 := blk_frozen BK2.out 1) | ((with_reducible refine gate_dst (N := 4) rfl ?_); refine box_event ?hg (N := 4) ?hd (cs := #[.slice none 0 0, .slice none 0 0]) (t := 31) ?hr ?_; (case hd => rfl); (case hg => rfl); (case hr => first | (go_simp; done) | (go_simp; rfl)); intro gb4 hg_ W2 hbox hb; have hk_ : Kept W1 W2 (fun _ => False) := Kept.noth hb; have LEW2 := Aside0.mk (show W1.heap.size ≤ W2.heap.size from hk_.1); have GE4 := Aside0.mk (show w.heap.size ≤ gb4 from Nat.le_trans HB.out.size (Nat.le_of_eq hg_.symm)); have GL4 := Aside0.mk (show W1.heap.size ≤ gb4 from Nat.le_of_eq hg_.symm); have GH4 := Aside0.mk (show gb4 < W2.heap.size from blk_lt hbox); have nb2_ := Aside0.mk (blk_kept BK2.out hk_ (fun h => h)); clear BK2; have BK2 := nb2_; clear nb2_; have n_ := Aside0.mk (below_step HB.out hb); clear HB; have HB := n_; clear n_; have BK4 := Aside0.mk hbox; clear hb hbox hg_ hk_; have nb4_2 : gb4 ≠ gb2 := (by have := LEW1.out; have := GL2.out; have := GH2.out; have := LEW2.out; have := GL4.out; have := GH4.out;  omega); have nb2_4 : gb2 ≠ gb4 := (by have := LEW1.out; have := GL2.out; have := GH2.out; have := LEW2.out; have := GL4.out; have := GH4.out;  omega); (try clear hcz4_0 hcz4_1 hfz4_0 hfz4_1); have hcz4_0 : W2.cell? ⟨gb4, 0, none⟩ = some (.slice none 0 0) := (blk_cell BK4.out 0).trans rfl; have hcz4_1 : W2.cell? ⟨gb4, 1, none⟩ = some (.slice none 0 0) := (blk_cell BK4.out 1).trans rfl; have hfz4_0 := blk_frozen BK4.out 0; have hfz4_1 := blk_frozen BK4.out 1; (try clear hcz2_0 hcz2_1 hfz2_0 hfz2_1); have hcz2_0 : W2.cell? ⟨gb2, 0, none⟩ = some (.slice A0_0 l0.length c0_0) := (blk_cell BK2.out 0).trans rfl; have hcz2_1 : W2.cell? ⟨gb2, 1, none⟩ = some (.slice A0_1 l1.length c0_1) := (blk_cell BK2.out 1).trans rfl; have hfz2_0 := blk_frozen BK2.out 0; have hfz2_1 := blk_frozen BK2.out 1) | ((with_reducible refine gate_callee (f := 24) rfl ?_); refine goesL_ (some 9) rfl rfl Try.func24 (by kernel_rfl) rfl #[.agg #[.slice A0_0 l0.length c0_0, .slice A0_1 l1.length c0_1]] rfl (pY33) ?_; (refine (impl_ShareBookOk.calls k _ _ l0 _ _ l1 false _ (Kd.C_below HR0_0.out HB.out) HC0_0.out (Kd.C_below HR0_1.out HB.out) HC0_1.out D1.out).mono ?_); rintro e_ W3 ⟨rfl, hb⟩; refine ⟨_, rfl, ?_⟩; have HB0 := Aside0.mk (show w.heap.size ≤ W2.heap.size from HB.out.size); have hk_ : Kept W2 W3 (fun _ => False) := Kept.noth hb; have LEW3 := Aside0.mk (show W2.heap.size ≤ W3.heap.size from hk_.1); have nb2_ := Aside0.mk (blk_kept BK2.out hk_ (fun h => h)); have nb4_ := Aside0.mk (blk_kept BK4.out hk_ (fun h => h)); clear BK2 BK4; have BK2 := nb2_; have BK4 := nb4_; clear nb2_ nb4_; have n_ := Aside0.mk (below_step (HB.out) hb); clear HB; have HB := n_; clear n_; (try clear hb); (try clear hk_); (try clear hkk); (try clear hbb); (try clear hcz2_0 hcz2_1 hfz2_0 hfz2_1); have hcz2_0 : W3.cell? ⟨gb2, 0, none⟩ = some (.slice A0_0 l0.length c0_0) := (blk_cell BK2.out 0).trans rfl; have hcz2_1 : W3.cell? ⟨gb2, 1, none⟩ = some (.slice A0_1 l1.length c0_1) := (blk_cell BK2.out 1).trans rfl; have hfz2_0 := blk_frozen BK2.out 0; have hfz2_1 := blk_frozen BK2.out 1; (try clear hcz4_0 hcz4_1 hfz4_0 hfz4_1); have hcz4_0 : W3.cell? ⟨gb4, 0, none⟩ = some (.slice none 0 0) := (blk_cell BK4.out 0).trans rfl; have hcz4_1 : W3.cell? ⟨gb4, 1, none⟩ = some (.slice none 0 0) := (blk_cell BK4.out 1).trans rfl; have hfz4_0 := blk_frozen BK4.out 0; have hfz4_1 := blk_frozen BK4.out 1; (try clear HB0)))
  (try simp only [Exit.inBlock, Exit.then]); refine bodyPost_ret (results_ct rfl _ _ gb4 31 #[.slice none 0 0, .slice none 0 0] (0, 0) _ rfl (blk_put (cs := #[.slice none 0 0, .slice none 0 0]) (blk_put (cs := #[.slice none 0 0, .slice none 0 0]) (BK4.out) 0 _ rfl) 1 _ rfl) Try.underlying31 rfl (by kernel_rfl)) rfl ?_
  exact ⟨_, _, rfl, Kd.R_nil _ _ _ _ _, Kd.S_nil _ _ _ _ _, below_set (below_set HB.out GE4.out) GE4.out⟩
 have c1 : ok = true := by simpa using c1
 rw [if_pos c1] at H
 subst c1
 have H2 := Option.bind_eq_some_iff.mp H
 clear H
 obtain ⟨⟨c1a, c1b⟩, D2_, H⟩ := H2
 have D2 := Aside0.mk D2_
 clear D2_
 have H2 := Option.bind_eq_some_iff.mp H
 clear H
 obtain ⟨i, D3_, H⟩ := H2
 have D3 := Aside0.mk D3_
 clear D3_
 dsimp only at H
 by_cases c2 : i < 0
 ·rw [if_pos c2] at H
  have c2b0 : decide (i < 0) = true := decide_eq_true c2
  simp only [Option.some.injEq, Prod.mk.injEq] at H
  obtain ⟨rfl, rfl, rfl⟩ := H
  go_enter Try.func47, Try.ntmps47
  go_wp2_with (first | ((with_reducible refine gate_dst (N := 2) rfl ?_); refine box_event ?hg (N := 2) ?hd (cs := #[.slice A0_0 l0.length c0_0, .slice A0_1 l1.length c0_1]) (t := 31) ?hr ?_; (case hd => rfl); (case hg => rfl); (case hr => first | (go_simp; done) | (go_simp; rfl)); intro gb2 hg_ W1 hbox hb; have hk_ : Kept w W1 (fun _ => False) := Kept.noth hb; have LEW1 := Aside0.mk (show w.heap.size ≤ W1.heap.size from hk_.1); have GE2 := Aside0.mk (show w.heap.size ≤ gb2 from Nat.le_trans HB.out.size (Nat.le_of_eq hg_.symm)); have GL2 := Aside0.mk (show w.heap.size ≤ gb2 from Nat.le_of_eq hg_.symm); have GH2 := Aside0.mk (show gb2 < W1.heap.size from blk_lt hbox); have n_ := Aside0.mk (below_step HB.out hb); clear HB; have HB := n_; clear n_; have BK2 := Aside0.mk hbox; clear hb hbox hg_ hk_; (try clear hcz2_0 hcz2_1 hfz2_0 hfz2_1); have hcz2_0 : W1.cell? ⟨gb2, 0, none⟩ = some (.slice A0_0 l0.length c0_0) := (blk_cell BK2.out 0).trans rfl; have hcz2_1 : W1.cell? ⟨gb2, 1, none⟩ = some (.slice A0_1 l1.length c0_1) := (blk_cell BK2.out 1).trans rfl; have hfz2_0 := blk_frozen BK2.out 0; have hfz2_1 := blk_frozen BK2.out 1) | ((with_reducible refine gate_dst (N := 4) rfl ?_); refine box_event ?hg (N := 4) ?hd (cs := #[.slice none 0 0, .slice none 0 0]) (t := 31) ?hr ?_; (case hd => rfl); (case hg => rfl); (case hr => first | (go_simp; done) | (go_simp; rfl)); intro gb4 hg_ W2 hbox hb; have hk_ : Kept W1 W2 (fun _ => False) := Kept.noth hb; have LEW2 := Aside0.mk (show W1.heap.size ≤ W2.heap.size from hk_.1); have GE4 := Aside0.mk (show w.heap.size ≤ gb4 from Nat.le_trans HB.out.size (Nat.le_of_eq hg_.symm)); have GL4 := Aside0.mk (show W1.heap.size ≤ gb4 from Nat.le_of_eq hg_.symm); have GH4 := Aside0.mk (show gb4 < W2.heap.size from blk_lt hbox); have nb2_ := Aside0.mk (blk_kept BK2.out hk_ (fun h => h)); clear BK2; have BK2 := nb2_; clear nb2_; have n_ := Aside0.mk (below_step HB.out hb); clear HB; have HB := n_; clear n_; have BK4 := Aside0.mk hbox; clear hb hbox hg_ hk_; have nb4_2 : gb4 ≠ gb2 := (by have := LEW1.out; have := GL2.out; have := GH2.out; have := LEW2.out; have := GL4.out; have := GH4.out;  omega); have nb2_4 : gb2 ≠ gb4 := (by have := LEW1.out; have := GL2.out; have := GH2.out; have := LEW2.out; have := GL4.out; have := GH4.out;  omega); (try clear hcz4_0 hcz4_1 hfz4_0 hfz4_1); have hcz4_0 : W2.cell? ⟨gb4, 0, none⟩ = some (.slice none 0 0) := (blk_cell BK4.out 0).trans rfl; have hcz4_1 : W2.cell? ⟨gb4, 1, none⟩ = some (.slice none 0 0) := (blk_cell BK4.out 1).trans rfl; have hfz4_0 := blk_frozen BK4.out 0; have hfz4_1 := blk_frozen BK4.out 1; (try clear hcz2_0 hcz2_1 hfz2_0 hfz2_1); have hcz2_0 : W2.cell? ⟨gb2, 0, none⟩ = some (.slice A0_0 l0.length c0_0) := (blk_cell BK2.out 0).trans rfl; have hcz2_1 : W2.cell? ⟨gb2, 1, none⟩ = some (.slice A0_1 l1.length c0_1) := (blk_cell BK2.out 1).trans rfl; have hfz2_0 := blk_frozen BK2.out 0; have hfz2_1 := blk_frozen BK2.out 1) | ((with_reducible refine gate_callee (f := 24) rfl ?_); refine goesL_ (some 9) rfl rfl Try.func24 (by kernel_rfl) rfl #[.agg #[.slice A0_0 l0.length c0_0, .slice A0_1 l1.length c0_1]] rfl (pY33) ?_; (refine (impl_ShareBookOk.calls k _ _ l0 _ _ l1 true _ (Kd.C_below HR0_0.out HB.out) HC0_0.out (Kd.C_below HR0_1.out HB.out) HC0_1.out D1.out).mono ?_); rintro e_ W3 ⟨rfl, hb⟩; refine ⟨_, rfl, ?_⟩; have HB0 := Aside0.mk (show w.heap.size ≤ W2.heap.size from HB.out.size); have hk_ : Kept W2 W3 (fun _ => False) := Kept.noth hb; have LEW3 := Aside0.mk (show W2.heap.size ≤ W3.heap.size from hk_.1); have nb2_ := Aside0.mk (blk_kept BK2.out hk_ (fun h => h)); have nb4_ := Aside0.mk (blk_kept BK4.out hk_ (fun h => h)); clear BK2 BK4; have BK2 := nb2_; have BK4 := nb4_; clear nb2_ nb4_; have n_ := Aside0.mk (below_step (HB.out) hb); clear HB; have HB := n_; clear n_; (try clear hb); (try clear hk_); (try clear hkk); (try clear hbb); (try clear hcz2_0 hcz2_1 hfz2_0 hfz2_1); have hcz2_0 : W3.cell? ⟨gb2, 0, none⟩ = some (.slice A0_0 l0.length c0_0) := (blk_cell BK2.out 0).trans rfl; have hcz2_1 : W3.cell? ⟨gb2, 1, none⟩ = some (.slice A0_1 l1.length c0_1) := (blk_cell BK2.out 1).trans rfl; have hfz2_0 := blk_frozen BK2.out 0; have hfz2_1 := blk_frozen BK2.out 1; (try clear hcz4_0 hcz4_1 hfz4_0 hfz4_1); have hcz4_0 : W3.cell? ⟨gb4, 0, none⟩ = some (.slice none 0 0) := (blk_cell BK4.out 0).trans rfl; have hcz4_1 : W3.cell? ⟨gb4, 1, none⟩ = some (.slice none 0 0) := (blk_cell BK4.out 1).trans rfl; have hfz4_0 := blk_frozen BK4.out 0; have hfz4_1 := blk_frozen BK4.out 1; (try clear HB0)) | ((with_reducible refine gate_callee (f := 90) rfl ?_); refine goesL_ (some 13) rfl rfl Try.func90 (by kernel_rfl) rfl #[.agg #[.slice A0_0 l0.length c0_0, .slice A0_1 l1.length c0_1]] rfl (pY33) ?_; (refine (impl_copyBook.calls k _ _ l0 _ _ l1 c1a c1b _ (Kd.C_below HR0_0.out HB.out) HC0_0.out (Kd.C_below HR0_1.out HB.out) HC0_1.out D2.out).mono ?_); rintro e_ W4 ⟨_, _, rfl, ho0, ho1, hb⟩; refine ⟨_, rfl, ?_⟩; have HB0 := Aside0.mk (show w.heap.size ≤ W3.heap.size from HB.out.size); have hk_ : Kept W3 W4 (fun _ => False) := Kept.noth hb; have LEW4 := Aside0.mk (show W3.heap.size ≤ W4.heap.size from hk_.1); have nb2_ := Aside0.mk (blk_kept BK2.out hk_ (fun h => h)); have nb4_ := Aside0.mk (blk_kept BK4.out hk_ (fun h => h)); clear BK2 BK4; have BK2 := nb2_; have BK4 := nb4_; clear nb2_ nb4_; have n_ := Aside0.mk (below_step (HB.out) hb); clear HB; have HB := n_; clear n_; have n_ := Aside0.mk (BkS.made (n := W3.heap.size) ho0 ho1 (HB0.out) (Nat.le_refl _)); have KC := n_; clear n_ ho0 ho1; obtain ⟨Ac0, cc0, Ac1, cc1, e0_, e1_⟩ := KC.out.slices; subst e0_; subst e1_; (try clear hb); (try clear hk_); (try clear hkk); (try clear hbb); (try clear hcz2_0 hcz2_1 hfz2_0 hfz2_1); have hcz2_0 : W4.cell? ⟨gb2, 0, none⟩ = some (.slice A0_0 l0.length c0_0) := (blk_cell BK2.out 0).trans rfl; have hcz2_1 : W4.cell? ⟨gb2, 1, none⟩ = some (.slice A0_1 l1.length c0_1) := (blk_cell BK2.out 1).trans rfl; have hfz2_0 := blk_frozen BK2.out 0; have hfz2_1 := blk_frozen BK2.out 1; (try clear hcz4_0 hcz4_1 hfz4_0 hfz4_1); have hcz4_0 : W4.cell? ⟨gb4, 0, none⟩ = some (.slice none 0 0) := (blk_cell BK4.out 0).trans rfl; have hcz4_1 : W4.cell? ⟨gb4, 1, none⟩ = some (.slice none 0 0) := (blk_cell BK4.out 1).trans rfl; have hfz4_0 := blk_frozen BK4.out 0; have hfz4_1 := blk_frozen BK4.out 1; (try clear HB0)) | ((with_reducible refine gate_dst (N := 6) rfl ?_); refine box_event ?hg (N := 6) ?hd (cs := #[.slice none 0 0, .slice none 0 0]) (t := 31) ?hr ?_; (case hd => rfl); (case hg => rfl); (case hr => first | (go_simp; done) | (go_simp; rfl)); intro gb6 hg_ W5 hbox hb; have hk_ : Kept W4 W5 (fun _ => False) := Kept.noth hb; have LEW5 := Aside0.mk (show W4.heap.size ≤ W5.heap.size from hk_.1); have GE6 := Aside0.mk (show w.heap.size ≤ gb6 from Nat.le_trans HB.out.size (Nat.le_of_eq hg_.symm)); have GL6 := Aside0.mk (show W4.heap.size ≤ gb6 from Nat.le_of_eq hg_.symm); have GH6 := Aside0.mk (show gb6 < W5.heap.size from blk_lt hbox); have n0_ := Aside0.mk (BkS.kept KC.out hk_ (fun _ _ _ h => h)); have nb2_ := Aside0.mk (blk_kept BK2.out hk_ (fun h => h)); have nb4_ := Aside0.mk (blk_kept BK4.out hk_ (fun h => h)); clear KC BK2 BK4; have KC := n0_; have BK2 := nb2_; have BK4 := nb4_; clear n0_ nb2_ nb4_; have n_ := Aside0.mk (below_step HB.out hb); clear HB; have HB := n_; clear n_; have BK6 := Aside0.mk hbox; clear hb hbox hg_ hk_; have nb6_2 : gb6 ≠ gb2 := (by have := LEW1.out; have := GL2.out; have := GH2.out; have := LEW2.out; have := GL4.out; have := GH4.out; have := LEW3.out; have := LEW4.out; have := LEW5.out; have := GL6.out; have := GH6.out;  omega); have nb2_6 : gb2 ≠ gb6 := (by have := LEW1.out; have := GL2.out; have := GH2.out; have := LEW2.out; have := GL4.out; have := GH4.out; have := LEW3.out; have := LEW4.out; have := LEW5.out; have := GL6.out; have := GH6.out;  omega); have nb6_4 : gb6 ≠ gb4 := (by have := LEW1.out; have := GL2.out; have := GH2.out; have := LEW2.out; have := GL4.out; have := GH4.out; have := LEW3.out; have := LEW4.out; have := LEW5.out; have := GL6.out; have := GH6.out;  omega); have nb4_6 : gb4 ≠ gb6 := (by have := LEW1.out; have := GL2.out; have := GH2.out; have := LEW2.out; have := GL4.out; have := GH4.out; have := LEW3.out; have := LEW4.out; have := LEW5.out; have := GL6.out; have := GH6.out;  omega); (try clear hcz6_0 hcz6_1 hfz6_0 hfz6_1); have hcz6_0 : W5.cell? ⟨gb6, 0, none⟩ = some (.slice none 0 0) := (blk_cell BK6.out 0).trans rfl; have hcz6_1 : W5.cell? ⟨gb6, 1, none⟩ = some (.slice none 0 0) := (blk_cell BK6.out 1).trans rfl; have hfz6_0 := blk_frozen BK6.out 0; have hfz6_1 := blk_frozen BK6.out 1; (try clear hcz2_0 hcz2_1 hfz2_0 hfz2_1); have hcz2_0 : W5.cell? ⟨gb2, 0, none⟩ = some (.slice A0_0 l0.length c0_0) := (blk_cell BK2.out 0).trans rfl; have hcz2_1 : W5.cell? ⟨gb2, 1, none⟩ = some (.slice A0_1 l1.length c0_1) := (blk_cell BK2.out 1).trans rfl; have hfz2_0 := blk_frozen BK2.out 0; have hfz2_1 := blk_frozen BK2.out 1; (try clear hcz4_0 hcz4_1 hfz4_0 hfz4_1); have hcz4_0 : W5.cell? ⟨gb4, 0, none⟩ = some (.slice none 0 0) := (blk_cell BK4.out 0).trans rfl; have hcz4_1 : W5.cell? ⟨gb4, 1, none⟩ = some (.slice none 0 0) := (blk_cell BK4.out 1).trans rfl; have hfz4_0 := blk_frozen BK4.out 0; have hfz4_1 := blk_frozen BK4.out 1) | ((with_reducible refine gate_callee (f := 84) rfl ?_); refine goesL_ (some 16) rfl rfl Try.func84 (by kernel_rfl) rfl #[.agg #[.slice A0_0 l0.length c0_0, .slice A0_1 l1.length c0_1], .string a1] rfl (pY33) ?_; (refine (impl_ShareBook_at.calls _ _ l0 _ _ l1 a1 i _ (Kd.C_below HR0_0.out (below_set (below_set HB.out GE6.out) GE6.out)) HC0_0.out (Kd.C_below HR0_1.out (below_set (below_set HB.out GE6.out) GE6.out)) HC0_1.out D3.out).mono ?_); rintro e_ W6 ⟨rfl, hb⟩; refine ⟨_, rfl, ?_⟩; have HB0 := Aside0.mk (show w.heap.size ≤ W5.heap.size from HB.out.size); have hk_ : Kept W5 W6 (fun k => k = gb6) := (Kept.two (w := W5) (g := gb6) 0 1 (.slice Ac0 c1a.length cc0) (.slice Ac1 c1b.length cc1)).below hb; have LEW6 := Aside0.mk (show W5.heap.size ≤ W6.heap.size from hk_.1); have n0_ := Aside0.mk (BkS.kept KC.out hk_ (fun k_ h1_ h2_ e_ => by have := LEW1.out; have := GL2.out; have := GH2.out; have := LEW2.out; have := GL4.out; have := GH4.out; have := LEW3.out; have := LEW4.out; have := LEW5.out; have := GL6.out; have := GH6.out;  omega)); have nb2_ := Aside0.mk (blk_kept BK2.out hk_ (fun e_ => by have := LEW1.out; have := GL2.out; have := GH2.out; have := LEW2.out; have := GL4.out; have := GH4.out; have := LEW3.out; have := LEW4.out; have := LEW5.out; have := GL6.out; have := GH6.out;  omega)); have nb4_ := Aside0.mk (blk_kept BK4.out hk_ (fun e_ => by have := LEW1.out; have := GL2.out; have := GH2.out; have := LEW2.out; have := GL4.out; have := GH4.out; have := LEW3.out; have := LEW4.out; have := LEW5.out; have := GL6.out; have := GH6.out;  omega)); clear KC BK2 BK4; have KC := n0_; have BK2 := nb2_; have BK4 := nb4_; clear n0_ nb2_ nb4_; have nb_ := Aside0.mk (blk_below (g := gb6) (o := .cells #[.slice Ac0 c1a.length cc0, .slice Ac1 c1b.length cc1] 31 (0, 0)) (blk_put (cs := #[.slice Ac0 c1a.length cc0, .slice none 0 0]) (blk_put (cs := #[.slice none 0 0, .slice none 0 0]) BK6.out 0 _ rfl) 1 _ rfl) hb); clear BK6; have BK6 := nb_; clear nb_; have n_ := Aside0.mk (below_step (below_set (below_set HB.out GE6.out) GE6.out) hb); clear HB; have HB := n_; clear n_; (try clear hb); (try clear hk_); (try clear hkk); (try clear hbb); (try clear hcz6_0 hcz6_1 hfz6_0 hfz6_1); have hcz6_0 : W6.cell? ⟨gb6, 0, none⟩ = some (.slice Ac0 c1a.length cc0) := (blk_cell BK6.out 0).trans rfl; have hcz6_1 : W6.cell? ⟨gb6, 1, none⟩ = some (.slice Ac1 c1b.length cc1) := (blk_cell BK6.out 1).trans rfl; have hfz6_0 := blk_frozen BK6.out 0; have hfz6_1 := blk_frozen BK6.out 1; (try clear hcz4_0 hcz4_1 hfz4_0 hfz4_1); have hcz4_0 : W6.cell? ⟨gb4, 0, none⟩ = some (.slice none 0 0) := (blk_cell BK4.out 0).trans rfl; have hcz4_1 : W6.cell? ⟨gb4, 1, none⟩ = some (.slice none 0 0) := (blk_cell BK4.out 1).trans rfl; have hfz4_0 := blk_frozen BK4.out 0; have hfz4_1 := blk_frozen BK4.out 1; (try clear HB0)))
  (try simp only [Exit.inBlock, Exit.then]); refine bodyPost_ret (results_ct rfl _ _ gb4 31 #[.slice Ac0 c1a.length cc0, .slice Ac1 c1b.length cc1] (0, 0) _ rfl (blk_put (cs := #[.slice Ac0 c1a.length cc0, .slice none 0 0]) (blk_put (cs := #[.slice none 0 0, .slice none 0 0]) (BK4.out) 0 _ rfl) 1 _ rfl) Try.underlying31 rfl (by kernel_rfl)) rfl ?_
  have hK_ := BkS.kept KC.out (Kept.two (w := W6) (g := gb4) 0 1 (.slice Ac0 c1a.length cc0) (.slice Ac1 c1b.length cc1)) (fun k_ h1_ h2_ e_ => by have := LEW1.out; have := GL2.out; have := GH2.out; have := LEW2.out; have := GL4.out; have := GH4.out; have := LEW3.out; have := LEW4.out; have := LEW5.out; have := GL6.out; have := GH6.out; have := LEW6.out;  omega)
  exact ⟨_, _, rfl, Kd.R_mono hK_.1 (fun _ _ => trivial), Kd.S_mono hK_.2 (fun _ h_ => h_.2), below_set (below_set HB.out GE4.out) GE4.out⟩
 rw [if_neg c2] at H
 have c2b0 : decide (i < 0) = false := decide_eq_false c2
 obtain ⟨n, rfl⟩ := Int.eq_ofNat_of_zero_le (Int.not_lt.mp c2)
 rw [Int.toNat_natCast] at H
 have H2 := ite_some H
 clear H
 obtain ⟨⟨c3, c3b⟩, H⟩ := H2
 simp only [Option.some.injEq, Prod.mk.injEq] at H
 obtain ⟨rfl, rfl, rfl⟩ := H
 have hwr : wrap64 ((n : Int) + 1) = (n : Int) + 1 := by
  unfold wrap64; omega
 go_enter Try.func47, Try.ntmps47
 go_wp2_with (first | ((with_reducible refine gate_dst (N := 2) rfl ?_); refine box_event ?hg (N := 2) ?hd (cs := #[.slice A0_0 l0.length c0_0, .slice A0_1 l1.length c0_1]) (t := 31) ?hr ?_; (case hd => rfl); (case hg => rfl); (case hr => first | (go_simp; done) | (go_simp; rfl)); intro gb2 hg_ W1 hbox hb; have hk_ : Kept w W1 (fun _ => False) := Kept.noth hb; have LEW1 := Aside0.mk (show w.heap.size ≤ W1.heap.size from hk_.1); have GE2 := Aside0.mk (show w.heap.size ≤ gb2 from Nat.le_trans HB.out.size (Nat.le_of_eq hg_.symm)); have GL2 := Aside0.mk (show w.heap.size ≤ gb2 from Nat.le_of_eq hg_.symm); have GH2 := Aside0.mk (show gb2 < W1.heap.size from blk_lt hbox); have n_ := Aside0.mk (below_step HB.out hb); clear HB; have HB := n_; clear n_; have BK2 := Aside0.mk hbox; clear hb hbox hg_ hk_; (try clear hcz2_0 hcz2_1 hfz2_0 hfz2_1); have hcz2_0 : W1.cell? ⟨gb2, 0, none⟩ = some (.slice A0_0 l0.length c0_0) := (blk_cell BK2.out 0).trans rfl; have hcz2_1 : W1.cell? ⟨gb2, 1, none⟩ = some (.slice A0_1 l1.length c0_1) := (blk_cell BK2.out 1).trans rfl; have hfz2_0 := blk_frozen BK2.out 0; have hfz2_1 := blk_frozen BK2.out 1) | ((with_reducible refine gate_dst (N := 4) rfl ?_); refine box_event ?hg (N := 4) ?hd (cs := #[.slice none 0 0, .slice none 0 0]) (t := 31) ?hr ?_; (case hd => rfl); (case hg => rfl); (case hr => first | (go_simp; done) | (go_simp; rfl)); intro gb4 hg_ W2 hbox hb; have hk_ : Kept W1 W2 (fun _ => False) := Kept.noth hb; have LEW2 := Aside0.mk (show W1.heap.size ≤ W2.heap.size from hk_.1); have GE4 := Aside0.mk (show w.heap.size ≤ gb4 from Nat.le_trans HB.out.size (Nat.le_of_eq hg_.symm)); have GL4 := Aside0.mk (show W1.heap.size ≤ gb4 from Nat.le_of_eq hg_.symm); have GH4 := Aside0.mk (show gb4 < W2.heap.size from blk_lt hbox); have nb2_ := Aside0.mk (blk_kept BK2.out hk_ (fun h => h)); clear BK2; have BK2 := nb2_; clear nb2_; have n_ := Aside0.mk (below_step HB.out hb); clear HB; have HB := n_; clear n_; have BK4 := Aside0.mk hbox; clear hb hbox hg_ hk_; have nb4_2 : gb4 ≠ gb2 := (by have := LEW1.out; have := GL2.out; have := GH2.out; have := LEW2.out; have := GL4.out; have := GH4.out;  omega); have nb2_4 : gb2 ≠ gb4 := (by have := LEW1.out; have := GL2.out; have := GH2.out; have := LEW2.out; have := GL4.out; have := GH4.out;  omega); (try clear hcz4_0 hcz4_1 hfz4_0 hfz4_1); have hcz4_0 : W2.cell? ⟨gb4, 0, none⟩ = some (.slice none 0 0) := (blk_cell BK4.out 0).trans rfl; have hcz4_1 : W2.cell? ⟨gb4, 1, none⟩ = some (.slice none 0 0) := (blk_cell BK4.out 1).trans rfl; have hfz4_0 := blk_frozen BK4.out 0; have hfz4_1 := blk_frozen BK4.out 1; (try clear hcz2_0 hcz2_1 hfz2_0 hfz2_1); have hcz2_0 : W2.cell? ⟨gb2, 0, none⟩ = some (.slice A0_0 l0.length c0_0) := (blk_cell BK2.out 0).trans rfl; have hcz2_1 : W2.cell? ⟨gb2, 1, none⟩ = some (.slice A0_1 l1.length c0_1) := (blk_cell BK2.out 1).trans rfl; have hfz2_0 := blk_frozen BK2.out 0; have hfz2_1 := blk_frozen BK2.out 1) | ((with_reducible refine gate_callee (f := 24) rfl ?_); refine goesL_ (some 9) rfl rfl Try.func24 (by kernel_rfl) rfl #[.agg #[.slice A0_0 l0.length c0_0, .slice A0_1 l1.length c0_1]] rfl (pY33) ?_; (refine (impl_ShareBookOk.calls k _ _ l0 _ _ l1 true _ (Kd.C_below HR0_0.out HB.out) HC0_0.out (Kd.C_below HR0_1.out HB.out) HC0_1.out D1.out).mono ?_); rintro e_ W3 ⟨rfl, hb⟩; refine ⟨_, rfl, ?_⟩; have HB0 := Aside0.mk (show w.heap.size ≤ W2.heap.size from HB.out.size); have hk_ : Kept W2 W3 (fun _ => False) := Kept.noth hb; have LEW3 := Aside0.mk (show W2.heap.size ≤ W3.heap.size from hk_.1); have nb2_ := Aside0.mk (blk_kept BK2.out hk_ (fun h => h)); have nb4_ := Aside0.mk (blk_kept BK4.out hk_ (fun h => h)); clear BK2 BK4; have BK2 := nb2_; have BK4 := nb4_; clear nb2_ nb4_; have n_ := Aside0.mk (below_step (HB.out) hb); clear HB; have HB := n_; clear n_; (try clear hb); (try clear hk_); (try clear hkk); (try clear hbb); (try clear hcz2_0 hcz2_1 hfz2_0 hfz2_1); have hcz2_0 : W3.cell? ⟨gb2, 0, none⟩ = some (.slice A0_0 l0.length c0_0) := (blk_cell BK2.out 0).trans rfl; have hcz2_1 : W3.cell? ⟨gb2, 1, none⟩ = some (.slice A0_1 l1.length c0_1) := (blk_cell BK2.out 1).trans rfl; have hfz2_0 := blk_frozen BK2.out 0; have hfz2_1 := blk_frozen BK2.out 1; (try clear hcz4_0 hcz4_1 hfz4_0 hfz4_1); have hcz4_0 : W3.cell? ⟨gb4, 0, none⟩ = some (.slice none 0 0) := (blk_cell BK4.out 0).trans rfl; have hcz4_1 : W3.cell? ⟨gb4, 1, none⟩ = some (.slice none 0 0) := (blk_cell BK4.out 1).trans rfl; have hfz4_0 := blk_frozen BK4.out 0; have hfz4_1 := blk_frozen BK4.out 1; (try clear HB0)) | ((with_reducible refine gate_callee (f := 90) rfl ?_); refine goesL_ (some 13) rfl rfl Try.func90 (by kernel_rfl) rfl #[.agg #[.slice A0_0 l0.length c0_0, .slice A0_1 l1.length c0_1]] rfl (pY33) ?_; (refine (impl_copyBook.calls k _ _ l0 _ _ l1 c1a c1b _ (Kd.C_below HR0_0.out HB.out) HC0_0.out (Kd.C_below HR0_1.out HB.out) HC0_1.out D2.out).mono ?_); rintro e_ W4 ⟨_, _, rfl, ho0, ho1, hb⟩; refine ⟨_, rfl, ?_⟩; have HB0 := Aside0.mk (show w.heap.size ≤ W3.heap.size from HB.out.size); have hk_ : Kept W3 W4 (fun _ => False) := Kept.noth hb; have LEW4 := Aside0.mk (show W3.heap.size ≤ W4.heap.size from hk_.1); have nb2_ := Aside0.mk (blk_kept BK2.out hk_ (fun h => h)); have nb4_ := Aside0.mk (blk_kept BK4.out hk_ (fun h => h)); clear BK2 BK4; have BK2 := nb2_; have BK4 := nb4_; clear nb2_ nb4_; have n_ := Aside0.mk (below_step (HB.out) hb); clear HB; have HB := n_; clear n_; have n_ := Aside0.mk (BkS.made (n := W3.heap.size) ho0 ho1 (HB0.out) (Nat.le_refl _)); have KC := n_; clear n_ ho0 ho1; obtain ⟨Ac0, cc0, Ac1, cc1, e0_, e1_⟩ := KC.out.slices; subst e0_; subst e1_; (try clear hb); (try clear hk_); (try clear hkk); (try clear hbb); (try clear hcz2_0 hcz2_1 hfz2_0 hfz2_1); have hcz2_0 : W4.cell? ⟨gb2, 0, none⟩ = some (.slice A0_0 l0.length c0_0) := (blk_cell BK2.out 0).trans rfl; have hcz2_1 : W4.cell? ⟨gb2, 1, none⟩ = some (.slice A0_1 l1.length c0_1) := (blk_cell BK2.out 1).trans rfl; have hfz2_0 := blk_frozen BK2.out 0; have hfz2_1 := blk_frozen BK2.out 1; (try clear hcz4_0 hcz4_1 hfz4_0 hfz4_1); have hcz4_0 : W4.cell? ⟨gb4, 0, none⟩ = some (.slice none 0 0) := (blk_cell BK4.out 0).trans rfl; have hcz4_1 : W4.cell? ⟨gb4, 1, none⟩ = some (.slice none 0 0) := (blk_cell BK4.out 1).trans rfl; have hfz4_0 := blk_frozen BK4.out 0; have hfz4_1 := blk_frozen BK4.out 1; (try clear HB0)) | ((with_reducible refine gate_dst (N := 6) rfl ?_); refine box_event ?hg (N := 6) ?hd (cs := #[.slice none 0 0, .slice none 0 0]) (t := 31) ?hr ?_; (case hd => rfl); (case hg => rfl); (case hr => first | (go_simp; done) | (go_simp; rfl)); intro gb6 hg_ W5 hbox hb; have hk_ : Kept W4 W5 (fun _ => False) := Kept.noth hb; have LEW5 := Aside0.mk (show W4.heap.size ≤ W5.heap.size from hk_.1); have GE6 := Aside0.mk (show w.heap.size ≤ gb6 from Nat.le_trans HB.out.size (Nat.le_of_eq hg_.symm)); have GL6 := Aside0.mk (show W4.heap.size ≤ gb6 from Nat.le_of_eq hg_.symm); have GH6 := Aside0.mk (show gb6 < W5.heap.size from blk_lt hbox); have n0_ := Aside0.mk (BkS.kept KC.out hk_ (fun _ _ _ h => h)); have nb2_ := Aside0.mk (blk_kept BK2.out hk_ (fun h => h)); have nb4_ := Aside0.mk (blk_kept BK4.out hk_ (fun h => h)); clear KC BK2 BK4; have KC := n0_; have BK2 := nb2_; have BK4 := nb4_; clear n0_ nb2_ nb4_; have n_ := Aside0.mk (below_step HB.out hb); clear HB; have HB := n_; clear n_; have BK6 := Aside0.mk hbox; clear hb hbox hg_ hk_; have nb6_2 : gb6 ≠ gb2 := (by have := LEW1.out; have := GL2.out; have := GH2.out; have := LEW2.out; have := GL4.out; have := GH4.out; have := LEW3.out; have := LEW4.out; have := LEW5.out; have := GL6.out; have := GH6.out;  omega); have nb2_6 : gb2 ≠ gb6 := (by have := LEW1.out; have := GL2.out; have := GH2.out; have := LEW2.out; have := GL4.out; have := GH4.out; have := LEW3.out; have := LEW4.out; have := LEW5.out; have := GL6.out; have := GH6.out;  omega); have nb6_4 : gb6 ≠ gb4 := (by have := LEW1.out; have := GL2.out; have := GH2.out; have := LEW2.out; have := GL4.out; have := GH4.out; have := LEW3.out; have := LEW4.out; have := LEW5.out; have := GL6.out; have := GH6.out;  omega); have nb4_6 : gb4 ≠ gb6 := (by have := LEW1.out; have := GL2.out; have := GH2.out; have := LEW2.out; have := GL4.out; have := GH4.out; have := LEW3.out; have := LEW4.out; have := LEW5.out; have := GL6.out; have := GH6.out;  omega); (try clear hcz6_0 hcz6_1 hfz6_0 hfz6_1); have hcz6_0 : W5.cell? ⟨gb6, 0, none⟩ = some (.slice none 0 0) := (blk_cell BK6.out 0).trans rfl; have hcz6_1 : W5.cell? ⟨gb6, 1, none⟩ = some (.slice none 0 0) := (blk_cell BK6.out 1).trans rfl; have hfz6_0 := blk_frozen BK6.out 0; have hfz6_1 := blk_frozen BK6.out 1; (try clear hcz2_0 hcz2_1 hfz2_0 hfz2_1); have hcz2_0 : W5.cell? ⟨gb2, 0, none⟩ = some (.slice A0_0 l0.length c0_0) := (blk_cell BK2.out 0).trans rfl; have hcz2_1 : W5.cell? ⟨gb2, 1, none⟩ = some (.slice A0_1 l1.length c0_1) := (blk_cell BK2.out 1).trans rfl; have hfz2_0 := blk_frozen BK2.out 0; have hfz2_1 := blk_frozen BK2.out 1; (try clear hcz4_0 hcz4_1 hfz4_0 hfz4_1); have hcz4_0 : W5.cell? ⟨gb4, 0, none⟩ = some (.slice none 0 0) := (blk_cell BK4.out 0).trans rfl; have hcz4_1 : W5.cell? ⟨gb4, 1, none⟩ = some (.slice none 0 0) := (blk_cell BK4.out 1).trans rfl; have hfz4_0 := blk_frozen BK4.out 0; have hfz4_1 := blk_frozen BK4.out 1) | ((with_reducible refine gate_callee (f := 84) rfl ?_); refine goesL_ (some 16) rfl rfl Try.func84 (by kernel_rfl) rfl #[.agg #[.slice A0_0 l0.length c0_0, .slice A0_1 l1.length c0_1], .string a1] rfl (pY33) ?_; (refine (impl_ShareBook_at.calls _ _ l0 _ _ l1 a1 (n : Int) _ (Kd.C_below HR0_0.out (below_set (below_set HB.out GE6.out) GE6.out)) HC0_0.out (Kd.C_below HR0_1.out (below_set (below_set HB.out GE6.out) GE6.out)) HC0_1.out D3.out).mono ?_); rintro e_ W6 ⟨rfl, hb⟩; refine ⟨_, rfl, ?_⟩; have HB0 := Aside0.mk (show w.heap.size ≤ W5.heap.size from HB.out.size); have hk_ : Kept W5 W6 (fun k => k = gb6) := (Kept.two (w := W5) (g := gb6) 0 1 (.slice Ac0 c1a.length cc0) (.slice Ac1 c1b.length cc1)).below hb; have LEW6 := Aside0.mk (show W5.heap.size ≤ W6.heap.size from hk_.1); have n0_ := Aside0.mk (BkS.kept KC.out hk_ (fun k_ h1_ h2_ e_ => by have := LEW1.out; have := GL2.out; have := GH2.out; have := LEW2.out; have := GL4.out; have := GH4.out; have := LEW3.out; have := LEW4.out; have := LEW5.out; have := GL6.out; have := GH6.out;  omega)); have nb2_ := Aside0.mk (blk_kept BK2.out hk_ (fun e_ => by have := LEW1.out; have := GL2.out; have := GH2.out; have := LEW2.out; have := GL4.out; have := GH4.out; have := LEW3.out; have := LEW4.out; have := LEW5.out; have := GL6.out; have := GH6.out;  omega)); have nb4_ := Aside0.mk (blk_kept BK4.out hk_ (fun e_ => by have := LEW1.out; have := GL2.out; have := GH2.out; have := LEW2.out; have := GL4.out; have := GH4.out; have := LEW3.out; have := LEW4.out; have := LEW5.out; have := GL6.out; have := GH6.out;  omega)); clear KC BK2 BK4; have KC := n0_; have BK2 := nb2_; have BK4 := nb4_; clear n0_ nb2_ nb4_; have nb_ := Aside0.mk (blk_below (g := gb6) (o := .cells #[.slice Ac0 c1a.length cc0, .slice Ac1 c1b.length cc1] 31 (0, 0)) (blk_put (cs := #[.slice Ac0 c1a.length cc0, .slice none 0 0]) (blk_put (cs := #[.slice none 0 0, .slice none 0 0]) BK6.out 0 _ rfl) 1 _ rfl) hb); clear BK6; have BK6 := nb_; clear nb_; have n_ := Aside0.mk (below_step (below_set (below_set HB.out GE6.out) GE6.out) hb); clear HB; have HB := n_; clear n_; (try clear hb); (try clear hk_); (try clear hkk); (try clear hbb); (try clear hcz6_0 hcz6_1 hfz6_0 hfz6_1); have hcz6_0 : W6.cell? ⟨gb6, 0, none⟩ = some (.slice Ac0 c1a.length cc0) := (blk_cell BK6.out 0).trans rfl; have hcz6_1 : W6.cell? ⟨gb6, 1, none⟩ = some (.slice Ac1 c1b.length cc1) := (blk_cell BK6.out 1).trans rfl; have hfz6_0 := blk_frozen BK6.out 0; have hfz6_1 := blk_frozen BK6.out 1; (try clear hcz4_0 hcz4_1 hfz4_0 hfz4_1); have hcz4_0 : W6.cell? ⟨gb4, 0, none⟩ = some (.slice none 0 0) := (blk_cell BK4.out 0).trans rfl; have hcz4_1 : W6.cell? ⟨gb4, 1, none⟩ = some (.slice none 0 0) := (blk_cell BK4.out 1).trans rfl; have hfz4_0 := blk_frozen BK4.out 0; have hfz4_1 := blk_frozen BK4.out 1; (try clear HB0)) | ((with_reducible refine gate_callee (f := 91) rfl ?_); refine goesL_ (some 25) rfl rfl Try.func91 (by kernel_rfl) rfl #[.slice Ac1 c1b.length cc1, .int .i64 (n : Int), .int .i64 ((n : Int) + 1)] rfl (pY33) ?_; (refine (BkS.del KC.out HB.out n c3).mono ?_); rintro e_ W7 ⟨rfl, hy, hbb, hkk⟩; refine ⟨_, rfl, ?_⟩; have HB0 := Aside0.mk (show w.heap.size ≤ W6.heap.size from HB.out.size); have hk_ := hkk; have LEW7 := Aside0.mk (show W6.heap.size ≤ W7.heap.size from hk_.1); have nb2_ := Aside0.mk (blk_kept BK2.out hk_ (fun e_ => by obtain ⟨e1_, e2_⟩ := e_; have := LEW1.out; have := GL2.out; have := GH2.out; have := LEW2.out; have := GL4.out; have := GH4.out; have := LEW3.out; have := LEW4.out; have := LEW5.out; have := GL6.out; have := GH6.out; have := LEW6.out;  omega)); have nb4_ := Aside0.mk (blk_kept BK4.out hk_ (fun e_ => by obtain ⟨e1_, e2_⟩ := e_; have := LEW1.out; have := GL2.out; have := GH2.out; have := LEW2.out; have := GL4.out; have := GH4.out; have := LEW3.out; have := LEW4.out; have := LEW5.out; have := GL6.out; have := GH6.out; have := LEW6.out;  omega)); have nb6_ := Aside0.mk (blk_kept BK6.out hk_ (fun e_ => by obtain ⟨e1_, e2_⟩ := e_; have := LEW1.out; have := GL2.out; have := GH2.out; have := LEW2.out; have := GL4.out; have := GH4.out; have := LEW3.out; have := LEW4.out; have := LEW5.out; have := GL6.out; have := GH6.out; have := LEW6.out;  omega)); clear BK2 BK4 BK6 KC; have BK2 := nb2_; have BK4 := nb4_; have BK6 := nb6_; clear nb2_ nb4_ nb6_; have n_ := Aside0.mk hbb; clear HB; have HB := n_; clear n_; have KC := Aside0.mk hy; clear hy; (try clear hb); (try clear hk_); (try clear hkk); (try clear hbb); (try clear hcz6_0 hcz6_1 hfz6_0 hfz6_1); have hcz6_0 : W7.cell? ⟨gb6, 0, none⟩ = some (.slice Ac0 c1a.length cc0) := (blk_cell BK6.out 0).trans rfl; have hcz6_1 : W7.cell? ⟨gb6, 1, none⟩ = some (.slice Ac1 c1b.length cc1) := (blk_cell BK6.out 1).trans rfl; have hfz6_0 := blk_frozen BK6.out 0; have hfz6_1 := blk_frozen BK6.out 1; (try clear hcz4_0 hcz4_1 hfz4_0 hfz4_1); have hcz4_0 : W7.cell? ⟨gb4, 0, none⟩ = some (.slice none 0 0) := (blk_cell BK4.out 0).trans rfl; have hcz4_1 : W7.cell? ⟨gb4, 1, none⟩ = some (.slice none 0 0) := (blk_cell BK4.out 1).trans rfl; have hfz4_0 := blk_frozen BK4.out 0; have hfz4_1 := blk_frozen BK4.out 1; (try clear HB0)))
 (try simp only [Exit.inBlock, Exit.then]); refine bodyPost_ret (results_ct rfl _ _ gb4 31 #[.slice Ac0 c1a.length cc0, .slice Ac1 (c1b.eraseIdx n).length cc1] (0, 0) _ rfl (blk_put (cs := #[.slice Ac0 c1a.length cc0, .slice none 0 0]) (blk_put (cs := #[.slice none 0 0, .slice none 0 0]) (blk_far BK4.out nb4_6 _) 0 _ rfl) 1 _ rfl) Try.underlying31 rfl (by kernel_rfl)) rfl ?_
 have hk_ : Kept W7 (((W7.setCell ⟨gb6, 1, none⟩ _).setCell ⟨gb4, 0, none⟩ _).setCell ⟨gb4, 1, none⟩ _) (fun k => k = gb6 ∨ k = gb4) := Kept.setCell (p := ⟨gb4, 1, none⟩) (Kept.setCell (p := ⟨gb4, 0, none⟩) (Kept.setCell (p := ⟨gb6, 1, none⟩) (Kept.refl W7 (fun k => k = gb6 ∨ k = gb4)) (Or.inl (Or.inl rfl)) (.slice Ac1 (c1b.eraseIdx n).length cc1)) (Or.inl (Or.inr rfl)) (.slice Ac0 c1a.length cc0)) (Or.inl (Or.inr rfl)) (.slice Ac1 (c1b.eraseIdx n).length cc1)
 have hK_ := BkS.kept KC.out hk_ (fun k_ h1_ h2_ e_ => by have := LEW1.out; have := GL2.out; have := GH2.out; have := LEW2.out; have := GL4.out; have := GH4.out; have := LEW3.out; have := LEW4.out; have := LEW5.out; have := GL6.out; have := GH6.out; have := LEW6.out; have := LEW7.out;  omega)
 exact ⟨_, _, rfl, Kd.R_mono hK_.1 (fun _ _ => trivial), Kd.S_mono hK_.2 (fun _ h_ => h_.2), below_set (below_set (below_set HB.out GE6.out) GE4.out) GE4.out⟩
end Go.Proofs.Ytaofjgnhapnndaa.Q
namespace Go.Proofs.Ytaofjgnhapnndaa.Q
open Go.RowKit Go.Proofs.YtaofjgnhapnndaaW.PrintWords Go.Proofs.YtaofjgnhapnndaaW.PrintLast Go.Proofs.YtaofjgnhapnndaaW.PrintMore
set_option linter.unusedVariables false
set_option linter.unusedSimpArgs false
def laws_FnExactShareLeave.t (k : Nat) (l0 : List ByteArray) (l1 : List S94) (a1 : ByteArray) : Option Bool :=
 (laws_toShareBook.f k l0 l1).bind fun t1 => (spec_ShareLeave.f k t1.1 t1.2 a1).bind fun w => (laws_toShareBook.f k l0 l1).bind fun x => (impl_ShareLeave.f k x.1 x.2 a1).bind fun g => (laws_eqShareBook.f k g.1 g.2.1 w.1 w.2.1).bind fun e1 => if e1 = true ∧ g.2.2 = w.2.2 then (laws_toShareBook.f k l0 l1).bind fun t2 => (laws_eqShareBook.f k x.1 x.2 t2.1 t2.2).bind fun e2 => if e2 = true then (laws_markShareBook.fB k x.1 x.2 1).bind fun p => if 0 ≤ p.1 then (laws_eqShareBook.f k g.1 g.2.1 w.1 w.2.1).bind fun e4 => if e4 = true then (laws_markShareBook.fB k g.1 g.2.1 1).bind fun m => (laws_heldShareBook.f k m.2.1 m.2.2 1).bind fun q => if 0 ≤ q ∧ q = m.1 then (laws_toShareBook.f k l0 l1).bind fun t3 => (impl_ShareLeave.f k t3.1 t3.2 a1).bind fun h => (laws_eqShareBook.f k h.1 h.2.1 w.1 w.2.1).bind fun e5 => if e5 = true ∧ h.2.2 = w.2.2 then (laws_heldShareBook.f k m.2.1 m.2.2 1).bind fun q2 => if 0 ≤ q2 ∧ q2 = m.1 then some true else none else none else none else none else none else none else none
def laws_FnExactShareLeave.f (k : Nat) (l0 : List ByteArray) (l1 : List S94) (a1 : ByteArray) : Option Bool :=
 if (a1.size : Int) > 1048576 then some true else (laws_szShareBook.f k l0 l1 1048576).bind fun z => if z < 0 then some true else laws_FnExactShareLeave.t k l0 l1 a1
set_option maxHeartbeats 16000000 in
set_option maxRecDepth 100000 in
theorem laws_FnExactShareLeave.calls (k : Nat) (A0_0 : Option Addr) (c0_0 : Nat) (l0 : List ByteArray) (A0_1 : Option Addr) (c0_1 : Nat) (l1 : List S94) (a1 : ByteArray) (r : Bool) (w : World) (hr0_0 : Kd.C Kd.string w A0_0 l0.length l0) (hc0_0 : l0.length ≤ c0_0) (hr0_1 : Kd.C k94 w A0_1 l1.length l1) (hc0_1 : l1.length ≤ c0_1) (h : laws_FnExactShareLeave.f k l0 l1 a1 = some r) :
  Calls Try.prog 12 #[.agg #[.slice A0_0 l0.length c0_0, .slice A0_1 l1.length c0_1], .string a1] w fun e w' => e = .returned (.bool r) ∧ Below w.heap.size w w' := by
 have hu26 := Try.underlying26
 have hu31 := Try.underlying31
 have HR0_0 := Aside0.mk hr0_0
 have HC0_0 := Aside0.mk hc0_0
 clear hr0_0 hc0_0
 have HR0_1 := Aside0.mk hr0_1
 have HC0_1 := Aside0.mk hc0_1
 clear hr0_1 hc0_1
 have HB := Aside0.mk (Below.refl w.heap.size w)
 unfold laws_FnExactShareLeave.f at h
 have H := h
 clear h
 by_cases c1 : (a1.size : Int) > 1048576
 ·rw [if_pos c1] at H
  have c1b0 : decide (1048576 < (a1.size : Int)) = true := decide_eq_true c1
  have c1b1 : decide (1048576 < a1.size) = true := decide_eq_true (by omega)
  obtain rfl := Option.some.inj H
  go_enter Try.func12, Try.ntmps12
  go_wp2_with (first | ((with_reducible refine gate_dst (N := 2) rfl ?_); refine box_event ?hg (N := 2) ?hd (cs := #[.slice A0_0 l0.length c0_0, .slice A0_1 l1.length c0_1]) (t := 26) ?hr ?_; (case hd => rfl); (case hg => rfl); (case hr => first | (go_simp; done) | (go_simp; rfl)); intro gb2 hg_ W1 hbox hb; have hk_ : Kept w W1 (fun _ => False) := Kept.noth hb; have LEW1 := Aside0.mk (show w.heap.size ≤ W1.heap.size from hk_.1); have GE2 := Aside0.mk (show w.heap.size ≤ gb2 from Nat.le_trans HB.out.size (Nat.le_of_eq hg_.symm)); have GL2 := Aside0.mk (show w.heap.size ≤ gb2 from Nat.le_of_eq hg_.symm); have GH2 := Aside0.mk (show gb2 < W1.heap.size from blk_lt hbox); have n_ := Aside0.mk (below_step HB.out hb); clear HB; have HB := n_; clear n_; have BK2 := Aside0.mk hbox; clear hb hbox hg_ hk_; (try clear hcz2_0 hcz2_1 hfz2_0 hfz2_1); have hcz2_0 : W1.cell? ⟨gb2, 0, none⟩ = some (.slice A0_0 l0.length c0_0) := (blk_cell BK2.out 0).trans rfl; have hcz2_1 : W1.cell? ⟨gb2, 1, none⟩ = some (.slice A0_1 l1.length c0_1) := (blk_cell BK2.out 1).trans rfl; have hfz2_0 := blk_frozen BK2.out 0; have hfz2_1 := blk_frozen BK2.out 1))
  go_ret
  exact ⟨rfl, HB.out⟩
 rw [if_neg c1] at H
 have c1b0 : decide (1048576 < (a1.size : Int)) = false := decide_eq_false c1
 have c1b1 : decide (1048576 < a1.size) = false := decide_eq_false (by omega)
 have H2 := Option.bind_eq_some_iff.mp H
 clear H
 obtain ⟨z, A10, H⟩ := H2
 have A1 := Aside0.mk A10
 clear A10
 by_cases c2 : z < 0
 ·rw [if_pos c2] at H
  have c2b0 : decide (z < 0) = true := decide_eq_true c2
  obtain rfl := Option.some.inj H
  go_enter Try.func12, Try.ntmps12
  go_wp2_with (first | ((with_reducible refine gate_dst (N := 2) rfl ?_); refine box_event ?hg (N := 2) ?hd (cs := #[.slice A0_0 l0.length c0_0, .slice A0_1 l1.length c0_1]) (t := 26) ?hr ?_; (case hd => rfl); (case hg => rfl); (case hr => first | (go_simp; done) | (go_simp; rfl)); intro gb2 hg_ W1 hbox hb; have hk_ : Kept w W1 (fun _ => False) := Kept.noth hb; have LEW1 := Aside0.mk (show w.heap.size ≤ W1.heap.size from hk_.1); have GE2 := Aside0.mk (show w.heap.size ≤ gb2 from Nat.le_trans HB.out.size (Nat.le_of_eq hg_.symm)); have GL2 := Aside0.mk (show w.heap.size ≤ gb2 from Nat.le_of_eq hg_.symm); have GH2 := Aside0.mk (show gb2 < W1.heap.size from blk_lt hbox); have n_ := Aside0.mk (below_step HB.out hb); clear HB; have HB := n_; clear n_; have BK2 := Aside0.mk hbox; clear hb hbox hg_ hk_; (try clear hcz2_0 hcz2_1 hfz2_0 hfz2_1); have hcz2_0 : W1.cell? ⟨gb2, 0, none⟩ = some (.slice A0_0 l0.length c0_0) := (blk_cell BK2.out 0).trans rfl; have hcz2_1 : W1.cell? ⟨gb2, 1, none⟩ = some (.slice A0_1 l1.length c0_1) := (blk_cell BK2.out 1).trans rfl; have hfz2_0 := blk_frozen BK2.out 0; have hfz2_1 := blk_frozen BK2.out 1) | ((with_reducible refine gate_callee (f := 21) rfl ?_); refine goesL_ (some 21) rfl rfl Try.func21 (by kernel_rfl) rfl #[.agg #[.slice A0_0 l0.length c0_0, .slice A0_1 l1.length c0_1], .int .i64 1048576] rfl (pY33) ?_; (refine (laws_szShareBook.calls k _ _ l0 _ _ l1 1048576 z _ (Kd.C_below HR0_0.out HB.out) HC0_0.out (Kd.C_below HR0_1.out HB.out) HC0_1.out A1.out).mono ?_); rintro e_ W2 ⟨rfl, hb⟩; refine ⟨_, rfl, ?_⟩; have HB0 := Aside0.mk (show w.heap.size ≤ W1.heap.size from HB.out.size); have hk_ : Kept W1 W2 (fun _ => False) := Kept.noth hb; have LEW2 := Aside0.mk (show W1.heap.size ≤ W2.heap.size from hk_.1); have nb2_ := Aside0.mk (blk_kept BK2.out hk_ (fun h => h)); clear BK2; have BK2 := nb2_; clear nb2_; have n_ := Aside0.mk (below_step (HB.out) hb); clear HB; have HB := n_; clear n_; (try clear hb); (try clear hk_); (try clear hkk); (try clear hbb); (try clear hcz2_0 hcz2_1 hfz2_0 hfz2_1); have hcz2_0 : W2.cell? ⟨gb2, 0, none⟩ = some (.slice A0_0 l0.length c0_0) := (blk_cell BK2.out 0).trans rfl; have hcz2_1 : W2.cell? ⟨gb2, 1, none⟩ = some (.slice A0_1 l1.length c0_1) := (blk_cell BK2.out 1).trans rfl; have hfz2_0 := blk_frozen BK2.out 0; have hfz2_1 := blk_frozen BK2.out 1; (try clear HB0)))
  go_ret
  exact ⟨rfl, HB.out⟩
 rw [if_neg c2] at H
 have c2b0 : decide (z < 0) = false := decide_eq_false c2
 unfold laws_FnExactShareLeave.t at H
 have H2 := Option.bind_eq_some_iff.mp H
 clear H
 obtain ⟨⟨t1a, t1b⟩, D1_, H⟩ := H2
 have D1 := Aside0.mk D1_
 clear D1_
 have H2 := Option.bind_eq_some_iff.mp H
 clear H
 obtain ⟨⟨w1, w2, w3⟩, D3_, H⟩ := H2
 have D3 := Aside0.mk D3_
 clear D3_
 have H2 := Option.bind_eq_some_iff.mp H
 clear H
 obtain ⟨⟨x1, xb⟩, D4_, H⟩ := H2
 have D4 := Aside0.mk D4_
 clear D4_
 have H2 := Option.bind_eq_some_iff.mp H
 clear H
 obtain ⟨⟨g1, g2, g3⟩, D6_, H⟩ := H2
 have D6 := Aside0.mk D6_
 clear D6_
 have H2 := Option.bind_eq_some_iff.mp H
 clear H
 obtain ⟨e1, D7_, H⟩ := H2
 have D7 := Aside0.mk D7_
 clear D7_
 have H2 := ite_some H
 clear H
 obtain ⟨⟨q1, q2⟩, H⟩ := H2
 dsimp only at q1 q2
 subst q1; subst q2
 have H2 := Option.bind_eq_some_iff.mp H
 clear H
 obtain ⟨⟨t2a, t2b⟩, D8_, H⟩ := H2
 have D8 := Aside0.mk D8_
 clear D8_
 have H2 := Option.bind_eq_some_iff.mp H
 clear H
 obtain ⟨e2, D9_, H⟩ := H2
 have D9 := Aside0.mk D9_
 clear D9_
 have H2 := ite_some H
 clear H
 obtain ⟨q1, H⟩ := H2
 subst q1
 have H2 := Option.bind_eq_some_iff.mp H
 clear H
 obtain ⟨⟨p, pa, pb⟩, D12_, H⟩ := H2
 have D12 := Aside0.mk D12_
 clear D12_
 have H2 := ite_some H
 clear H
 obtain ⟨q1, H⟩ := H2
 have c4b0 : decide (p < 0) = false := decide_eq_false (by have := q1; dsimp only at this; omega)
 clear q1
 have H2 := Option.bind_eq_some_iff.mp H
 clear H
 obtain ⟨e4, D14_, H⟩ := H2
 have D14 := Aside0.mk D14_
 clear D14_
 have H2 := ite_some H
 clear H
 obtain ⟨q1, H⟩ := H2
 subst q1
 have H2 := Option.bind_eq_some_iff.mp H
 clear H
 obtain ⟨⟨m, ma, mb⟩, D15_, H⟩ := H2
 have D15 := Aside0.mk D15_
 clear D15_
 have H2 := Option.bind_eq_some_iff.mp H
 clear H
 obtain ⟨q, D16_, H⟩ := H2
 have D16 := Aside0.mk D16_
 clear D16_
 have H2 := ite_some H
 clear H
 obtain ⟨⟨q1, q2⟩, H⟩ := H2
 have c5b0 : decide (q < 0) = false := decide_eq_false (by omega)
 dsimp only at q2
 subst q2
 clear q1
 have H2 := Option.bind_eq_some_iff.mp H
 clear H
 obtain ⟨⟨t3a, t3b⟩, D17_, H⟩ := H2
 have D17 := Aside0.mk D17_
 clear D17_
 have H2 := Option.bind_eq_some_iff.mp H
 clear H
 obtain ⟨⟨h1, h2, h3⟩, D19_, H⟩ := H2
 have D19 := Aside0.mk D19_
 clear D19_
 have H2 := Option.bind_eq_some_iff.mp H
 clear H
 obtain ⟨e5, D20_, H⟩ := H2
 have D20 := Aside0.mk D20_
 clear D20_
 have H2 := ite_some H
 clear H
 obtain ⟨⟨q1, q2⟩, H⟩ := H2
 dsimp only at q1 q2
 subst q1; subst q2
 have H2 := Option.bind_eq_some_iff.mp H
 clear H
 obtain ⟨q2, D21_, H⟩ := H2
 have D21 := Aside0.mk D21_
 clear D21_
 have H2 := ite_some H
 clear H
 obtain ⟨⟨q1, q3⟩, H⟩ := H2
 have c6b0 : decide (q2 < 0) = false := decide_eq_false (by omega)
 dsimp only at q3
 subst q3
 clear q1
 obtain rfl := Option.some.inj H
 clear H
 dsimp only at D3 D6 D7 D9 D12 D14 D15 D16 D19 D20 D21
 have v1b0 : (h3 == h3) = true := beq_self_eq_true _
 have v1b1 : (h3 != h3) = false := by simp
 have v1b2 : decide (h3 = h3) = true := decide_eq_true rfl
 have v2b0 : (q2 == q2) = true := beq_self_eq_true _
 have v2b1 : (q2 != q2) = false := by simp
 have v2b2 : decide (q2 = q2) = true := decide_eq_true rfl
 go_enter Try.func12, Try.ntmps12
 try go_wp2_with (first | ((with_reducible refine gate_dst (N := 2) rfl ?_); refine box_event ?hg (N := 2) ?hd (cs := #[.slice A0_0 l0.length c0_0, .slice A0_1 l1.length c0_1]) (t := 26) ?hr ?_; (case hd => rfl); (case hg => rfl); (case hr => first | (go_simp; done) | (go_simp; rfl)); intro gb2 hg_ W1 hbox hb; have hk_ : Kept w W1 (fun _ => False) := Kept.noth hb; have LEW1 := Aside0.mk (show w.heap.size ≤ W1.heap.size from hk_.1); have GE2 := Aside0.mk (show w.heap.size ≤ gb2 from Nat.le_trans HB.out.size (Nat.le_of_eq hg_.symm)); have GL2 := Aside0.mk (show w.heap.size ≤ gb2 from Nat.le_of_eq hg_.symm); have GH2 := Aside0.mk (show gb2 < W1.heap.size from blk_lt hbox); have n_ := Aside0.mk (below_step HB.out hb); clear HB; have HB := n_; clear n_; have BK2 := Aside0.mk hbox; clear hb hbox hg_ hk_; (try clear hcz2_0 hcz2_1 hfz2_0 hfz2_1); have hcz2_0 : W1.cell? ⟨gb2, 0, none⟩ = some (.slice A0_0 l0.length c0_0) := (blk_cell BK2.out 0).trans rfl; have hcz2_1 : W1.cell? ⟨gb2, 1, none⟩ = some (.slice A0_1 l1.length c0_1) := (blk_cell BK2.out 1).trans rfl; have hfz2_0 := blk_frozen BK2.out 0; have hfz2_1 := blk_frozen BK2.out 1) | ((with_reducible refine gate_callee (f := 21) rfl ?_); refine goesL_ (some 21) rfl rfl Try.func21 (by kernel_rfl) rfl #[.agg #[.slice A0_0 l0.length c0_0, .slice A0_1 l1.length c0_1], .int .i64 1048576] rfl (pY33) ?_; (refine (laws_szShareBook.calls k _ _ l0 _ _ l1 1048576 z _ (Kd.C_below HR0_0.out HB.out) HC0_0.out (Kd.C_below HR0_1.out HB.out) HC0_1.out A1.out).mono ?_); rintro e_ W2 ⟨rfl, hb⟩; refine ⟨_, rfl, ?_⟩; have HB0 := Aside0.mk (show w.heap.size ≤ W1.heap.size from HB.out.size); have hk_ : Kept W1 W2 (fun _ => False) := Kept.noth hb; have LEW2 := Aside0.mk (show W1.heap.size ≤ W2.heap.size from hk_.1); have nb2_ := Aside0.mk (blk_kept BK2.out hk_ (fun h => h)); clear BK2; have BK2 := nb2_; clear nb2_; have n_ := Aside0.mk (below_step (HB.out) hb); clear HB; have HB := n_; clear n_; (try clear hb); (try clear hk_); (try clear hkk); (try clear hbb); (try clear hcz2_0 hcz2_1 hfz2_0 hfz2_1); have hcz2_0 : W2.cell? ⟨gb2, 0, none⟩ = some (.slice A0_0 l0.length c0_0) := (blk_cell BK2.out 0).trans rfl; have hcz2_1 : W2.cell? ⟨gb2, 1, none⟩ = some (.slice A0_1 l1.length c0_1) := (blk_cell BK2.out 1).trans rfl; have hfz2_0 := blk_frozen BK2.out 0; have hfz2_1 := blk_frozen BK2.out 1; (try clear HB0)) | ((with_reducible refine gate_callee (f := 23) rfl ?_); refine goesL_ (some 26) rfl rfl Try.func23 (by kernel_rfl) rfl #[.agg #[.slice A0_0 l0.length c0_0, .slice A0_1 l1.length c0_1]] rfl (pY33) ?_; (refine (laws_toShareBook.calls k _ _ l0 _ _ l1 t1a t1b _ (Kd.C_below HR0_0.out HB.out) HC0_0.out (Kd.C_below HR0_1.out HB.out) HC0_1.out D1.out).mono ?_); rintro e_ W3 ⟨_, _, rfl, ho0, ho1, hb⟩; refine ⟨_, rfl, ?_⟩; have HB0 := Aside0.mk (show w.heap.size ≤ W2.heap.size from HB.out.size); have hk_ : Kept W2 W3 (fun _ => False) := Kept.noth hb; have LEW3 := Aside0.mk (show W2.heap.size ≤ W3.heap.size from hk_.1); have nb2_ := Aside0.mk (blk_kept BK2.out hk_ (fun h => h)); clear BK2; have BK2 := nb2_; clear nb2_; have n_ := Aside0.mk (below_step (HB.out) hb); clear HB; have HB := n_; clear n_; have n_ := Aside0.mk (BkS.made (n := W2.heap.size) ho0 ho1 (HB0.out) (Nat.le_refl _)); have KT := n_; clear n_ ho0 ho1; obtain ⟨At0, ct0, At1, ct1, e0_, e1_⟩ := KT.out.slices; subst e0_; subst e1_; (try clear hb); (try clear hk_); (try clear hkk); (try clear hbb); (try clear hcz2_0 hcz2_1 hfz2_0 hfz2_1); have hcz2_0 : W3.cell? ⟨gb2, 0, none⟩ = some (.slice A0_0 l0.length c0_0) := (blk_cell BK2.out 0).trans rfl; have hcz2_1 : W3.cell? ⟨gb2, 1, none⟩ = some (.slice A0_1 l1.length c0_1) := (blk_cell BK2.out 1).trans rfl; have hfz2_0 := blk_frozen BK2.out 0; have hfz2_1 := blk_frozen BK2.out 1; (try clear HB0)) | ((with_reducible refine gate_callee (f := 46) rfl ?_); refine goesL_ (some 28) rfl rfl Try.func46 (by kernel_rfl) rfl #[.agg #[.slice At0 t1a.length ct0, .slice At1 t1b.length ct1], .string a1] rfl (pY33) ?_; (refine (spec_ShareLeave.calls k _ _ t1a _ _ t1b a1 w1 w2 h3 _ (Kd.R_reads' (KT.out).1).2.2 (Kd.R_reads' (KT.out).1).2.1 (Kd.S_reads' (KT.out).2).2.2 (Kd.S_reads' (KT.out).2).2.1 D3.out).mono ?_); rintro e_ W4 ⟨_, _, rfl, ho0, ho1, hb⟩; refine ⟨_, rfl, ?_⟩; have HB0 := Aside0.mk (show w.heap.size ≤ W3.heap.size from HB.out.size); have hk_ : Kept W3 W4 (fun _ => False) := Kept.noth hb; have LEW4 := Aside0.mk (show W3.heap.size ≤ W4.heap.size from hk_.1); have nb2_ := Aside0.mk (blk_kept BK2.out hk_ (fun h => h)); clear BK2 KT; have BK2 := nb2_; clear nb2_; have n_ := Aside0.mk (below_step (HB.out) hb); clear HB; have HB := n_; clear n_; have n_ := Aside0.mk (BkN.made (n := W3.heap.size) ho0 ho1 (HB0.out) (Nat.le_refl _)); have KW := n_; clear n_ ho0 ho1; obtain ⟨Aw0, cw0, Aw1, cw1, e0_, e1_⟩ := KW.out.slices; subst e0_; subst e1_; (try clear hb); (try clear hk_); (try clear hkk); (try clear hbb); (try clear hcz2_0 hcz2_1 hfz2_0 hfz2_1); have hcz2_0 : W4.cell? ⟨gb2, 0, none⟩ = some (.slice A0_0 l0.length c0_0) := (blk_cell BK2.out 0).trans rfl; have hcz2_1 : W4.cell? ⟨gb2, 1, none⟩ = some (.slice A0_1 l1.length c0_1) := (blk_cell BK2.out 1).trans rfl; have hfz2_0 := blk_frozen BK2.out 0; have hfz2_1 := blk_frozen BK2.out 1; (try clear HB0)) | ((with_reducible refine gate_dst (N := 6) rfl ?_); refine box_event ?hg (N := 6) ?hd (cs := #[.slice none 0 0, .slice none 0 0]) (t := 31) ?hr ?_; (case hd => rfl); (case hg => rfl); (case hr => first | (go_simp; done) | (go_simp; rfl)); intro gb6 hg_ W5 hbox hb; have hk_ : Kept W4 W5 (fun _ => False) := Kept.noth hb; have LEW5 := Aside0.mk (show W4.heap.size ≤ W5.heap.size from hk_.1); have GE6 := Aside0.mk (show w.heap.size ≤ gb6 from Nat.le_trans HB.out.size (Nat.le_of_eq hg_.symm)); have GL6 := Aside0.mk (show W4.heap.size ≤ gb6 from Nat.le_of_eq hg_.symm); have GH6 := Aside0.mk (show gb6 < W5.heap.size from blk_lt hbox); have n0_ := Aside0.mk (BkN.kept KW.out hk_ (fun _ _ _ h => h)); have nb2_ := Aside0.mk (blk_kept BK2.out hk_ (fun h => h)); clear KW BK2; have KW := n0_; have BK2 := nb2_; clear n0_ nb2_; have n_ := Aside0.mk (below_step HB.out hb); clear HB; have HB := n_; clear n_; have BK6 := Aside0.mk hbox; clear hb hbox hg_ hk_; have nb6_2 : gb6 ≠ gb2 := (by have := LEW1.out; have := GL2.out; have := GH2.out; have := LEW2.out; have := LEW3.out; have := LEW4.out; have := LEW5.out; have := GL6.out; have := GH6.out;  omega); have nb2_6 : gb2 ≠ gb6 := (by have := LEW1.out; have := GL2.out; have := GH2.out; have := LEW2.out; have := LEW3.out; have := LEW4.out; have := LEW5.out; have := GL6.out; have := GH6.out;  omega); (try clear hcz6_0 hcz6_1 hfz6_0 hfz6_1); have hcz6_0 : W5.cell? ⟨gb6, 0, none⟩ = some (.slice none 0 0) := (blk_cell BK6.out 0).trans rfl; have hcz6_1 : W5.cell? ⟨gb6, 1, none⟩ = some (.slice none 0 0) := (blk_cell BK6.out 1).trans rfl; have hfz6_0 := blk_frozen BK6.out 0; have hfz6_1 := blk_frozen BK6.out 1; (try clear hcz2_0 hcz2_1 hfz2_0 hfz2_1); have hcz2_0 : W5.cell? ⟨gb2, 0, none⟩ = some (.slice A0_0 l0.length c0_0) := (blk_cell BK2.out 0).trans rfl; have hcz2_1 : W5.cell? ⟨gb2, 1, none⟩ = some (.slice A0_1 l1.length c0_1) := (blk_cell BK2.out 1).trans rfl; have hfz2_0 := blk_frozen BK2.out 0; have hfz2_1 := blk_frozen BK2.out 1) | ((with_reducible refine gate_callee (f := 23) rfl ?_); refine goesL_ (some 32) rfl rfl Try.func23 (by kernel_rfl) rfl #[.agg #[.slice A0_0 l0.length c0_0, .slice A0_1 l1.length c0_1]] rfl (pY33) ?_; (refine (laws_toShareBook.calls k _ _ l0 _ _ l1 x1 xb _ (Kd.C_below HR0_0.out (below_set (below_set HB.out GE6.out) GE6.out)) HC0_0.out (Kd.C_below HR0_1.out (below_set (below_set HB.out GE6.out) GE6.out)) HC0_1.out D4.out).mono ?_); rintro e_ W6 ⟨_, _, rfl, ho0, ho1, hb⟩; refine ⟨_, rfl, ?_⟩; have HB0 := Aside0.mk (show w.heap.size ≤ W5.heap.size from HB.out.size); have hk_ : Kept W5 W6 (fun k => k = gb6) := (Kept.two (w := W5) (g := gb6) 0 1 (.slice Aw0 w1.length cw0) (.slice Aw1 w2.length cw1)).below hb; have LEW6 := Aside0.mk (show W5.heap.size ≤ W6.heap.size from hk_.1); have n0_ := Aside0.mk (BkN.kept KW.out hk_ (fun k_ h1_ h2_ e_ => by have := LEW1.out; have := GL2.out; have := GH2.out; have := LEW2.out; have := LEW3.out; have := LEW4.out; have := LEW5.out; have := GL6.out; have := GH6.out;  omega)); have nb2_ := Aside0.mk (blk_kept BK2.out hk_ (fun e_ => by have := LEW1.out; have := GL2.out; have := GH2.out; have := LEW2.out; have := LEW3.out; have := LEW4.out; have := LEW5.out; have := GL6.out; have := GH6.out;  omega)); clear KW BK2; have KW := n0_; have BK2 := nb2_; clear n0_ nb2_; have nb_ := Aside0.mk (blk_below (g := gb6) (o := .cells #[.slice Aw0 w1.length cw0, .slice Aw1 w2.length cw1] 31 (0, 0)) (blk_put (cs := #[.slice Aw0 w1.length cw0, .slice none 0 0]) (blk_put (cs := #[.slice none 0 0, .slice none 0 0]) BK6.out 0 _ rfl) 1 _ rfl) hb); clear BK6; have BK6 := nb_; clear nb_; have n_ := Aside0.mk (below_step (below_set (below_set HB.out GE6.out) GE6.out) hb); clear HB; have HB := n_; clear n_; have n_ := Aside0.mk (BkS.made (n := W5.heap.size) ho0 ho1 (HB0.out) (Nat.le_of_eq (by simp [World.setCell]))); have KX := n_; clear n_ ho0 ho1; obtain ⟨Ax0, cx0, Ax1, cx1, e0_, e1_⟩ := KX.out.slices; subst e0_; subst e1_; (try clear hb); (try clear hk_); (try clear hkk); (try clear hbb); (try clear hcz2_0 hcz2_1 hfz2_0 hfz2_1); have hcz2_0 : W6.cell? ⟨gb2, 0, none⟩ = some (.slice A0_0 l0.length c0_0) := (blk_cell BK2.out 0).trans rfl; have hcz2_1 : W6.cell? ⟨gb2, 1, none⟩ = some (.slice A0_1 l1.length c0_1) := (blk_cell BK2.out 1).trans rfl; have hfz2_0 := blk_frozen BK2.out 0; have hfz2_1 := blk_frozen BK2.out 1; (try clear HB0)) | ((with_reducible refine gate_dst (N := 8) rfl ?_); refine box_event ?hg (N := 8) ?hd (cs := #[.slice none 0 0, .slice none 0 0]) (t := 31) ?hr ?_; (case hd => rfl); (case hg => rfl); (case hr => first | (go_simp; done) | (go_simp; rfl)); intro gb8 hg_ W7 hbox hb; have hk_ : Kept W6 W7 (fun _ => False) := Kept.noth hb; have LEW7 := Aside0.mk (show W6.heap.size ≤ W7.heap.size from hk_.1); have GE8 := Aside0.mk (show w.heap.size ≤ gb8 from Nat.le_trans HB.out.size (Nat.le_of_eq hg_.symm)); have GL8 := Aside0.mk (show W6.heap.size ≤ gb8 from Nat.le_of_eq hg_.symm); have GH8 := Aside0.mk (show gb8 < W7.heap.size from blk_lt hbox); have n0_ := Aside0.mk (BkN.kept KW.out hk_ (fun _ _ _ h => h)); have n1_ := Aside0.mk (BkS.kept KX.out hk_ (fun _ _ _ h => h)); have nb2_ := Aside0.mk (blk_kept BK2.out hk_ (fun h => h)); have nb6_ := Aside0.mk (blk_kept BK6.out hk_ (fun h => h)); clear KW KX BK2 BK6; have KW := n0_; have KX := n1_; have BK2 := nb2_; have BK6 := nb6_; clear n0_ n1_ nb2_ nb6_; have n_ := Aside0.mk (below_step HB.out hb); clear HB; have HB := n_; clear n_; have BK8 := Aside0.mk hbox; clear hb hbox hg_ hk_; have nb8_2 : gb8 ≠ gb2 := (by have := LEW1.out; have := GL2.out; have := GH2.out; have := LEW2.out; have := LEW3.out; have := LEW4.out; have := LEW5.out; have := GL6.out; have := GH6.out; have := LEW6.out; have := LEW7.out; have := GL8.out; have := GH8.out;  omega); have nb2_8 : gb2 ≠ gb8 := (by have := LEW1.out; have := GL2.out; have := GH2.out; have := LEW2.out; have := LEW3.out; have := LEW4.out; have := LEW5.out; have := GL6.out; have := GH6.out; have := LEW6.out; have := LEW7.out; have := GL8.out; have := GH8.out;  omega); have nb8_6 : gb8 ≠ gb6 := (by have := LEW1.out; have := GL2.out; have := GH2.out; have := LEW2.out; have := LEW3.out; have := LEW4.out; have := LEW5.out; have := GL6.out; have := GH6.out; have := LEW6.out; have := LEW7.out; have := GL8.out; have := GH8.out;  omega); have nb6_8 : gb6 ≠ gb8 := (by have := LEW1.out; have := GL2.out; have := GH2.out; have := LEW2.out; have := LEW3.out; have := LEW4.out; have := LEW5.out; have := GL6.out; have := GH6.out; have := LEW6.out; have := LEW7.out; have := GL8.out; have := GH8.out;  omega); (try clear hcz8_0 hcz8_1 hfz8_0 hfz8_1); have hcz8_0 : W7.cell? ⟨gb8, 0, none⟩ = some (.slice none 0 0) := (blk_cell BK8.out 0).trans rfl; have hcz8_1 : W7.cell? ⟨gb8, 1, none⟩ = some (.slice none 0 0) := (blk_cell BK8.out 1).trans rfl; have hfz8_0 := blk_frozen BK8.out 0; have hfz8_1 := blk_frozen BK8.out 1; (try clear hcz2_0 hcz2_1 hfz2_0 hfz2_1); have hcz2_0 : W7.cell? ⟨gb2, 0, none⟩ = some (.slice A0_0 l0.length c0_0) := (blk_cell BK2.out 0).trans rfl; have hcz2_1 : W7.cell? ⟨gb2, 1, none⟩ = some (.slice A0_1 l1.length c0_1) := (blk_cell BK2.out 1).trans rfl; have hfz2_0 := blk_frozen BK2.out 0; have hfz2_1 := blk_frozen BK2.out 1) | ((with_reducible refine gate_callee (f := 47) rfl ?_); refine goesL_ (some 36) rfl rfl Try.func47 (by kernel_rfl) rfl #[.agg #[.slice Ax0 x1.length cx0, .slice Ax1 xb.length cx1], .string a1] rfl (pY33) ?_; (refine (impl_ShareLeave.calls k _ _ x1 _ _ xb a1 g1 g2 h3 _ (Kd.R_reads' ((BkS.kept KX.out (Kept.two (w := W7) (g := gb8) 0 1 (.slice Ax0 x1.length cx0) (.slice Ax1 xb.length cx1)) (fun k_ h1_ h2_ e_ => by have := LEW1.out; have := GL2.out; have := GH2.out; have := LEW2.out; have := LEW3.out; have := LEW4.out; have := LEW5.out; have := GL6.out; have := GH6.out; have := LEW6.out; have := LEW7.out; have := GL8.out; have := GH8.out;  omega))).1).2.2 (Kd.R_reads' ((BkS.kept KX.out (Kept.two (w := W7) (g := gb8) 0 1 (.slice Ax0 x1.length cx0) (.slice Ax1 xb.length cx1)) (fun k_ h1_ h2_ e_ => by have := LEW1.out; have := GL2.out; have := GH2.out; have := LEW2.out; have := LEW3.out; have := LEW4.out; have := LEW5.out; have := GL6.out; have := GH6.out; have := LEW6.out; have := LEW7.out; have := GL8.out; have := GH8.out;  omega))).1).2.1 (Kd.S_reads' ((BkS.kept KX.out (Kept.two (w := W7) (g := gb8) 0 1 (.slice Ax0 x1.length cx0) (.slice Ax1 xb.length cx1)) (fun k_ h1_ h2_ e_ => by have := LEW1.out; have := GL2.out; have := GH2.out; have := LEW2.out; have := LEW3.out; have := LEW4.out; have := LEW5.out; have := GL6.out; have := GH6.out; have := LEW6.out; have := LEW7.out; have := GL8.out; have := GH8.out;  omega))).2).2.2 (Kd.S_reads' ((BkS.kept KX.out (Kept.two (w := W7) (g := gb8) 0 1 (.slice Ax0 x1.length cx0) (.slice Ax1 xb.length cx1)) (fun k_ h1_ h2_ e_ => by have := LEW1.out; have := GL2.out; have := GH2.out; have := LEW2.out; have := LEW3.out; have := LEW4.out; have := LEW5.out; have := GL6.out; have := GH6.out; have := LEW6.out; have := LEW7.out; have := GL8.out; have := GH8.out;  omega))).2).2.1 D6.out).mono ?_); rintro e_ W8 ⟨_, _, rfl, ho0, ho1, hb⟩; refine ⟨_, rfl, ?_⟩; have HB0 := Aside0.mk (show w.heap.size ≤ W7.heap.size from HB.out.size); have hk_ : Kept W7 W8 (fun k => k = gb8) := (Kept.two (w := W7) (g := gb8) 0 1 (.slice Ax0 x1.length cx0) (.slice Ax1 xb.length cx1)).below hb; have LEW8 := Aside0.mk (show W7.heap.size ≤ W8.heap.size from hk_.1); have n0_ := Aside0.mk (BkN.kept KW.out hk_ (fun k_ h1_ h2_ e_ => by have := LEW1.out; have := GL2.out; have := GH2.out; have := LEW2.out; have := LEW3.out; have := LEW4.out; have := LEW5.out; have := GL6.out; have := GH6.out; have := LEW6.out; have := LEW7.out; have := GL8.out; have := GH8.out;  omega)); have n1_ := Aside0.mk (BkS.kept KX.out hk_ (fun k_ h1_ h2_ e_ => by have := LEW1.out; have := GL2.out; have := GH2.out; have := LEW2.out; have := LEW3.out; have := LEW4.out; have := LEW5.out; have := GL6.out; have := GH6.out; have := LEW6.out; have := LEW7.out; have := GL8.out; have := GH8.out;  omega)); have nb2_ := Aside0.mk (blk_kept BK2.out hk_ (fun e_ => by have := LEW1.out; have := GL2.out; have := GH2.out; have := LEW2.out; have := LEW3.out; have := LEW4.out; have := LEW5.out; have := GL6.out; have := GH6.out; have := LEW6.out; have := LEW7.out; have := GL8.out; have := GH8.out;  omega)); have nb6_ := Aside0.mk (blk_kept BK6.out hk_ (fun e_ => by have := LEW1.out; have := GL2.out; have := GH2.out; have := LEW2.out; have := LEW3.out; have := LEW4.out; have := LEW5.out; have := GL6.out; have := GH6.out; have := LEW6.out; have := LEW7.out; have := GL8.out; have := GH8.out;  omega)); clear KW KX BK2 BK6; have KW := n0_; have KX := n1_; have BK2 := nb2_; have BK6 := nb6_; clear n0_ n1_ nb2_ nb6_; have nb_ := Aside0.mk (blk_below (g := gb8) (o := .cells #[.slice Ax0 x1.length cx0, .slice Ax1 xb.length cx1] 31 (0, 0)) (blk_put (cs := #[.slice Ax0 x1.length cx0, .slice none 0 0]) (blk_put (cs := #[.slice none 0 0, .slice none 0 0]) BK8.out 0 _ rfl) 1 _ rfl) hb); clear BK8; have BK8 := nb_; clear nb_; have n_ := Aside0.mk (below_step (below_set (below_set HB.out GE8.out) GE8.out) hb); clear HB; have HB := n_; clear n_; have n_ := Aside0.mk (BkS.made (n := W7.heap.size) ho0 ho1 (HB0.out) (Nat.le_of_eq (by simp [World.setCell]))); have KG := n_; clear n_ ho0 ho1; obtain ⟨Ag0, cg0, Ag1, cg1, e0_, e1_⟩ := KG.out.slices; subst e0_; subst e1_; (try clear hb); (try clear hk_); (try clear hkk); (try clear hbb); (try clear HB0)) | ((with_reducible refine gate_dst (N := 9) rfl ?_); refine box_event ?hg (N := 9) ?hd (cs := #[.slice none 0 0, .slice none 0 0]) (t := 31) ?hr ?_; (case hd => rfl); (case hg => rfl); (case hr => first | (go_simp; done) | (go_simp; rfl)); intro gb9 hg_ W9 hbox hb; have hk_ : Kept W8 W9 (fun _ => False) := Kept.noth hb; have LEW9 := Aside0.mk (show W8.heap.size ≤ W9.heap.size from hk_.1); have GE9 := Aside0.mk (show w.heap.size ≤ gb9 from Nat.le_trans HB.out.size (Nat.le_of_eq hg_.symm)); have GL9 := Aside0.mk (show W8.heap.size ≤ gb9 from Nat.le_of_eq hg_.symm); have GH9 := Aside0.mk (show gb9 < W9.heap.size from blk_lt hbox); have n0_ := Aside0.mk (BkN.kept KW.out hk_ (fun _ _ _ h => h)); have n1_ := Aside0.mk (BkS.kept KX.out hk_ (fun _ _ _ h => h)); have n2_ := Aside0.mk (BkS.kept KG.out hk_ (fun _ _ _ h => h)); have nb2_ := Aside0.mk (blk_kept BK2.out hk_ (fun h => h)); have nb6_ := Aside0.mk (blk_kept BK6.out hk_ (fun h => h)); have nb8_ := Aside0.mk (blk_kept BK8.out hk_ (fun h => h)); clear KW KX KG BK2 BK6 BK8; have KW := n0_; have KX := n1_; have KG := n2_; have BK2 := nb2_; have BK6 := nb6_; have BK8 := nb8_; clear n0_ n1_ n2_ nb2_ nb6_ nb8_; have n_ := Aside0.mk (below_step HB.out hb); clear HB; have HB := n_; clear n_; have BK9 := Aside0.mk hbox; clear hb hbox hg_ hk_; have nb9_2 : gb9 ≠ gb2 := (by have := LEW1.out; have := GL2.out; have := GH2.out; have := LEW2.out; have := LEW3.out; have := LEW4.out; have := LEW5.out; have := GL6.out; have := GH6.out; have := LEW6.out; have := LEW7.out; have := GL8.out; have := GH8.out; have := LEW8.out; have := LEW9.out; have := GL9.out; have := GH9.out;  omega); have nb2_9 : gb2 ≠ gb9 := (by have := LEW1.out; have := GL2.out; have := GH2.out; have := LEW2.out; have := LEW3.out; have := LEW4.out; have := LEW5.out; have := GL6.out; have := GH6.out; have := LEW6.out; have := LEW7.out; have := GL8.out; have := GH8.out; have := LEW8.out; have := LEW9.out; have := GL9.out; have := GH9.out;  omega); have nb9_6 : gb9 ≠ gb6 := (by have := LEW1.out; have := GL2.out; have := GH2.out; have := LEW2.out; have := LEW3.out; have := LEW4.out; have := LEW5.out; have := GL6.out; have := GH6.out; have := LEW6.out; have := LEW7.out; have := GL8.out; have := GH8.out; have := LEW8.out; have := LEW9.out; have := GL9.out; have := GH9.out;  omega); have nb6_9 : gb6 ≠ gb9 := (by have := LEW1.out; have := GL2.out; have := GH2.out; have := LEW2.out; have := LEW3.out; have := LEW4.out; have := LEW5.out; have := GL6.out; have := GH6.out; have := LEW6.out; have := LEW7.out; have := GL8.out; have := GH8.out; have := LEW8.out; have := LEW9.out; have := GL9.out; have := GH9.out;  omega); have nb9_8 : gb9 ≠ gb8 := (by have := LEW1.out; have := GL2.out; have := GH2.out; have := LEW2.out; have := LEW3.out; have := LEW4.out; have := LEW5.out; have := GL6.out; have := GH6.out; have := LEW6.out; have := LEW7.out; have := GL8.out; have := GH8.out; have := LEW8.out; have := LEW9.out; have := GL9.out; have := GH9.out;  omega); have nb8_9 : gb8 ≠ gb9 := (by have := LEW1.out; have := GL2.out; have := GH2.out; have := LEW2.out; have := LEW3.out; have := LEW4.out; have := LEW5.out; have := GL6.out; have := GH6.out; have := LEW6.out; have := LEW7.out; have := GL8.out; have := GH8.out; have := LEW8.out; have := LEW9.out; have := GL9.out; have := GH9.out;  omega); (try clear hcz9_0 hcz9_1 hfz9_0 hfz9_1); have hcz9_0 : W9.cell? ⟨gb9, 0, none⟩ = some (.slice none 0 0) := (blk_cell BK9.out 0).trans rfl; have hcz9_1 : W9.cell? ⟨gb9, 1, none⟩ = some (.slice none 0 0) := (blk_cell BK9.out 1).trans rfl; have hfz9_0 := blk_frozen BK9.out 0; have hfz9_1 := blk_frozen BK9.out 1; (try clear hcz6_0 hcz6_1 hfz6_0 hfz6_1); have hcz6_0 : W9.cell? ⟨gb6, 0, none⟩ = some (.slice Aw0 w1.length cw0) := (blk_cell BK6.out 0).trans rfl; have hcz6_1 : W9.cell? ⟨gb6, 1, none⟩ = some (.slice Aw1 w2.length cw1) := (blk_cell BK6.out 1).trans rfl; have hfz6_0 := blk_frozen BK6.out 0; have hfz6_1 := blk_frozen BK6.out 1) | ((with_reducible refine gate_callee (f := 25) rfl ?_); refine goesL_ (some 41) rfl rfl Try.func25 (by kernel_rfl) rfl #[.agg #[.slice Ag0 g1.length cg0, .slice Ag1 g2.length cg1], .agg #[.slice Aw0 w1.length cw0, .slice Aw1 w2.length cw1]] rfl (pY33) ?_; (refine (BkS.eqN (k := k) (r := true) (BkS.kept KG.out (Kept.two (w := W9) (g := gb9) 0 1 (.slice Ag0 g1.length cg0) (.slice Ag1 g2.length cg1)) (fun k_ h1_ h2_ e_ => by have := LEW1.out; have := GL2.out; have := GH2.out; have := LEW2.out; have := LEW3.out; have := LEW4.out; have := LEW5.out; have := GL6.out; have := GH6.out; have := LEW6.out; have := LEW7.out; have := GL8.out; have := GH8.out; have := LEW8.out; have := LEW9.out; have := GL9.out; have := GH9.out;  omega)) (BkN.kept KW.out (Kept.two (w := W9) (g := gb9) 0 1 (.slice Ag0 g1.length cg0) (.slice Ag1 g2.length cg1)) (fun k_ h1_ h2_ e_ => by have := LEW1.out; have := GL2.out; have := GH2.out; have := LEW2.out; have := LEW3.out; have := LEW4.out; have := LEW5.out; have := GL6.out; have := GH6.out; have := LEW6.out; have := LEW7.out; have := GL8.out; have := GH8.out; have := LEW8.out; have := LEW9.out; have := GL9.out; have := GH9.out;  omega)) D7.out).mono ?_); rintro e_ W10 ⟨rfl, hb⟩; refine ⟨_, rfl, ?_⟩; have HB0 := Aside0.mk (show w.heap.size ≤ W9.heap.size from HB.out.size); have hk_ : Kept W9 W10 (fun k => k = gb9) := (Kept.two (w := W9) (g := gb9) 0 1 (.slice Ag0 g1.length cg0) (.slice Ag1 g2.length cg1)).below hb; have LEW10 := Aside0.mk (show W9.heap.size ≤ W10.heap.size from hk_.1); have n0_ := Aside0.mk (BkN.kept KW.out hk_ (fun k_ h1_ h2_ e_ => by have := LEW1.out; have := GL2.out; have := GH2.out; have := LEW2.out; have := LEW3.out; have := LEW4.out; have := LEW5.out; have := GL6.out; have := GH6.out; have := LEW6.out; have := LEW7.out; have := GL8.out; have := GH8.out; have := LEW8.out; have := LEW9.out; have := GL9.out; have := GH9.out;  omega)); have n1_ := Aside0.mk (BkS.kept KX.out hk_ (fun k_ h1_ h2_ e_ => by have := LEW1.out; have := GL2.out; have := GH2.out; have := LEW2.out; have := LEW3.out; have := LEW4.out; have := LEW5.out; have := GL6.out; have := GH6.out; have := LEW6.out; have := LEW7.out; have := GL8.out; have := GH8.out; have := LEW8.out; have := LEW9.out; have := GL9.out; have := GH9.out;  omega)); have n2_ := Aside0.mk (BkS.kept KG.out hk_ (fun k_ h1_ h2_ e_ => by have := LEW1.out; have := GL2.out; have := GH2.out; have := LEW2.out; have := LEW3.out; have := LEW4.out; have := LEW5.out; have := GL6.out; have := GH6.out; have := LEW6.out; have := LEW7.out; have := GL8.out; have := GH8.out; have := LEW8.out; have := LEW9.out; have := GL9.out; have := GH9.out;  omega)); have nb2_ := Aside0.mk (blk_kept BK2.out hk_ (fun e_ => by have := LEW1.out; have := GL2.out; have := GH2.out; have := LEW2.out; have := LEW3.out; have := LEW4.out; have := LEW5.out; have := GL6.out; have := GH6.out; have := LEW6.out; have := LEW7.out; have := GL8.out; have := GH8.out; have := LEW8.out; have := LEW9.out; have := GL9.out; have := GH9.out;  omega)); have nb6_ := Aside0.mk (blk_kept BK6.out hk_ (fun e_ => by have := LEW1.out; have := GL2.out; have := GH2.out; have := LEW2.out; have := LEW3.out; have := LEW4.out; have := LEW5.out; have := GL6.out; have := GH6.out; have := LEW6.out; have := LEW7.out; have := GL8.out; have := GH8.out; have := LEW8.out; have := LEW9.out; have := GL9.out; have := GH9.out;  omega)); have nb8_ := Aside0.mk (blk_kept BK8.out hk_ (fun e_ => by have := LEW1.out; have := GL2.out; have := GH2.out; have := LEW2.out; have := LEW3.out; have := LEW4.out; have := LEW5.out; have := GL6.out; have := GH6.out; have := LEW6.out; have := LEW7.out; have := GL8.out; have := GH8.out; have := LEW8.out; have := LEW9.out; have := GL9.out; have := GH9.out;  omega)); clear KW KX KG BK2 BK6 BK8; have KW := n0_; have KX := n1_; have KG := n2_; have BK2 := nb2_; have BK6 := nb6_; have BK8 := nb8_; clear n0_ n1_ n2_ nb2_ nb6_ nb8_; have nb_ := Aside0.mk (blk_below (g := gb9) (o := .cells #[.slice Ag0 g1.length cg0, .slice Ag1 g2.length cg1] 31 (0, 0)) (blk_put (cs := #[.slice Ag0 g1.length cg0, .slice none 0 0]) (blk_put (cs := #[.slice none 0 0, .slice none 0 0]) BK9.out 0 _ rfl) 1 _ rfl) hb); clear BK9; have BK9 := nb_; clear nb_; have n_ := Aside0.mk (below_step (below_set (below_set HB.out GE9.out) GE9.out) hb); clear HB; have HB := n_; clear n_; (try clear hb); (try clear hk_); (try clear hkk); (try clear hbb); (try clear hcz2_0 hcz2_1 hfz2_0 hfz2_1); have hcz2_0 : W10.cell? ⟨gb2, 0, none⟩ = some (.slice A0_0 l0.length c0_0) := (blk_cell BK2.out 0).trans rfl; have hcz2_1 : W10.cell? ⟨gb2, 1, none⟩ = some (.slice A0_1 l1.length c0_1) := (blk_cell BK2.out 1).trans rfl; have hfz2_0 := blk_frozen BK2.out 0; have hfz2_1 := blk_frozen BK2.out 1; (try clear hcz8_0 hcz8_1 hfz8_0 hfz8_1); have hcz8_0 : W10.cell? ⟨gb8, 0, none⟩ = some (.slice Ax0 x1.length cx0) := (blk_cell BK8.out 0).trans rfl; have hcz8_1 : W10.cell? ⟨gb8, 1, none⟩ = some (.slice Ax1 xb.length cx1) := (blk_cell BK8.out 1).trans rfl; have hfz8_0 := blk_frozen BK8.out 0; have hfz8_1 := blk_frozen BK8.out 1; (try clear HB0)))
 have n0_ := Aside0.mk (BkN.kept KW.out (w' := W10.drew) (Kept.noth (below_drew1 (Below.refl _ _))) (fun _ _ _ h => h))
 have n1_ := Aside0.mk (BkS.kept KX.out (w' := W10.drew) (Kept.noth (below_drew1 (Below.refl _ _))) (fun _ _ _ h => h))
 have n2_ := Aside0.mk (BkS.kept KG.out (w' := W10.drew) (Kept.noth (below_drew1 (Below.refl _ _))) (fun _ _ _ h => h))
 have n3_ := Aside0.mk (blk_drew BK2.out)
 have n4_ := Aside0.mk (blk_drew BK6.out)
 have n5_ := Aside0.mk (blk_drew BK8.out)
 have n6_ := Aside0.mk (blk_drew BK9.out)
 have n7_ := Aside0.mk (below_drew1 HB.out)
 have nle_ := Aside0.mk (show W10.heap.size ≤ W10.drew.heap.size from Nat.le_refl _)
 clear KW KX KG BK2 BK6 BK8 BK9 HB
 have KW := n0_
 have KX := n1_
 have KG := n2_
 have BK2 := n3_
 have BK6 := n4_
 have BK8 := n5_
 have BK9 := n6_
 have HB := n7_
 clear n0_ n1_ n2_ n3_ n4_ n5_ n6_ n7_
 refine start_ (n := 5) (S := fun w' => w'.cell? ⟨gb8, 0, none⟩ = some (.slice Ax0 x1.length cx0) ∧ w'.cell? ⟨gb8, 1, none⟩ = some (.slice Ax1 xb.length cx1) ∧ w'.cell? ⟨gb2, 0, none⟩ = some (.slice A0_0 l0.length c0_0) ∧ w'.cell? ⟨gb2, 1, none⟩ = some (.slice A0_1 l1.length c0_1)) (ds := []) #[false, false, false, false, false] (by kernel_rfl) rfl rfl ⟨(blk_cell BK8.out 0).trans rfl, (blk_cell BK8.out 1).trans rfl, (blk_cell BK2.out 0).trans rfl, (blk_cell BK2.out 1).trans rfl⟩ (fun hHeld => ?_)
 generalize W10.drew = W11 at KW KX KG BK2 BK6 BK8 BK9 HB nle_ hHeld ⊢
 have LEW11 := nle_
 clear nle_
 refine tK4_ (i := 0) (N := some 48) #[true, false, false, false, false] ?_
 refine tK4_ (i := 1) (N := some 49) #[true, true, false, false, false] ?_
 refine one_ (i := 2) (N := some 50) #[true, true, true, false, false] rfl rfl (by kernel_rfl) (by decide) (fun K hK => ?_)
 refine goes_ Try.func23 (by kernel_rfl) rfl #[.agg #[.slice A0_0 l0.length c0_0, .slice A0_1 l1.length c0_1]] (by rfl) rfl rfl (pY33) ?_
 (refine (laws_toShareBook.calls k _ _ l0 _ _ l1 t2a t2b _ (Kd.C_below HR0_0.out HB.out) HC0_0.out (Kd.C_below HR0_1.out HB.out) HC0_1.out D8.out).mono ?_)
 rintro e_ W12 ⟨_, _, rfl, ho0, ho1, hb⟩
 refine ⟨_, rfl, ?_⟩
 have HB0 := Aside0.mk (show w.heap.size ≤ W11.heap.size from HB.out.size)
 have hk_ : Kept W11 W12 (fun _ => False) := Kept.noth hb
 have LEW12 := Aside0.mk (show W11.heap.size ≤ W12.heap.size from hk_.1)
 have n0_ := Aside0.mk (BkN.kept KW.out hk_ (fun _ _ _ h => h))
 have n1_ := Aside0.mk (BkS.kept KX.out hk_ (fun _ _ _ h => h))
 have n2_ := Aside0.mk (BkS.kept KG.out hk_ (fun _ _ _ h => h))
 have nb2_ := Aside0.mk (blk_kept BK2.out hk_ (fun h => h))
 have nb6_ := Aside0.mk (blk_kept BK6.out hk_ (fun h => h))
 have nb8_ := Aside0.mk (blk_kept BK8.out hk_ (fun h => h))
 have nb9_ := Aside0.mk (blk_kept BK9.out hk_ (fun h => h))
 clear KW KX KG BK2 BK6 BK8 BK9
 have KW := n0_
 have KX := n1_
 have KG := n2_
 have BK2 := nb2_
 have BK6 := nb6_
 have BK8 := nb8_
 have BK9 := nb9_
 clear n0_ n1_ n2_ nb2_ nb6_ nb8_ nb9_
 have n_ := Aside0.mk (below_step (HB.out) hb)
 clear HB
 have HB := n_
 clear n_
 have n_ := Aside0.mk (BkS.made (n := W11.heap.size) ho0 ho1 (HB0.out) (Nat.le_refl _))
 have KV := n_
 clear n_ ho0 ho1
 obtain ⟨Av0, cv0, Av1, cv1, e0_, e1_⟩ := KV.out.slices
 subst e0_; subst e1_
 (try clear hb)
 (try clear hk_)
 (try clear hkk)
 (try clear hbb)
 (try clear HB0)
 refine hK.out _ _ ⟨(blk_cell BK8.out 0).trans rfl, (blk_cell BK8.out 1).trans rfl, (blk_cell BK2.out 0).trans rfl, (blk_cell BK2.out 1).trans rfl⟩ (fun hHeld => ?_)
 clear hK K
 refine norm_ (a' := ?_) ?_ ?_
 rotate_left
 ·show Act.put _ (some 50) _ = _
  simp only [pW]
  rfl
 refine one_ (i := 3) (N := some 51) #[true, true, true, true, false] rfl rfl (by kernel_rfl) (by decide) (fun K hK => ?_)
 refine goes_ Try.func25 (by kernel_rfl) rfl #[.agg #[.slice Ax0 x1.length cx0, .slice Ax1 xb.length cx1], .agg #[.slice Av0 t2a.length cv0, .slice Av1 t2b.length cv1]] (by rfl) rfl rfl (pY33) ?_
 (refine (BkS.eqS (k := k) (r := true) KX.out KV.out D9.out).mono ?_)
 rintro e_ W13 ⟨rfl, hb⟩
 refine ⟨_, rfl, ?_⟩
 have HB0 := Aside0.mk (show w.heap.size ≤ W12.heap.size from HB.out.size)
 have hk_ : Kept W12 W13 (fun _ => False) := Kept.noth hb
 have LEW13 := Aside0.mk (show W12.heap.size ≤ W13.heap.size from hk_.1)
 have n0_ := Aside0.mk (BkN.kept KW.out hk_ (fun _ _ _ h => h))
 have n1_ := Aside0.mk (BkS.kept KX.out hk_ (fun _ _ _ h => h))
 have n2_ := Aside0.mk (BkS.kept KG.out hk_ (fun _ _ _ h => h))
 have nb2_ := Aside0.mk (blk_kept BK2.out hk_ (fun h => h))
 have nb6_ := Aside0.mk (blk_kept BK6.out hk_ (fun h => h))
 have nb8_ := Aside0.mk (blk_kept BK8.out hk_ (fun h => h))
 have nb9_ := Aside0.mk (blk_kept BK9.out hk_ (fun h => h))
 clear KW KX KG BK2 BK6 BK8 BK9 KV
 have KW := n0_
 have KX := n1_
 have KG := n2_
 have BK2 := nb2_
 have BK6 := nb6_
 have BK8 := nb8_
 have BK9 := nb9_
 clear n0_ n1_ n2_ nb2_ nb6_ nb8_ nb9_
 have n_ := Aside0.mk (below_step (HB.out) hb)
 clear HB
 have HB := n_
 clear n_
 (try clear hb)
 (try clear hk_)
 (try clear hkk)
 (try clear hbb)
 (try clear HB0)
 refine hK.out _ _ ⟨(blk_cell BK8.out 0).trans rfl, (blk_cell BK8.out 1).trans rfl, (blk_cell BK2.out 0).trans rfl, (blk_cell BK2.out 1).trans rfl⟩ (fun hHeld => ?_)
 clear hK K
 refine norm_ (a' := ?_) ?_ ?_
 rotate_left
 ·show Act.put _ (some 51) _ = _
  simp only [pW]
  rfl
 refine pU0 (i := 4) (N := some 52) #[true, true, true, true, true] ?_
 refine done_ (by kernel_rfl) ?_
 (try clear hcz2_0 hcz2_1 hfz2_0 hfz2_1)
 have hcz2_0 : W13.cell? ⟨gb2, 0, none⟩ = some (.slice A0_0 l0.length c0_0) := (blk_cell BK2.out 0).trans rfl
 have hcz2_1 : W13.cell? ⟨gb2, 1, none⟩ = some (.slice A0_1 l1.length c0_1) := (blk_cell BK2.out 1).trans rfl
 have hfz2_0 := blk_frozen BK2.out 0
 have hfz2_1 := blk_frozen BK2.out 1
 (try clear hcz8_0 hcz8_1 hfz8_0 hfz8_1)
 have hcz8_0 : W13.cell? ⟨gb8, 0, none⟩ = some (.slice Ax0 x1.length cx0) := (blk_cell BK8.out 0).trans rfl
 have hcz8_1 : W13.cell? ⟨gb8, 1, none⟩ = some (.slice Ax1 xb.length cx1) := (blk_cell BK8.out 1).trans rfl
 have hfz8_0 := blk_frozen BK8.out 0
 have hfz8_1 := blk_frozen BK8.out 1
 go_wp2_with (first | ((with_reducible refine gate_callee (f := 39) rfl ?_); refine goesL_ (some 55) rfl rfl Try.func39 (by kernel_rfl) rfl #[.agg #[.slice Ax0 x1.length cx0, .slice Ax1 xb.length cx1], .int .i64 1] rfl (pY33) ?_; (refine (BkS.mark (k := k) (q := p) KX.out HB.out D12.out).mono ?_); rintro e_ W14 ⟨rfl, hy, hbb, hkk⟩; refine ⟨_, rfl, ?_⟩; have HB0 := Aside0.mk (show w.heap.size ≤ W13.heap.size from HB.out.size); have hk_ := hkk; have LEW14 := Aside0.mk (show W13.heap.size ≤ W14.heap.size from hk_.1); have n0_ := Aside0.mk (BkN.kept KW.out hk_ (fun k_ h1_ h2_ e_ => by obtain ⟨e1_, e2_⟩ := e_; have := LEW1.out; have := GL2.out; have := GH2.out; have := LEW2.out; have := LEW3.out; have := LEW4.out; have := LEW5.out; have := GL6.out; have := GH6.out; have := LEW6.out; have := LEW7.out; have := GL8.out; have := GH8.out; have := LEW8.out; have := LEW9.out; have := GL9.out; have := GH9.out; have := LEW10.out; have := LEW11.out; have := LEW12.out; have := LEW13.out;  omega)); have n2_ := Aside0.mk (BkS.kept KG.out hk_ (fun k_ h1_ h2_ e_ => by obtain ⟨e1_, e2_⟩ := e_; have := LEW1.out; have := GL2.out; have := GH2.out; have := LEW2.out; have := LEW3.out; have := LEW4.out; have := LEW5.out; have := GL6.out; have := GH6.out; have := LEW6.out; have := LEW7.out; have := GL8.out; have := GH8.out; have := LEW8.out; have := LEW9.out; have := GL9.out; have := GH9.out; have := LEW10.out; have := LEW11.out; have := LEW12.out; have := LEW13.out;  omega)); have nb2_ := Aside0.mk (blk_kept BK2.out hk_ (fun e_ => by obtain ⟨e1_, e2_⟩ := e_; have := LEW1.out; have := GL2.out; have := GH2.out; have := LEW2.out; have := LEW3.out; have := LEW4.out; have := LEW5.out; have := GL6.out; have := GH6.out; have := LEW6.out; have := LEW7.out; have := GL8.out; have := GH8.out; have := LEW8.out; have := LEW9.out; have := GL9.out; have := GH9.out; have := LEW10.out; have := LEW11.out; have := LEW12.out; have := LEW13.out;  omega)); have nb6_ := Aside0.mk (blk_kept BK6.out hk_ (fun e_ => by obtain ⟨e1_, e2_⟩ := e_; have := LEW1.out; have := GL2.out; have := GH2.out; have := LEW2.out; have := LEW3.out; have := LEW4.out; have := LEW5.out; have := GL6.out; have := GH6.out; have := LEW6.out; have := LEW7.out; have := GL8.out; have := GH8.out; have := LEW8.out; have := LEW9.out; have := GL9.out; have := GH9.out; have := LEW10.out; have := LEW11.out; have := LEW12.out; have := LEW13.out;  omega)); have nb8_ := Aside0.mk (blk_kept BK8.out hk_ (fun e_ => by obtain ⟨e1_, e2_⟩ := e_; have := LEW1.out; have := GL2.out; have := GH2.out; have := LEW2.out; have := LEW3.out; have := LEW4.out; have := LEW5.out; have := GL6.out; have := GH6.out; have := LEW6.out; have := LEW7.out; have := GL8.out; have := GH8.out; have := LEW8.out; have := LEW9.out; have := GL9.out; have := GH9.out; have := LEW10.out; have := LEW11.out; have := LEW12.out; have := LEW13.out;  omega)); have nb9_ := Aside0.mk (blk_kept BK9.out hk_ (fun e_ => by obtain ⟨e1_, e2_⟩ := e_; have := LEW1.out; have := GL2.out; have := GH2.out; have := LEW2.out; have := LEW3.out; have := LEW4.out; have := LEW5.out; have := GL6.out; have := GH6.out; have := LEW6.out; have := LEW7.out; have := GL8.out; have := GH8.out; have := LEW8.out; have := LEW9.out; have := GL9.out; have := GH9.out; have := LEW10.out; have := LEW11.out; have := LEW12.out; have := LEW13.out;  omega)); clear KW KG BK2 BK6 BK8 BK9 KX; have KW := n0_; have KG := n2_; have BK2 := nb2_; have BK6 := nb6_; have BK8 := nb8_; have BK9 := nb9_; clear n0_ n2_ nb2_ nb6_ nb8_ nb9_; have n_ := Aside0.mk hbb; clear HB; have HB := n_; clear n_; have KX := Aside0.mk hy; clear hy; (try clear hb); (try clear hk_); (try clear hkk); (try clear hbb); (try clear hcz9_0 hcz9_1 hfz9_0 hfz9_1); have hcz9_0 : W14.cell? ⟨gb9, 0, none⟩ = some (.slice Ag0 g1.length cg0) := (blk_cell BK9.out 0).trans rfl; have hcz9_1 : W14.cell? ⟨gb9, 1, none⟩ = some (.slice Ag1 g2.length cg1) := (blk_cell BK9.out 1).trans rfl; have hfz9_0 := blk_frozen BK9.out 0; have hfz9_1 := blk_frozen BK9.out 1; (try clear hcz6_0 hcz6_1 hfz6_0 hfz6_1); have hcz6_0 : W14.cell? ⟨gb6, 0, none⟩ = some (.slice Aw0 w1.length cw0) := (blk_cell BK6.out 0).trans rfl; have hcz6_1 : W14.cell? ⟨gb6, 1, none⟩ = some (.slice Aw1 w2.length cw1) := (blk_cell BK6.out 1).trans rfl; have hfz6_0 := blk_frozen BK6.out 0; have hfz6_1 := blk_frozen BK6.out 1; (try clear HB0)) | (go_at_call 25; (refine (BkS.eqN (k := k) (r := true) KG.out KW.out D14.out).mono ?_); rintro e_ W15 ⟨rfl, hb⟩; have HB0 := Aside0.mk (show w.heap.size ≤ W14.heap.size from HB.out.size); have hk_ : Kept W14 W15 (fun _ => False) := Kept.noth hb; have LEW15 := Aside0.mk (show W14.heap.size ≤ W15.heap.size from hk_.1); have n0_ := Aside0.mk (BkN.kept KW.out hk_ (fun _ _ _ h => h)); have n1_ := Aside0.mk (BkS.kept KG.out hk_ (fun _ _ _ h => h)); have n2_ := Aside0.mk (BkS.kept KX.out hk_ (fun _ _ _ h => h)); have nb2_ := Aside0.mk (blk_kept BK2.out hk_ (fun h => h)); have nb6_ := Aside0.mk (blk_kept BK6.out hk_ (fun h => h)); have nb8_ := Aside0.mk (blk_kept BK8.out hk_ (fun h => h)); have nb9_ := Aside0.mk (blk_kept BK9.out hk_ (fun h => h)); clear KW KG KX BK2 BK6 BK8 BK9; have KW := n0_; have KG := n1_; have KX := n2_; have BK2 := nb2_; have BK6 := nb6_; have BK8 := nb8_; have BK9 := nb9_; clear n0_ n1_ n2_ nb2_ nb6_ nb8_ nb9_; have n_ := Aside0.mk (below_step (HB.out) hb); clear HB; have HB := n_; clear n_; (try clear hb); (try clear hk_); (try clear hkk); (try clear hbb); (try clear hcz9_0 hcz9_1 hfz9_0 hfz9_1); have hcz9_0 : W15.cell? ⟨gb9, 0, none⟩ = some (.slice Ag0 g1.length cg0) := (blk_cell BK9.out 0).trans rfl; have hcz9_1 : W15.cell? ⟨gb9, 1, none⟩ = some (.slice Ag1 g2.length cg1) := (blk_cell BK9.out 1).trans rfl; have hfz9_0 := blk_frozen BK9.out 0; have hfz9_1 := blk_frozen BK9.out 1; (try clear HB0)) | ((with_reducible refine gate_callee (f := 39) rfl ?_); refine goesL_ (some 71) rfl rfl Try.func39 (by kernel_rfl) rfl #[.agg #[.slice Ag0 g1.length cg0, .slice Ag1 g2.length cg1], .int .i64 1] rfl (pY33) ?_; (refine (BkS.mark (k := k) (q := q2) KG.out HB.out D15.out).mono ?_); rintro e_ W16 ⟨rfl, hy, hbb, hkk⟩; refine ⟨_, rfl, ?_⟩; have HB0 := Aside0.mk (show w.heap.size ≤ W15.heap.size from HB.out.size); have hk_ := hkk; have LEW16 := Aside0.mk (show W15.heap.size ≤ W16.heap.size from hk_.1); have n0_ := Aside0.mk (BkN.kept KW.out hk_ (fun k_ h1_ h2_ e_ => by obtain ⟨e1_, e2_⟩ := e_; have := LEW1.out; have := GL2.out; have := GH2.out; have := LEW2.out; have := LEW3.out; have := LEW4.out; have := LEW5.out; have := GL6.out; have := GH6.out; have := LEW6.out; have := LEW7.out; have := GL8.out; have := GH8.out; have := LEW8.out; have := LEW9.out; have := GL9.out; have := GH9.out; have := LEW10.out; have := LEW11.out; have := LEW12.out; have := LEW13.out; have := LEW14.out; have := LEW15.out;  omega)); have n2_ := Aside0.mk (BkS.kept KX.out hk_ (fun k_ h1_ h2_ e_ => by obtain ⟨e1_, e2_⟩ := e_; have := LEW1.out; have := GL2.out; have := GH2.out; have := LEW2.out; have := LEW3.out; have := LEW4.out; have := LEW5.out; have := GL6.out; have := GH6.out; have := LEW6.out; have := LEW7.out; have := GL8.out; have := GH8.out; have := LEW8.out; have := LEW9.out; have := GL9.out; have := GH9.out; have := LEW10.out; have := LEW11.out; have := LEW12.out; have := LEW13.out; have := LEW14.out; have := LEW15.out;  omega)); have nb2_ := Aside0.mk (blk_kept BK2.out hk_ (fun e_ => by obtain ⟨e1_, e2_⟩ := e_; have := LEW1.out; have := GL2.out; have := GH2.out; have := LEW2.out; have := LEW3.out; have := LEW4.out; have := LEW5.out; have := GL6.out; have := GH6.out; have := LEW6.out; have := LEW7.out; have := GL8.out; have := GH8.out; have := LEW8.out; have := LEW9.out; have := GL9.out; have := GH9.out; have := LEW10.out; have := LEW11.out; have := LEW12.out; have := LEW13.out; have := LEW14.out; have := LEW15.out;  omega)); have nb6_ := Aside0.mk (blk_kept BK6.out hk_ (fun e_ => by obtain ⟨e1_, e2_⟩ := e_; have := LEW1.out; have := GL2.out; have := GH2.out; have := LEW2.out; have := LEW3.out; have := LEW4.out; have := LEW5.out; have := GL6.out; have := GH6.out; have := LEW6.out; have := LEW7.out; have := GL8.out; have := GH8.out; have := LEW8.out; have := LEW9.out; have := GL9.out; have := GH9.out; have := LEW10.out; have := LEW11.out; have := LEW12.out; have := LEW13.out; have := LEW14.out; have := LEW15.out;  omega)); have nb8_ := Aside0.mk (blk_kept BK8.out hk_ (fun e_ => by obtain ⟨e1_, e2_⟩ := e_; have := LEW1.out; have := GL2.out; have := GH2.out; have := LEW2.out; have := LEW3.out; have := LEW4.out; have := LEW5.out; have := GL6.out; have := GH6.out; have := LEW6.out; have := LEW7.out; have := GL8.out; have := GH8.out; have := LEW8.out; have := LEW9.out; have := GL9.out; have := GH9.out; have := LEW10.out; have := LEW11.out; have := LEW12.out; have := LEW13.out; have := LEW14.out; have := LEW15.out;  omega)); have nb9_ := Aside0.mk (blk_kept BK9.out hk_ (fun e_ => by obtain ⟨e1_, e2_⟩ := e_; have := LEW1.out; have := GL2.out; have := GH2.out; have := LEW2.out; have := LEW3.out; have := LEW4.out; have := LEW5.out; have := GL6.out; have := GH6.out; have := LEW6.out; have := LEW7.out; have := GL8.out; have := GH8.out; have := LEW8.out; have := LEW9.out; have := GL9.out; have := GH9.out; have := LEW10.out; have := LEW11.out; have := LEW12.out; have := LEW13.out; have := LEW14.out; have := LEW15.out;  omega)); clear KW KX BK2 BK6 BK8 BK9 KG; have KW := n0_; have KX := n2_; have BK2 := nb2_; have BK6 := nb6_; have BK8 := nb8_; have BK9 := nb9_; clear n0_ n2_ nb2_ nb6_ nb8_ nb9_; have n_ := Aside0.mk hbb; clear HB; have HB := n_; clear n_; have KG := Aside0.mk hy; clear hy; (try clear hb); (try clear hk_); (try clear hkk); (try clear hbb); (try clear hcz9_0 hcz9_1 hfz9_0 hfz9_1); have hcz9_0 : W16.cell? ⟨gb9, 0, none⟩ = some (.slice Ag0 g1.length cg0) := (blk_cell BK9.out 0).trans rfl; have hcz9_1 : W16.cell? ⟨gb9, 1, none⟩ = some (.slice Ag1 g2.length cg1) := (blk_cell BK9.out 1).trans rfl; have hfz9_0 := blk_frozen BK9.out 0; have hfz9_1 := blk_frozen BK9.out 1; (try clear HB0)) | ((with_reducible refine gate_callee (f := 48) rfl ?_); refine goesL_ (some 74) rfl rfl Try.func48 (by kernel_rfl) rfl #[.agg #[.slice Ag0 g1.length cg0, .slice Ag1 g2.length cg1], .int .i64 1] rfl (pY33) ?_; (refine (BkS.held (k := k) (q := q2) KG.out D16.out).mono ?_); rintro e_ W17 ⟨rfl, hb⟩; refine ⟨_, rfl, ?_⟩; have HB0 := Aside0.mk (show w.heap.size ≤ W16.heap.size from HB.out.size); have hk_ : Kept W16 W17 (fun _ => False) := Kept.noth hb; have LEW17 := Aside0.mk (show W16.heap.size ≤ W17.heap.size from hk_.1); have n0_ := Aside0.mk (BkN.kept KW.out hk_ (fun _ _ _ h => h)); have n1_ := Aside0.mk (BkS.kept KX.out hk_ (fun _ _ _ h => h)); have n2_ := Aside0.mk (BkS.kept KG.out hk_ (fun _ _ _ h => h)); have nb2_ := Aside0.mk (blk_kept BK2.out hk_ (fun h => h)); have nb6_ := Aside0.mk (blk_kept BK6.out hk_ (fun h => h)); have nb8_ := Aside0.mk (blk_kept BK8.out hk_ (fun h => h)); have nb9_ := Aside0.mk (blk_kept BK9.out hk_ (fun h => h)); clear KW KX KG BK2 BK6 BK8 BK9; have KW := n0_; have KX := n1_; have KG := n2_; have BK2 := nb2_; have BK6 := nb6_; have BK8 := nb8_; have BK9 := nb9_; clear n0_ n1_ n2_ nb2_ nb6_ nb8_ nb9_; have n_ := Aside0.mk (below_step (HB.out) hb); clear HB; have HB := n_; clear n_; (try clear hb); (try clear hk_); (try clear hkk); (try clear hbb); (try clear hcz2_0 hcz2_1 hfz2_0 hfz2_1); have hcz2_0 : W17.cell? ⟨gb2, 0, none⟩ = some (.slice A0_0 l0.length c0_0) := (blk_cell BK2.out 0).trans rfl; have hcz2_1 : W17.cell? ⟨gb2, 1, none⟩ = some (.slice A0_1 l1.length c0_1) := (blk_cell BK2.out 1).trans rfl; have hfz2_0 := blk_frozen BK2.out 0; have hfz2_1 := blk_frozen BK2.out 1; (try clear HB0)) | ((with_reducible refine gate_callee (f := 23) rfl ?_); refine goesL_ (some 82) rfl rfl Try.func23 (by kernel_rfl) rfl #[.agg #[.slice A0_0 l0.length c0_0, .slice A0_1 l1.length c0_1]] rfl (pY33) ?_; (refine (laws_toShareBook.calls k _ _ l0 _ _ l1 t3a t3b _ (Kd.C_below HR0_0.out HB.out) HC0_0.out (Kd.C_below HR0_1.out HB.out) HC0_1.out D17.out).mono ?_); rintro e_ W18 ⟨_, _, rfl, ho0, ho1, hb⟩; refine ⟨_, rfl, ?_⟩; have HB0 := Aside0.mk (show w.heap.size ≤ W17.heap.size from HB.out.size); have hk_ : Kept W17 W18 (fun _ => False) := Kept.noth hb; have LEW18 := Aside0.mk (show W17.heap.size ≤ W18.heap.size from hk_.1); have n0_ := Aside0.mk (BkN.kept KW.out hk_ (fun _ _ _ h => h)); have n1_ := Aside0.mk (BkS.kept KX.out hk_ (fun _ _ _ h => h)); have n2_ := Aside0.mk (BkS.kept KG.out hk_ (fun _ _ _ h => h)); have nb2_ := Aside0.mk (blk_kept BK2.out hk_ (fun h => h)); have nb6_ := Aside0.mk (blk_kept BK6.out hk_ (fun h => h)); have nb8_ := Aside0.mk (blk_kept BK8.out hk_ (fun h => h)); have nb9_ := Aside0.mk (blk_kept BK9.out hk_ (fun h => h)); clear KW KX KG BK2 BK6 BK8 BK9; have KW := n0_; have KX := n1_; have KG := n2_; have BK2 := nb2_; have BK6 := nb6_; have BK8 := nb8_; have BK9 := nb9_; clear n0_ n1_ n2_ nb2_ nb6_ nb8_ nb9_; have n_ := Aside0.mk (below_step (HB.out) hb); clear HB; have HB := n_; clear n_; have n_ := Aside0.mk (BkS.made (n := W17.heap.size) ho0 ho1 (HB0.out) (Nat.le_refl _)); have KT := n_; clear n_ ho0 ho1; obtain ⟨Ar0, cr0, Ar1, cr1, e0_, e1_⟩ := KT.out.slices; subst e0_; subst e1_; (try clear hb); (try clear hk_); (try clear hkk); (try clear hbb); (try clear hcz2_0 hcz2_1 hfz2_0 hfz2_1); have hcz2_0 : W18.cell? ⟨gb2, 0, none⟩ = some (.slice A0_0 l0.length c0_0) := (blk_cell BK2.out 0).trans rfl; have hcz2_1 : W18.cell? ⟨gb2, 1, none⟩ = some (.slice A0_1 l1.length c0_1) := (blk_cell BK2.out 1).trans rfl; have hfz2_0 := blk_frozen BK2.out 0; have hfz2_1 := blk_frozen BK2.out 1; (try clear HB0)) | ((with_reducible refine gate_callee (f := 47) rfl ?_); refine goesL_ (some 84) rfl rfl Try.func47 (by kernel_rfl) rfl #[.agg #[.slice Ar0 t3a.length cr0, .slice Ar1 t3b.length cr1], .string a1] rfl (pY33) ?_; (refine (impl_ShareLeave.calls k _ _ t3a _ _ t3b a1 h1 h2 h3 _ (Kd.R_reads' (KT.out).1).2.2 (Kd.R_reads' (KT.out).1).2.1 (Kd.S_reads' (KT.out).2).2.2 (Kd.S_reads' (KT.out).2).2.1 D19.out).mono ?_); rintro e_ W19 ⟨_, _, rfl, ho0, ho1, hb⟩; refine ⟨_, rfl, ?_⟩; have HB0 := Aside0.mk (show w.heap.size ≤ W18.heap.size from HB.out.size); have hk_ : Kept W18 W19 (fun _ => False) := Kept.noth hb; have LEW19 := Aside0.mk (show W18.heap.size ≤ W19.heap.size from hk_.1); have n0_ := Aside0.mk (BkN.kept KW.out hk_ (fun _ _ _ h => h)); have n1_ := Aside0.mk (BkS.kept KX.out hk_ (fun _ _ _ h => h)); have n2_ := Aside0.mk (BkS.kept KG.out hk_ (fun _ _ _ h => h)); have nb2_ := Aside0.mk (blk_kept BK2.out hk_ (fun h => h)); have nb6_ := Aside0.mk (blk_kept BK6.out hk_ (fun h => h)); have nb8_ := Aside0.mk (blk_kept BK8.out hk_ (fun h => h)); have nb9_ := Aside0.mk (blk_kept BK9.out hk_ (fun h => h)); clear KW KX KG BK2 BK6 BK8 BK9 KT; have KW := n0_; have KX := n1_; have KG := n2_; have BK2 := nb2_; have BK6 := nb6_; have BK8 := nb8_; have BK9 := nb9_; clear n0_ n1_ n2_ nb2_ nb6_ nb8_ nb9_; have n_ := Aside0.mk (below_step (HB.out) hb); clear HB; have HB := n_; clear n_; have n_ := Aside0.mk (BkS.made (n := W18.heap.size) ho0 ho1 (HB0.out) (Nat.le_refl _)); have KH := n_; clear n_ ho0 ho1; obtain ⟨Ah0, ch0, Ah1, ch1, e0_, e1_⟩ := KH.out.slices; subst e0_; subst e1_; (try clear hb); (try clear hk_); (try clear hkk); (try clear hbb); (try clear HB0)) | ((with_reducible refine gate_dst (N := 14) rfl ?_); refine box_event ?hg (N := 14) ?hd (cs := #[.slice none 0 0, .slice none 0 0]) (t := 31) ?hr ?_; (case hd => rfl); (case hg => rfl); (case hr => first | (go_simp; done) | (go_simp; rfl)); intro gb14 hg_ W20 hbox hb; have hk_ : Kept W19 W20 (fun _ => False) := Kept.noth hb; have LEW20 := Aside0.mk (show W19.heap.size ≤ W20.heap.size from hk_.1); have GE14 := Aside0.mk (show w.heap.size ≤ gb14 from Nat.le_trans HB.out.size (Nat.le_of_eq hg_.symm)); have GL14 := Aside0.mk (show W19.heap.size ≤ gb14 from Nat.le_of_eq hg_.symm); have GH14 := Aside0.mk (show gb14 < W20.heap.size from blk_lt hbox); have n0_ := Aside0.mk (BkN.kept KW.out hk_ (fun _ _ _ h => h)); have n1_ := Aside0.mk (BkS.kept KX.out hk_ (fun _ _ _ h => h)); have n2_ := Aside0.mk (BkS.kept KG.out hk_ (fun _ _ _ h => h)); have n3_ := Aside0.mk (BkS.kept KH.out hk_ (fun _ _ _ h => h)); have nb2_ := Aside0.mk (blk_kept BK2.out hk_ (fun h => h)); have nb6_ := Aside0.mk (blk_kept BK6.out hk_ (fun h => h)); have nb8_ := Aside0.mk (blk_kept BK8.out hk_ (fun h => h)); have nb9_ := Aside0.mk (blk_kept BK9.out hk_ (fun h => h)); clear KW KX KG KH BK2 BK6 BK8 BK9; have KW := n0_; have KX := n1_; have KG := n2_; have KH := n3_; have BK2 := nb2_; have BK6 := nb6_; have BK8 := nb8_; have BK9 := nb9_; clear n0_ n1_ n2_ n3_ nb2_ nb6_ nb8_ nb9_; have n_ := Aside0.mk (below_step HB.out hb); clear HB; have HB := n_; clear n_; have BK14 := Aside0.mk hbox; clear hb hbox hg_ hk_; have nb14_2 : gb14 ≠ gb2 := (by have := LEW1.out; have := GL2.out; have := GH2.out; have := LEW2.out; have := LEW3.out; have := LEW4.out; have := LEW5.out; have := GL6.out; have := GH6.out; have := LEW6.out; have := LEW7.out; have := GL8.out; have := GH8.out; have := LEW8.out; have := LEW9.out; have := GL9.out; have := GH9.out; have := LEW10.out; have := LEW11.out; have := LEW12.out; have := LEW13.out; have := LEW14.out; have := LEW15.out; have := LEW16.out; have := LEW17.out; have := LEW18.out; have := LEW19.out; have := LEW20.out; have := GL14.out; have := GH14.out;  omega); have nb2_14 : gb2 ≠ gb14 := (by have := LEW1.out; have := GL2.out; have := GH2.out; have := LEW2.out; have := LEW3.out; have := LEW4.out; have := LEW5.out; have := GL6.out; have := GH6.out; have := LEW6.out; have := LEW7.out; have := GL8.out; have := GH8.out; have := LEW8.out; have := LEW9.out; have := GL9.out; have := GH9.out; have := LEW10.out; have := LEW11.out; have := LEW12.out; have := LEW13.out; have := LEW14.out; have := LEW15.out; have := LEW16.out; have := LEW17.out; have := LEW18.out; have := LEW19.out; have := LEW20.out; have := GL14.out; have := GH14.out;  omega); have nb14_6 : gb14 ≠ gb6 := (by have := LEW1.out; have := GL2.out; have := GH2.out; have := LEW2.out; have := LEW3.out; have := LEW4.out; have := LEW5.out; have := GL6.out; have := GH6.out; have := LEW6.out; have := LEW7.out; have := GL8.out; have := GH8.out; have := LEW8.out; have := LEW9.out; have := GL9.out; have := GH9.out; have := LEW10.out; have := LEW11.out; have := LEW12.out; have := LEW13.out; have := LEW14.out; have := LEW15.out; have := LEW16.out; have := LEW17.out; have := LEW18.out; have := LEW19.out; have := LEW20.out; have := GL14.out; have := GH14.out;  omega); have nb6_14 : gb6 ≠ gb14 := (by have := LEW1.out; have := GL2.out; have := GH2.out; have := LEW2.out; have := LEW3.out; have := LEW4.out; have := LEW5.out; have := GL6.out; have := GH6.out; have := LEW6.out; have := LEW7.out; have := GL8.out; have := GH8.out; have := LEW8.out; have := LEW9.out; have := GL9.out; have := GH9.out; have := LEW10.out; have := LEW11.out; have := LEW12.out; have := LEW13.out; have := LEW14.out; have := LEW15.out; have := LEW16.out; have := LEW17.out; have := LEW18.out; have := LEW19.out; have := LEW20.out; have := GL14.out; have := GH14.out;  omega); have nb14_8 : gb14 ≠ gb8 := (by have := LEW1.out; have := GL2.out; have := GH2.out; have := LEW2.out; have := LEW3.out; have := LEW4.out; have := LEW5.out; have := GL6.out; have := GH6.out; have := LEW6.out; have := LEW7.out; have := GL8.out; have := GH8.out; have := LEW8.out; have := LEW9.out; have := GL9.out; have := GH9.out; have := LEW10.out; have := LEW11.out; have := LEW12.out; have := LEW13.out; have := LEW14.out; have := LEW15.out; have := LEW16.out; have := LEW17.out; have := LEW18.out; have := LEW19.out; have := LEW20.out; have := GL14.out; have := GH14.out;  omega); have nb8_14 : gb8 ≠ gb14 := (by have := LEW1.out; have := GL2.out; have := GH2.out; have := LEW2.out; have := LEW3.out; have := LEW4.out; have := LEW5.out; have := GL6.out; have := GH6.out; have := LEW6.out; have := LEW7.out; have := GL8.out; have := GH8.out; have := LEW8.out; have := LEW9.out; have := GL9.out; have := GH9.out; have := LEW10.out; have := LEW11.out; have := LEW12.out; have := LEW13.out; have := LEW14.out; have := LEW15.out; have := LEW16.out; have := LEW17.out; have := LEW18.out; have := LEW19.out; have := LEW20.out; have := GL14.out; have := GH14.out;  omega); have nb14_9 : gb14 ≠ gb9 := (by have := LEW1.out; have := GL2.out; have := GH2.out; have := LEW2.out; have := LEW3.out; have := LEW4.out; have := LEW5.out; have := GL6.out; have := GH6.out; have := LEW6.out; have := LEW7.out; have := GL8.out; have := GH8.out; have := LEW8.out; have := LEW9.out; have := GL9.out; have := GH9.out; have := LEW10.out; have := LEW11.out; have := LEW12.out; have := LEW13.out; have := LEW14.out; have := LEW15.out; have := LEW16.out; have := LEW17.out; have := LEW18.out; have := LEW19.out; have := LEW20.out; have := GL14.out; have := GH14.out;  omega); have nb9_14 : gb9 ≠ gb14 := (by have := LEW1.out; have := GL2.out; have := GH2.out; have := LEW2.out; have := LEW3.out; have := LEW4.out; have := LEW5.out; have := GL6.out; have := GH6.out; have := LEW6.out; have := LEW7.out; have := GL8.out; have := GH8.out; have := LEW8.out; have := LEW9.out; have := GL9.out; have := GH9.out; have := LEW10.out; have := LEW11.out; have := LEW12.out; have := LEW13.out; have := LEW14.out; have := LEW15.out; have := LEW16.out; have := LEW17.out; have := LEW18.out; have := LEW19.out; have := LEW20.out; have := GL14.out; have := GH14.out;  omega); (try clear hcz14_0 hcz14_1 hfz14_0 hfz14_1); have hcz14_0 : W20.cell? ⟨gb14, 0, none⟩ = some (.slice none 0 0) := (blk_cell BK14.out 0).trans rfl; have hcz14_1 : W20.cell? ⟨gb14, 1, none⟩ = some (.slice none 0 0) := (blk_cell BK14.out 1).trans rfl; have hfz14_0 := blk_frozen BK14.out 0; have hfz14_1 := blk_frozen BK14.out 1; (try clear hcz6_0 hcz6_1 hfz6_0 hfz6_1); have hcz6_0 : W20.cell? ⟨gb6, 0, none⟩ = some (.slice Aw0 w1.length cw0) := (blk_cell BK6.out 0).trans rfl; have hcz6_1 : W20.cell? ⟨gb6, 1, none⟩ = some (.slice Aw1 w2.length cw1) := (blk_cell BK6.out 1).trans rfl; have hfz6_0 := blk_frozen BK6.out 0; have hfz6_1 := blk_frozen BK6.out 1) | ((with_reducible refine gate_callee (f := 25) rfl ?_); refine goesL_ (some 89) rfl rfl Try.func25 (by kernel_rfl) rfl #[.agg #[.slice Ah0 h1.length ch0, .slice Ah1 h2.length ch1], .agg #[.slice Aw0 w1.length cw0, .slice Aw1 w2.length cw1]] rfl (pY33) ?_; (refine (BkS.eqN (k := k) (r := true) (BkS.kept KH.out (Kept.two (w := W20) (g := gb14) 0 1 (.slice Ah0 h1.length ch0) (.slice Ah1 h2.length ch1)) (fun k_ h1_ h2_ e_ => by have := LEW1.out; have := GL2.out; have := GH2.out; have := LEW2.out; have := LEW3.out; have := LEW4.out; have := LEW5.out; have := GL6.out; have := GH6.out; have := LEW6.out; have := LEW7.out; have := GL8.out; have := GH8.out; have := LEW8.out; have := LEW9.out; have := GL9.out; have := GH9.out; have := LEW10.out; have := LEW11.out; have := LEW12.out; have := LEW13.out; have := LEW14.out; have := LEW15.out; have := LEW16.out; have := LEW17.out; have := LEW18.out; have := LEW19.out; have := LEW20.out; have := GL14.out; have := GH14.out;  omega)) (BkN.kept KW.out (Kept.two (w := W20) (g := gb14) 0 1 (.slice Ah0 h1.length ch0) (.slice Ah1 h2.length ch1)) (fun k_ h1_ h2_ e_ => by have := LEW1.out; have := GL2.out; have := GH2.out; have := LEW2.out; have := LEW3.out; have := LEW4.out; have := LEW5.out; have := GL6.out; have := GH6.out; have := LEW6.out; have := LEW7.out; have := GL8.out; have := GH8.out; have := LEW8.out; have := LEW9.out; have := GL9.out; have := GH9.out; have := LEW10.out; have := LEW11.out; have := LEW12.out; have := LEW13.out; have := LEW14.out; have := LEW15.out; have := LEW16.out; have := LEW17.out; have := LEW18.out; have := LEW19.out; have := LEW20.out; have := GL14.out; have := GH14.out;  omega)) D20.out).mono ?_); rintro e_ W21 ⟨rfl, hb⟩; refine ⟨_, rfl, ?_⟩; have HB0 := Aside0.mk (show w.heap.size ≤ W20.heap.size from HB.out.size); have hk_ : Kept W20 W21 (fun k => k = gb14) := (Kept.two (w := W20) (g := gb14) 0 1 (.slice Ah0 h1.length ch0) (.slice Ah1 h2.length ch1)).below hb; have LEW21 := Aside0.mk (show W20.heap.size ≤ W21.heap.size from hk_.1); have n0_ := Aside0.mk (BkN.kept KW.out hk_ (fun k_ h1_ h2_ e_ => by have := LEW1.out; have := GL2.out; have := GH2.out; have := LEW2.out; have := LEW3.out; have := LEW4.out; have := LEW5.out; have := GL6.out; have := GH6.out; have := LEW6.out; have := LEW7.out; have := GL8.out; have := GH8.out; have := LEW8.out; have := LEW9.out; have := GL9.out; have := GH9.out; have := LEW10.out; have := LEW11.out; have := LEW12.out; have := LEW13.out; have := LEW14.out; have := LEW15.out; have := LEW16.out; have := LEW17.out; have := LEW18.out; have := LEW19.out; have := LEW20.out; have := GL14.out; have := GH14.out;  omega)); have n1_ := Aside0.mk (BkS.kept KX.out hk_ (fun k_ h1_ h2_ e_ => by have := LEW1.out; have := GL2.out; have := GH2.out; have := LEW2.out; have := LEW3.out; have := LEW4.out; have := LEW5.out; have := GL6.out; have := GH6.out; have := LEW6.out; have := LEW7.out; have := GL8.out; have := GH8.out; have := LEW8.out; have := LEW9.out; have := GL9.out; have := GH9.out; have := LEW10.out; have := LEW11.out; have := LEW12.out; have := LEW13.out; have := LEW14.out; have := LEW15.out; have := LEW16.out; have := LEW17.out; have := LEW18.out; have := LEW19.out; have := LEW20.out; have := GL14.out; have := GH14.out;  omega)); have n2_ := Aside0.mk (BkS.kept KG.out hk_ (fun k_ h1_ h2_ e_ => by have := LEW1.out; have := GL2.out; have := GH2.out; have := LEW2.out; have := LEW3.out; have := LEW4.out; have := LEW5.out; have := GL6.out; have := GH6.out; have := LEW6.out; have := LEW7.out; have := GL8.out; have := GH8.out; have := LEW8.out; have := LEW9.out; have := GL9.out; have := GH9.out; have := LEW10.out; have := LEW11.out; have := LEW12.out; have := LEW13.out; have := LEW14.out; have := LEW15.out; have := LEW16.out; have := LEW17.out; have := LEW18.out; have := LEW19.out; have := LEW20.out; have := GL14.out; have := GH14.out;  omega)); have n3_ := Aside0.mk (BkS.kept KH.out hk_ (fun k_ h1_ h2_ e_ => by have := LEW1.out; have := GL2.out; have := GH2.out; have := LEW2.out; have := LEW3.out; have := LEW4.out; have := LEW5.out; have := GL6.out; have := GH6.out; have := LEW6.out; have := LEW7.out; have := GL8.out; have := GH8.out; have := LEW8.out; have := LEW9.out; have := GL9.out; have := GH9.out; have := LEW10.out; have := LEW11.out; have := LEW12.out; have := LEW13.out; have := LEW14.out; have := LEW15.out; have := LEW16.out; have := LEW17.out; have := LEW18.out; have := LEW19.out; have := LEW20.out; have := GL14.out; have := GH14.out;  omega)); have nb2_ := Aside0.mk (blk_kept BK2.out hk_ (fun e_ => by have := LEW1.out; have := GL2.out; have := GH2.out; have := LEW2.out; have := LEW3.out; have := LEW4.out; have := LEW5.out; have := GL6.out; have := GH6.out; have := LEW6.out; have := LEW7.out; have := GL8.out; have := GH8.out; have := LEW8.out; have := LEW9.out; have := GL9.out; have := GH9.out; have := LEW10.out; have := LEW11.out; have := LEW12.out; have := LEW13.out; have := LEW14.out; have := LEW15.out; have := LEW16.out; have := LEW17.out; have := LEW18.out; have := LEW19.out; have := LEW20.out; have := GL14.out; have := GH14.out;  omega)); have nb6_ := Aside0.mk (blk_kept BK6.out hk_ (fun e_ => by have := LEW1.out; have := GL2.out; have := GH2.out; have := LEW2.out; have := LEW3.out; have := LEW4.out; have := LEW5.out; have := GL6.out; have := GH6.out; have := LEW6.out; have := LEW7.out; have := GL8.out; have := GH8.out; have := LEW8.out; have := LEW9.out; have := GL9.out; have := GH9.out; have := LEW10.out; have := LEW11.out; have := LEW12.out; have := LEW13.out; have := LEW14.out; have := LEW15.out; have := LEW16.out; have := LEW17.out; have := LEW18.out; have := LEW19.out; have := LEW20.out; have := GL14.out; have := GH14.out;  omega)); have nb8_ := Aside0.mk (blk_kept BK8.out hk_ (fun e_ => by have := LEW1.out; have := GL2.out; have := GH2.out; have := LEW2.out; have := LEW3.out; have := LEW4.out; have := LEW5.out; have := GL6.out; have := GH6.out; have := LEW6.out; have := LEW7.out; have := GL8.out; have := GH8.out; have := LEW8.out; have := LEW9.out; have := GL9.out; have := GH9.out; have := LEW10.out; have := LEW11.out; have := LEW12.out; have := LEW13.out; have := LEW14.out; have := LEW15.out; have := LEW16.out; have := LEW17.out; have := LEW18.out; have := LEW19.out; have := LEW20.out; have := GL14.out; have := GH14.out;  omega)); have nb9_ := Aside0.mk (blk_kept BK9.out hk_ (fun e_ => by have := LEW1.out; have := GL2.out; have := GH2.out; have := LEW2.out; have := LEW3.out; have := LEW4.out; have := LEW5.out; have := GL6.out; have := GH6.out; have := LEW6.out; have := LEW7.out; have := GL8.out; have := GH8.out; have := LEW8.out; have := LEW9.out; have := GL9.out; have := GH9.out; have := LEW10.out; have := LEW11.out; have := LEW12.out; have := LEW13.out; have := LEW14.out; have := LEW15.out; have := LEW16.out; have := LEW17.out; have := LEW18.out; have := LEW19.out; have := LEW20.out; have := GL14.out; have := GH14.out;  omega)); clear KW KX KG KH BK2 BK6 BK8 BK9; have KW := n0_; have KX := n1_; have KG := n2_; have KH := n3_; have BK2 := nb2_; have BK6 := nb6_; have BK8 := nb8_; have BK9 := nb9_; clear n0_ n1_ n2_ n3_ nb2_ nb6_ nb8_ nb9_; have nb_ := Aside0.mk (blk_below (g := gb14) (o := .cells #[.slice Ah0 h1.length ch0, .slice Ah1 h2.length ch1] 31 (0, 0)) (blk_put (cs := #[.slice Ah0 h1.length ch0, .slice none 0 0]) (blk_put (cs := #[.slice none 0 0, .slice none 0 0]) BK14.out 0 _ rfl) 1 _ rfl) hb); clear BK14; have BK14 := nb_; clear nb_; have n_ := Aside0.mk (below_step (below_set (below_set HB.out GE14.out) GE14.out) hb); clear HB; have HB := n_; clear n_; (try clear hb); (try clear hk_); (try clear hkk); (try clear hbb); (try clear hcz9_0 hcz9_1 hfz9_0 hfz9_1); have hcz9_0 : W21.cell? ⟨gb9, 0, none⟩ = some (.slice Ag0 g1.length cg0) := (blk_cell BK9.out 0).trans rfl; have hcz9_1 : W21.cell? ⟨gb9, 1, none⟩ = some (.slice Ag1 g2.length cg1) := (blk_cell BK9.out 1).trans rfl; have hfz9_0 := blk_frozen BK9.out 0; have hfz9_1 := blk_frozen BK9.out 1; (try clear HB0)) | ((with_reducible refine gate_callee (f := 48) rfl ?_); refine goesL_ (some 98) rfl rfl Try.func48 (by kernel_rfl) rfl #[.agg #[.slice Ag0 g1.length cg0, .slice Ag1 g2.length cg1], .int .i64 1] rfl (pY33) ?_; (refine (BkS.held (k := k) (q := q2) KG.out D21.out).mono ?_); rintro e_ W22 ⟨rfl, hb⟩; refine ⟨_, rfl, ?_⟩; have HB0 := Aside0.mk (show w.heap.size ≤ W21.heap.size from HB.out.size); have hk_ : Kept W21 W22 (fun _ => False) := Kept.noth hb; have LEW22 := Aside0.mk (show W21.heap.size ≤ W22.heap.size from hk_.1); have n0_ := Aside0.mk (BkN.kept KW.out hk_ (fun _ _ _ h => h)); have n1_ := Aside0.mk (BkS.kept KX.out hk_ (fun _ _ _ h => h)); have n2_ := Aside0.mk (BkS.kept KG.out hk_ (fun _ _ _ h => h)); have n3_ := Aside0.mk (BkS.kept KH.out hk_ (fun _ _ _ h => h)); have nb2_ := Aside0.mk (blk_kept BK2.out hk_ (fun h => h)); have nb6_ := Aside0.mk (blk_kept BK6.out hk_ (fun h => h)); have nb8_ := Aside0.mk (blk_kept BK8.out hk_ (fun h => h)); have nb9_ := Aside0.mk (blk_kept BK9.out hk_ (fun h => h)); have nb14_ := Aside0.mk (blk_kept BK14.out hk_ (fun h => h)); clear KW KX KG KH BK2 BK6 BK8 BK9 BK14; have KW := n0_; have KX := n1_; have KG := n2_; have KH := n3_; have BK2 := nb2_; have BK6 := nb6_; have BK8 := nb8_; have BK9 := nb9_; have BK14 := nb14_; clear n0_ n1_ n2_ n3_ nb2_ nb6_ nb8_ nb9_ nb14_; have n_ := Aside0.mk (below_step (HB.out) hb); clear HB; have HB := n_; clear n_; (try clear hb); (try clear hk_); (try clear hkk); (try clear hbb); (try clear HB0)))
 go_ret
 exact ⟨rfl, HB.out⟩
end Go.Proofs.Ytaofjgnhapnndaa.Q
namespace Go.Proofs.Ytaofjgnhapnndaa.Q
open Go.RowKit Go.Proofs.YtaofjgnhapnndaaW.PrintWords Go.Proofs.YtaofjgnhapnndaaW.PrintLast Go.Proofs.YtaofjgnhapnndaaW.PrintMore
set_option linter.unusedVariables false
set_option linter.unusedSimpArgs false
theorem wrap64_id (n : Int) (h : -9223372036854775808 ≤ n ∧ n ≤ 9223372036854775807) : wrap64 n = n := by unfold wrap64; omega
theorem markText_l0_ev : ∀ (n : Nat) (acc : ByteArray), acc.size + n + 2 ≤ 9223372036854775807 → ∃ t, Ev (fun k => laws_markText.l0 k (n : Int) acc) t := by
  intro n
  induction n using Nat.strongRecOn with
  | ind n ih =>
    intro acc hb
    by_cases h0 : n = 0
    · subst h0
      exact ⟨_, Ev.step (fun k => laws_markText.l0.eq_2 _ acc k) (Ev.neg (by decide) (Ev.pos (by omega) (Ev.ret rfl)))⟩
    · have hs : (strOfNums [(wrap64 (48 + (Int.tmod (n : Int) 10))) % 256]).size = 1 := rfl
      obtain ⟨t, ht⟩ := ih (n / 10) (by omega) (strOfNums [(wrap64 (48 + (Int.tmod (n : Int) 10))) % 256] ++ acc) (by rw [ByteArray.size_append, hs]; omega)
      refine ⟨t, Ev.step (fun k => laws_markText.l0.eq_2 _ acc k) (Ev.pos (by omega) (Ev.bind (Ev.ret rfl) (Ev.pos (by rw [hs]; omega) ?_)))⟩
      have e : wrap64 (Int.tdiv (n : Int) 10) = ((n / 10 : Nat) : Int) := by
        have : Int.tdiv (n : Int) 10 = ((n / 10 : Nat) : Int) := rfl
        rw [this]; exact wrap64_id _ (by omega)
      rw [e]
      exact ht
theorem markText_ev (a : Int) (h0 : 0 ≤ a) (h1 : a ≤ 4611686018427387904) : ∃ t, Ev (fun k => laws_markText.f k a) t := by
  unfold laws_markText.f
  by_cases h : a ≤ 0
  · exact ⟨_, Ev.pos h (Ev.ret rfl)⟩
  · obtain ⟨n, rfl⟩ := Int.eq_ofNat_of_zero_le h0
    obtain ⟨t, ht⟩ := markText_l0_ev n ⟨#[]⟩ (by show 0 + n + 2 ≤ _; omega)
    exact ⟨t, Ev.neg h ht⟩
open Classical in
noncomputable def markT (a : Int) : ByteArray := if h : 0 ≤ a ∧ a ≤ 4611686018427387904 then Classical.choose (markText_ev a h.1 h.2) else ⟨#[]⟩
theorem markT_ev {a : Int} (h0 : 0 ≤ a) (h1 : a ≤ 4611686018427387904) : Ev (fun k => laws_markText.f k a) (markT a) := by
  have e : markT a = Classical.choose (markText_ev a h0 h1) := dif_pos ⟨h0, h1⟩
  rw [e]
  exact Classical.choose_spec (markText_ev a h0 h1)
noncomputable def marksL (a : Int) (n : Nat) : List ByteArray := (List.range n).map fun (j : Nat) => markT (a + j)
theorem marksL_len (a : Int) (n : Nat) : (marksL a n).length = n := by simp [marksL]
theorem marksL_at (a : Int) {n i : Nat} (h : i < n) (z : ByteArray) : (marksL a n).getD i z = markT (a + i) := by
  unfold marksL
  rw [List.getD_eq_getElem?_getD, List.getElem?_map, List.getElem?_range h]
  rfl
theorem marksL_set (a : Int) (l : List ByteArray) {i : Nat} (h : i < l.length) : (marksL a i ++ l.drop i).set i (markT (a + i)) = marksL a (i + 1) ++ l.drop (i + 1) := by
  rw [List.set_append_right _ _ (by rw [marksL_len]; omega), marksL_len, Nat.sub_self, List.drop_eq_getElem_cons h, List.set_cons_zero]
  simp [marksL, List.range_succ]
theorem markStringS_ev (l : List ByteArray) (a : Int) (h0 : 0 ≤ a) (h1 : a + l.length ≤ 4611686018427387904) : Ev (fun k => laws_markStringS.f k l a) (a + l.length, marksL a l.length) := by
  have go : ∀ (d i : Nat), l.length - i = d → i ≤ l.length → Ev (fun k => laws_markStringS.l0 k (marksL a i ++ l.drop i) (a + i) (i : Int)) (a + l.length, marksL a l.length) := by
    intro d
    induction d with
    | zero =>
      intro i hd hi
      have e : i = l.length := by omega
      subst e
      refine Ev.step (fun k => laws_markStringS.l0.eq_2 _ _ _ k) (Ev.neg (by rw [List.length_append, marksL_len, List.length_drop]; omega) (Ev.ret ?_))
      rw [List.drop_length, List.append_nil]
    | succ d ih =>
      intro i hd hi
      refine Ev.step (fun k => laws_markStringS.l0.eq_2 _ _ _ k) (Ev.pos (by rw [List.length_append, marksL_len, List.length_drop]; omega) (Ev.bind (markT_ev (by omega) (by omega)) (Ev.pos (by omega) ?_)))
      rw [Int.toNat_natCast, marksL_set a l (by omega), wrap64_id (a + i + 1) (by omega), wrap64_id ((i : Int) + 1) (by omega)]
      have := ih (i + 1) (by omega) (by omega)
      rw [show a + ((i + 1 : Nat) : Int) = a + i + 1 by omega, show ((i + 1 : Nat) : Int) = (i : Int) + 1 by omega] at this
      exact this
  have := go l.length 0 (by omega) (by omega)
  simpa [marksL, laws_markStringS.f] using this
theorem heldStringS_ev (n : Nat) (a : Int) (h0 : 0 ≤ a) (h1 : a + n ≤ 4611686018427387904) : Ev (fun k => laws_heldStringS.f k (marksL a n) a) (a + n) := by
  have go : ∀ (d i : Nat), n - i = d → i ≤ n → Ev (fun k => laws_heldStringS.l0 k (marksL a n) (a + i) (i : Int)) (a + n) := by
    intro d
    induction d with
    | zero =>
      intro i hd hi
      have e : i = n := by omega
      subst e
      exact Ev.step (fun k => laws_heldStringS.l0.eq_2 _ _ _ k) (Ev.neg (by rw [marksL_len]; omega) (Ev.ret rfl))
    | succ d ih =>
      intro i hd hi
      refine Ev.step (fun k => laws_heldStringS.l0.eq_2 _ _ _ k) (Ev.pos (by rw [marksL_len]; omega) (Ev.pos (by omega) (Ev.bind (markT_ev (by omega) (by omega)) (Ev.pos ?_ ?_))))
      · show ((marksL a n).getD (i : Int).toNat _).toList = _
        rw [Int.toNat_natCast, marksL_at a (by omega)]
      · rw [wrap64_id (a + i + 1) (by omega), wrap64_id ((i : Int) + 1) (by omega)]
        have := ih (i + 1) (by omega) (by omega)
        rw [show a + ((i + 1 : Nat) : Int) = a + i + 1 by omega, show ((i + 1 : Nat) : Int) = (i : Int) + 1 by omega] at this
        exact this
  have := go n 0 (by omega) (by omega)
  simpa [laws_heldStringS.f] using this
end Go.Proofs.Ytaofjgnhapnndaa.Q
namespace Go.Proofs.Ytaofjgnhapnndaa.Q
open Go.RowKit Go.Proofs.YtaofjgnhapnndaaW.PrintWords Go.Proofs.YtaofjgnhapnndaaW.PrintLast Go.Proofs.YtaofjgnhapnndaaW.PrintMore
set_option linter.unusedVariables false
set_option linter.unusedSimpArgs false
def wMark (l : List IB) : Nat := (l.map fun b => 1 + b.f1.length + b.f2.length).sum
noncomputable def marksB : Int → List IB → Int × List IB
  | a, [] => (a, [])
  | a, b :: r => ((marksB (a + 1 + b.f1.length + b.f2.length) r).1, ⟨markT a, marksL (a + 1) b.f1.length, marksL (a + 1 + b.f1.length) b.f2.length⟩ :: (marksB (a + 1 + b.f1.length + b.f2.length) r).2)
theorem wMark_cons (b : IB) (r : List IB) : wMark (b :: r) = 1 + b.f1.length + b.f2.length + wMark r := by simp [wMark]
theorem rdT_mid (dn : List IB) (b : IB) (r : List IB) : rd_T56 (dn ++ b :: r) (dn.length : Int) = b := by
  unfold rd_T56
  rw [Int.toNat_natCast, List.getD_eq_getElem?_getD, List.getElem?_append_right (Nat.le_refl _), Nat.sub_self]
  rfl
theorem setT_mid (dn : List IB) (b x : IB) (r : List IB) : (dn ++ b :: r).set dn.length x = (dn ++ [x]) ++ r := by
  rw [List.set_append_right _ _ (Nat.le_refl _), Nat.sub_self]; simp
theorem markBatchS_ev : ∀ (rest dn : List IB) (a : Int), 0 ≤ a → a + wMark rest + dn.length + rest.length ≤ 4611686018427387904 → Ev (fun k => laws_markShareBatchS.l0 k (dn ++ rest) a (dn.length : Int)) ((marksB a rest).1, dn ++ (marksB a rest).2) := by
  intro rest
  induction rest with
  | nil =>
    intro dn a h0 h1
    exact Ev.step (fun k => laws_markShareBatchS.l0.eq_2 _ _ _ k) (Ev.neg (by simp) (Ev.ret rfl))
  | cons b r ih =>
    intro dn a h0 h1
    rw [wMark_cons, List.length_cons] at h1
    refine Ev.step (fun k => laws_markShareBatchS.l0.eq_2 _ _ _ k) (Ev.pos (by simp; omega) (Ev.pos (by omega) (Ev.bind (markT_ev h0 (by omega)) ?_)))
    rw [rdT_mid, wrap64_id (a + 1) (by omega), wrap64_id ((dn.length : Int) + 1) (by omega), Int.toNat_natCast]
    refine Ev.bind (markStringS_ev b.f1 (a + 1) (by omega) (by omega)) (Ev.bind (markStringS_ev b.f2 (a + 1 + b.f1.length) (by omega) (by omega)) ?_)
    dsimp only
    rw [setT_mid]
    have := ih (dn ++ [⟨markT a, marksL (a + 1) b.f1.length, marksL (a + 1 + b.f1.length) b.f2.length⟩]) (a + 1 + b.f1.length + b.f2.length) (by omega) (by simp only [List.length_append, List.length_singleton]; omega)
    rw [show ((dn ++ [(⟨markT a, marksL (a + 1) b.f1.length, marksL (a + 1 + b.f1.length) b.f2.length⟩ : IB)]).length : Int) = (dn.length : Int) + 1 by simp] at this
    exact Ev.sub this (by simp [marksB])
theorem heldBatchS_ev : ∀ (rest dn : List IB) (a : Int), 0 ≤ a → a + wMark rest + dn.length + rest.length ≤ 4611686018427387904 → Ev (fun k => laws_heldShareBatchS.l0 k (dn ++ (marksB a rest).2) a (dn.length : Int)) (marksB a rest).1 := by
  intro rest
  induction rest with
  | nil =>
    intro dn a h0 h1
    exact Ev.step (fun k => laws_heldShareBatchS.l0.eq_2 _ _ _ k) (Ev.neg (by simp [marksB]) (Ev.ret rfl))
  | cons b r ih =>
    intro dn a h0 h1
    rw [wMark_cons, List.length_cons] at h1
    simp only [marksB]
    refine Ev.step (fun k => laws_heldShareBatchS.l0.eq_2 _ _ _ k) (Ev.pos (by simp; omega) (Ev.pos (by omega) (Ev.bind (markT_ev h0 (by omega)) ?_)))
    rw [rdT_mid, wrap64_id (a + 1) (by omega), wrap64_id ((dn.length : Int) + 1) (by omega)]
    refine Ev.pos rfl (Ev.bind (heldStringS_ev b.f1.length (a + 1) (by omega) (by omega)) (Ev.neg (by omega) (Ev.bind (heldStringS_ev b.f2.length (a + 1 + b.f1.length) (by omega) (by omega)) (Ev.neg (by omega) ?_))))
    have := ih (dn ++ [⟨markT a, marksL (a + 1) b.f1.length, marksL (a + 1 + b.f1.length) b.f2.length⟩]) (a + 1 + b.f1.length + b.f2.length) (by omega) (by simp only [List.length_append, List.length_singleton]; omega)
    rw [show ((dn ++ [(⟨markT a, marksL (a + 1) b.f1.length, marksL (a + 1 + b.f1.length) b.f2.length⟩ : IB)]).length : Int) = (dn.length : Int) + 1 by simp, List.append_assoc, List.singleton_append] at this
    exact this
end Go.Proofs.Ytaofjgnhapnndaa.Q
namespace Go.Proofs.Ytaofjgnhapnndaa.Q
open Go.RowKit Go.Proofs.YtaofjgnhapnndaaW.PrintWords Go.Proofs.YtaofjgnhapnndaaW.PrintLast Go.Proofs.YtaofjgnhapnndaaW.PrintMore
set_option linter.unusedVariables false
set_option linter.unusedSimpArgs false
def atI (bs : List IB) (n : ByteArray) : Int := idxI (fun s => s.toList == n.toList) bs 0
theorem spec_l1At_ev (ts : List ByteArray) (bs : List IB) (n : ByteArray) (hl : bs.length ≤ 9223372036854775807) : Ev (fun k => spec_l1At.f k ts bs n) (atI bs n) := by
  unfold spec_l1At.f atI
  refine Ev.loop (f := fun k i => spec_l1At.l0 k n (i : Int) ts bs) (val := fun i => idxI (fun s => s.toList == n.toList) bs i) bs.length ?_ ?_ 0 (by omega)
  · simp only [idxI_end]
    exact Ev.step (fun k => spec_l1At.l0.eq_2 n _ ts bs k) (Ev.neg (by omega) (Ev.ret rfl))
  · intro i hi H
    simp only [idxI_step (fun s => s.toList == n.toList) hi]
    refine Ev.step (fun k => spec_l1At.l0.eq_2 n _ ts bs k) (Ev.pos (by omega) (Ev.pos (by omega) ?_))
    rw [rdB_cast, wrap_up hi hl]
    refine Ev.prop (fun h => Ev.ret (by rw [if_pos (beq_iff_eq.mpr h)])) (fun h => Ev.sub H (by rw [if_neg (fun e => h (beq_iff_eq.mp e))]))
end Go.Proofs.Ytaofjgnhapnndaa.Q
namespace Go.Proofs.Ytaofjgnhapnndaa.Q
open Go.RowKit Go.Proofs.YtaofjgnhapnndaaW.PrintWords Go.Proofs.YtaofjgnhapnndaaW.PrintLast Go.Proofs.YtaofjgnhapnndaaW.PrintMore
set_option linter.unusedVariables false
set_option linter.unusedSimpArgs false
theorem marksB_fst : ∀ (l : List IB) (a : Int), (marksB a l).1 = a + wMark l
  | [], a => by simp [marksB, wMark]
  | b :: r, a => by
    simp only [marksB, wMark_cons]
    rw [marksB_fst r]; omega
theorem wMark_le : ∀ (bs : List LB), wMark (bs.map toB) ≤ bs.length + sumL bs
  | [] => by simp [wMark]
  | b :: r => by
    have h := wMark_le r
    rw [List.map_cons, wMark_cons, List.length_cons, show sumL (b :: r) = wL b + sumL r by simp [sumL]]
    have : (toB b).f1.length + (toB b).f2.length ≤ wL b := by unfold wL wS toB; simp only; omega
    omega
theorem wBook_of {ts : List ByteArray} {bs : List LB} {a : Int} (ha : a = 1048576 - (wBook ts bs : Int)) (h0 : 0 ≤ a) : wBook ts bs ≤ 1048576 := by omega
end Go.Proofs.Ytaofjgnhapnndaa.Q
namespace Go.Proofs.Ytaofjgnhapnndaa.Q
open Go.RowKit Go.Proofs.YtaofjgnhapnndaaW.PrintWords Go.Proofs.YtaofjgnhapnndaaW.PrintLast Go.Proofs.YtaofjgnhapnndaaW.PrintMore
set_option linter.unusedVariables false
set_option linter.unusedSimpArgs false
theorem len_of_wS {l : List ByteArray} {n : Nat} (h : wS l ≤ n) : l.length ≤ n := by unfold wS at h; omega
theorem le_sum_map {α : Type} (f : α → Nat) : ∀ {l : List α} {x : α}, x ∈ l → f x ≤ (l.map f).sum
  | a :: l, x, h => by
    rw [List.map_cons, List.sum_cons]
    rcases List.mem_cons.1 h with rfl | h
    · omega
    · have := le_sum_map f h; omega
theorem size_of_wS {l : List ByteArray} {n : Nat} (h : wS l ≤ n) : ∀ s ∈ l, s.size ≤ n := fun s hs => by
  have := le_sum_map ByteArray.size hs
  unfold wS sumS at h
  omega
structure Sm (n : Nat) (ts : List ByteArray) (bs : List LB) : Prop where
  lt : ts.length ≤ n
  lb : bs.length ≤ n
  b1 : ∀ b ∈ bs, b.f1.length ≤ n
  b2 : ∀ b ∈ bs, b.f2.length ≤ n
  s0 : ∀ s ∈ ts, s.size ≤ n
  s1 : ∀ b ∈ bs, b.f0.size ≤ n
  s2 : ∀ b ∈ bs, ∀ s ∈ b.f1, s.size ≤ n
  s3 : ∀ b ∈ bs, ∀ s ∈ b.f2, s.size ≤ n
theorem Sm.of {n : Nat} {ts : List ByteArray} {bs : List LB} (h : wBook ts bs ≤ n) : Sm n ts bs := by
  have hw : ∀ b ∈ bs, wL b ≤ n := fun b hb => by
    have := le_sum_map wL hb
    unfold wBook sumL at h
    omega
  refine ⟨len_of_wS (by unfold wBook at h; omega), by unfold wBook at h; omega, fun b hb => ?_, fun b hb => ?_, size_of_wS (by unfold wBook at h; omega), fun b hb => ?_, fun b hb => ?_, fun b hb => ?_⟩
  · have := hw b hb; unfold wL at this; exact len_of_wS (by omega)
  · have := hw b hb; unfold wL at this; exact len_of_wS (by omega)
  · have := hw b hb; unfold wL at this; omega
  · have := hw b hb; unfold wL at this; exact size_of_wS (by omega)
  · have := hw b hb; unfold wL at this; exact size_of_wS (by omega)
theorem Sm.bok {n : Nat} {ts : List ByteArray} {bs : List LB} (h : Sm n ts bs) (hn : n ≤ 9223372036854775807) : Bok (bs.map toB) := fun b hb => by
  obtain ⟨c, hc, rfl⟩ := List.mem_map.1 hb
  exact ⟨Nat.le_trans (h.b1 c hc) hn, Nat.le_trans (h.b2 c hc) hn⟩
theorem counted {ts : List ByteArray} {bs : List LB} (hi : Inok ts bs) {f : Nat → Int → Option Bool}
    (h : ∀ a, a = 1048576 - (wBook ts bs : Int) → 0 ≤ a → Sm 1048576 ts bs → Ev (fun k => f k a) true) :
    Ev (fun k => (laws_szShareBook.f k ts bs 1048576).bind fun t => if t < 0 then some true else f k t) true := by
  refine Ev.bind (szShareBook_ev ts bs 1048576 hi (by omega) (by omega)) ?_
  refine Ev.prop (fun _ => Ev.ret rfl) (fun h2 => ?_)
  obtain ⟨h3, h4⟩ := left_pos h2
  exact h _ h4 (by omega) (Sm.of (by omega))
theorem Sm.to_ev {ts : List ByteArray} {bs : List LB} (h : Sm 1048576 ts bs) : Ev (fun k => laws_toShareBook.f k ts bs) (ts, bs.map toB) :=
  toShareBook_ev ts bs (by have := h.lt; omega) (by have := h.lb; omega) (fun b hb => ⟨by have := h.b1 b hb; omega, by have := h.b2 b hb; omega⟩)
theorem Sm.eq_ev {ts : List ByteArray} {bs : List LB} (h : Sm 1048576 ts bs) : Ev (fun k => laws_eqShareBook.f k ts (bs.map toB) ts (bs.map toB)) true :=
  eqShareBook_ev ts _ (by have := h.lt; omega) (by have := h.lb; simp; omega) (h.bok (by omega))
end Go.Proofs.Ytaofjgnhapnndaa.Q
namespace Go.Proofs.Ytaofjgnhapnndaa.Q
open Go.RowKit Go.Proofs.YtaofjgnhapnndaaW.PrintWords Go.Proofs.YtaofjgnhapnndaaW.PrintLast Go.Proofs.YtaofjgnhapnndaaW.PrintMore
set_option linter.unusedVariables false
set_option linter.unusedSimpArgs false
def Bz (ts : List ByteArray) (bs : List IB) : Prop := ts.length + wMark bs ≤ 8388608
theorem wMark_mem {bs : List IB} {b : IB} (h : b ∈ bs) : 1 + b.f1.length + b.f2.length ≤ wMark bs := by
  unfold wMark; exact le_sum_map (fun b => 1 + b.f1.length + b.f2.length) h
theorem wMark_len : ∀ bs : List IB, bs.length ≤ wMark bs
  | [] => by simp [wMark]
  | b :: r => by have := wMark_len r; rw [wMark_cons, List.length_cons]; omega
theorem Bz.ts {ts : List ByteArray} {bs : List IB} (h : Bz ts bs) : ts.length ≤ 8388608 := by unfold Bz at h; omega
theorem Bz.bs {ts : List ByteArray} {bs : List IB} (h : Bz ts bs) : bs.length ≤ 8388608 := by have := wMark_len bs; unfold Bz at h; omega
theorem Bz.mem {ts : List ByteArray} {bs : List IB} (h : Bz ts bs) {b : IB} (hb : b ∈ bs) : b.f1.length ≤ 8388608 ∧ b.f2.length ≤ 8388608 := by have := wMark_mem hb; unfold Bz at h; omega
theorem Bz.bok {ts : List ByteArray} {bs : List IB} (h : Bz ts bs) : Bok bs := fun b hb => by have := h.mem hb; omega
theorem gB_mem {bs : List IB} {i : Nat} (h : i < bs.length) : gB bs i ∈ bs := by unfold gB; rw [getD_lt bs _ h]; exact List.getElem_mem h
theorem Bz.at_ {ts : List ByteArray} {bs : List IB} (h : Bz ts bs) {i : Nat} (hi : i < bs.length) : (gB bs i).f1.length ≤ 8388608 ∧ (gB bs i).f2.length ≤ 8388608 := h.mem (gB_mem hi)
theorem l1Names_ev (l : List ByteArray) (h : l.length ≤ 8388608) : Ev (fun _ => spec_l1Names.f l) l := by
  unfold spec_l1Names.f
  exact Ev.bind (Ev.ret rfl) (Ev.pos (by simp only [List.length_nil]; omega) (Ev.ret rfl))
theorem clone_ev (l : List ByteArray) (h : l.length ≤ 8388608) : Ev (fun _ => slices_Clone_string_string.f l) l := by
  unfold slices_Clone_string_string.f
  exact Ev.pos (by omega) (Ev.ret rfl)
theorem take_gB {bs : List IB} {i : Nat} (h : i < bs.length) : bs.take i ++ [gB bs i] = bs.take (i + 1) := by
  rw [List.take_succ_eq_append_getElem h]; unfold gB; rw [getD_lt bs _ h]
theorem spec_l1Copy_ev (ts : List ByteArray) (bs : List IB) (h : Bz ts bs) : Ev (fun k => spec_l1Copy.f k ts bs) (ts, bs) := by
  unfold spec_l1Copy.f
  have hl := h.bs
  have go : ∀ (d i : Nat), bs.length - i = d → i ≤ bs.length → Ev (fun k => spec_l1Copy.l0 k (i : Int) ts bs ts (bs.take i)) (ts, bs) := by
    intro d
    induction d with
    | zero =>
      intro i hd hi
      refine Ev.step (fun k => spec_l1Copy.l0.eq_2 _ _ _ _ _ k) (Ev.neg (by omega) (Ev.ret ?_))
      rw [List.take_of_length_le (by omega)]
    | succ d ih =>
      intro i hd hi
      have hlt : i < bs.length := by omega
      refine Ev.step (fun k => spec_l1Copy.l0.eq_2 _ _ _ _ _ k) (Ev.pos (by omega) (Ev.pos (by omega) ?_))
      rw [rdB_cast, wrap_up hlt (by omega)]
      refine Ev.bind (l1Names_ev _ (h.at_ hlt).1) (Ev.bind (l1Names_ev _ (h.at_ hlt).2) (Ev.pos (by rw [List.length_take]; omega) ?_))
      have := ih (i + 1) (by omega) (by omega)
      rw [← take_gB hlt] at this
      exact this
  exact Ev.bind (l1Names_ev ts h.ts) (go bs.length 0 (by omega) (by omega))
theorem impl_copyBook_ev (ts : List ByteArray) (bs : List IB) (h : Bz ts bs) : Ev (fun k => impl_copyBook.f k ts bs) (ts, bs) := by
  unfold impl_copyBook.f
  have hl := h.bs
  have go : ∀ (d i : Nat), bs.length - i = d → i ≤ bs.length → Ev (fun k => impl_copyBook.l0 k bs (bs.length : Int) (i : Int) ts (bs.take i)) (ts, bs) := by
    intro d
    induction d with
    | zero =>
      intro i hd hi
      refine Ev.step (fun k => impl_copyBook.l0.eq_2 _ _ _ _ _ k) (Ev.neg (by omega) (Ev.ret ?_))
      rw [List.take_of_length_le (by omega)]
    | succ d ih =>
      intro i hd hi
      have hlt : i < bs.length := by omega
      refine Ev.step (fun k => impl_copyBook.l0.eq_2 _ _ _ _ _ k) (Ev.pos (by omega) (Ev.pos (by omega) (Ev.pos (by omega) ?_)))
      rw [rdB_cast, wrap_up hlt (by omega)]
      refine Ev.bind (clone_ev _ (h.at_ hlt).1) (Ev.bind (clone_ev _ (h.at_ hlt).2) (Ev.pos (by rw [List.length_take]; omega) ?_))
      have := ih (i + 1) (by omega) (by omega)
      rw [← take_gB hlt] at this
      exact this
  exact Ev.bind (clone_ev ts h.ts) (go bs.length 0 (by omega) (by omega))
theorem markB_ev {ts : List ByteArray} {bs : List IB} (h : Bz ts bs) : Ev (fun k => laws_markShareBook.fB k ts bs 1) (1 + ts.length + wMark bs, marksL 1 ts.length, (marksB (1 + ts.length) bs).2) := by
  have h1 := h
  have h2 := wMark_len bs
  unfold Bz at h1
  unfold laws_markShareBook.fB laws_markShareBatchS.f
  have e := markBatchS_ev bs [] (1 + ts.length) (by omega) (by simp only [List.length_nil]; omega)
  refine Ev.bind (markStringS_ev ts 1 (by omega) (by omega)) (Ev.bind e (Ev.ret ?_))
  rw [marksB_fst]; rfl
theorem heldB_ev {ts : List ByteArray} {bs : List IB} (h : Bz ts bs) : Ev (fun k => laws_heldShareBook.f k (marksL 1 ts.length) (marksB (1 + ts.length) bs).2 1) (1 + ts.length + wMark bs) := by
  have h1 := h
  have h2 := wMark_len bs
  unfold Bz at h1
  unfold laws_heldShareBook.f laws_heldShareBatchS.f
  have e := heldBatchS_ev bs [] (1 + ts.length) (by omega) (by simp only [List.length_nil]; omega)
  rw [marksB_fst] at e
  exact Ev.bind (heldStringS_ev ts.length 1 (by omega) (by omega)) (Ev.neg (by omega) (Ev.bind e (Ev.neg (by omega) (Ev.ret rfl))))
theorem Bz.eq_ev {ts : List ByteArray} {bs : List IB} (h : Bz ts bs) : Ev (fun k => laws_eqShareBook.f k ts bs ts bs) true :=
  eqShareBook_ev ts bs (by have := h.ts; omega) (by have := h.bs; omega) (fun b hb => by have := h.mem hb; omega)
theorem Bz.of {ts : List ByteArray} {bs : List LB} (hw : wBook ts bs ≤ 1048576) : ts.length + wMark (bs.map toB) ≤ 1048576 := by
  have := wMark_le bs
  unfold wBook wS at hw; omega
theorem Bz.nil : Bz [] [] := by simp [Bz, wMark]
theorem ne_Bz {ts : List ByteArray} {bs : List IB} (h : ts.length + wMark bs ≤ 1048576) : Bz ts bs := by unfold Bz; omega
end Go.Proofs.Ytaofjgnhapnndaa.Q
namespace Go.Proofs.Ytaofjgnhapnndaa.Q
open Go.RowKit Go.Proofs.YtaofjgnhapnndaaW.PrintWords Go.Proofs.YtaofjgnhapnndaaW.PrintLast Go.Proofs.YtaofjgnhapnndaaW.PrintMore
set_option linter.unusedVariables false
set_option linter.unusedSimpArgs false
def leaveB (ts : List ByteArray) (bs : List IB) (n : ByteArray) : List ByteArray × List IB × Int :=
  if bookB ts bs = true then (if atI bs n < 0 then (ts, bs, 3) else (ts, bs.eraseIdx (atI bs n).toNat, 0)) else ([], [], 1)
theorem atI_is (bs : List IB) (n : ByteArray) (h : ¬ atI bs n < 0) : ∃ i : Nat, atI bs n = (i : Int) ∧ i < bs.length := by
  unfold atI idxI at h ⊢
  cases hf : findR (fun i => (fun s => s.toList == n.toList) (gB bs i).f0) bs.length 0 with
  | none => rw [hf] at h; simp at h
  | some i => exact ⟨i, by simp, (findR_lt hf).2.1⟩
theorem wMark_erase : ∀ (bs : List IB) (i : Nat), wMark (bs.eraseIdx i) ≤ wMark bs
  | [], i => by simp
  | b :: r, 0 => by rw [List.eraseIdx_zero, List.tail_cons, wMark_cons]; omega
  | b :: r, i + 1 => by have := wMark_erase r i; rw [List.eraseIdx_cons_succ, wMark_cons, wMark_cons]; omega
theorem leaveB_z {ts : List ByteArray} {bs : List IB} (n : ByteArray) (h : Bz ts bs) : Bz (leaveB ts bs n).1 (leaveB ts bs n).2.1 := by
  unfold leaveB
  split
  · split
    · exact h
    · have := wMark_erase bs (atI bs n).toNat
      unfold Bz at h ⊢; dsimp only; omega
  · exact Bz.nil
theorem spec_ShareLeave_ev (ts : List ByteArray) (bs : List IB) (n : ByteArray) (h : Bz ts bs) : Ev (fun k => spec_ShareLeave.f k ts bs n) (leaveB ts bs n) := by
  have hl := h.bs
  unfold spec_ShareLeave.f leaveB
  refine Ev.bind (spec_ShareBookOk_ev ts bs (by have := h.ts; omega) (by omega) h.bok) (Ev.test _ (fun hb => ?_) (fun hb => Ev.ret (by simp [hb])))
  rw [if_pos hb]
  refine Ev.bind (spec_l1Copy_ev ts bs h) (Ev.bind (spec_l1At_ev ts bs n (by omega)) ?_)
  refine Ev.prop (fun hc => Ev.ret (by rw [if_pos hc])) (fun hc => ?_)
  rw [if_neg hc]
  obtain ⟨i, e, hi⟩ := atI_is bs n hc
  rw [e, Int.toNat_natCast, wrap_up hi (by omega)]
  dsimp only
  refine Ev.bind (Ev.ret rfl) (Ev.pos (by omega) (Ev.pos (by omega) (Ev.bind (Ev.ret rfl) (Ev.pos (by simp only [List.length_nil, List.length_take]; omega) (Ev.bind (Ev.ret rfl) (Ev.pos (by omega) (Ev.pos (by omega) (Ev.bind (Ev.ret rfl) (Ev.pos (by simp only [List.nil_append, List.length_take, List.length_drop]; omega) (Ev.ret ?_))))))))))
  rw [List.nil_append, Int.toNat_natCast, List.eraseIdx_eq_take_drop_succ]
theorem impl_ShareLeave_ev (ts : List ByteArray) (bs : List IB) (n : ByteArray) (h : Bz ts bs) : Ev (fun k => impl_ShareLeave.f k ts bs n) (leaveB ts bs n) := by
  have hl := h.bs
  unfold impl_ShareLeave.f leaveB
  refine Ev.bind (impl_ShareBookOk_ev ts bs (by have := h.ts; omega) (by omega) h.bok) (Ev.test _ (fun hb => ?_) (fun hb => Ev.ret (by simp [hb])))
  rw [if_pos hb]
  refine Ev.bind (impl_copyBook_ev ts bs h) (Ev.bind (Ev.ret (s := atI bs n) rfl) ?_)
  refine Ev.prop (fun hc => Ev.ret (by rw [if_pos hc])) (fun hc => ?_)
  rw [if_neg hc]
  obtain ⟨i, e, hi⟩ := atI_is bs n hc
  rw [e, Int.toNat_natCast]
  exact Ev.pos ⟨hi, by dsimp only; omega⟩ (Ev.ret rfl)
end Go.Proofs.Ytaofjgnhapnndaa.Q
namespace Go.Proofs.Ytaofjgnhapnndaa.Q
open Go.RowKit Go.Proofs.YtaofjgnhapnndaaW.PrintWords Go.Proofs.YtaofjgnhapnndaaW.PrintLast Go.Proofs.YtaofjgnhapnndaaW.PrintMore
set_option linter.unusedVariables false
set_option linter.unusedSimpArgs false
theorem FnExactShareLeave_pure (ts : List ByteArray) (bs : List LB) (n : ByteArray) (hi : Inok ts bs) (hs : n.size ≤ 140737488351232) : ∃ k, laws_FnExactShareLeave.f k ts bs n = some true := by
  refine Ev.rounds (g := fun k => laws_FnExactShareLeave.f k ts bs n) ?_
  unfold laws_FnExactShareLeave.f
  refine Ev.prop (fun _ => Ev.ret rfl) (fun _ => ?_)
  refine counted hi fun a ha h0 h => ?_
  unfold laws_FnExactShareLeave.t
  have hx := ne_Bz (Bz.of (wBook_of ha h0))
  have hg := leaveB_z n hx
  have hsp := spec_ShareLeave_ev ts (bs.map toB) n hx
  have him := impl_ShareLeave_ev ts (bs.map toB) n hx
  have heq := hg.eq_ev
  have hm := markB_ev hg
  have hh := heldB_ev hg
  have hp : (0 : Int) ≤ 1 + ts.length + wMark (bs.map toB) := by omega
  have hq : (0 : Int) ≤ 1 + (leaveB ts (bs.map toB) n).1.length + wMark (leaveB ts (bs.map toB) n).2.1 := by omega
  refine Ev.bind h.to_ev (Ev.bind hsp (Ev.bind h.to_ev (Ev.bind him (Ev.bind heq (Ev.pos ⟨rfl, rfl⟩ (Ev.bind h.to_ev (Ev.bind h.eq_ev (Ev.pos rfl ?_))))))))
  refine Ev.bind (markB_ev hx) (Ev.pos hp (Ev.bind heq (Ev.pos rfl (Ev.bind hm (Ev.bind hh (Ev.pos ⟨hq, rfl⟩ ?_))))))
  exact Ev.bind h.to_ev (Ev.bind him (Ev.bind heq (Ev.pos ⟨rfl, rfl⟩ (Ev.bind hh (Ev.pos ⟨hq, rfl⟩ (Ev.ret rfl))))))
end Go.Proofs.Ytaofjgnhapnndaa.Q
