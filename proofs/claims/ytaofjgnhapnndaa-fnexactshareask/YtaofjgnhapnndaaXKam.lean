/- Texts that the row needs: words on memory and rows, the contracts of the functions it reaches, and the plain lemmas on what they compute. -/
import Derived.Below
import Derived.Deep.Draws
import Derived.Deep.AppendLies
import Derived.Maps.AppendAt
import Derived.OwnWalk
import Derived.Laws.BytesArg
import Derived.Laws.MakeOwn
import Derived.Laws.OwnMore
import Derived.Deep.OwnRows
import Derived.Tactics
import Derived.Lib.ConvBytes
import Derived.Laws.Slices
import Derived.WalkKit
import Derived.KernelRfl
import Derived.RowKit3
import Derived.Deep.LoopGhost
import Derived.Deep.QuietTactic
import Derived.BigQuiet
import Derived.WideLaws
import Derived.Deep.DeepCutAuto
import Derived.Deep.CutBlock
import Derived.Deep.RegionHeld3
import Derived.Laws.Rows
import Derived.Lib.AppendStr
import Derived.ArgAppend
import Derived.Laws.IdiomCopy
import Derived.RowKit
import Derived.OrdersHeld
import Derived.Laws.BitsLemmas
import Derived.Laws.StructEq
import Derived.Test.YtaofjgnhapnndaaProg
import Derived.WalkLawsBesides
import Derived.Deep.RegionLaw
import Derived.Test.YtaofjgnhapnndaaRows
import Derived.ProofKit
import Derived.Shelf.Slices.Cells
import Derived.Shelf.Bodies
import Derived.Ground.NamesProg
import Derived.Shelf.Sort.Plain
import Derived.Shelf.Slices.In.SortNone2
import Derived.Shelf.Abstract
import Derived.Lib.SliceRun
import Derived.Shelf.GgSortFunc.SmallK
import Derived.Shelf.GgSortFunc.Tiny
import Derived.Ground.GgsProg
import Derived.Test.YtaofjgnhapnndaaXKaa
import Derived.Test.YtaofjgnhapnndaaXKab
import Derived.Test.YtaofjgnhapnndaaXKac
import Derived.Test.YtaofjgnhapnndaaXKad
import Derived.Test.YtaofjgnhapnndaaXKae
import Derived.Test.YtaofjgnhapnndaaXKaf
import Derived.Test.YtaofjgnhapnndaaXKag
import Derived.Test.YtaofjgnhapnndaaXKah
import Derived.Test.YtaofjgnhapnndaaXKai
import Derived.Test.YtaofjgnhapnndaaXKaj
import Derived.Test.YtaofjgnhapnndaaXKak
import Derived.Test.YtaofjgnhapnndaaXKal
open Go.Proofs.YtaofjgnhapnndaaFK
namespace Go.Proofs.Ytaofjgnhapnndaa.Q
open Go.RowKit Go.Proofs.YtaofjgnhapnndaaW.PrintWords Go.Proofs.YtaofjgnhapnndaaW.PrintLast Go.Proofs.YtaofjgnhapnndaaW.PrintMore
set_option linter.unusedVariables false
set_option linter.unusedSimpArgs false
theorem run_clear_one (w : World) (t e ty : TypeId) (z : Value) (u0 u1 u2 : Value) (ht : Try.prog.underlying t = some (.slice e)) (hv : ∀ w, (zeroValue e).run Try.prog w = .ok z w) (hz : z.cells = #[u0, u1, u2]) (h1 : ∀ u ∈ [u0, u1, u2], u.oneCell' = true) (b o c : Nat)
  (hc : ∀ j, j < 3 → (w.cell? ⟨b, o + j, none⟩).isSome = true) (hf : ∀ j, j < 3 → w.frozen? ⟨b, o + j, none⟩ = false) :
  (Builtin.clear_ #[t] ty #[.slice (some ⟨b, o, none⟩) 1 c]).run Try.prog w = .ok (.tuple #[]) (w.setCells b o [u0, u1, u2]) := by
 have hzc : (Builtin.zeroCells z.cells 1).toList = [u0, u1, u2] := by
  rw [hz]
  simp only [Builtin.zeroCells]
  simp
  apply List.ext_getElem
  ·simp
  ·intro i h1 h2
   simp only [List.length_cons, List.length_nil] at h2
   obtain rfl | rfl | rfl : i = 0 ∨ i = 1 ∨ i = 2 := by omega
   all_goals simp
 have hst := run_storeCells_cells (P := Try.prog) b o [u0, u1, u2] 0 w (by simpa using hc) (by simpa using hf) h1
 simp only [Nat.add_zero] at hst
 simp [Builtin.clear_, run_underlying ht, hv, hzc, hst]
theorem dl_ne (i : Nat) : ((i : Int) == (i : Int) + 1) = false := beq_eq_false_iff_ne.2 (fun e => by omega)
theorem dl_p1 {i n : Nat} (h : i < n) : (i : Int) + 1 ≤ (n : Int) := by omega
theorem dl_wr {i n c : Nat} (h : i < n) (hn : n ≤ c) (hc : c ≤ 9223372036854775807) : wrap64 ((i : Int) + 1) = (i : Int) + 1 := by unfold wrap64; omega
theorem dl_room {i n c : Nat} (h : i < n) (hn : n ≤ c) : i + (n - (i + 1)) ≤ c := by omega
theorem S_cut {w w' : World} {base : Nat} {P : Nat → Prop} {g cap i : Nat} {xs : List S56} {f : Nat → Nat} {inner : List Value} {cur' : Array Value} (hi : i < xs.length)
  (h0 : P g) (hb : base ≤ g) (hn : xs.length ≤ cap) (hm : cap ≤ maxLen) (hr : Reps ((Kd.tag f k56).M w base (fun k => P k ∧ some k ≠ some g)) 3 xs.zipIdx inner)
  (hH : w'.heap[g]? = some (.cells cur' 56 (0, 0))) (hs : cur'.size = cap * 3) (ht : cur'.toList.take ((xs.length - 1) * 3) = inner.take (i * 3) ++ inner.drop ((i + 1) * 3))
  (hK : Kept w w' (fun k => k = g)) : Kd.S k56 56 w' base P (.slice (some ⟨g, 0, none⟩) (xs.length - 1) cap) (xs.eraseIdx i) := by
 have hl : (xs.eraseIdx i).length = xs.length - 1 := List.length_eraseIdx_of_lt hi
 have hil : inner.length = xs.length * 3 := by have := hr.1; rwa [List.length_zipIdx] at this
 refine ⟨fun k => if i < f k then f k - 1 else f k, fun k hk => by (have e : g = k := by simpa [Value.ownBlock] using hk); subst e; exact h0, inner.take (i * 3) ++ inner.drop ((i + 1) * 3), ⟨?_, ?_⟩, ?_, ?_⟩
 ·rw [List.length_append, List.length_take, List.length_drop, List.length_zipIdx, hl, hil]
  show _ = (xs.length - 1) * 3
  omega
 ·refine .inr ⟨g, cap, cur', ?_, hb, hH, ?_, hm, hs, ?_⟩
  ·rw [List.length_zipIdx, hl]
  ·rw [List.length_zipIdx, hl]; omega
  ·rw [List.length_zipIdx, hl]; exact ht
 ·rw [List.length_append, List.length_take, List.length_drop, List.length_zipIdx, hl, hil]
  show _ = (xs.length - 1) * 3
  omega
 ·intro j p hj
  rw [List.getElem?_zipIdx] at hj
  obtain ⟨x, hx, rfl⟩ := Option.map_eq_some_iff.mp hj
  have hjl : j < (xs.eraseIdx i).length := (List.getElem?_eq_some_iff.1 hx).1
  rw [List.getElem?_eraseIdx] at hx
  by_cases hji : j < i
  ·rw [if_pos hji] at hx
   have hM := hr.2 j (x, j) (Kd.zip_at hx)
   have e : ((inner.take (i * 3) ++ inner.drop ((i + 1) * 3)).drop (j * 3)).take 3 = (inner.drop (j * 3)).take 3 := by
    rw [List.drop_append_of_le_length (by rw [List.length_take, hil]; omega), List.take_append_of_le_length (by rw [List.length_drop, List.length_take, hil]; omega), List.drop_take, List.take_take, Nat.min_eq_left (by omega)]
   show (Kd.tag _ _).M _ _ _ _ (((inner.take (i * 3) ++ inner.drop ((i + 1) * 3)).drop (j * 3)).take 3)
   rw [e]
   refine (Kd.tag _ k56).M_mono (ok := fun k => (P k ∧ some k ≠ some g) ∧ f k = j) (fun k hk => ?_) (Kd.M_step (d := Kd.tag _ k56) (w := w) ?_ (fun k hk hlt => hK.2 k hlt (fun e => hk.1.2 (by rw [e]))))
   ·exact ⟨hk.1.1, fun e => hk.1.2 (by simpa [Value.ownBlock] using e)⟩
   ·refine k56.M_mono (fun k hk => ⟨⟨hk.1, hk.2⟩, ?_⟩) hM
    have := hk.2
    show (if i < f k then f k - 1 else f k) = _
    simp only at this
    rw [this, if_neg (by omega)]; omega
  ·rw [if_neg hji] at hx
   have hM := hr.2 (j + 1) (x, j + 1) (Kd.zip_at hx)
   have e : ((inner.take (i * 3) ++ inner.drop ((i + 1) * 3)).drop (j * 3)).take 3 = (inner.drop ((j + 1) * 3)).take 3 := by
    rw [List.drop_append, List.drop_eq_nil_of_le (by rw [List.length_take, hil]; omega), List.nil_append, List.length_take, hil, Nat.min_eq_left (by omega), List.drop_drop]
    congr 2; omega
   show (Kd.tag _ _).M _ _ _ _ (((inner.take (i * 3) ++ inner.drop ((i + 1) * 3)).drop (j * 3)).take 3)
   rw [e]
   refine (Kd.tag _ k56).M_mono (ok := fun k => (P k ∧ some k ≠ some g) ∧ f k = j + 1) (fun k hk => ?_) (Kd.M_step (d := Kd.tag _ k56) (w := w) ?_ (fun k hk hlt => hK.2 k hlt (fun e => hk.1.2 (by rw [e]))))
   ·exact ⟨hk.1.1, fun e => hk.1.2 (by simpa [Value.ownBlock] using e)⟩
   ·refine k56.M_mono (fun k hk => ⟨⟨hk.1, hk.2⟩, ?_⟩) hM
    have := hk.2
    show (if i < f k then f k - 1 else f k) = _
    simp only at this
    rw [this, if_pos (by omega)]; omega
set_option maxHeartbeats 4000000 in
set_option maxRecDepth 1000000 in
theorem slices_Delete.one (w0 w : World) (P : Nat → Prop) (A : Option Addr) (c : Nat) (xs : List S56) (i : Nat) (hi : i < xs.length) (hB : Below w0.heap.size w0 w) (h : Kd.S k56 56 w w0.heap.size P (.slice A xs.length c) xs) :
  Calls Try.prog 91 #[.slice A xs.length c, .int .i64 i, .int .i64 ((i : Int) + 1)] w fun e w' => e = .returned (.slice A (xs.length - 1) c) ∧ Kd.S k56 56 w' w0.heap.size P (.slice A (xs.length - 1) c) (xs.eraseIdx i) ∧ Below w0.heap.size w0 w' ∧ Kept w w' P := by
 obtain ⟨f, h0, inner, ho, hr⟩ := h
 obtain ⟨hil, ho⟩ := ho
 rw [List.length_zipIdx] at hil
 rcases ho with ⟨_, ho⟩ | ⟨g, cap, cur, hv, hbase, hheap, hncap, hcapm, hcur, htake⟩
 ·rw [List.length_zipIdx] at ho; omega
 rw [List.length_zipIdx] at hv hncap htake
 injection hv with ha _ hc
 subst ha; subst hc
 have hP : P g := h0 g rfl
 have hr' : Reps ((Kd.tag f k56).M w w0.heap.size (fun k => P k ∧ some k ≠ some g)) 3 xs.zipIdx inner := hr
 have hil' : inner.length = xs.length * 3 := hil
 have hcur' : cur.size = c * 3 := hcur
 have htake' : cur.toList.take (xs.length * 3) = inner := htake
 have hone : ∀ u ∈ inner, u.oneCell' = true := by
  intro u hu
  obtain ⟨j, hj, rfl⟩ := List.getElem_of_mem hu
  have hjx : j / 3 < xs.length := by omega
  have hM := hr'.2 (j / 3) (xs[j / 3], j / 3) (Kd.zip_at (List.getElem?_eq_getElem hjx))
  refine k56.K_one (k56.K_of_M hM) _ ?_
  refine List.mem_of_getElem? (i := j % 3) ?_
  rw [List.getElem?_take, if_pos (by omega), List.getElem?_drop, show j / 3 * 3 + j % 3 = j by omega, List.getElem?_eq_getElem hj]
 have hcell : ∀ j, j < xs.length * 3 → w.cell? ⟨g, j, none⟩ = inner[j]? := by
  intro j hj
  rw [blk_cell hheap j, ← htake', List.getElem?_take, if_pos hj, Array.getElem?_toList]
 have hfr : ∀ j, w.frozen? ⟨g, j, none⟩ = false := fun j => blk_frozen hheap j
 clear h0 hr hil hcur htake
 obtain ⟨news, hnews⟩ : ∃ news, news = inner.drop ((i + 1) * 3) := ⟨_, rfl⟩
 have hlen : news.length = (xs.length - (i + 1)) * 3 := by rw [hnews, List.length_drop, hil']; omega
 obtain ⟨B, hA, hsrc⟩ : ∃ B : Addr, (if c = i + 1 then some (⟨g, 0, none⟩ : Addr) else some ⟨g, (i + 1) * 3, none⟩) = some B ∧ Hid (∀ t u, news[t]? = some u → w.drew.cell? (B.add t) = some u) := by
  by_cases h : c = i + 1
  ·refine ⟨⟨g, 0, none⟩, by simp [h], fun t u hu => ?_⟩
   have h0 : news.length = 0 := by rw [hlen]; omega
   rw [List.length_eq_zero_iff.1 h0] at hu
   simp at hu
  ·refine ⟨⟨g, (i + 1) * 3, none⟩, by simp [h], fun t u hu => ?_⟩
   have ht : t < (xs.length - (i + 1)) * 3 := by
    have := (List.getElem?_eq_some_iff.1 hu).1
    rwa [hlen] at this
   rw [Addr.add_lit]
   show w.cell? _ = _
   rw [hcell _ (by omega), ← hu, hnews, List.getElem?_drop]
 have s2 : Hid (∀ u ∈ news, u.oneCell' = true) := by
  intro u hu
  rw [hnews] at hu
  exact hone u (List.mem_of_mem_drop hu)
 have s1 : Hid (news.length = (xs.length - (i + 1)) * 3) := hlen
 have s3 : Hid (∀ t, t < news.length → (w.drew.cell? ⟨g, 0 + i * 3 + t, none⟩).isSome = true ∧ w.drew.frozen? ⟨g, 0 + i * 3 + t, none⟩ = false) := by
  intro t ht
  rw [hlen] at ht
  refine ⟨?_, hfr _⟩
  show (w.cell? _).isSome = true
  rw [hcell _ (by omega), List.getElem?_eq_getElem (by omega)]
  rfl
 obtain ⟨i0, hi0, hz0, hz1, hz2⟩ := info_parts info56
 obtain ⟨W1, hW1⟩ : ∃ W1, W1 = w.drew.setCells g (0 + i * 3) news := ⟨_, rfl⟩
 obtain ⟨cur1, hh1, hs1, ht1⟩ := setCells_row (e := 56) news (0 + i * 3) w.drew cur hheap (by rw [hlen, hcur']; omega)
 rw [← hW1] at hh1
 have hcl : ∀ ty, (Builtin.clear_ #[29] ty #[.slice (some ⟨g, (i + (xs.length - (i + 1))) * 3, none⟩) (xs.length - (i + (xs.length - (i + 1)))) (c - (i + (xs.length - (i + 1))))]).run Try.prog W1 = .ok (.tuple #[]) (W1.setCells g ((i + (xs.length - (i + 1))) * 3) [.string ByteArray.empty, .slice none 0 0, .slice none 0 0]) := by
  intro ty
  rw [show xs.length - (i + (xs.length - (i + 1))) = 1 by omega]
  refine run_clear_one W1 _ 56 ty (.agg #[.string ByteArray.empty, .slice none 0 0, .slice none 0 0]) _ _ _ Try.underlying29 Try.zeroValue56 rfl (by simp [Value.oneCell']) g _ _ (fun t ht => ?_) (fun t ht => blk_frozen hh1 _)
  rw [blk_cell hh1, Array.getElem?_eq_getElem (by rw [hs1, hcur']; omega)]
  rfl
 obtain ⟨W2, hW2⟩ : ∃ W2, W2 = W1.setCells g ((i + (xs.length - (i + 1))) * 3) [.string ByteArray.empty, .slice none 0 0, .slice none 0 0] := ⟨_, rfl⟩
 obtain ⟨cur2, hh2, hs2, ht2⟩ := setCells_row (e := 56) [.string ByteArray.empty, .slice none 0 0, .slice none 0 0] ((i + (xs.length - (i + 1))) * 3) W1 cur1 hh1 (by rw [hs1, hcur']; simp only [List.length_cons, List.length_nil]; omega)
 rw [← hW2] at hh2
 have hK : Kept w W2 (fun k => k = g) := by
  rw [hW2, hW1]
  refine ⟨by rw [(setCells_same g _ _ _).2.2.2, (setCells_same g _ _ _).2.2.2]; exact Nat.le_refl _, fun k hk hne => ?_⟩
  rw [setCells_far _ _ _ hne, setCells_far _ _ _ hne]
  rfl
 have hBe : Below w0.heap.size w0 W2 := by
  have q2 := setCells_same g [.string ByteArray.empty, .slice none 0 0, .slice none 0 0] ((i + (xs.length - (i + 1))) * 3) W1
  have q1 := setCells_same g news (0 + i * 3) w.drew
  rw [← hW2] at q2; rw [← hW1] at q1
  refine ⟨by rw [q2.1, q1.1]; exact (below_drew1 hB).os, by rw [q2.2.1, q1.2.1]; exact (below_drew1 hB).tape, by rw [q2.2.2.1, q1.2.2.1]; exact (below_drew1 hB).output, Nat.le_trans hB.size hK.1, fun k hk => ?_⟩
  have hne : k ≠ g := by omega
  exact (hK.2 k (Nat.lt_of_lt_of_le hk hB.size) hne).trans (hB.block k hk)
 have htk : cur2.toList.take ((xs.length - 1) * 3) = inner.take (i * 3) ++ inner.drop ((i + 1) * 3) := by
  have e0 : i + (xs.length - (i + 1)) = xs.length - 1 := by omega
  have l1 : (cur1.toList.take ((xs.length - 1) * 3)).length = (xs.length - 1) * 3 := by rw [List.length_take, show cur1.toList.length = cur1.size from Array.length_toList, hs1, hcur']; omega
  rw [ht2, e0, List.append_assoc, List.take_append_of_le_length (by omega), List.take_take, Nat.min_self, ht1, ← hnews]
  have l2 : (cur.toList.take (0 + i * 3)).length = i * 3 := by rw [List.length_take, show cur.toList.length = cur.size from Array.length_toList, hcur']; omega
  have l3 : (cur.toList.take (0 + i * 3) ++ news).length = (xs.length - 1) * 3 := by rw [List.length_append, l2, hlen]; omega
  rw [List.take_append_of_le_length (by omega), List.take_of_length_le (by omega), Nat.zero_add, ← htake', List.take_take, Nat.min_eq_left (by omega)]
 have hS := S_cut (w' := W2) hi hP hbase hncap hcapm hr' hh2 (by rw [hs2, hs1, hcur']) htk hK
 have hcm : c ≤ 9223372036854775807 := hcapm
 clear hcapm
 have HS := am hS
 have HB := am hBe
 have HK := am (Kept.mono hK (S' := P) (fun k e => e ▸ hP))
 have hwr : wrap64 ((i : Int) + 1) = (i : Int) + 1 := dl_wr hi hncap hcm
 have hic : i ≤ c := Nat.le_trans (Nat.le_of_lt hi) hncap
 have hne : ((i : Int) == (i : Int) + 1) = false := dl_ne i
 have hp0 : (0 : Int) ≤ (i : Int) + 1 := Int.natCast_nonneg (i + 1)
 have hp1 : (i : Int) + 1 ≤ (xs.length : Int) := dl_p1 hi
 have hp2 : ((i : Int) + 1).toNat = i + 1 := Int.toNat_natCast (i + 1)
 have hx1 : xs.length ≤ c := hncap
 have hHW1 : Hid (W1 = w.drew.setCells g (0 + i * 3) news) := hW1
 have hHW2 : Hid (W2 = W1.setCells g ((i + (xs.length - (i + 1))) * 3) [.string ByteArray.empty, .slice none 0 0, .slice none 0 0]) := hW2
 clear hcm
 clear hS hBe hK htk hh2 hs2 ht2 hh1 hs1 ht1 hW1 hW2 hr' hil' hcur' htake' hone hcell hfr hnews hlen hheap hbase hncap hB hP
 go_enter Try.func91, Try.ntmps91
 go_wp2_with fail
 go_region_law (refine step_append_room rfl (.tmp 22) (.tmp 25) 29 rfl 56 i0 3 Try.underlying29 hi0 hz1 g 0 i c (by simp [Act.eval, Act.put]) B (xs.length - (i + 1)) (c - (i + 1)) news (by simp [Act.eval, Act.put]) s1.out hsrc.out s2.out (dl_room hi hx1) s3.out ?_; rw [← hHW1.out])
 go_wp2
 go_ret
 rw [← hHW2.out]
 exact ⟨by rw [show i + (xs.length - (i + 1)) = xs.length - 1 by omega]; rfl, HS.out, HB.1, HK.out⟩
end Go.Proofs.Ytaofjgnhapnndaa.Q
namespace Go.Proofs.Ytaofjgnhapnndaa.Q
open Go.RowKit Go.Proofs.YtaofjgnhapnndaaW.PrintWords Go.Proofs.YtaofjgnhapnndaaW.PrintLast Go.Proofs.YtaofjgnhapnndaaW.PrintMore
set_option linter.unusedVariables false
set_option linter.unusedSimpArgs false
theorem atI_is (bs : List IB) (n : ByteArray) (h : ¬ atI bs n < 0) : ∃ i : Nat, atI bs n = (i : Int) ∧ i < bs.length := by
  unfold atI idxI at h ⊢
  cases hf : findR (fun i => (fun s => s.toList == n.toList) (gB bs i).f0) bs.length 0 with
  | none => rw [hf] at h; simp at h
  | some i => exact ⟨i, by simp, (findR_lt hf).2.1⟩
end Go.Proofs.Ytaofjgnhapnndaa.Q
namespace Go.Proofs.Ytaofjgnhapnndaa.Q
open Go.RowKit Go.Proofs.YtaofjgnhapnndaaW.PrintWords Go.Proofs.YtaofjgnhapnndaaW.PrintLast Go.Proofs.YtaofjgnhapnndaaW.PrintMore
set_option linter.unusedVariables false
set_option linter.unusedSimpArgs false
def RowIs (w : World) (g c n : Nat) (cur : List ByteArray) : Prop := ∃ cs : Array Value, w.heap[g]? = some (.cells cs 9 (0, 0)) ∧ cs.size = c ∧ cs.toList.take n = cur.map Value.string
theorem RowIs.cell {w : World} {g c n : Nat} {cur : List ByteArray} (h : RowIs w g c n cur) (hl : cur.length = n) {j : Nat} (hj : j < cur.length) : w.cell? ⟨g, j, none⟩ = some (.string cur[j]) := by
 obtain ⟨cs, h1, _, h3⟩ := h
 rw [blk_cell h1 j, ← Array.getElem?_toList]
 have e : (cs.toList.take n)[j]? = (cur.map Value.string)[j]? := by rw [h3]
 rw [List.getElem?_take, if_pos (by omega)] at e
 rw [e, List.getElem?_map, List.getElem?_eq_getElem hj]; rfl
theorem RowIs.frozen {w : World} {g c n : Nat} {cur : List ByteArray} (h : RowIs w g c n cur) (j : Nat) : w.frozen? ⟨g, j, none⟩ = false := by
 obtain ⟨cs, h1, _, _⟩ := h
 exact blk_frozen h1 j
theorem RowIs.below {w w' : World} {g c n : Nat} {cur : List ByteArray} (h : RowIs w g c n cur) (hb : Below w.heap.size w w') : RowIs w' g c n cur := by
 obtain ⟨cs, h1, h2⟩ := h
 exact ⟨cs, blk_below h1 hb, h2⟩
end Go.Proofs.Ytaofjgnhapnndaa.Q
namespace Go.Proofs.Ytaofjgnhapnndaa.Q
open Go.RowKit Go.Proofs.YtaofjgnhapnndaaW.PrintWords Go.Proofs.YtaofjgnhapnndaaW.PrintLast Go.Proofs.YtaofjgnhapnndaaW.PrintMore
set_option linter.unusedVariables false
set_option linter.unusedSimpArgs false
theorem S_has {W : World} {base g n cap : Nat} {P : Nat → Prop} {xs : List S56} (h : Kd.S k56 56 W base P (.slice (some ⟨g, 0, none⟩) n cap) xs) (i : Int) (h0 : 0 ≤ i) (h1 : i < n) :
  ∃ (A1 : Option Addr) (c1 : Nat) (P1 : Nat → Prop), W.cell? ⟨g, i.toNat * 3 + 1, none⟩ = some (.slice A1 (rd_T56 xs i).f1.length c1) ∧ Kd.R Kd.string 9 W base P1 (.slice A1 (rd_T56 xs i).f1.length c1) (rd_T56 xs i).f1 ∧ (∀ k, P1 k → P k ∧ k ≠ g ∧ some k = (.slice A1 (rd_T56 xs i).f1.length c1 : Value).ownBlock) ∧
   ∀ (W2 : World) (r : List ByteArray) (m : Nat) (okr : Nat → Prop), Kept W W2 P1 → Kd.R Kd.string 9 W2 base okr (.slice A1 m c1) r → Kd.S k56 56 (W2.setCell ⟨g, i.toNat * 3 + 1, none⟩ (.slice A1 m c1)) base P (.slice (some ⟨g, 0, none⟩) n cap) (xs.set i.toNat ⟨(rd_T56 xs i).f0, r, (rd_T56 xs i).f2⟩) := by
 obtain ⟨oki, c, hcl, hM, hc, hf, hoki, hH⟩ := Kd.S_elem h z56 i h0 h1
 obtain ⟨v1, v2, rfl, g1, g2⟩ := k56_openM hM
 have hs := k56_sepM hM
 obtain ⟨A1, c1, e1⟩ := Kd.R_slice g1
 subst e1
 refine ⟨A1, c1, fun k => some k = (.slice A1 (rd_T56 xs i).f1.length c1 : Value).ownBlock, hc 1 _ rfl, Kd.R_tight rfl g1, fun k hk => ⟨(hoki k (g1.1 k hk.symm)).1, (hoki k (g1.1 k hk.symm)).2, hk⟩, fun W2 r m okr hk hr => ?_⟩
 have hob : (.slice A1 m c1 : Value).ownBlock = (.slice A1 (rd_T56 xs i).f1.length c1 : Value).ownBlock := by cases A1 <;> rfl
 have hH2 := Kd.H_kept hH hk (fun k _ hn hp => hn (g1.1 k hp.symm))
 exact (Kd.S_seg0 hH2 h0 h1 (seg := [.slice A1 m c1]) (j := 1) (x' := ⟨(rd_T56 xs i).f0, r, (rd_T56 xs i).f2⟩) (by show 1 + 1 ≤ 3; omega) (okp := oki) (k56_mkM _ _ _ ⟨(rd_T56 xs i).f0, r, (rd_T56 xs i).f2⟩ (Kd.R_mono (Kd.R_tight rfl hr) (fun k hp => g1.1 k (hob.symm.trans hp.symm))) (Kd.R_mono (Kd.R_kept (Kd.R_tight rfl g2) hk (fun k h2 hp => hs k hp.symm h2.symm)) (fun k hp => g2.1 k hp.symm)) (fun k e1 => hs k (hob.symm.trans e1))) (fun _ hk => hk)).1
theorem BkS.has {w0 W : World} {lo hi g n cap : Nat} {v0 : Value} {l0 : List ByteArray} {xs : List S56} (h : BkS w0 W lo hi v0 (.slice (some ⟨g, 0, none⟩) n cap) l0 xs) (i : Int) (h0 : 0 ≤ i) (h1 : i < n) :
  ∃ (A1 : Option Addr) (c1 : Nat) (P1 : Nat → Prop), W.cell? ⟨g, i.toNat * 3 + 1, none⟩ = some (.slice A1 (rd_T56 xs i).f1.length c1) ∧ Kd.R Kd.string 9 W w0.heap.size P1 (.slice A1 (rd_T56 xs i).f1.length c1) (rd_T56 xs i).f1 ∧ (∀ k, P1 k → (lo ≤ k ∧ k < hi) ∧ k ≠ g ∧ some k = (.slice A1 (rd_T56 xs i).f1.length c1 : Value).ownBlock) ∧
   ∀ (W2 : World) (r : List ByteArray) (m : Nat) (okr : Nat → Prop), Kept W W2 P1 → Kd.R Kd.string 9 W2 w0.heap.size okr (.slice A1 m c1) r → BkS w0 (W2.setCell ⟨g, i.toNat * 3 + 1, none⟩ (.slice A1 m c1)) lo hi v0 (.slice (some ⟨g, 0, none⟩) n cap) l0 (xs.set i.toNat ⟨(rd_T56 xs i).f0, r, (rd_T56 xs i).f2⟩) := by
 have hg := (Kd.S_R h.2).1 g rfl
 obtain ⟨A1, c1, P1, e1, e2, e3, e4⟩ := S_has h.2 i h0 h1
 refine ⟨A1, c1, P1, e1, e2, fun k hk => ⟨(e3 k hk).1.1, (e3 k hk).2⟩, fun W2 r m okr hk hr => ⟨?_, e4 W2 r m okr hk hr⟩⟩
 have hk2 : Kept W2 (W2.setCell ⟨g, i.toNat * 3 + 1, none⟩ (.slice A1 m c1)) (fun k => k = g) := Kept.setCell (p := ⟨g, i.toNat * 3 + 1, none⟩) (Kept.refl W2 (fun k => k = g)) (Or.inl rfl) _
 exact Kd.R_mono (Kd.R_kept (Kd.R_kept (Kd.R_tight rfl h.1) hk (fun k e e5 => (e3 k e5).1.2 e)) hk2 (fun k e e2 => hg.2 (by rw [← e2]; exact e))) (fun k e => h.1.1 k e.symm)
end Go.Proofs.Ytaofjgnhapnndaa.Q
namespace Go.Proofs.Ytaofjgnhapnndaa.Q
open Go.RowKit Go.Proofs.YtaofjgnhapnndaaW.PrintWords Go.Proofs.YtaofjgnhapnndaaW.PrintLast Go.Proofs.YtaofjgnhapnndaaW.PrintMore
set_option linter.unusedVariables false
set_option linter.unusedSimpArgs false
def setN (bs : List IB) (i : Nat) (h n : List ByteArray) : List IB := bs.set i ⟨(gB bs i).f0, h, n⟩
theorem wMark_set {bs : List IB} {i : Nat} (hi : i < bs.length) (x : IB) : wMark (bs.set i x) + (1 + (gB bs i).f1.length + (gB bs i).f2.length) = wMark bs + (1 + x.f1.length + x.f2.length) := by
  have e := List.set_eq_take_append_cons_drop (l := bs) (i := i) (a := x)
  rw [if_pos hi] at e
  have e2 : bs = bs.take i ++ gB bs i :: bs.drop (i + 1) := by
    have := List.drop_eq_getElem_cons hi
    unfold gB; rw [getD_lt bs _ hi, ← this, List.take_append_drop]
  have e3 : wMark bs = wMark (bs.take i) + (1 + (gB bs i).f1.length + (gB bs i).f2.length + wMark (bs.drop (i + 1))) := by
    rw [← wMark_cons, ← wMark_append, ← e2]
  rw [e, wMark_append, wMark_cons, e3]; omega
end Go.Proofs.Ytaofjgnhapnndaa.Q
namespace Go.Proofs.Ytaofjgnhapnndaa.Q
open Go.RowKit Go.Proofs.YtaofjgnhapnndaaW.PrintWords Go.Proofs.YtaofjgnhapnndaaW.PrintLast Go.Proofs.YtaofjgnhapnndaaW.PrintMore
set_option linter.unusedVariables false
set_option linter.unusedSimpArgs false
def takenP (bs : List IB) (at_ : Nat) (things : List ByteArray) (q : Nat) : Bool := !decide (q = at_) && shareB (gB bs q).f1 things
def takenB (bs : List IB) (at_ : Nat) (things : List ByteArray) : Bool := anyR (takenP bs at_ things) bs.length 0
def giveB (bs : List IB) (i : Nat) (things : List ByteArray) : List IB := setN bs i (insAll (gB bs i).f1 things) (gB bs i).f2
def askB (ts : List ByteArray) (bs : List IB) (n : ByteArray) (things : List ByteArray) : List ByteArray × List IB × Int :=
  if bookB ts bs = true then
    (if atI bs n < 0 then (ts, bs, 3) else if namesB things (gB bs (atI bs n).toNat).f2 = true then
      (if takenB bs (atI bs n).toNat things = true then (ts, bs, 5) else if (safeB ts bs && !safeB ts (giveB bs (atI bs n).toNat things)) = true then (ts, bs, 6) else (ts, giveB bs (atI bs n).toNat things, 0)) else (ts, bs, 2))
  else ([], [], 1)
theorem giveB_w {bs : List IB} {i : Nat} (hi : i < bs.length) (things : List ByteArray) : wMark (giveB bs i things) ≤ wMark bs + things.length := by
  have h1 := wMark_set hi ⟨(gB bs i).f0, insAll (gB bs i).f1 things, (gB bs i).f2⟩
  have h2 := insAll_len things (gB bs i).f1
  unfold giveB setN; simp only at h1; omega
theorem giveB_z {ts : List ByteArray} {bs : List IB} {i : Nat} (hi : i < bs.length) {things : List ByteArray} (h : ts.length + wMark bs ≤ 1048576) (hn : things.length ≤ 1048576) : Bz ts (giveB bs i things) := by
  have := giveB_w hi things
  unfold Bz; omega
theorem askB_z {ts : List ByteArray} {bs : List IB} (n : ByteArray) {things : List ByteArray} (h : ts.length + wMark bs ≤ 1048576) (hn : things.length ≤ 1048576) : Bz (askB ts bs n things).1 (askB ts bs n things).2.1 := by
  unfold askB
  split
  · split
    · exact ne_Bz h
    · rename_i hc
      obtain ⟨i, e, hi⟩ := atI_is bs n hc
      rw [e, Int.toNat_natCast]
      split
      · split
        · exact ne_Bz h
        · split
          · exact ne_Bz h
          · exact giveB_z hi h hn
      · exact ne_Bz h
  · exact Bz.nil
theorem sort_ev (l : List ByteArray) (h : l.length ≤ 67108864) : Ev (fun _ => sort_Strings.f l) (sortS l) := ⟨0, fun _ _ => by unfold sort_Strings.f; rw [if_pos (by omega)]⟩
theorem l3Insert_ev (l : List ByteArray) (a : ByteArray) (hl : l.length ≤ 67108864) (hf : insF a l = false) : Ev (fun k => spec_l3Insert.f k l a) (insL a l) := by
  unfold spec_l3Insert.f
  have go : ∀ (d i : Nat), l.length - i = d → i ≤ l.length → insF a (l.drop i) = false → Ev (fun k => spec_l3Insert.l0 k l a (i : Int)) (l.take i ++ insL a (l.drop i)) := by
    intro d
    induction d with
    | zero =>
      intro i hd hi _
      have hie : i = l.length := by omega
      refine Ev.step (fun k => spec_l3Insert.l0.eq_2 _ _ _ k) (Ev.neg (by omega) ?_)
      refine Ev.bind (Ev.ret rfl) (Ev.pos (by omega) (Ev.pos (by omega) ?_))
      rw [Int.toNat_natCast]
      refine Ev.pos (by simp only [List.length_nil, List.length_take]; omega) (Ev.bind (Ev.ret rfl) (Ev.bind (Ev.ret rfl) ?_))
      refine Ev.pos (by simp only [List.nil_append, List.length_take, List.length_cons, List.length_nil]; omega) (Ev.bind (Ev.ret rfl) (Ev.pos (by simp only [List.nil_append, List.length_append, List.length_take, List.length_drop, List.length_cons, List.length_nil]; omega) (Ev.ret ?_)))
      rw [hie, List.drop_eq_nil_of_le (Nat.le_refl _), List.nil_append, List.append_nil]; rfl
    | succ d ih =>
      intro i hd hi hf
      have hlt : i < l.length := by omega
      rw [List.drop_eq_getElem_cons hlt] at hf ⊢
      unfold insF at hf
      unfold insL
      refine Ev.step (fun k => spec_l3Insert.l0.eq_2 _ _ _ k) (Ev.pos (by omega) (Ev.pos (by omega) ?_))
      rw [rdS_cast, show gS l i = l[i] from getD_lt _ _ hlt, wrap_up hlt (by omega)]
      refine Ev.prop (fun hp => ?_) (fun hp => ?_)
      · rw [if_pos hp] at hf
        rw [show (if Op.bytesLess l[i].toList a.toList = true then l[i] :: insL a (l.drop (i + 1)) else if (l[i].toList == a.toList) = true then l[i] :: l.drop (i + 1) else a :: l[i] :: l.drop (i + 1)) = l[i] :: insL a (l.drop (i + 1)) from if_pos hp]
        have := ih (i + 1) (by omega) (by omega) hf
        rw [List.take_succ_eq_append_getElem hlt, List.append_assoc] at this
        exact this
      · rw [if_neg hp] at hf
        have hres : (if Op.bytesLess l[i].toList a.toList = true then l[i] :: insL a (l.drop (i + 1)) else if (l[i].toList == a.toList) = true then l[i] :: l.drop (i + 1) else a :: l[i] :: l.drop (i + 1)) = a :: l[i] :: l.drop (i + 1) := by
          rw [if_neg hp, if_neg (by rw [hf]; simp)]
        rw [hres]
        refine Ev.neg (by simpa using hf) ?_
        refine Ev.bind (Ev.ret rfl) (Ev.pos (by omega) ?_)
        rw [Int.toNat_natCast]
        refine Ev.pos (by simp only [List.length_nil, List.length_take]; omega) (Ev.bind (Ev.ret rfl) (Ev.bind (Ev.ret rfl) ?_))
        refine Ev.pos (by simp only [List.nil_append, List.length_take, List.length_cons, List.length_nil]; omega) (Ev.bind (Ev.ret rfl) (Ev.pos (by simp only [List.nil_append, List.length_append, List.length_take, List.length_drop, List.length_cons, List.length_nil]; omega) (Ev.ret ?_)))
        rw [List.nil_append, List.append_assoc, List.drop_eq_getElem_cons hlt]; rfl
  have := go l.length 0 (by omega) (by omega) hf
  exact this
theorem spec_l3Taken_ev (ts : List ByteArray) (bs : List IB) (at_ : Nat) (things : List ByteArray) (h : Bz ts bs) (hn : things.length ≤ 1048576) : Ev (fun k => spec_l3Taken.f k ts bs (at_ : Int) things) (takenB bs at_ things) := by
  have hl := h.bs
  unfold spec_l3Taken.f
  refine Ev.loop (f := fun k i => spec_l3Taken.l0 k (at_ : Int) things (i : Int) ts bs) (val := anyR (takenP bs at_ things) bs.length) bs.length ?_ ?_ 0 (by omega)
  · rw [anyR_end]
    refine Ev.step (fun k => spec_l3Taken.l0.eq_2 _ _ _ _ _ k) ?_
    exact Ev.neg (by omega) (Ev.ret rfl)
  · intro i hi H
    rw [anyR_step _ hi]
    refine Ev.step (fun k => spec_l3Taken.l0.eq_2 _ _ _ _ _ k) (Ev.pos (by omega) ?_)
    rw [wrap_up hi (by omega), rdB_cast]
    refine Ev.prop (fun e => Ev.sub H (by simp [takenP, show i = at_ by omega])) (fun e => Ev.pos (by omega) (Ev.bind (spec_l1Share_ev _ _ (by have := h.at_ hi; omega) (by omega)) ?_))
    have hne : decide (i = at_) = false := decide_eq_false (by omega)
    refine Ev.test _ (fun h2 => Ev.ret (by simp [takenP, h2, hne])) (fun h2 => Ev.sub H (by simp [takenP, h2]))
theorem setN_gB {bs : List IB} {i : Nat} (hi : i < bs.length) (h n : List ByteArray) : gB (setN bs i h n) i = ⟨(gB bs i).f0, h, n⟩ := by
  unfold setN gB
  rw [List.getD_eq_getElem?_getD, List.getElem?_set_self hi]; rfl
theorem spec_ShareAsk_ev (ts : List ByteArray) (bs : List IB) (n : ByteArray) (things : List ByteArray) (h : ts.length + wMark bs ≤ 1048576) (hn : things.length ≤ 1048576) : Ev (fun k => spec_ShareAsk.f k ts bs n things) (askB ts bs n things) := by
  have hz := ne_Bz h
  have hl := hz.bs
  have ht := hz.ts
  unfold spec_ShareAsk.f askB
  refine Ev.bind (spec_ShareBookOk_ev ts bs (by omega) (by omega) hz.bok) (Ev.test _ (fun hb => ?_) (fun hb => Ev.ret (by simp [hb])))
  rw [if_pos hb]
  refine Ev.bind (spec_l1Copy_ev ts bs hz) (Ev.bind (spec_l1At_ev ts bs n (by omega)) ?_)
  refine Ev.prop (fun hc => Ev.ret (by rw [if_pos hc])) (fun hc => ?_)
  rw [if_neg hc]
  obtain ⟨i, e, hi⟩ := atI_is bs n hc
  rw [e, Int.toNat_natCast]
  have hii := hz.at_ hi
  dsimp only
  refine Ev.pos (by omega) (Ev.pos (by omega) ?_)
  rw [rdB_cast]
  refine Ev.bind (spec_l1NamesOk_ev things _ (by omega) (by omega)) (Ev.test _ (fun hq => ?_) (fun hq => Ev.ret (by simp [hq])))
  rw [if_pos hq]
  refine Ev.bind (spec_l3Taken_ev ts bs i things hz hn) (Ev.test _ (fun hk => Ev.ret (by simp [hk])) (fun hk => ?_))
  rw [if_neg (by simp [hk])]
  refine Ev.bind (spec_l1Copy_ev ts bs hz) ?_
  dsimp only
  have hself : setN bs i (insAll (gB bs i).f1 (things.take 0)) (gB bs i).f2 = bs := by
    unfold setN insAll
    rw [List.take_zero, List.foldl_nil]
    refine List.ext_getElem (by rw [List.length_set]) fun j h1 h2 => ?_
    rw [List.getElem_set]
    by_cases hj : i = j
    · subst hj; rw [if_pos rfl]; unfold gB; rw [getD_lt bs _ hi]
    · rw [if_neg hj]
  have go : ∀ (d j : Nat), things.length - j = d → j ≤ things.length → Ev (fun k => spec_ShareAsk.l0 k things (i : Int) (j : Int) ts bs ts bs ts (setN bs i (insAll (gB bs i).f1 (things.take j)) (gB bs i).f2)) (if (safeB ts bs && !safeB ts (giveB bs i things)) = true then (ts, bs, 6) else (ts, giveB bs i things, 0)) := by
    intro d
    induction d with
    | zero =>
      intro j hd hj
      rw [List.take_of_length_le (by omega), show setN bs i (insAll (gB bs i).f1 things) (gB bs i).f2 = giveB bs i things from rfl]
      have hg := giveB_z hi h hn
      have hgl := hg.bs
      refine Ev.step (fun k => spec_ShareAsk.l0.eq_2 _ _ _ _ _ _ _ _ _ k) (Ev.neg (by omega) (Ev.bind (spec_ShareSafe_ev ts bs (by omega) (by omega) hz.bok) ?_))
      refine Ev.test _ (fun h1 => ?_) (fun h1 => ?_)
      · refine Ev.bind (spec_ShareSafe_ev ts _ (by omega) (by omega) hg.bok) (Ev.test _ (fun h2 => ?_) (fun h2 => Ev.ret (by simp [h1, h2])))
        exact Ev.bind (spec_l1Copy_ev ts _ hg) (Ev.ret (by simp [h1, h2]))
      · exact Ev.bind (spec_l1Copy_ev ts _ hg) (Ev.ret (by simp [h1]))
    | succ d ih =>
      intro j hd hj
      have hlt : j < things.length := by omega
      have hsn : insAll (gB bs i).f1 (things.take (j + 1)) = insL things[j] (insAll (gB bs i).f1 (things.take j)) := by
        rw [List.take_succ_eq_append_getElem hlt, insAll_snoc]
      have hlen : (setN bs i (insAll (gB bs i).f1 (things.take j)) (gB bs i).f2).length = bs.length := by unfold setN; rw [List.length_set]
      have hil := insAll_len (things.take j) (gB bs i).f1
      rw [List.length_take] at hil
      have next := ih (j + 1) (by omega) (by omega)
      refine Ev.step (fun k => spec_ShareAsk.l0.eq_2 _ _ _ _ _ _ _ _ _ k) (Ev.pos (by omega) (Ev.pos (by omega) (Ev.pos (by rw [hlen]; omega) (Ev.pos (by omega) ?_))))
      rw [rdB_cast, setN_gB hi, rdS_cast, show gS things j = things[j] from getD_lt _ _ hlt, wrap_up hlt (by omega)]
      dsimp only
      refine Ev.test _ (fun hf => ?_) (fun hf => ?_)
      · rw [hsn, insL_same _ _ hf] at next
        exact next
      · refine Ev.bind (l3Insert_ev _ _ (by omega) hf) ?_
        rw [Int.toNat_natCast]
        have e2 : (setN bs i (insAll (gB bs i).f1 (things.take j)) (gB bs i).f2).set i ⟨(gB bs i).f0, insL things[j] (insAll (gB bs i).f1 (things.take j)), (gB bs i).f2⟩ = setN bs i (insAll (gB bs i).f1 (things.take (j + 1))) (gB bs i).f2 := by
          rw [hsn]; unfold setN; rw [List.set_set]
        rw [e2]
        exact next
  have := go things.length 0 (by omega) (by omega)
  rw [hself] at this
  exact this
theorem impl_ShareAsk_ev (ts : List ByteArray) (bs : List IB) (n : ByteArray) (things : List ByteArray) (h : ts.length + wMark bs ≤ 1048576) (hn : things.length ≤ 1048576) : Ev (fun k => impl_ShareAsk.f k ts bs n things) (askB ts bs n things) := by
  have hz := ne_Bz h
  have hl := hz.bs
  have ht := hz.ts
  unfold impl_ShareAsk.f askB
  refine Ev.bind (impl_ShareBookOk_ev ts bs (by omega) (by omega) hz.bok) (Ev.test _ (fun hb => ?_) (fun hb => Ev.ret (by simp [hb])))
  rw [if_pos hb]
  refine Ev.bind (impl_copyBook_ev ts bs hz) (Ev.bind (Ev.ret (s := atI bs n) rfl) ?_)
  refine Ev.prop (fun hc => Ev.ret (by rw [if_pos hc])) (fun hc => ?_)
  rw [if_neg hc]
  obtain ⟨i, e, hi⟩ := atI_is bs n hc
  rw [e, Int.toNat_natCast]
  have hii := hz.at_ hi
  dsimp only
  refine Ev.pos (by omega) (Ev.pos (by omega) ?_)
  rw [rdB_cast]
  refine Ev.bind (impl_of_ev things _ (by omega) (by omega)) (Ev.test _ (fun hq => ?_) (fun hq => Ev.ret (by simp [hq])))
  rw [if_pos hq]
  have hg := giveB_z hi h hn
  have hgl := hg.bs
  refine Ev.loop (f := fun k j => impl_ShareAsk.l0 k things (i : Int) bs (bs.length : Int) (j : Int) ts bs ts bs) (val := fun j => if anyR (takenP bs i things) bs.length j = true then (ts, bs, 5) else if (safeB ts bs && !safeB ts (giveB bs i things)) = true then (ts, bs, 6) else (ts, giveB bs i things, 0)) bs.length ?_ ?_ 0 (by omega)
  · rw [anyR_end, if_neg (by simp)]
    refine Ev.step (fun k => impl_ShareAsk.l0.eq_2 _ _ _ _ _ _ _ _ _ k) (Ev.neg (by omega) (Ev.bind (impl_copyBook_ev ts bs hz) (Ev.pos (by omega) (Ev.pos (by omega) ?_))))
    rw [rdB_cast]
    dsimp only
    refine Ev.bind (clone_ev _ hii.1) (Ev.pos (by omega) (Ev.bind (sort_ev _ (by rw [List.length_append]; omega)) ?_))
    refine Ev.bind (Ev.ret rfl) (Ev.pos (by omega) (Ev.bind (Ev.ret rfl) ?_))
    rw [insAll_sort (book_has hb hi), Int.toNat_natCast, show bs.set i (⟨(gB bs i).f0, insAll (gB bs i).f1 things, (gB bs i).f2⟩ : IB) = giveB bs i things from rfl]
    refine Ev.bind (impl_ShareSafe_ev ts bs (by omega) (by omega) hz.bok) (Ev.test _ (fun h1 => ?_) (fun h1 => Ev.ret (by simp [h1])))
    exact Ev.bind (impl_ShareSafe_ev ts _ (by omega) (by omega) hg.bok) (Ev.test _ (fun h2 => Ev.ret (by simp [h1, h2])) (fun h2 => Ev.ret (by simp [h1, h2])))
  · intro j hj H
    rw [anyR_step _ hj]
    refine Ev.step (fun k => impl_ShareAsk.l0.eq_2 _ _ _ _ _ _ _ _ _ k) (Ev.pos (by omega) (Ev.pos (by omega) (Ev.pos (by omega) ?_)))
    rw [wrap_up hj (by omega), rdB_cast]
    refine Ev.prop (fun e => Ev.sub H (by simp [takenP, show j = i by omega])) (fun e => ?_)
    have hne : decide (j = i) = false := decide_eq_false (by omega)
    simp only [impl_common.f, Option.bind_some]
    refine Ev.test _ (fun h2 => Ev.ret ?_) (fun h2 => Ev.sub H ?_)
    · rw [show takenP bs i things j = true by unfold takenP; rw [hne, show shareB (gB bs j).f1 things = true from h2]; rfl]; simp
    · rw [show takenP bs i things j = false by unfold takenP; rw [show shareB (gB bs j).f1 things = false from h2]; simp]; simp
end Go.Proofs.Ytaofjgnhapnndaa.Q
namespace Go.Proofs.Ytaofjgnhapnndaa.Q
open Go.RowKit Go.Proofs.YtaofjgnhapnndaaW.PrintWords Go.Proofs.YtaofjgnhapnndaaW.PrintLast Go.Proofs.YtaofjgnhapnndaaW.PrintMore
set_option linter.unusedVariables false
set_option linter.unusedSimpArgs false
theorem FnExactShareAsk_pure (ts : List ByteArray) (bs : List LB) (n : ByteArray) (l : List ByteArray) (hi : Inok ts bs) (hs : n.size ≤ 140737488351232) (hl : l.length ≤ 9223372036854775807 ∧ ∀ s ∈ l, s.size ≤ 9223372036854775807) : ∃ k, laws_FnExactShareAsk.f k ts bs n l = some true := by
  refine Ev.rounds (g := fun k => laws_FnExactShareAsk.f k ts bs n l) ?_
  unfold laws_FnExactShareAsk.f
  refine Ev.prop (fun _ => Ev.ret rfl) (fun _ => ?_)
  refine counted hi fun a ha h0 h => ?_
  refine countedS hl h0 (by omega) fun a2 h2 h3 hs2 => ?_
  unfold laws_FnExactShareAsk.t
  have hb := Bz.of (wBook_of ha h0)
  have hx := ne_Bz hb
  have hg := askB_z n hb h3
  have hsp := spec_ShareAsk_ev ts (bs.map toB) n l hb h3
  have him := impl_ShareAsk_ev ts (bs.map toB) n l hb h3
  have hto := toStringS_ev l (by omega)
  have heq := hg.eq_ev
  have hm := markB_ev hg
  have hh := heldB_ev hg
  have hmx := markB_ev hx
  have hmr := markStringS_ev l (1 + ts.length + wMark (bs.map toB)) (by omega) (by omega)
  have hp : (0 : Int) ≤ 1 + ts.length + wMark (bs.map toB) + l.length := by omega
  have hq : (0 : Int) ≤ 1 + (askB ts (bs.map toB) n l).1.length + wMark (askB ts (bs.map toB) n l).2.1 := by omega
  refine Ev.bind h.to_ev (Ev.bind hto (Ev.bind hsp (Ev.bind h.to_ev (Ev.bind hto (Ev.bind him (Ev.bind heq (Ev.pos ⟨rfl, rfl⟩ (Ev.bind h.to_ev (Ev.bind h.eq_ev (Ev.pos rfl ?_))))))))))
  refine Ev.bind hto (Ev.bind (eqStringS_ev l (by omega)) (Ev.pos rfl ?_))
  refine Ev.bind hmx (Ev.bind hmr (Ev.pos hp (Ev.bind heq (Ev.pos rfl (Ev.bind hm (Ev.bind hh (Ev.pos ⟨hq, rfl⟩ ?_)))))))
  exact Ev.bind h.to_ev (Ev.bind hto (Ev.bind him (Ev.bind heq (Ev.pos ⟨rfl, rfl⟩ (Ev.bind hh (Ev.pos ⟨hq, rfl⟩ (Ev.ret rfl)))))))
end Go.Proofs.Ytaofjgnhapnndaa.Q
