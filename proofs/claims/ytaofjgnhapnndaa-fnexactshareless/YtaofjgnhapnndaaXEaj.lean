/- Texts that the row needs: words on memory and rows, the contracts of the functions it reaches, and the plain lemmas on what they compute. -/
import Derived.Below
import Derived.Deep.Draws
import Derived.Deep.AppendLies
import Derived.Maps.AppendAt
import Derived.OwnWalk
import Derived.Laws.BytesArg
import Derived.Laws.MakeOwn
import Derived.Laws.OwnMore
import Derived.Deep.OwnRows
import Derived.Tactics
import Derived.Lib.ConvBytes
import Derived.Laws.Slices
import Derived.WalkKit
import Derived.KernelRfl
import Derived.RowKit3
import Derived.Deep.LoopGhost
import Derived.Deep.QuietTactic
import Derived.BigQuiet
import Derived.WideLaws
import Derived.Deep.DeepCutAuto
import Derived.Deep.CutBlock
import Derived.Deep.RegionHeld3
import Derived.Laws.Rows
import Derived.Lib.AppendStr
import Derived.ArgAppend
import Derived.Laws.IdiomCopy
import Derived.RowKit
import Derived.OrdersHeld
import Derived.Laws.BitsLemmas
import Derived.Laws.StructEq
import Derived.Test.YtaofjgnhapnndaaProg
import Derived.WalkLawsBesides
import Derived.Deep.RegionLaw
import Derived.Test.YtaofjgnhapnndaaRows
import Derived.ProofKit
import Derived.Shelf.Abstract
import Derived.Lib.SliceRun
import Derived.Test.YtaofjgnhapnndaaXEaa
import Derived.Test.YtaofjgnhapnndaaXEab
import Derived.Test.YtaofjgnhapnndaaXEac
import Derived.Test.YtaofjgnhapnndaaXEad
import Derived.Test.YtaofjgnhapnndaaXEae
import Derived.Test.YtaofjgnhapnndaaXEaf
import Derived.Test.YtaofjgnhapnndaaXEag
import Derived.Test.YtaofjgnhapnndaaXEah
import Derived.Test.YtaofjgnhapnndaaXEai
open Go.Proofs.YtaofjgnhapnndaaFE
namespace Go.Proofs.Ytaofjgnhapnndaa.Q
open Go.RowKit Go.Proofs.YtaofjgnhapnndaaW.PrintWords Go.Proofs.YtaofjgnhapnndaaW.PrintLast Go.Proofs.YtaofjgnhapnndaaW.PrintMore
set_option linter.unusedVariables false
set_option linter.unusedSimpArgs false
theorem run_clear_one (w : World) (t e ty : TypeId) (z : Value) (u0 u1 u2 : Value) (ht : Try.prog.underlying t = some (.slice e)) (hv : ∀ w, (zeroValue e).run Try.prog w = .ok z w) (hz : z.cells = #[u0, u1, u2]) (h1 : ∀ u ∈ [u0, u1, u2], u.oneCell' = true) (b o c : Nat)
  (hc : ∀ j, j < 3 → (w.cell? ⟨b, o + j, none⟩).isSome = true) (hf : ∀ j, j < 3 → w.frozen? ⟨b, o + j, none⟩ = false) :
  (Builtin.clear_ #[t] ty #[.slice (some ⟨b, o, none⟩) 1 c]).run Try.prog w = .ok (.tuple #[]) (w.setCells b o [u0, u1, u2]) := by
 have hzc : (Builtin.zeroCells z.cells 1).toList = [u0, u1, u2] := by
  rw [hz]
  simp only [Builtin.zeroCells]
  simp
  apply List.ext_getElem
  ·simp
  ·intro i h1 h2
   simp only [List.length_cons, List.length_nil] at h2
   obtain rfl | rfl | rfl : i = 0 ∨ i = 1 ∨ i = 2 := by omega
   all_goals simp
 have hst := run_storeCells_cells (P := Try.prog) b o [u0, u1, u2] 0 w (by simpa using hc) (by simpa using hf) h1
 simp only [Nat.add_zero] at hst
 simp [Builtin.clear_, run_underlying ht, hv, hzc, hst]
theorem dl_ne (i : Nat) : ((i : Int) == (i : Int) + 1) = false := beq_eq_false_iff_ne.2 (fun e => by omega)
theorem dl_p1 {i n : Nat} (h : i < n) : (i : Int) + 1 ≤ (n : Int) := by omega
theorem dl_wr {i n c : Nat} (h : i < n) (hn : n ≤ c) (hc : c ≤ 9223372036854775807) : wrap64 ((i : Int) + 1) = (i : Int) + 1 := by unfold wrap64; omega
theorem dl_room {i n c : Nat} (h : i < n) (hn : n ≤ c) : i + (n - (i + 1)) ≤ c := by omega
theorem S_cut {w w' : World} {base : Nat} {P : Nat → Prop} {g cap i : Nat} {xs : List S56} {f : Nat → Nat} {inner : List Value} {cur' : Array Value} (hi : i < xs.length)
  (h0 : P g) (hb : base ≤ g) (hn : xs.length ≤ cap) (hm : cap ≤ maxLen) (hr : Reps ((Kd.tag f k56).M w base (fun k => P k ∧ some k ≠ some g)) 3 xs.zipIdx inner)
  (hH : w'.heap[g]? = some (.cells cur' 56 (0, 0))) (hs : cur'.size = cap * 3) (ht : cur'.toList.take ((xs.length - 1) * 3) = inner.take (i * 3) ++ inner.drop ((i + 1) * 3))
  (hK : Kept w w' (fun k => k = g)) : Kd.S k56 56 w' base P (.slice (some ⟨g, 0, none⟩) (xs.length - 1) cap) (xs.eraseIdx i) := by
 have hl : (xs.eraseIdx i).length = xs.length - 1 := List.length_eraseIdx_of_lt hi
 have hil : inner.length = xs.length * 3 := by have := hr.1; rwa [List.length_zipIdx] at this
 refine ⟨fun k => if i < f k then f k - 1 else f k, fun k hk => by (have e : g = k := by simpa [Value.ownBlock] using hk); subst e; exact h0, inner.take (i * 3) ++ inner.drop ((i + 1) * 3), ⟨?_, ?_⟩, ?_, ?_⟩
 ·rw [List.length_append, List.length_take, List.length_drop, List.length_zipIdx, hl, hil]
  show _ = (xs.length - 1) * 3
  omega
 ·refine .inr ⟨g, cap, cur', ?_, hb, hH, ?_, hm, hs, ?_⟩
  ·rw [List.length_zipIdx, hl]
  ·rw [List.length_zipIdx, hl]; omega
  ·rw [List.length_zipIdx, hl]; exact ht
 ·rw [List.length_append, List.length_take, List.length_drop, List.length_zipIdx, hl, hil]
  show _ = (xs.length - 1) * 3
  omega
 ·intro j p hj
  rw [List.getElem?_zipIdx] at hj
  obtain ⟨x, hx, rfl⟩ := Option.map_eq_some_iff.mp hj
  have hjl : j < (xs.eraseIdx i).length := (List.getElem?_eq_some_iff.1 hx).1
  rw [List.getElem?_eraseIdx] at hx
  by_cases hji : j < i
  ·rw [if_pos hji] at hx
   have hM := hr.2 j (x, j) (Kd.zip_at hx)
   have e : ((inner.take (i * 3) ++ inner.drop ((i + 1) * 3)).drop (j * 3)).take 3 = (inner.drop (j * 3)).take 3 := by
    rw [List.drop_append_of_le_length (by rw [List.length_take, hil]; omega), List.take_append_of_le_length (by rw [List.length_drop, List.length_take, hil]; omega), List.drop_take, List.take_take, Nat.min_eq_left (by omega)]
   show (Kd.tag _ _).M _ _ _ _ (((inner.take (i * 3) ++ inner.drop ((i + 1) * 3)).drop (j * 3)).take 3)
   rw [e]
   refine (Kd.tag _ k56).M_mono (ok := fun k => (P k ∧ some k ≠ some g) ∧ f k = j) (fun k hk => ?_) (Kd.M_step (d := Kd.tag _ k56) (w := w) ?_ (fun k hk hlt => hK.2 k hlt (fun e => hk.1.2 (by rw [e]))))
   ·exact ⟨hk.1.1, fun e => hk.1.2 (by simpa [Value.ownBlock] using e)⟩
   ·refine k56.M_mono (fun k hk => ⟨⟨hk.1, hk.2⟩, ?_⟩) hM
    have := hk.2
    show (if i < f k then f k - 1 else f k) = _
    simp only at this
    rw [this, if_neg (by omega)]; omega
  ·rw [if_neg hji] at hx
   have hM := hr.2 (j + 1) (x, j + 1) (Kd.zip_at hx)
   have e : ((inner.take (i * 3) ++ inner.drop ((i + 1) * 3)).drop (j * 3)).take 3 = (inner.drop ((j + 1) * 3)).take 3 := by
    rw [List.drop_append, List.drop_eq_nil_of_le (by rw [List.length_take, hil]; omega), List.nil_append, List.length_take, hil, Nat.min_eq_left (by omega), List.drop_drop]
    congr 2; omega
   show (Kd.tag _ _).M _ _ _ _ (((inner.take (i * 3) ++ inner.drop ((i + 1) * 3)).drop (j * 3)).take 3)
   rw [e]
   refine (Kd.tag _ k56).M_mono (ok := fun k => (P k ∧ some k ≠ some g) ∧ f k = j + 1) (fun k hk => ?_) (Kd.M_step (d := Kd.tag _ k56) (w := w) ?_ (fun k hk hlt => hK.2 k hlt (fun e => hk.1.2 (by rw [e]))))
   ·exact ⟨hk.1.1, fun e => hk.1.2 (by simpa [Value.ownBlock] using e)⟩
   ·refine k56.M_mono (fun k hk => ⟨⟨hk.1, hk.2⟩, ?_⟩) hM
    have := hk.2
    show (if i < f k then f k - 1 else f k) = _
    simp only at this
    rw [this, if_pos (by omega)]; omega
set_option maxHeartbeats 4000000 in
set_option maxRecDepth 1000000 in
theorem slices_Delete.one (w0 w : World) (P : Nat → Prop) (A : Option Addr) (c : Nat) (xs : List S56) (i : Nat) (hi : i < xs.length) (hB : Below w0.heap.size w0 w) (h : Kd.S k56 56 w w0.heap.size P (.slice A xs.length c) xs) :
  Calls Try.prog 91 #[.slice A xs.length c, .int .i64 i, .int .i64 ((i : Int) + 1)] w fun e w' => e = .returned (.slice A (xs.length - 1) c) ∧ Kd.S k56 56 w' w0.heap.size P (.slice A (xs.length - 1) c) (xs.eraseIdx i) ∧ Below w0.heap.size w0 w' ∧ Kept w w' P := by
 obtain ⟨f, h0, inner, ho, hr⟩ := h
 obtain ⟨hil, ho⟩ := ho
 rw [List.length_zipIdx] at hil
 rcases ho with ⟨_, ho⟩ | ⟨g, cap, cur, hv, hbase, hheap, hncap, hcapm, hcur, htake⟩
 ·rw [List.length_zipIdx] at ho; omega
 rw [List.length_zipIdx] at hv hncap htake
 injection hv with ha _ hc
 subst ha; subst hc
 have hP : P g := h0 g rfl
 have hr' : Reps ((Kd.tag f k56).M w w0.heap.size (fun k => P k ∧ some k ≠ some g)) 3 xs.zipIdx inner := hr
 have hil' : inner.length = xs.length * 3 := hil
 have hcur' : cur.size = c * 3 := hcur
 have htake' : cur.toList.take (xs.length * 3) = inner := htake
 have hone : ∀ u ∈ inner, u.oneCell' = true := by
  intro u hu
  obtain ⟨j, hj, rfl⟩ := List.getElem_of_mem hu
  have hjx : j / 3 < xs.length := by omega
  have hM := hr'.2 (j / 3) (xs[j / 3], j / 3) (Kd.zip_at (List.getElem?_eq_getElem hjx))
  refine k56.K_one (k56.K_of_M hM) _ ?_
  refine List.mem_of_getElem? (i := j % 3) ?_
  rw [List.getElem?_take, if_pos (by omega), List.getElem?_drop, show j / 3 * 3 + j % 3 = j by omega, List.getElem?_eq_getElem hj]
 have hcell : ∀ j, j < xs.length * 3 → w.cell? ⟨g, j, none⟩ = inner[j]? := by
  intro j hj
  rw [blk_cell hheap j, ← htake', List.getElem?_take, if_pos hj, Array.getElem?_toList]
 have hfr : ∀ j, w.frozen? ⟨g, j, none⟩ = false := fun j => blk_frozen hheap j
 clear h0 hr hil hcur htake
 obtain ⟨news, hnews⟩ : ∃ news, news = inner.drop ((i + 1) * 3) := ⟨_, rfl⟩
 have hlen : news.length = (xs.length - (i + 1)) * 3 := by rw [hnews, List.length_drop, hil']; omega
 obtain ⟨B, hA, hsrc⟩ : ∃ B : Addr, (if c = i + 1 then some (⟨g, 0, none⟩ : Addr) else some ⟨g, (i + 1) * 3, none⟩) = some B ∧ Hid (∀ t u, news[t]? = some u → w.drew.cell? (B.add t) = some u) := by
  by_cases h : c = i + 1
  ·refine ⟨⟨g, 0, none⟩, by simp [h], fun t u hu => ?_⟩
   have h0 : news.length = 0 := by rw [hlen]; omega
   rw [List.length_eq_zero_iff.1 h0] at hu
   simp at hu
  ·refine ⟨⟨g, (i + 1) * 3, none⟩, by simp [h], fun t u hu => ?_⟩
   have ht : t < (xs.length - (i + 1)) * 3 := by
    have := (List.getElem?_eq_some_iff.1 hu).1
    rwa [hlen] at this
   rw [Addr.add_lit]
   show w.cell? _ = _
   rw [hcell _ (by omega), ← hu, hnews, List.getElem?_drop]
 have s2 : Hid (∀ u ∈ news, u.oneCell' = true) := by
  intro u hu
  rw [hnews] at hu
  exact hone u (List.mem_of_mem_drop hu)
 have s1 : Hid (news.length = (xs.length - (i + 1)) * 3) := hlen
 have s3 : Hid (∀ t, t < news.length → (w.drew.cell? ⟨g, 0 + i * 3 + t, none⟩).isSome = true ∧ w.drew.frozen? ⟨g, 0 + i * 3 + t, none⟩ = false) := by
  intro t ht
  rw [hlen] at ht
  refine ⟨?_, hfr _⟩
  show (w.cell? _).isSome = true
  rw [hcell _ (by omega), List.getElem?_eq_getElem (by omega)]
  rfl
 obtain ⟨i0, hi0, hz0, hz1, hz2⟩ := info_parts info56
 obtain ⟨W1, hW1⟩ : ∃ W1, W1 = w.drew.setCells g (0 + i * 3) news := ⟨_, rfl⟩
 obtain ⟨cur1, hh1, hs1, ht1⟩ := setCells_row (e := 56) news (0 + i * 3) w.drew cur hheap (by rw [hlen, hcur']; omega)
 rw [← hW1] at hh1
 have hcl : ∀ ty, (Builtin.clear_ #[29] ty #[.slice (some ⟨g, (i + (xs.length - (i + 1))) * 3, none⟩) (xs.length - (i + (xs.length - (i + 1)))) (c - (i + (xs.length - (i + 1))))]).run Try.prog W1 = .ok (.tuple #[]) (W1.setCells g ((i + (xs.length - (i + 1))) * 3) [.string ByteArray.empty, .slice none 0 0, .slice none 0 0]) := by
  intro ty
  rw [show xs.length - (i + (xs.length - (i + 1))) = 1 by omega]
  refine run_clear_one W1 _ 56 ty (.agg #[.string ByteArray.empty, .slice none 0 0, .slice none 0 0]) _ _ _ Try.underlying29 Try.zeroValue56 rfl (by simp [Value.oneCell']) g _ _ (fun t ht => ?_) (fun t ht => blk_frozen hh1 _)
  rw [blk_cell hh1, Array.getElem?_eq_getElem (by rw [hs1, hcur']; omega)]
  rfl
 obtain ⟨W2, hW2⟩ : ∃ W2, W2 = W1.setCells g ((i + (xs.length - (i + 1))) * 3) [.string ByteArray.empty, .slice none 0 0, .slice none 0 0] := ⟨_, rfl⟩
 obtain ⟨cur2, hh2, hs2, ht2⟩ := setCells_row (e := 56) [.string ByteArray.empty, .slice none 0 0, .slice none 0 0] ((i + (xs.length - (i + 1))) * 3) W1 cur1 hh1 (by rw [hs1, hcur']; simp only [List.length_cons, List.length_nil]; omega)
 rw [← hW2] at hh2
 have hK : Kept w W2 (fun k => k = g) := by
  rw [hW2, hW1]
  refine ⟨by rw [(setCells_same g _ _ _).2.2.2, (setCells_same g _ _ _).2.2.2]; exact Nat.le_refl _, fun k hk hne => ?_⟩
  rw [setCells_far _ _ _ hne, setCells_far _ _ _ hne]
  rfl
 have hBe : Below w0.heap.size w0 W2 := by
  have q2 := setCells_same g [.string ByteArray.empty, .slice none 0 0, .slice none 0 0] ((i + (xs.length - (i + 1))) * 3) W1
  have q1 := setCells_same g news (0 + i * 3) w.drew
  rw [← hW2] at q2; rw [← hW1] at q1
  refine ⟨by rw [q2.1, q1.1]; exact (below_drew1 hB).os, by rw [q2.2.1, q1.2.1]; exact (below_drew1 hB).tape, by rw [q2.2.2.1, q1.2.2.1]; exact (below_drew1 hB).output, Nat.le_trans hB.size hK.1, fun k hk => ?_⟩
  have hne : k ≠ g := by omega
  exact (hK.2 k (Nat.lt_of_lt_of_le hk hB.size) hne).trans (hB.block k hk)
 have htk : cur2.toList.take ((xs.length - 1) * 3) = inner.take (i * 3) ++ inner.drop ((i + 1) * 3) := by
  have e0 : i + (xs.length - (i + 1)) = xs.length - 1 := by omega
  have l1 : (cur1.toList.take ((xs.length - 1) * 3)).length = (xs.length - 1) * 3 := by rw [List.length_take, show cur1.toList.length = cur1.size from Array.length_toList, hs1, hcur']; omega
  rw [ht2, e0, List.append_assoc, List.take_append_of_le_length (by omega), List.take_take, Nat.min_self, ht1, ← hnews]
  have l2 : (cur.toList.take (0 + i * 3)).length = i * 3 := by rw [List.length_take, show cur.toList.length = cur.size from Array.length_toList, hcur']; omega
  have l3 : (cur.toList.take (0 + i * 3) ++ news).length = (xs.length - 1) * 3 := by rw [List.length_append, l2, hlen]; omega
  rw [List.take_append_of_le_length (by omega), List.take_of_length_le (by omega), Nat.zero_add, ← htake', List.take_take, Nat.min_eq_left (by omega)]
 have hS := S_cut (w' := W2) hi hP hbase hncap hcapm hr' hh2 (by rw [hs2, hs1, hcur']) htk hK
 have hcm : c ≤ 9223372036854775807 := hcapm
 clear hcapm
 have HS := Aside0.mk hS
 have HB := Aside0.mk hBe
 have HK := Aside0.mk (Kept.mono hK (S' := P) (fun k e => e ▸ hP))
 have hwr : wrap64 ((i : Int) + 1) = (i : Int) + 1 := dl_wr hi hncap hcm
 have hic : i ≤ c := Nat.le_trans (Nat.le_of_lt hi) hncap
 have hne : ((i : Int) == (i : Int) + 1) = false := dl_ne i
 have hp0 : (0 : Int) ≤ (i : Int) + 1 := Int.natCast_nonneg (i + 1)
 have hp1 : (i : Int) + 1 ≤ (xs.length : Int) := dl_p1 hi
 have hp2 : ((i : Int) + 1).toNat = i + 1 := Int.toNat_natCast (i + 1)
 have hx1 : xs.length ≤ c := hncap
 have hHW1 : Hid (W1 = w.drew.setCells g (0 + i * 3) news) := hW1
 have hHW2 : Hid (W2 = W1.setCells g ((i + (xs.length - (i + 1))) * 3) [.string ByteArray.empty, .slice none 0 0, .slice none 0 0]) := hW2
 clear hcm
 clear hS hBe hK htk hh2 hs2 ht2 hh1 hs1 ht1 hW1 hW2 hr' hil' hcur' htake' hone hcell hfr hnews hlen hheap hbase hncap hB hP
 go_enter Try.func91, Try.ntmps91
 go_wp2_with fail
 go_region_law (refine step_append_room rfl (.tmp 22) (.tmp 25) 29 rfl 56 i0 3 Try.underlying29 hi0 hz1 g 0 i c (by simp [Act.eval, Act.put]) B (xs.length - (i + 1)) (c - (i + 1)) news (by simp [Act.eval, Act.put]) s1.out hsrc.out s2.out (dl_room hi hx1) s3.out ?_; rw [← hHW1.out])
 go_wp2
 go_ret
 rw [← hHW2.out]
 exact ⟨by rw [show i + (xs.length - (i + 1)) = xs.length - 1 by omega]; rfl, HS.out, HB.out, HK.out⟩
end Go.Proofs.Ytaofjgnhapnndaa.Q
namespace Go.Proofs.Ytaofjgnhapnndaa.Q
open Go.RowKit Go.Proofs.YtaofjgnhapnndaaW.PrintWords Go.Proofs.YtaofjgnhapnndaaW.PrintLast Go.Proofs.YtaofjgnhapnndaaW.PrintMore
set_option linter.unusedVariables false
set_option linter.unusedSimpArgs false
theorem atI_is (bs : List IB) (n : ByteArray) (h : ¬ atI bs n < 0) : ∃ i : Nat, atI bs n = (i : Int) ∧ i < bs.length := by
  unfold atI idxI at h ⊢
  cases hf : findR (fun i => (fun s => s.toList == n.toList) (gB bs i).f0) bs.length 0 with
  | none => rw [hf] at h; simp at h
  | some i => exact ⟨i, by simp, (findR_lt hf).2.1⟩
end Go.Proofs.Ytaofjgnhapnndaa.Q
namespace Go.Proofs.Ytaofjgnhapnndaa.Q
open Go.RowKit Go.Proofs.YtaofjgnhapnndaaW.PrintWords Go.Proofs.YtaofjgnhapnndaaW.PrintLast Go.Proofs.YtaofjgnhapnndaaW.PrintMore
set_option linter.unusedVariables false
set_option linter.unusedSimpArgs false
def setN (bs : List IB) (i : Nat) (h n : List ByteArray) : List IB := bs.set i ⟨(gB bs i).f0, h, n⟩
def lessB (ts : List ByteArray) (bs : List IB) (n : ByteArray) (needs : List ByteArray) : List ByteArray × List IB × Int :=
  if bookB ts bs = true then
    (if atI bs n < 0 then (ts, bs, 3) else if namesB needs (gB bs (atI bs n).toNat).f2 = true then (ts, setN bs (atI bs n).toNat ((gB bs (atI bs n).toNat).f1.filter (hasS needs)) needs, 0) else (ts, bs, 2))
  else ([], [], 1)
theorem wMark_set {bs : List IB} {i : Nat} (hi : i < bs.length) (x : IB) : wMark (bs.set i x) + (1 + (gB bs i).f1.length + (gB bs i).f2.length) = wMark bs + (1 + x.f1.length + x.f2.length) := by
  have e := List.set_eq_take_append_cons_drop (l := bs) (i := i) (a := x)
  rw [if_pos hi] at e
  have e2 : bs = bs.take i ++ gB bs i :: bs.drop (i + 1) := by
    have := List.drop_eq_getElem_cons hi
    unfold gB; rw [getD_lt bs _ hi, ← this, List.take_append_drop]
  have e3 : wMark bs = wMark (bs.take i) + (1 + (gB bs i).f1.length + (gB bs i).f2.length + wMark (bs.drop (i + 1))) := by
    rw [← wMark_cons, ← wMark_append, ← e2]
  rw [e, wMark_append, wMark_cons, e3]; omega
theorem filter_len (p : ByteArray → Bool) (l : List ByteArray) : (l.filter p).length ≤ l.length := List.length_filter_le p l
theorem setN_w {bs : List IB} {i : Nat} (hi : i < bs.length) (p : ByteArray → Bool) (needs : List ByteArray) : wMark (setN bs i ((gB bs i).f1.filter p) needs) ≤ wMark bs + needs.length := by
  have := wMark_set hi ⟨(gB bs i).f0, (gB bs i).f1.filter p, needs⟩
  have h2 := filter_len p (gB bs i).f1
  unfold setN; simp only at this; omega
theorem lessB_z {ts : List ByteArray} {bs : List IB} (n : ByteArray) {needs : List ByteArray} (h : ts.length + wMark bs ≤ 1048576) (hn : needs.length ≤ 1048576) : Bz (lessB ts bs n needs).1 (lessB ts bs n needs).2.1 := by
  unfold lessB
  split
  · split
    · exact ne_Bz h
    · rename_i hc
      obtain ⟨i, e, hi⟩ := atI_is bs n hc
      rw [e, Int.toNat_natCast]
      split
      · have := setN_w hi (hasS needs) needs
        unfold Bz; dsimp only; omega
      · exact ne_Bz h
  · exact Bz.nil
theorem filter_take {l : List ByteArray} (p : ByteArray → Bool) {i : Nat} (h : i < l.length) : (l.take (i + 1)).filter p = (l.take i).filter p ++ (if p l[i] = true then [l[i]] else []) := by
  rw [List.take_succ_eq_append_getElem h, List.filter_append]
  cases hp : p l[i] <;> simp [hp]
theorem spec_ShareLess_ev (ts : List ByteArray) (bs : List IB) (n : ByteArray) (needs : List ByteArray) (h : ts.length + wMark bs ≤ 1048576) (hn : needs.length ≤ 1048576) : Ev (fun k => spec_ShareLess.f k ts bs n needs) (lessB ts bs n needs) := by
  have hz := ne_Bz h
  have hl := hz.bs
  unfold spec_ShareLess.f lessB
  refine Ev.bind (spec_ShareBookOk_ev ts bs (by have := hz.ts; omega) (by omega) hz.bok) (Ev.test _ (fun hb => ?_) (fun hb => Ev.ret (by simp [hb])))
  rw [if_pos hb]
  refine Ev.bind (spec_l1Copy_ev ts bs hz) (Ev.bind (spec_l1At_ev ts bs n (by omega)) ?_)
  refine Ev.prop (fun hc => Ev.ret (by rw [if_pos hc])) (fun hc => ?_)
  rw [if_neg hc]
  obtain ⟨i, e, hi⟩ := atI_is bs n hc
  rw [e, Int.toNat_natCast]
  have hii := hz.at_ hi
  dsimp only
  refine Ev.pos (by omega) (Ev.pos (by omega) ?_)
  rw [rdB_cast]
  refine Ev.bind (spec_l1NamesOk_ev needs _ (by omega) (by omega)) (Ev.test _ (fun ht => ?_) (fun ht => Ev.ret (by simp [ht])))
  rw [if_pos ht]
  have go : ∀ (d j : Nat), (gB bs i).f1.length - j = d → j ≤ (gB bs i).f1.length → Ev (fun k => spec_ShareLess.l0 k needs (i : Int) (((gB bs i).f1.take j).filter (hasS needs)) (j : Int) ts bs ts bs) (ts, setN bs i ((gB bs i).f1.filter (hasS needs)) needs, 0) := by
    intro d
    induction d with
    | zero =>
      intro j hd hj
      have hje : j = (gB bs i).f1.length := by omega
      refine Ev.step (fun k => spec_ShareLess.l0.eq_2 _ _ _ _ _ _ _ _ k) (Ev.pos (by omega) (Ev.pos (by omega) ?_))
      rw [rdB_cast]
      refine Ev.neg (by omega) (Ev.bind (l1Names_ev needs (by omega)) (Ev.pos (by omega) (Ev.bind (Ev.ret rfl) ?_)))
      have hset : ((bs.set i (⟨(gB bs i).f0, (gB bs i).f1, needs⟩ : IB)).set i ⟨(gB bs i).f0, (gB bs i).f1.filter (hasS needs), needs⟩) = setN bs i ((gB bs i).f1.filter (hasS needs)) needs := by rw [List.set_set]; rfl
      have hrd : rd_T56 (bs.set i (⟨(gB bs i).f0, (gB bs i).f1, needs⟩ : IB)) (i : Int) = ⟨(gB bs i).f0, (gB bs i).f1, needs⟩ := by
        unfold rd_T56
        rw [Int.toNat_natCast, List.getD_eq_getElem?_getD, List.getElem?_set_self hi]; rfl
      rw [Int.toNat_natCast, hrd, List.take_of_length_le (by omega), hset]
      have hw := setN_w hi (hasS needs) needs
      exact Ev.bind (spec_l1Copy_ev ts _ (by unfold Bz; omega)) (Ev.ret rfl)
    | succ d ih =>
      intro j hd hj
      have hlt : j < (gB bs i).f1.length := by omega
      refine Ev.step (fun k => spec_ShareLess.l0.eq_2 _ _ _ _ _ _ _ _ k) (Ev.pos (by omega) (Ev.pos (by omega) ?_))
      rw [rdB_cast]
      refine Ev.pos (by omega) (Ev.pos (by omega) ?_)
      rw [rdS_cast, show gS (gB bs i).f1 j = (gB bs i).f1[j] from getD_lt _ _ hlt, wrap_up hlt (by omega)]
      have := ih (j + 1) (by omega) (by omega)
      rw [filter_take _ hlt] at this
      refine Ev.bind (spec_l1Has_ev needs _ (by omega)) (Ev.test _ (fun hp => Ev.pos ?_ ?_) (fun hp => ?_))
      · have := filter_len (hasS needs) ((gB bs i).f1.take j); rw [List.length_take] at this; omega
      · rw [if_pos hp] at this; exact this
      · rw [if_neg (by simp [hp]), List.append_nil] at this; exact this
  have := go (gB bs i).f1.length 0 (by omega) (by omega)
  exact this
theorem impl_ShareLess_ev (ts : List ByteArray) (bs : List IB) (n : ByteArray) (needs : List ByteArray) (h : ts.length + wMark bs ≤ 1048576) (hn : needs.length ≤ 1048576) : Ev (fun k => impl_ShareLess.f k ts bs n needs) (lessB ts bs n needs) := by
  have hz := ne_Bz h
  have hl := hz.bs
  unfold impl_ShareLess.f lessB
  refine Ev.bind (impl_ShareBookOk_ev ts bs (by have := hz.ts; omega) (by omega) hz.bok) (Ev.test _ (fun hb => ?_) (fun hb => Ev.ret (by simp [hb])))
  rw [if_pos hb]
  refine Ev.bind (impl_copyBook_ev ts bs hz) (Ev.bind (Ev.ret (s := atI bs n) rfl) ?_)
  refine Ev.prop (fun hc => Ev.ret (by rw [if_pos hc])) (fun hc => ?_)
  rw [if_neg hc]
  obtain ⟨i, e, hi⟩ := atI_is bs n hc
  rw [e, Int.toNat_natCast]
  have hii := hz.at_ hi
  refine Ev.pos ⟨by omega, by dsimp only; omega⟩ ?_
  rw [rdB_cast]
  refine Ev.bind (impl_of_ev needs _ (by omega) (by omega)) (Ev.test _ (fun ht => ?_) (fun ht => Ev.ret (by simp [ht])))
  rw [if_pos ht]
  dsimp only
  exact Ev.bind (clone_ev needs (by omega)) (Ev.ret (by simp [setN]))
end Go.Proofs.Ytaofjgnhapnndaa.Q
namespace Go.Proofs.Ytaofjgnhapnndaa.Q
open Go.RowKit Go.Proofs.YtaofjgnhapnndaaW.PrintWords Go.Proofs.YtaofjgnhapnndaaW.PrintLast Go.Proofs.YtaofjgnhapnndaaW.PrintMore
set_option linter.unusedVariables false
set_option linter.unusedSimpArgs false
theorem FnExactShareLess_pure (ts : List ByteArray) (bs : List LB) (n : ByteArray) (l : List ByteArray) (hi : Inok ts bs) (hs : n.size ≤ 140737488351232) (hl : l.length ≤ 9223372036854775807 ∧ ∀ s ∈ l, s.size ≤ 9223372036854775807) : ∃ k, laws_FnExactShareLess.f k ts bs n l = some true := by
  refine Ev.rounds (g := fun k => laws_FnExactShareLess.f k ts bs n l) ?_
  unfold laws_FnExactShareLess.f
  refine Ev.prop (fun _ => Ev.ret rfl) (fun _ => ?_)
  refine counted hi fun a ha h0 h => ?_
  refine countedS hl h0 (by omega) fun a2 h2 h3 hs2 => ?_
  unfold laws_FnExactShareLess.t
  have hb := Bz.of (wBook_of ha h0)
  have hx := ne_Bz hb
  have hg := lessB_z n hb h3
  have hsp := spec_ShareLess_ev ts (bs.map toB) n l hb h3
  have him := impl_ShareLess_ev ts (bs.map toB) n l hb h3
  have hto := toStringS_ev l (by omega)
  have heq := hg.eq_ev
  have hm := markB_ev hg
  have hh := heldB_ev hg
  have hmx := markB_ev hx
  have hmr := markStringS_ev l (1 + ts.length + wMark (bs.map toB)) (by omega) (by omega)
  have hp : (0 : Int) ≤ 1 + ts.length + wMark (bs.map toB) + l.length := by omega
  have hq : (0 : Int) ≤ 1 + (lessB ts (bs.map toB) n l).1.length + wMark (lessB ts (bs.map toB) n l).2.1 := by omega
  refine Ev.bind h.to_ev (Ev.bind hto (Ev.bind hsp (Ev.bind h.to_ev (Ev.bind hto (Ev.bind him (Ev.bind heq (Ev.pos ⟨rfl, rfl⟩ (Ev.bind h.to_ev (Ev.bind h.eq_ev (Ev.pos rfl ?_))))))))))
  refine Ev.bind hto (Ev.bind (eqStringS_ev l (by omega)) (Ev.pos rfl ?_))
  refine Ev.bind hmx (Ev.bind hmr (Ev.pos hp (Ev.bind heq (Ev.pos rfl (Ev.bind hm (Ev.bind hh (Ev.pos ⟨hq, rfl⟩ ?_)))))))
  exact Ev.bind h.to_ev (Ev.bind hto (Ev.bind him (Ev.bind heq (Ev.pos ⟨rfl, rfl⟩ (Ev.bind hh (Ev.pos ⟨hq, rfl⟩ (Ev.ret rfl)))))))
end Go.Proofs.Ytaofjgnhapnndaa.Q
