/- Texts that the row needs: words on memory and rows, the contracts of the functions it reaches, and the plain lemmas on what they compute. -/
import Derived.Test.YtaofjgnhapnndaaProg
import Derived.Below
import Derived.Deep.Draws
import Derived.Deep.AppendLies
import Derived.Maps.AppendAt
import Derived.OwnWalk
import Derived.Laws.BytesArg
import Derived.Laws.MakeOwn
import Derived.Laws.OwnMore
import Derived.Deep.OwnRows
import Derived.Tactics
import Derived.Lib.ConvBytes
import Derived.Laws.Slices
import Derived.WalkKit
import Derived.KernelRfl
import Derived.RowKit3
import Derived.Deep.LoopGhost
import Derived.Deep.QuietTactic
import Derived.BigQuiet
import Derived.WideLaws
import Derived.Deep.DeepCutAuto
import Derived.Deep.CutBlock
import Derived.Deep.RegionHeld3
import Derived.Laws.Rows
import Derived.Lib.AppendStr
import Derived.ArgAppend
import Derived.Laws.IdiomCopy
import Derived.OrdersHeld
import Derived.Laws.BitsLemmas
import Derived.RowKit
import Derived.WalkLawsBesides
import Derived.Laws.StructEq
import Derived.Test.YtaofjgnhapnndaaRows
import Derived.ProofKit
import Derived.Shelf.Abstract
import Derived.Test.YtaofjgnhapnndaaXaaa
import Derived.Test.YtaofjgnhapnndaaXaab
import Derived.Test.YtaofjgnhapnndaaXaac
import Derived.Test.YtaofjgnhapnndaaXaad
import Derived.Test.YtaofjgnhapnndaaXaae
import Derived.Test.YtaofjgnhapnndaaXaaf
open Go.Proofs.YtaofjgnhapnndaaFa
namespace Go.Proofs.Ytaofjgnhapnndaa.Q
open Go.RowKit Go.Proofs.YtaofjgnhapnndaaW.PrintWords Go.Proofs.YtaofjgnhapnndaaW.PrintLast Go.Proofs.YtaofjgnhapnndaaW.PrintMore
set_option linter.unusedVariables false
set_option linter.unusedSimpArgs false
abbrev LB := S94
abbrev IB := S56
def toB (b : LB) : IB := ⟨b.f0, b.f1, b.f2⟩
def gB (l : List IB) (i : Nat) : IB := l.getD i z56
def gL (l : List LB) (i : Nat) : LB := l.getD i z94
theorem rdB_cast (l : List IB) (i : Nat) : rd_T56 l (i : Int) = gB l i := by unfold rd_T56 gB; rw [Int.toNat_natCast]
theorem rdL_cast (l : List LB) (i : Nat) : rd_T94 l (i : Int) = gL l i := by unfold rd_T94 gL; rw [Int.toNat_natCast]
theorem getD_lt {α : Type} (l : List α) (z : α) {i : Nat} (h : i < l.length) : l.getD i z = l[i] := by rw [List.getD_eq_getElem?_getD, List.getElem?_eq_getElem h]; rfl
def sumS (l : List ByteArray) : Nat := (l.map ByteArray.size).sum
def wS (l : List ByteArray) : Nat := l.length + sumS l
def wL (b : LB) : Nat := b.f0.size + wS b.f1 + wS b.f2
def sumL (l : List LB) : Nat := (l.map wL).sum
def wBook (ts : List ByteArray) (bs : List LB) : Nat := wS ts + (bs.length + sumL bs)
def left (n : Nat) (a : Int) : Int := if (n : Int) ≤ a then a - n else -1
theorem szStringS_go (l : List ByteArray) (hl : l.length ≤ 9223372036854775807) (hs : ∀ s ∈ l, s.size ≤ 9223372036854775807) : ∀ (d i : Nat) (a : Int), l.length - i = d → i ≤ l.length → 0 ≤ a → a ≤ 9223372036854775807 →
    Ev (fun k => laws_szStringS.l0 k l a (i : Int)) (left (sumS (l.drop i)) a) := by
  intro d
  induction d with
  | zero =>
    intro i a hd hi h0 h1
    refine Ev.step (fun k => laws_szStringS.l0.eq_2 l a _ k) ?_
    refine Ev.neg (by omega) (Ev.ret ?_)
    rw [List.drop_eq_nil_of_le (by omega)]
    simp [sumS, left, h0]
  | succ d ih =>
    intro i a hd hi h0 h1
    have hlt : i < l.length := by omega
    have hz : l[i].size ≤ 9223372036854775807 := hs _ (List.getElem_mem hlt)
    refine Ev.step (fun k => laws_szStringS.l0.eq_2 l a _ k) ?_
    refine Ev.pos (by omega) (Ev.pos (by omega) ?_)
    rw [rdS_cast, show gS l i = l[i] from getD_lt l _ hlt, wrap_sub h1 h0 (by omega) (by omega), wrap_up hlt hl]
    have hsum : sumS (l.drop i) = l[i].size + sumS (l.drop (i + 1)) := by rw [List.drop_eq_getElem_cons hlt]; simp only [sumS, List.map_cons, List.sum_cons]
    rw [hsum]
    refine Ev.prop (fun h => Ev.ret ?_) (fun h => ?_)
    · unfold left; rw [if_neg (by omega)]
    · refine Ev.sub (ih (i + 1) (a - l[i].size) (by omega) (by omega) (by omega) (by omega)) ?_
      unfold left
      by_cases h2 : (((l[i].size + sumS (l.drop (i + 1)) : Nat)) : Int) ≤ a
      · rw [if_pos h2, if_pos (by omega)]; omega
      · rw [if_neg h2, if_neg (by omega)]
theorem szStringS_ev (l : List ByteArray) (a : Int) (hl : l.length ≤ 9223372036854775807) (hs : ∀ s ∈ l, s.size ≤ 9223372036854775807) (h0 : 0 ≤ a) (h1 : a ≤ 9223372036854775807) : Ev (fun k => laws_szStringS.f k l a) (left (wS l) a) := by
  unfold laws_szStringS.f
  rw [wrap_sub h1 h0 (by omega) (by omega)]
  refine Ev.prop (fun h => Ev.ret ?_) (fun h => ?_)
  · unfold left wS; rw [if_neg (by omega)]
  · refine Ev.sub (szStringS_go l hl hs l.length 0 (a - l.length) (by omega) (by omega) (by omega) (by omega)) ?_
    rw [List.drop_zero]
    unfold left wS
    by_cases h2 : (((l.length + sumS l : Nat)) : Int) ≤ a
    · rw [if_pos h2, if_pos (by omega)]; omega
    · rw [if_neg h2, if_neg (by omega)]
def LBok (b : LB) : Prop := b.f0.size ≤ 9223372036854775807 ∧ (b.f1.length ≤ 9223372036854775807 ∧ ∀ s ∈ b.f1, s.size ≤ 9223372036854775807) ∧ (b.f2.length ≤ 9223372036854775807 ∧ ∀ s ∈ b.f2, s.size ≤ 9223372036854775807)
theorem left_neg {n : Nat} {a : Int} (h : left n a < 0) : ¬ (n : Int) ≤ a := by unfold left at h; intro h2; rw [if_pos h2] at h; omega
theorem left_pos {n : Nat} {a : Int} (h : ¬ left n a < 0) : (n : Int) ≤ a ∧ left n a = a - n := by
  unfold left at h ⊢
  by_cases h2 : (n : Int) ≤ a
  · exact ⟨h2, if_pos h2⟩
  · rw [if_neg h2] at h; omega
theorem szShareBatch_ev (b : LB) (a : Int) (hb : LBok b) (h0 : 0 ≤ a) (h1 : a ≤ 9223372036854775807) : Ev (fun k => laws_szShareBatch.f k b.f0 b.f1 b.f2 a) (left (wL b) a) := by
  obtain ⟨z0, ⟨z1, z2⟩, z3, z4⟩ := hb
  unfold laws_szShareBatch.f
  rw [wrap_sub h1 h0 (by omega) (by omega)]
  refine Ev.prop (fun h => Ev.ret ?_) (fun h => ?_)
  · unfold left wL; rw [if_neg (by omega)]
  · refine Ev.bind (szStringS_ev b.f1 _ z1 z2 (by omega) (by omega)) ?_
    refine Ev.prop (fun h2 => Ev.ret ?_) (fun h2 => ?_)
    · have := left_neg h2; unfold left wL; rw [if_neg (by omega)]
    · obtain ⟨h3, h4⟩ := left_pos h2
      rw [h4]
      refine Ev.bind (szStringS_ev b.f2 _ z3 z4 (by omega) (by omega)) ?_
      refine Ev.prop (fun h5 => Ev.ret ?_) (fun h5 => Ev.ret ?_)
      · have := left_neg h5; unfold left wL; rw [if_neg (by omega)]
      · obtain ⟨h6, h7⟩ := left_pos h5
        rw [h7]; unfold left wL; rw [if_pos (by omega)]; omega
theorem szShareBatchS_go (l : List LB) (hl : l.length ≤ 9223372036854775807) (hs : ∀ s ∈ l, LBok s) : ∀ (d i : Nat) (a : Int), l.length - i = d → i ≤ l.length → 0 ≤ a → a ≤ 9223372036854775807 →
    Ev (fun k => laws_szShareBatchS.l0 k l a (i : Int)) (left (sumL (l.drop i)) a) := by
  intro d
  induction d with
  | zero =>
    intro i a hd hi h0 h1
    refine Ev.step (fun k => laws_szShareBatchS.l0.eq_2 l a _ k) ?_
    refine Ev.neg (by omega) (Ev.ret ?_)
    rw [List.drop_eq_nil_of_le (by omega)]
    simp [sumL, left, h0]
  | succ d ih =>
    intro i a hd hi h0 h1
    have hlt : i < l.length := by omega
    refine Ev.step (fun k => laws_szShareBatchS.l0.eq_2 l a _ k) ?_
    refine Ev.pos (by omega) (Ev.pos (by omega) ?_)
    rw [rdL_cast, show gL l i = l[i] from getD_lt l _ hlt, wrap_up hlt hl]
    have hsum : sumL (l.drop i) = wL l[i] + sumL (l.drop (i + 1)) := by rw [List.drop_eq_getElem_cons hlt]; simp only [sumL, List.map_cons, List.sum_cons]
    rw [hsum]
    refine Ev.bind (szShareBatch_ev l[i] a (hs _ (List.getElem_mem hlt)) h0 h1) ?_
    refine Ev.prop (fun h => Ev.ret ?_) (fun h => ?_)
    · have := left_neg h; unfold left; rw [if_neg (by omega)]
    · obtain ⟨h2, h3⟩ := left_pos h
      rw [h3]
      refine Ev.sub (ih (i + 1) (a - wL l[i]) (by omega) (by omega) (by omega) (by omega)) ?_
      unfold left
      by_cases h4 : (((wL l[i] + sumL (l.drop (i + 1)) : Nat)) : Int) ≤ a
      · rw [if_pos h4, if_pos (by omega)]; omega
      · rw [if_neg h4, if_neg (by omega)]
theorem szShareBatchS_ev (l : List LB) (a : Int) (hl : l.length ≤ 9223372036854775807) (hs : ∀ s ∈ l, LBok s) (h0 : 0 ≤ a) (h1 : a ≤ 9223372036854775807) : Ev (fun k => laws_szShareBatchS.f k l a) (left (l.length + sumL l) a) := by
  unfold laws_szShareBatchS.f
  rw [wrap_sub h1 h0 (by omega) (by omega)]
  refine Ev.prop (fun h => Ev.ret ?_) (fun h => ?_)
  · unfold left; rw [if_neg (by omega)]
  · refine Ev.sub (szShareBatchS_go l hl hs l.length 0 (a - l.length) (by omega) (by omega) (by omega) (by omega)) ?_
    rw [List.drop_zero]
    unfold left
    by_cases h2 : (((l.length + sumL l : Nat)) : Int) ≤ a
    · rw [if_pos h2, if_pos (by omega)]; omega
    · rw [if_neg h2, if_neg (by omega)]
def Inok (ts : List ByteArray) (bs : List LB) : Prop := (ts.length ≤ 9223372036854775807 ∧ ∀ s ∈ ts, s.size ≤ 9223372036854775807) ∧ bs.length ≤ 9223372036854775807 ∧ ∀ b ∈ bs, LBok b
theorem szShareBook_ev (ts : List ByteArray) (bs : List LB) (a : Int) (hi : Inok ts bs) (h0 : 0 ≤ a) (h1 : a ≤ 9223372036854775807) : Ev (fun k => laws_szShareBook.f k ts bs a) (left (wBook ts bs) a) := by
  obtain ⟨⟨z1, z2⟩, z3, z4⟩ := hi
  unfold laws_szShareBook.f
  refine Ev.bind (szStringS_ev ts a z1 z2 h0 h1) ?_
  refine Ev.prop (fun h2 => Ev.ret ?_) (fun h2 => ?_)
  · have := left_neg h2; unfold left wBook; rw [if_neg (by omega)]
  · obtain ⟨h3, h4⟩ := left_pos h2
    rw [h4]
    refine Ev.bind (szShareBatchS_ev bs _ z3 z4 (by omega) (by omega)) ?_
    refine Ev.prop (fun h5 => Ev.ret ?_) (fun h5 => Ev.ret ?_)
    · have := left_neg h5; unfold left wBook; rw [if_neg (by omega)]
    · obtain ⟨h6, h7⟩ := left_pos h5
      rw [h7]; unfold left wBook; rw [if_pos (by omega)]; omega
theorem set_take {α : Type} (x l : List α) (i : Nat) (hi : i < l.length) (hx : x.length = l.length) (h : x.take i = l.take i) : (x.set i l[i]).take (i + 1) = l.take (i + 1) := by
  rw [List.take_succ_eq_append_getElem (by simp; omega), List.take_succ_eq_append_getElem hi, List.getElem_set_self, List.take_set_of_le (Nat.le_refl _), h]
theorem toStringS_ev (l : List ByteArray) (hl : l.length ≤ 17592186044416) : Ev (fun k => laws_toStringS.f k l) l := by
  unfold laws_toStringS.f
  refine Ev.pos (by omega) (Ev.pos (by omega) ?_)
  have go : ∀ (d i : Nat) (x : List ByteArray), l.length - i = d → i ≤ l.length → x.length = l.length → x.take i = l.take i → Ev (fun k => laws_toStringS.l0 k l x (i : Int)) l := by
    intro d
    induction d with
    | zero =>
      intro i x hd hi hx h
      refine Ev.step (fun k => laws_toStringS.l0.eq_2 l x _ k) ?_
      refine Ev.neg (by omega) (Ev.ret ?_)
      rwa [List.take_of_length_le (by omega), List.take_of_length_le (by omega)] at h
    | succ d ih =>
      intro i x hd hi hx h
      have hlt : i < l.length := by omega
      refine Ev.step (fun k => laws_toStringS.l0.eq_2 l x _ k) ?_
      refine Ev.pos (by omega) (Ev.pos (by omega) (Ev.pos (by omega) ?_))
      rw [rdS_cast, show gS l i = l[i] from getD_lt l _ hlt, wrap_up hlt (by omega), Int.toNat_natCast]
      exact ih (i + 1) _ (by omega) (by omega) (by simp [hx]) (set_take x l i hlt hx h)
  exact go l.length 0 _ (by omega) (by omega) (by simp) (by simp)
theorem toShareBatch_ev (b : LB) (h1 : b.f1.length ≤ 17592186044416) (h2 : b.f2.length ≤ 17592186044416) : Ev (fun k => laws_toShareBatch.f k b.f0 b.f1 b.f2) (b.f0, b.f1, b.f2) := by
  unfold laws_toShareBatch.f
  exact Ev.bind (toStringS_ev b.f1 h1) (Ev.bind (toStringS_ev b.f2 h2) (Ev.ret rfl))
theorem toShareBatchS_ev (l : List LB) (hl : l.length ≤ 4398046511104) (hs : ∀ b ∈ l, b.f1.length ≤ 17592186044416 ∧ b.f2.length ≤ 17592186044416) : Ev (fun k => laws_toShareBatchS.f k l) (l.map toB) := by
  unfold laws_toShareBatchS.f
  refine Ev.pos (by omega) (Ev.pos (by omega) ?_)
  have go : ∀ (d i : Nat) (x : List IB), l.length - i = d → i ≤ l.length → x.length = l.length → x.take i = (l.map toB).take i → Ev (fun k => laws_toShareBatchS.l0 k l x (i : Int)) (l.map toB) := by
    intro d
    induction d with
    | zero =>
      intro i x hd hi hx h
      refine Ev.step (fun k => laws_toShareBatchS.l0.eq_2 l x _ k) ?_
      refine Ev.neg (by omega) (Ev.ret ?_)
      rwa [List.take_of_length_le (by omega), List.take_of_length_le (by simp; omega)] at h
    | succ d ih =>
      intro i x hd hi hx h
      have hlt : i < l.length := by omega
      refine Ev.step (fun k => laws_toShareBatchS.l0.eq_2 l x _ k) ?_
      refine Ev.pos (by omega) (Ev.pos (by omega) ?_)
      rw [rdL_cast, show gL l i = l[i] from getD_lt l _ hlt, wrap_up hlt (by omega), Int.toNat_natCast]
      refine Ev.bind (toShareBatch_ev l[i] (hs _ (List.getElem_mem hlt)).1 (hs _ (List.getElem_mem hlt)).2) ?_
      refine Ev.pos (by omega) ?_
      refine ih (i + 1) _ (by omega) (by omega) (by simp [hx]) ?_
      have := set_take x (l.map toB) i (by simpa using hlt) (by simpa using hx) h
      rwa [List.getElem_map] at this
  exact go l.length 0 _ (by omega) (by omega) (by simp) (by simp)
theorem toShareBook_ev (ts : List ByteArray) (bs : List LB) (h1 : ts.length ≤ 17592186044416) (h2 : bs.length ≤ 4398046511104) (h3 : ∀ b ∈ bs, b.f1.length ≤ 17592186044416 ∧ b.f2.length ≤ 17592186044416) : Ev (fun k => laws_toShareBook.f k ts bs) (ts, bs.map toB) := by
  unfold laws_toShareBook.f
  exact Ev.bind (toStringS_ev ts h1) (Ev.bind (toShareBatchS_ev bs h2 h3) (Ev.ret rfl))
theorem eqStringS_ev (l : List ByteArray) (hl : l.length ≤ 9223372036854775807) : Ev (fun k => laws_eqStringS.f k l l) true := by
  unfold laws_eqStringS.f
  refine Ev.pos rfl ?_
  exact Ev.loop (f := fun k i => laws_eqStringS.l0 k l l (i : Int)) (val := fun _ => true) l.length
    (by refine Ev.step (fun k => laws_eqStringS.l0.eq_2 l l _ k) ?_
        exact Ev.neg (by omega) (Ev.ret rfl))
    (fun i hi H => by
      refine Ev.step (fun k => laws_eqStringS.l0.eq_2 l l _ k) ?_
      refine Ev.pos (by omega) (Ev.pos (by omega) (Ev.pos (by omega) (Ev.pos rfl ?_)))
      rw [wrap_up hi hl]
      exact H) 0 (by omega)
theorem eqShareBatch_ev (b : IB) (h1 : b.f1.length ≤ 9223372036854775807) (h2 : b.f2.length ≤ 9223372036854775807) : Ev (fun k => laws_eqShareBatch.f k b.f0 b.f1 b.f2 b.f0 b.f1 b.f2) true := by
  unfold laws_eqShareBatch.f
  refine Ev.pos rfl (Ev.bind (eqStringS_ev _ h1) (Ev.pos rfl (Ev.bind (eqStringS_ev _ h2) (Ev.pos rfl (Ev.ret rfl)))))
theorem eqShareBatchS_ev (l : List IB) (hl : l.length ≤ 9223372036854775807) (hs : ∀ b ∈ l, b.f1.length ≤ 9223372036854775807 ∧ b.f2.length ≤ 9223372036854775807) : Ev (fun k => laws_eqShareBatchS.f k l l) true := by
  unfold laws_eqShareBatchS.f
  refine Ev.pos rfl ?_
  exact Ev.loop (f := fun k i => laws_eqShareBatchS.l0 k l l (i : Int)) (val := fun _ => true) l.length
    (by refine Ev.step (fun k => laws_eqShareBatchS.l0.eq_2 l l _ k) ?_
        exact Ev.neg (by omega) (Ev.ret rfl))
    (fun i hi H => by
      refine Ev.step (fun k => laws_eqShareBatchS.l0.eq_2 l l _ k) ?_
      refine Ev.pos (by omega) (Ev.pos (by omega) (Ev.pos (by omega) ?_))
      rw [rdB_cast, show gB l i = l[i] from getD_lt l _ hi, wrap_up hi hl]
      exact Ev.bind (eqShareBatch_ev l[i] (hs _ (List.getElem_mem hi)).1 (hs _ (List.getElem_mem hi)).2) (Ev.pos rfl H)) 0 (by omega)
theorem eqShareBook_ev (ts : List ByteArray) (bs : List IB) (h1 : ts.length ≤ 9223372036854775807) (h2 : bs.length ≤ 9223372036854775807) (h3 : ∀ b ∈ bs, b.f1.length ≤ 9223372036854775807 ∧ b.f2.length ≤ 9223372036854775807) : Ev (fun k => laws_eqShareBook.f k ts bs ts bs) true := by
  unfold laws_eqShareBook.f
  exact Ev.bind (eqStringS_ev ts h1) (Ev.pos rfl (Ev.bind (eqShareBatchS_ev bs h2 h3) (Ev.pos rfl (Ev.ret rfl))))
end Go.Proofs.Ytaofjgnhapnndaa.Q
namespace Go.Proofs.Ytaofjgnhapnndaa.Q
open Go.RowKit Go.Proofs.YtaofjgnhapnndaaW.PrintWords Go.Proofs.YtaofjgnhapnndaaW.PrintLast Go.Proofs.YtaofjgnhapnndaaW.PrintMore
set_option linter.unusedVariables false
set_option linter.unusedSimpArgs false
def Bok (bs : List IB) : Prop := ∀ b ∈ bs, b.f1.length ≤ 9223372036854775807 ∧ b.f2.length ≤ 9223372036854775807
theorem Bok.at_ {bs : List IB} (h : Bok bs) {i : Nat} (hi : i < bs.length) : (gB bs i).f1.length ≤ 9223372036854775807 ∧ (gB bs i).f2.length ≤ 9223372036854775807 := by
  rw [show gB bs i = bs[i] from getD_lt bs _ hi]; exact h _ (List.getElem_mem hi)
def batchP (ts : List ByteArray) (bs : List IB) (i : Nat) : Bool :=
  nameB (gB bs i).f0 && ((decide (i = 0) || ltB (gB bs (i - 1)).f0 (gB bs i).f0) && (namesB (gB bs i).f2 ts && namesB (gB bs i).f1 (gB bs i).f2))
def freeP (bs : List IB) (i : Nat) : Bool := allR (fun q => !shareB (gB bs i).f1 (gB bs q).f1) i 0
def bookB (ts : List ByteArray) (bs : List IB) : Bool := thingsB ts && (decide (bs.length ≤ 5) && allR (fun i => batchP ts bs i && freeP bs i) bs.length 0)
theorem aheadB_ev {α : Type} {bs : List IB} {i : Nat} (hi : i < bs.length) (hl : bs.length ≤ 9223372036854775807) {a b : Nat → Option α} {r s : α} (H1 : Ev a r) (H2 : Ev b s) :
    Ev (fun k => if (i : Int) > 0 then (if 0 ≤ (wrap64 ((i : Int) - 1)) then (if (wrap64 ((i : Int) - 1)) < (bs.length : Int) then (if ((Op.bytesLess (((rd_T56 bs (wrap64 ((i : Int) - 1))).f0).toList) (((rd_T56 bs (i : Int)).f0).toList)) = true) then a k else b k) else none) else none) else a k)
      (if (decide (i = 0) || ltB (gB bs (i - 1)).f0 (gB bs i).f0) = true then r else s) := by
  by_cases h0 : i = 0
  · rw [if_pos (by simp [h0])]; exact Ev.neg (by omega) H1
  · rw [wrap_down (by omega) (by omega), rdB_cast, rdB_cast, show (decide (i = 0) || ltB (gB bs (i - 1)).f0 (gB bs i).f0) = ltB (gB bs (i - 1)).f0 (gB bs i).f0 from by simp [h0]]
    refine Ev.pos (by omega) (Ev.pos (by omega) (Ev.pos (by omega) (Ev.test _ (fun h => ?_) (fun h => ?_))))
    · rw [if_pos (show ltB (gB bs (i - 1)).f0 (gB bs i).f0 = true from h)]; exact H1
    · rw [if_neg (by rw [show ltB (gB bs (i - 1)).f0 (gB bs i).f0 = false from h]; simp)]; exact H2
theorem spec_ShareBookOk_ev (ts : List ByteArray) (bs : List IB) (ht : ts.length ≤ 9223372036854775807) (hl : bs.length ≤ 9223372036854775807) (hb : Bok bs) : Ev (fun k => spec_ShareBookOk.f k ts bs) (bookB ts bs) := by
  unfold spec_ShareBookOk.f bookB
  have loop : Ev (fun k => spec_ShareBookOk.l0 k ((0 : Nat) : Int) ts bs) (allR (fun i => batchP ts bs i && freeP bs i) bs.length 0) := by
    refine Ev.loop (f := fun k i => spec_ShareBookOk.l0 k (i : Int) ts bs) (val := allR (fun i => batchP ts bs i && freeP bs i) bs.length) bs.length ?_ ?_ 0 (by omega)
    · rw [allR_end]
      refine Ev.step (fun k => spec_ShareBookOk.l0.eq_2 _ ts bs k) ?_
      exact Ev.neg (by omega) (Ev.ret rfl)
    · intro i hi H
      rw [allR_step _ hi]
      generalize allR (fun i => batchP ts bs i && freeP bs i) bs.length (i + 1) = r at H
      obtain ⟨b1, b2⟩ := hb.at_ hi
      have inner : Ev (fun k => spec_ShareBookOk.l1 k (i : Int) ((0 : Nat) : Int) ts bs (gB bs i).f0 (gB bs i).f1 (gB bs i).f2) (freeP bs i && r) := by
        refine Ev.loop (f := fun k j => spec_ShareBookOk.l1 k (i : Int) (j : Int) ts bs (gB bs i).f0 (gB bs i).f1 (gB bs i).f2) (val := fun j => allR (fun q => !shareB (gB bs i).f1 (gB bs q).f1) i j && r) i ?_ ?_ 0 (by omega)
        · simp only [allR_end, Bool.true_and]
          refine Ev.step (fun k => spec_ShareBookOk.l1.eq_2 _ _ ts bs _ _ _ k) ?_
          refine Ev.neg (by omega) ?_
          rw [wrap_up hi hl]; exact H
        · intro j hj H2
          simp only [allR_step (fun q => !shareB (gB bs i).f1 (gB bs q).f1) hj]
          refine Ev.step (fun k => spec_ShareBookOk.l1.eq_2 _ _ ts bs _ _ _ k) ?_
          refine Ev.pos (by omega) (Ev.pos (by omega) (Ev.pos (by omega) ?_))
          rw [rdB_cast, wrap_up hj (by omega)]
          refine Ev.bind (spec_l1Share_ev _ _ b1 (hb.at_ (show j < bs.length by omega)).1) ?_
          refine Ev.test _ (fun h => Ev.ret (by rw [h]; rfl)) (fun h => Ev.sub H2 (by rw [h]; rfl))
      have j2 : ∀ b, Ev (fun k => spec_ShareBookOk.j2 k (i : Int) b ts bs (gB bs i).f0 (gB bs i).f1 (gB bs i).f2) (!b && (freeP bs i && r)) := by
        intro b
        refine Ev.step (fun k => spec_ShareBookOk.j2.eq_2 _ _ ts bs _ _ _ k) ?_
        refine Ev.test _ (fun h => Ev.ret (by rw [h]; rfl)) (fun h => Ev.sub inner (by rw [h]; rfl))
      have X : Ev (fun k => (spec_l1NamesOk.f k (gB bs i).f2 ts).bind fun t => if t = true then ((spec_l1NamesOk.f k (gB bs i).f1 (gB bs i).f2).bind fun t2 => spec_ShareBookOk.j2 k (i : Int) (!t2) ts bs (gB bs i).f0 (gB bs i).f1 (gB bs i).f2) else spec_ShareBookOk.j2 k (i : Int) true ts bs (gB bs i).f0 (gB bs i).f1 (gB bs i).f2)
          (namesB (gB bs i).f2 ts && namesB (gB bs i).f1 (gB bs i).f2 && (freeP bs i && r)) := by
        refine Ev.bind (spec_l1NamesOk_ev _ _ b2 ht) ?_
        refine Ev.test _ (fun h => Ev.bind (spec_l1NamesOk_ev _ _ b1 b2) (Ev.sub (j2 _) (by rw [h]; simp))) (fun h => Ev.sub (j2 _) (by rw [h]; simp))
      refine Ev.step (fun k => spec_ShareBookOk.l0.eq_2 _ ts bs k) ?_
      refine Ev.pos (by omega) (Ev.pos (by omega) (Ev.bind (spec_l1NameOk_ev _) ?_))
      have A := aheadB_ev hi hl X (j2 true)
      rw [rdB_cast] at *
      refine Ev.test _ (fun h => Ev.sub A ?_) (fun h => Ev.sub (j2 true) ?_)
      · simp only [batchP, h, Bool.true_and]
        cases (decide (i = 0) || ltB (gB bs (i - 1)).f0 (gB bs i).f0) <;> simp [Bool.and_assoc]
      · simp [batchP, h]
  have j0 : ∀ b, Ev (fun k => spec_ShareBookOk.j0 k b ts bs) (!b && allR (fun i => batchP ts bs i && freeP bs i) bs.length 0) := by
    intro b
    refine Ev.step (fun k => spec_ShareBookOk.j0.eq_2 _ ts bs k) ?_
    refine Ev.test _ (fun h => Ev.ret (by rw [h]; rfl)) (fun h => Ev.sub loop (by rw [h]; rfl))
  refine Ev.bind (spec_l1ThingsOk_ev ts) ?_
  refine Ev.test _ (fun h => Ev.sub (j0 _) ?_) (fun h => Ev.sub (j0 _) (by rw [h]; simp))
  rw [h, show (!decide ((bs.length : Int) > 5)) = decide (bs.length ≤ 5) from by rw [Bool.eq_iff_iff]; simp; omega]
  rfl
theorem things_all (ts : List ByteArray) : (decide (ts.length ≤ 8) && (namesB ts ts && !(ts.any fun s => !nameB s))) = thingsB ts := by
  unfold thingsB
  congr 1
  rw [Bool.eq_iff_iff, Bool.and_eq_true, namesB, allR_iff, allR_iff]
  have hany : ((!(ts.any fun s => !nameB s)) = true) ↔ ∀ s ∈ ts, nameB s = true := by simp
  rw [hany]
  constructor
  · rintro ⟨h1, h2⟩ j h0 hj
    have := h1 j h0 hj
    simp only [namesP, Bool.and_eq_true] at this
    simp only [thingsP, Bool.and_eq_true]
    exact ⟨h2 _ (by rw [show gS ts j = ts[j] from getD_lt ts _ hj]; exact List.getElem_mem hj), this.2⟩
  · intro h
    refine ⟨fun j h0 hj => ?_, fun s hs => ?_⟩
    · have := h j h0 hj
      simp only [thingsP, Bool.and_eq_true] at this
      simp only [namesP, Bool.and_eq_true]
      refine ⟨?_, this.2⟩
      unfold hasS
      rw [List.any_eq_true]
      exact ⟨gS ts j, by rw [show gS ts j = ts[j] from getD_lt ts _ hj]; exact List.getElem_mem hj, by simp⟩
    · obtain ⟨j, hj, rfl⟩ := List.getElem_of_mem hs
      have := h j (by omega) hj
      simp only [thingsP, Bool.and_eq_true] at this
      rw [← show gS ts j = ts[j] from getD_lt ts _ hj]
      exact this.1
theorem impl_ShareBookOk_ev (ts : List ByteArray) (bs : List IB) (ht : ts.length ≤ 9223372036854775807) (hl : bs.length ≤ 9223372036854775807) (hb : Bok bs) : Ev (fun k => impl_ShareBookOk.f k ts bs) (bookB ts bs) := by
  unfold impl_ShareBookOk.f bookB
  have loop : Ev (fun k => impl_ShareBookOk.l0 k bs (bs.length : Int) ((0 : Nat) : Int) ts bs) (allR (fun i => batchP ts bs i && freeP bs i) bs.length 0) := by
    refine Ev.loop (f := fun k i => impl_ShareBookOk.l0 k bs (bs.length : Int) (i : Int) ts bs) (val := allR (fun i => batchP ts bs i && freeP bs i) bs.length) bs.length ?_ ?_ 0 (by omega)
    · rw [allR_end]
      refine Ev.step (fun k => impl_ShareBookOk.l0.eq_2 bs _ _ ts bs k) ?_
      exact Ev.neg (by omega) (Ev.ret rfl)
    · intro i hi H
      rw [allR_step _ hi]
      generalize allR (fun i => batchP ts bs i && freeP bs i) bs.length (i + 1) = r at H
      obtain ⟨b1, b2⟩ := hb.at_ hi
      have inner : Ev (fun k => impl_ShareBookOk.l1 k bs (bs.length : Int) (i : Int) (bs.take i) ((bs.take i).length : Int) ((0 : Nat) : Int) ts bs (gB bs i).f0 (gB bs i).f1 (gB bs i).f2) (freeP bs i && r) := by
        have hlen : (bs.take i).length = i := by rw [List.length_take]; omega
        refine Ev.loop (f := fun k j => impl_ShareBookOk.l1 k bs (bs.length : Int) (i : Int) (bs.take i) ((bs.take i).length : Int) (j : Int) ts bs (gB bs i).f0 (gB bs i).f1 (gB bs i).f2) (val := fun j => allR (fun q => !shareB (gB bs i).f1 (gB bs q).f1) i j && r) i ?_ ?_ 0 (by omega)
        · simp only [allR_end, Bool.true_and]
          refine Ev.step (fun k => impl_ShareBookOk.l1.eq_2 _ _ _ _ _ _ ts bs _ _ _ k) ?_
          refine Ev.neg (by rw [hlen]; omega) ?_
          rw [wrap_up hi hl]; exact H
        · intro j hj H2
          simp only [allR_step (fun q => !shareB (gB bs i).f1 (gB bs q).f1) hj]
          refine Ev.step (fun k => impl_ShareBookOk.l1.eq_2 _ _ _ _ _ _ ts bs _ _ _ k) ?_
          refine Ev.pos (by rw [hlen]; omega) (Ev.pos (by omega) (Ev.pos (by rw [hlen]; omega) ?_))
          rw [rdB_cast, wrap_up hj (by omega), show gB (bs.take i) j = gB bs j from by unfold gB; rw [List.getD_eq_getElem?_getD, List.getElem?_take_of_lt hj, List.getD_eq_getElem?_getD]]
          simp only [impl_common.f, Option.bind_some]
          refine Ev.test _ (fun h => Ev.ret (by rw [show shareB (gB bs i).f1 (gB bs j).f1 = true from h]; rfl)) (fun h => Ev.sub H2 (by rw [show shareB (gB bs i).f1 (gB bs j).f1 = false from h]; rfl))
      have j2 : ∀ b, Ev (fun k => impl_ShareBookOk.j2 k (i : Int) bs (bs.length : Int) (i : Int) b ts bs (gB bs i).f0 (gB bs i).f1 (gB bs i).f2) (!b && (freeP bs i && r)) := by
        intro b
        refine Ev.step (fun k => impl_ShareBookOk.j2.eq_2 _ _ _ _ _ ts bs _ _ _ k) ?_
        refine Ev.test _ (fun h => Ev.ret (by rw [h]; rfl)) (fun h => Ev.pos (by omega) (Ev.pos (by omega) ?_))
        rw [Int.toNat_natCast]
        simp only [Option.bind_some]
        exact Ev.sub inner (by rw [h]; rfl)
      have X : Ev (fun k => (impl_of.f k (gB bs i).f2 ts).bind fun t => if t = true then ((impl_of.f k (gB bs i).f1 (gB bs i).f2).bind fun t2 => impl_ShareBookOk.j2 k (i : Int) bs (bs.length : Int) (i : Int) (!t2) ts bs (gB bs i).f0 (gB bs i).f1 (gB bs i).f2) else impl_ShareBookOk.j2 k (i : Int) bs (bs.length : Int) (i : Int) true ts bs (gB bs i).f0 (gB bs i).f1 (gB bs i).f2)
          (namesB (gB bs i).f2 ts && namesB (gB bs i).f1 (gB bs i).f2 && (freeP bs i && r)) := by
        refine Ev.bind (impl_of_ev _ _ b2 ht) ?_
        refine Ev.test _ (fun h => Ev.bind (impl_of_ev _ _ b1 b2) (Ev.sub (j2 _) (by rw [h]; simp))) (fun h => Ev.sub (j2 _) (by rw [h]; simp))
      refine Ev.step (fun k => impl_ShareBookOk.l0.eq_2 _ _ _ ts bs k) ?_
      refine Ev.pos (by omega) (Ev.pos (by omega) (Ev.pos (by omega) (Ev.bind (name_ev _) ?_)))
      have A := aheadB_ev hi hl X (j2 true)
      rw [rdB_cast] at *
      refine Ev.test _ (fun h => Ev.sub A ?_) (fun h => Ev.sub (j2 true) ?_)
      · simp only [batchP, h, Bool.true_and]
        cases (decide (i = 0) || ltB (gB bs (i - 1)).f0 (gB bs i).f0) <;> simp [Bool.and_assoc]
      · simp [batchP, h]
  have j0 : ∀ b, Ev (fun k => impl_ShareBookOk.j0 k b ts bs) (!b && allR (fun i => batchP ts bs i && freeP bs i) bs.length 0) := by
    intro b
    refine Ev.step (fun k => impl_ShareBookOk.j0.eq_2 _ ts bs k) ?_
    refine Ev.test _ (fun h => Ev.ret (by rw [h]; rfl)) (fun h => Ev.sub loop (by rw [h]; rfl))
  rw [← things_all]
  refine Ev.prop (fun h => Ev.sub (j0 _) ?_) (fun h => Ev.prop (fun h2 => Ev.sub (j0 _) ?_) (fun h2 => Ev.bind (impl_of_ev ts ts ht ht) ?_))
  · rw [show decide (ts.length ≤ 8) = false from decide_eq_false (by omega)]; rfl
  · rw [show decide (bs.length ≤ 5) = false from decide_eq_false (by omega)]; simp
  · rw [show decide (bs.length ≤ 5) = true from decide_eq_true (by omega), show decide (ts.length ≤ 8) = true from decide_eq_true (by omega)]
    simp only [slices_ContainsFunc_string_string.f, Option.bind_some]
    refine Ev.test _ (fun h => Ev.sub (j0 _) (by rw [h]; simp)) (fun h => Ev.sub (j0 _) (by rw [h]; simp))
end Go.Proofs.Ytaofjgnhapnndaa.Q
namespace Go.Proofs.Ytaofjgnhapnndaa.Q
open Go.RowKit Go.Proofs.YtaofjgnhapnndaaW.PrintWords Go.Proofs.YtaofjgnhapnndaaW.PrintLast Go.Proofs.YtaofjgnhapnndaaW.PrintMore
set_option linter.unusedVariables false
set_option linter.unusedSimpArgs false
theorem len_of_wS {l : List ByteArray} {n : Nat} (h : wS l ≤ n) : l.length ≤ n := by unfold wS at h; omega
theorem le_sum_map {α : Type} (f : α → Nat) : ∀ {l : List α} {x : α}, x ∈ l → f x ≤ (l.map f).sum
  | a :: l, x, h => by
    rw [List.map_cons, List.sum_cons]
    rcases List.mem_cons.1 h with rfl | h
    · omega
    · have := le_sum_map f h; omega
theorem size_of_wS {l : List ByteArray} {n : Nat} (h : wS l ≤ n) : ∀ s ∈ l, s.size ≤ n := fun s hs => by
  have := le_sum_map ByteArray.size hs
  unfold wS sumS at h
  omega
structure Sm (n : Nat) (ts : List ByteArray) (bs : List LB) : Prop where
  lt : ts.length ≤ n
  lb : bs.length ≤ n
  b1 : ∀ b ∈ bs, b.f1.length ≤ n
  b2 : ∀ b ∈ bs, b.f2.length ≤ n
  s0 : ∀ s ∈ ts, s.size ≤ n
  s1 : ∀ b ∈ bs, b.f0.size ≤ n
  s2 : ∀ b ∈ bs, ∀ s ∈ b.f1, s.size ≤ n
  s3 : ∀ b ∈ bs, ∀ s ∈ b.f2, s.size ≤ n
theorem Sm.of {n : Nat} {ts : List ByteArray} {bs : List LB} (h : wBook ts bs ≤ n) : Sm n ts bs := by
  have hw : ∀ b ∈ bs, wL b ≤ n := fun b hb => by
    have := le_sum_map wL hb
    unfold wBook sumL at h
    omega
  refine ⟨len_of_wS (by unfold wBook at h; omega), by unfold wBook at h; omega, fun b hb => ?_, fun b hb => ?_, size_of_wS (by unfold wBook at h; omega), fun b hb => ?_, fun b hb => ?_, fun b hb => ?_⟩
  · have := hw b hb; unfold wL at this; exact len_of_wS (by omega)
  · have := hw b hb; unfold wL at this; exact len_of_wS (by omega)
  · have := hw b hb; unfold wL at this; omega
  · have := hw b hb; unfold wL at this; exact size_of_wS (by omega)
  · have := hw b hb; unfold wL at this; exact size_of_wS (by omega)
theorem Sm.bok {n : Nat} {ts : List ByteArray} {bs : List LB} (h : Sm n ts bs) (hn : n ≤ 9223372036854775807) : Bok (bs.map toB) := fun b hb => by
  obtain ⟨c, hc, rfl⟩ := List.mem_map.1 hb
  exact ⟨Nat.le_trans (h.b1 c hc) hn, Nat.le_trans (h.b2 c hc) hn⟩
theorem counted {ts : List ByteArray} {bs : List LB} (hi : Inok ts bs) {f : Nat → Int → Option Bool}
    (h : ∀ a, a = 1048576 - (wBook ts bs : Int) → 0 ≤ a → Sm 1048576 ts bs → Ev (fun k => f k a) true) :
    Ev (fun k => (laws_szShareBook.f k ts bs 1048576).bind fun t => if t < 0 then some true else f k t) true := by
  refine Ev.bind (szShareBook_ev ts bs 1048576 hi (by omega) (by omega)) ?_
  refine Ev.prop (fun _ => Ev.ret rfl) (fun h2 => ?_)
  obtain ⟨h3, h4⟩ := left_pos h2
  exact h _ h4 (by omega) (Sm.of (by omega))
theorem Sm.to_ev {ts : List ByteArray} {bs : List LB} (h : Sm 1048576 ts bs) : Ev (fun k => laws_toShareBook.f k ts bs) (ts, bs.map toB) :=
  toShareBook_ev ts bs (by have := h.lt; omega) (by have := h.lb; omega) (fun b hb => ⟨by have := h.b1 b hb; omega, by have := h.b2 b hb; omega⟩)
theorem Sm.eq_ev {ts : List ByteArray} {bs : List LB} (h : Sm 1048576 ts bs) : Ev (fun k => laws_eqShareBook.f k ts (bs.map toB) ts (bs.map toB)) true :=
  eqShareBook_ev ts _ (by have := h.lt; omega) (by have := h.lb; simp; omega) (h.bok (by omega))
theorem unturned {ts : List ByteArray} {bs : List LB} (h : Sm 1048576 ts bs) {f : Nat → Option Bool} (hf : Ev f true) :
    Ev (fun k => (laws_toShareBook.f k ts bs).bind fun b => (laws_eqShareBook.f k ts (bs.map toB) b.1 b.2).bind fun t => if t = true then f k else some false) true :=
  Ev.bind h.to_ev (Ev.bind h.eq_ev (Ev.pos rfl hf))
theorem Sm.ts' {ts : List ByteArray} {bs : List LB} (h : Sm 1048576 ts bs) : ts.length ≤ 9223372036854775807 := by have := h.lt; omega
theorem Sm.bs' {ts : List ByteArray} {bs : List LB} (h : Sm 1048576 ts bs) : (bs.map toB).length ≤ 9223372036854775807 := by have := h.lb; rw [List.length_map]; omega
theorem Sm.bok' {ts : List ByteArray} {bs : List LB} (h : Sm 1048576 ts bs) : Bok (bs.map toB) := h.bok (by omega)
end Go.Proofs.Ytaofjgnhapnndaa.Q
