/- Texts that the row needs: words on memory and rows, the contracts of the functions it reaches, and the plain lemmas on what they compute. -/
import Derived.Shelf.GgSortFunc.Tiny
import Derived.Ground.GgsProg
import Derived.Test.YtaofjgnhapnndaaXkwaj
open Go.Proofs.YtaofjgnhapnndaaFkw
namespace Go.Proofs.Ytaofjgnhapnndaa.Q
open Go.RowKit Go.Proofs.YtaofjgnhapnndaaW.PrintWords Go.Proofs.YtaofjgnhapnndaaW.PrintLast Go.Proofs.YtaofjgnhapnndaaW.PrintMore
set_option linter.unusedVariables false
set_option linter.unusedSimpArgs false
open Go.Shelf Go.Lib Go.Sort
def insK (l : List S56) (n : ByteArray) : Nat := (l.takeWhile fun b => Op.bytesLess b.f0.toList n.toList).length
def insB (l : List S56) (x : S56) : List S56 := l.take (insK l x.f0) ++ x :: l.drop (insK l x.f0)
def Asc (l : List S56) : Prop := l.Pairwise fun a b => Op.bytesLess a.f0.toList b.f0.toList = true
theorem wrap64_id (n : Int) (h : -9223372036854775808 ≤ n ∧ n ≤ 9223372036854775807) : wrap64 n = n := by unfold wrap64; omega
def wMark (l : List IB) : Nat := (l.map fun b => 1 + b.f1.length + b.f2.length).sum
theorem wMark_cons (b : IB) (r : List IB) : wMark (b :: r) = 1 + b.f1.length + b.f2.length + wMark r := by simp [wMark]
def findR (P : Nat → Bool) (n i : Nat) : Option Nat := (List.range' i (n - i)).find? P
theorem findR_end (P : Nat → Bool) (n : Nat) : findR P n n = none := by simp [findR]
theorem findR_step (P : Nat → Bool) {n i : Nat} (h : i < n) : findR P n i = if P i = true then some i else findR P n (i + 1) := by
  unfold findR; rw [show n - i = (n - (i + 1)) + 1 by omega, List.range'_succ, List.find?_cons]
  cases P i <;> rfl
def canP (bs : List IB) (at_ : Nat) (gone : List ByteArray) (q : Nat) : Bool := decide (q = at_) || (hasS gone (gB bs q).f0 || !shareB (gB bs q).f1 (gB bs at_).f2)
def canB (bs : List IB) (at_ : Nat) (gone : List ByteArray) : Bool := allR (canP bs at_ gone) bs.length 0
theorem spec_l2Can_ev (ts : List ByteArray) (bs : List IB) (at_ : Nat) (gone : List ByteArray) (hl : bs.length ≤ 9223372036854775807) (hb : Bok bs) (ha : at_ < bs.length) (hg : gone.length ≤ 9223372036854775807) : Ev (fun k => spec_l2Can.f k ts bs (at_ : Int) gone) (canB bs at_ gone) := by
  unfold spec_l2Can.f
  have b0 := hb.at_ ha
  refine Ev.loop (f := fun k i => spec_l2Can.l0 k (at_ : Int) gone (i : Int) ts bs) (val := allR (canP bs at_ gone) bs.length) bs.length ?_ ?_ 0 (by omega)
  · rw [allR_end]
    refine Ev.step (fun k => spec_l2Can.l0.eq_2 _ gone _ ts bs k) ?_
    exact Ev.neg (by omega) (Ev.ret rfl)
  · intro i hi H
    rw [allR_step _ hi]
    refine Ev.step (fun k => spec_l2Can.l0.eq_2 _ gone _ ts bs k) ?_
    refine Ev.pos (by omega) ?_
    rw [wrap_up hi hl, rdB_cast, rdB_cast]
    have bi := hb.at_ hi
    refine Ev.prop (fun h => Ev.sub H (by simp [canP, show i = at_ by omega])) (fun h => Ev.pos (by omega) (Ev.bind (spec_l1Has_ev gone _ hg) ?_))
    have hne : decide (i = at_) = false := decide_eq_false (by omega)
    refine Ev.test _ (fun h1 => Ev.sub H (by simp [canP, h1])) (fun h1 => Ev.pos (by omega) (Ev.pos (by omega) (Ev.bind (spec_l1Share_ev _ _ bi.1 b0.2) ?_)))
    refine Ev.test _ (fun h2 => Ev.ret (by simp [canP, h1, h2, hne])) (fun h2 => Ev.sub H (by simp [canP, h2]))
def whoB (ts : List ByteArray) (bs : List IB) (thing : ByteArray) : ByteArray :=
  if bookB ts bs = true then ((findR (fun i => hasS (gB bs i).f1 thing) bs.length 0).map fun i => (gB bs i).f0).getD ⟨#[]⟩ else ⟨#[]⟩
theorem spec_ShareWho_ev (ts : List ByteArray) (bs : List IB) (thing : ByteArray) (ht : ts.length ≤ 9223372036854775807) (hl : bs.length ≤ 9223372036854775807) (hb : Bok bs) : Ev (fun k => spec_ShareWho.f k ts bs thing) (whoB ts bs thing) := by
  unfold spec_ShareWho.f
  have E := Ev.loop (f := fun k i => spec_ShareWho.l0 k thing (i : Int) ts bs)
    (val := fun i => if bookB ts bs = true then ((findR (fun i => hasS (gB bs i).f1 thing) bs.length i).map fun i => (gB bs i).f0).getD ⟨#[]⟩ else ⟨#[]⟩) bs.length ?_ ?_ 0 (by omega)
  · exact E
  · refine Ev.step (fun k => spec_ShareWho.l0.eq_2 thing _ ts bs k) (Ev.neg (by omega) ?_)
    refine Ev.step (fun k => spec_ShareWho.j1.eq_2 thing _ _ ts bs k) (Ev.neg (by simp) (Ev.ret ?_))
    simp [findR_end]
  · intro i hi H
    refine Ev.step (fun k => spec_ShareWho.l0.eq_2 thing _ ts bs k) (Ev.pos (by omega) (Ev.bind (spec_ShareBookOk_ev ts bs ht hl hb) ?_))
    refine Ev.step (fun k => spec_ShareWho.j1.eq_2 thing _ _ ts bs k) ?_
    refine Ev.test _ (fun h => Ev.pos (by omega) (Ev.pos (by omega) (Ev.bind (spec_l1Has_ev _ _ ?_) ?_))) (fun h => Ev.ret (by simp [h]))
    · rw [rdB_cast]; exact (hb.at_ hi).1
    · rw [rdB_cast, wrap_up hi hl]
      simp only [h, findR_step _ hi] at H ⊢
      refine Ev.test _ (fun h2 => Ev.ret (by simp [h2])) (fun h2 => Ev.sub H (by simp [h2]))
theorem impl_ShareWho_ev (ts : List ByteArray) (bs : List IB) (thing : ByteArray) (ht : ts.length ≤ 9223372036854775807) (hl : bs.length ≤ 9223372036854775807) (hb : Bok bs) : Ev (fun k => impl_ShareWho.f k ts bs thing) (whoB ts bs thing) := by
  unfold impl_ShareWho.f whoB
  refine Ev.bind (impl_ShareBookOk_ev ts bs ht hl hb) (Ev.test _ (fun h => ?_) (fun h => Ev.ret (by simp [h])))
  rw [if_pos h]
  refine Ev.loop (f := fun k i => impl_ShareWho.l0 k thing bs (bs.length : Int) (i : Int)) (val := fun i => ((findR (fun i => hasS (gB bs i).f1 thing) bs.length i).map fun i => (gB bs i).f0).getD ⟨#[]⟩) bs.length ?_ ?_ 0 (by omega)
  · refine Ev.step (fun k => impl_ShareWho.l0.eq_2 thing bs _ _ k) (Ev.neg (by omega) (Ev.ret (by simp [findR_end])))
  · intro i hi H
    refine Ev.step (fun k => impl_ShareWho.l0.eq_2 thing bs _ _ k) (Ev.pos (by omega) (Ev.pos (by omega) (Ev.pos (by omega) (Ev.bind (contains_ev _ _ ?_) ?_))))
    · rw [rdB_cast]; exact (hb.at_ hi).1
    · rw [rdB_cast, wrap_up hi hl]
      simp only [findR_step _ hi] at H ⊢
      refine Ev.test _ (fun h2 => Ev.ret (by simp [h2])) (fun h2 => Ev.sub H (by simp [h2]))
theorem book_five {ts : List ByteArray} {bs : List IB} (h : bookB ts bs = true) : bs.length ≤ 5 := by
  unfold bookB at h; simp only [Bool.and_eq_true, decide_eq_true_eq] at h; exact h.2.1
def nextP (bs : List IB) (gone : List ByteArray) (i : Nat) : Bool := !hasS gone (gB bs i).f0 && canB bs i gone
def nextB (bs : List IB) (gone : List ByteArray) : Option Nat := findR (nextP bs gone) bs.length 0
def orderGo (bs : List IB) : Nat → List ByteArray → List ByteArray × Bool
  | 0, gone => (gone, true)
  | d + 1, gone => match nextB bs gone with
    | none => ([], false)
    | some i => orderGo bs d (gone ++ [(gB bs i).f0])
def orderB (ts : List ByteArray) (bs : List IB) : List ByteArray × Bool := if bookB ts bs = true then orderGo bs bs.length [] else ([], false)
theorem findR_lt {P : Nat → Bool} {n i j : Nat} (h : findR P n i = some j) : i ≤ j ∧ j < n ∧ P j = true := by
  unfold findR at h
  have h1 := List.find?_some h
  have h2 := List.mem_of_find?_eq_some h
  rw [List.mem_range'_1] at h2
  exact ⟨by omega, by omega, h1⟩
theorem spec_l2Next_ev (ts : List ByteArray) (bs : List IB) (gone : List ByteArray) (hl : bs.length ≤ 9223372036854775807) (hb : Bok bs) (hg : gone.length ≤ 9223372036854775807) : Ev (fun k => spec_l2Next.f k ts bs gone) (((nextB bs gone).map fun (i : Nat) => (i : Int)).getD (-1)) := by
  unfold spec_l2Next.f nextB
  refine Ev.loop (f := fun k i => spec_l2Next.l0 k gone (i : Int) ts bs) (val := fun i => ((findR (nextP bs gone) bs.length i).map fun (i : Nat) => (i : Int)).getD (-1)) bs.length ?_ ?_ 0 (by omega)
  · refine Ev.step (fun k => spec_l2Next.l0.eq_2 gone _ ts bs k) (Ev.neg (by omega) (Ev.ret (by simp [findR_end])))
  · intro i hi H
    simp only [findR_step (nextP bs gone) hi]
    refine Ev.step (fun k => spec_l2Next.l0.eq_2 gone _ ts bs k) (Ev.pos (by omega) (Ev.pos (by omega) (Ev.bind (spec_l1Has_ev gone _ hg) ?_)))
    rw [rdB_cast, wrap_up hi hl]
    refine Ev.test _ (fun h => Ev.sub H (by simp [nextP, h])) (fun h => Ev.bind (spec_l2Can_ev ts bs i gone hl hb hi hg) ?_)
    refine Ev.test _ (fun h2 => Ev.ret (by simp [nextP, h, h2])) (fun h2 => Ev.sub H (by simp [nextP, h2]))
theorem spec_ShareOrder_ev (ts : List ByteArray) (bs : List IB) (ht : ts.length ≤ 9223372036854775807) (hl : bs.length ≤ 9223372036854775807) (hb : Bok bs) : Ev (fun k => spec_ShareOrder.f k ts bs) (orderB ts bs) := by
  unfold spec_ShareOrder.f orderB
  simp only [Option.bind_some]
  refine Ev.bind (spec_ShareBookOk_ev ts bs ht hl hb) (Ev.test _ (fun h => ?_) (fun h => Ev.ret (by simp [h])))
  have h5 := book_five h
  rw [if_pos h]
  have go : ∀ (d : Nat) (x : List ByteArray), x.length + d = bs.length → Ev (fun k => spec_ShareOrder.l0 k x ts bs) (orderGo bs d x) := by
    intro d
    induction d with
    | zero =>
      intro x hx
      exact Ev.step (fun k => spec_ShareOrder.l0.eq_2 x ts bs k) (Ev.neg (by omega) (Ev.ret rfl))
    | succ d ih =>
      intro x hx
      refine Ev.step (fun k => spec_ShareOrder.l0.eq_2 x ts bs k) (Ev.pos (by omega) (Ev.bind (spec_l2Next_ev ts bs x hl hb (by omega)) ?_))
      unfold orderGo
      cases hn : nextB bs x with
      | none => exact Ev.pos (by simp) (Ev.ret rfl)
      | some i =>
        have hi := (findR_lt hn).2.1
        simp only [Option.map_some, Option.getD_some]
        refine Ev.neg (by omega) (Ev.pos (by omega) (Ev.pos (by omega) (Ev.pos (by omega) ?_)))
        rw [rdB_cast]
        exact ih _ (by simp; omega)
  exact go bs.length [] (by simp)
def safeB (ts : List ByteArray) (bs : List IB) : Bool := (orderB ts bs).2
theorem spec_ShareSafe_ev (ts : List ByteArray) (bs : List IB) (ht : ts.length ≤ 9223372036854775807) (hl : bs.length ≤ 9223372036854775807) (hb : Bok bs) : Ev (fun k => spec_ShareSafe.f k ts bs) (safeB ts bs) :=
  Ev.bind (spec_ShareOrder_ev ts bs ht hl hb) (Ev.ret rfl)
def idxI (p : ByteArray → Bool) (l : List IB) (i : Nat) : Int := ((findR (fun i => p (gB l i).f0) l.length i).map fun (i : Nat) => (i : Int)).getD (-1)
theorem idxI_end (p : ByteArray → Bool) (l : List IB) : idxI p l l.length = -1 := by unfold idxI; rw [findR_end]; rfl
theorem idxI_step (p : ByteArray → Bool) {l : List IB} {i : Nat} (h : i < l.length) : idxI p l i = if p (gB l i).f0 = true then (i : Int) else idxI p l (i + 1) := by
 unfold idxI; rw [findR_step _ h]; cases p (gB l i).f0 <;> rfl
def atI (bs : List IB) (n : ByteArray) : Int := idxI (fun s => s.toList == n.toList) bs 0
theorem spec_l1At_ev (ts : List ByteArray) (bs : List IB) (n : ByteArray) (hl : bs.length ≤ 9223372036854775807) : Ev (fun k => spec_l1At.f k ts bs n) (atI bs n) := by
  unfold spec_l1At.f atI
  refine Ev.loop (f := fun k i => spec_l1At.l0 k n (i : Int) ts bs) (val := fun i => idxI (fun s => s.toList == n.toList) bs i) bs.length ?_ ?_ 0 (by omega)
  · simp only [idxI_end]
    exact Ev.step (fun k => spec_l1At.l0.eq_2 n _ ts bs k) (Ev.neg (by omega) (Ev.ret rfl))
  · intro i hi H
    simp only [idxI_step (fun s => s.toList == n.toList) hi]
    refine Ev.step (fun k => spec_l1At.l0.eq_2 n _ ts bs k) (Ev.pos (by omega) (Ev.pos (by omega) ?_))
    rw [rdB_cast, wrap_up hi hl]
    refine Ev.prop (fun h => Ev.ret (by rw [if_pos (beq_iff_eq.mpr h)])) (fun h => Ev.sub H (by rw [if_neg (fun e => h (beq_iff_eq.mp e))]))
theorem wMark_le : ∀ (bs : List LB), wMark (bs.map toB) ≤ bs.length + sumL bs
  | [] => by simp [wMark]
  | b :: r => by
    have h := wMark_le r
    rw [List.map_cons, wMark_cons, List.length_cons, show sumL (b :: r) = wL b + sumL r by simp [sumL]]
    have : (toB b).f1.length + (toB b).f2.length ≤ wL b := by unfold wL wS toB; simp only; omega
    omega
theorem le_sum_map {α : Type} (f : α → Nat) : ∀ {l : List α} {x : α}, x ∈ l → f x ≤ (l.map f).sum
  | a :: l, x, h => by
    rw [List.map_cons, List.sum_cons]
    rcases List.mem_cons.1 h with rfl | h
    · omega
    · have := le_sum_map f h; omega
def Bz (ts : List ByteArray) (bs : List IB) : Prop := ts.length + wMark bs ≤ 8388608
theorem wMark_mem {bs : List IB} {b : IB} (h : b ∈ bs) : 1 + b.f1.length + b.f2.length ≤ wMark bs := by
  unfold wMark; exact le_sum_map (fun b => 1 + b.f1.length + b.f2.length) h
theorem wMark_len : ∀ bs : List IB, bs.length ≤ wMark bs
  | [] => by simp [wMark]
  | b :: r => by have := wMark_len r; rw [wMark_cons, List.length_cons]; omega
theorem wMark_append (a b : List IB) : wMark (a ++ b) = wMark a + wMark b := by simp [wMark]
theorem Bz.ts {ts : List ByteArray} {bs : List IB} (h : Bz ts bs) : ts.length ≤ 8388608 := by unfold Bz at h; omega
theorem Bz.bs {ts : List ByteArray} {bs : List IB} (h : Bz ts bs) : bs.length ≤ 8388608 := by have := wMark_len bs; unfold Bz at h; omega
theorem Bz.mem {ts : List ByteArray} {bs : List IB} (h : Bz ts bs) {b : IB} (hb : b ∈ bs) : b.f1.length ≤ 8388608 ∧ b.f2.length ≤ 8388608 := by have := wMark_mem hb; unfold Bz at h; omega
theorem Bz.bok {ts : List ByteArray} {bs : List IB} (h : Bz ts bs) : Bok bs := fun b hb => by have := h.mem hb; omega
theorem gB_mem {bs : List IB} {i : Nat} (h : i < bs.length) : gB bs i ∈ bs := by unfold gB; rw [getD_lt bs _ h]; exact List.getElem_mem h
theorem Bz.at_ {ts : List ByteArray} {bs : List IB} (h : Bz ts bs) {i : Nat} (hi : i < bs.length) : (gB bs i).f1.length ≤ 8388608 ∧ (gB bs i).f2.length ≤ 8388608 := h.mem (gB_mem hi)
theorem l1Names_ev (l : List ByteArray) (h : l.length ≤ 8388608) : Ev (fun _ => spec_l1Names.f l) l := by
  unfold spec_l1Names.f
  exact Ev.bind (Ev.ret rfl) (Ev.pos (by simp only [List.length_nil]; omega) (Ev.ret rfl))
theorem take_gB {bs : List IB} {i : Nat} (h : i < bs.length) : bs.take i ++ [gB bs i] = bs.take (i + 1) := by
  rw [List.take_succ_eq_append_getElem h]; unfold gB; rw [getD_lt bs _ h]
theorem spec_l1Copy_ev (ts : List ByteArray) (bs : List IB) (h : Bz ts bs) : Ev (fun k => spec_l1Copy.f k ts bs) (ts, bs) := by
  unfold spec_l1Copy.f
  have hl := h.bs
  have go : ∀ (d i : Nat), bs.length - i = d → i ≤ bs.length → Ev (fun k => spec_l1Copy.l0 k (i : Int) ts bs ts (bs.take i)) (ts, bs) := by
    intro d
    induction d with
    | zero =>
      intro i hd hi
      refine Ev.step (fun k => spec_l1Copy.l0.eq_2 _ _ _ _ _ k) (Ev.neg (by omega) (Ev.ret ?_))
      rw [List.take_of_length_le (by omega)]
    | succ d ih =>
      intro i hd hi
      have hlt : i < bs.length := by omega
      refine Ev.step (fun k => spec_l1Copy.l0.eq_2 _ _ _ _ _ k) (Ev.pos (by omega) (Ev.pos (by omega) ?_))
      rw [rdB_cast, wrap_up hlt (by omega)]
      refine Ev.bind (l1Names_ev _ (h.at_ hlt).1) (Ev.bind (l1Names_ev _ (h.at_ hlt).2) (Ev.pos (by rw [List.length_take]; omega) ?_))
      have := ih (i + 1) (by omega) (by omega)
      rw [← take_gB hlt] at this
      exact this
  exact Ev.bind (l1Names_ev ts h.ts) (go bs.length 0 (by omega) (by omega))
theorem Bz.of {ts : List ByteArray} {bs : List LB} (hw : wBook ts bs ≤ 1048576) : ts.length + wMark (bs.map toB) ≤ 1048576 := by
  have := wMark_le bs
  unfold wBook wS at hw; omega
theorem Bz.nil : Bz [] [] := by simp [Bz, wMark]
theorem ne_Bz {ts : List ByteArray} {bs : List IB} (h : ts.length + wMark bs ≤ 1048576) : Bz ts bs := by unfold Bz; omega
abbrev MB := S56
section
variable {w0 w w' : World} {lo hi n : Nat} {v0 v1 v : Value} {l0 l r1 : List ByteArray} {l1 r2 : List MB} {S : Nat → Prop}
end
def enterB (ts : List ByteArray) (bs : List IB) (n : ByteArray) (needs : List ByteArray) : List ByteArray × List IB × Int :=
  if bookB ts bs = true then
    (if nameB n = true then (if namesB needs ts = true then (if 0 ≤ atI bs n then (ts, bs, 3) else if 5 ≤ bs.length then (ts, bs, 4) else (ts, insB bs ⟨n, [], needs⟩, 0)) else (ts, bs, 2)) else (ts, bs, 2))
  else ([], [], 1)
theorem insB_w (l : List IB) (x : IB) : wMark (insB l x) = wMark l + (1 + x.f1.length + x.f2.length) := by
  unfold insB
  rw [wMark_append, wMark_cons]
  have : wMark l = wMark (l.take (insK l x.f0)) + wMark (l.drop (insK l x.f0)) := by rw [← wMark_append, List.take_append_drop]
  omega
theorem bl_trans {a b c : List UInt8} (h1 : Op.bytesLess a b = true) (h2 : Op.bytesLess b c = true) : Op.bytesLess a c = true := by
  rw [bytesLess_eq, decide_eq_true_eq] at *
  exact List.lt_trans h1 h2
theorem book_asc {ts : List ByteArray} {bs : List IB} (h : bookB ts bs = true) : Asc bs := by
  unfold bookB at h
  simp only [Bool.and_eq_true, decide_eq_true_eq] at h
  have hall := (allR_iff _ _ _).1 h.2.2
  have hstep : ∀ i (hi : i + 1 < bs.length), Op.bytesLess (bs[i]'(by omega)).f0.toList bs[i + 1].f0.toList = true := by
    intro i hi
    have q := hall (i + 1) (by omega) hi
    simp only [Bool.and_eq_true] at q
    have q2 := q.1
    unfold batchP at q2
    simp only [Bool.and_eq_true, Bool.or_eq_true, decide_eq_true_eq] at q2
    have q3 := q2.2.1
    rcases q3 with q3 | q3
    · omega
    · unfold ltB gB at q3
      rw [getD_lt bs _ (show i + 1 - 1 < bs.length by omega), getD_lt bs _ hi] at q3
      exact q3
  unfold Asc
  rw [List.pairwise_iff_getElem]
  have go : ∀ (d i : Nat) (hd : i + d + 1 < bs.length), Op.bytesLess (bs[i]'(by omega)).f0.toList (bs[i + d + 1]'hd).f0.toList = true := by
    intro d
    induction d with
    | zero => intro i hd; exact hstep i hd
    | succ d ih => intro i hd; exact bl_trans (ih i (by omega)) (hstep (i + d + 1) (by omega))
  intro i j hi hj hij
  have := go (j - i - 1) i (by omega)
  simpa only [show i + (j - i - 1) + 1 = j by omega] using this
def kfrom (bs : List IB) (n : ByteArray) (i : Nat) : Nat := i + ((bs.drop i).takeWhile fun b => Op.bytesLess b.f0.toList n.toList).length
theorem kfrom_end (bs : List IB) (n : ByteArray) : kfrom bs n bs.length = bs.length := by simp [kfrom]
theorem kfrom_step {bs : List IB} {n : ByteArray} {i : Nat} (hi : i < bs.length) : kfrom bs n i = if Op.bytesLess (gB bs i).f0.toList n.toList = true then kfrom bs n (i + 1) else i := by
  have e : gB bs i = bs[i] := by unfold gB; rw [getD_lt bs _ hi]
  unfold kfrom
  rw [List.drop_eq_getElem_cons hi, List.takeWhile_cons, e]
  cases hp : Op.bytesLess bs[i].f0.toList n.toList with
  | true => rw [if_pos rfl, if_pos rfl, List.length_cons]; omega
  | false => rw [if_neg (by simp), if_neg (by simp), List.length_nil]; omega
theorem enter_loop (ts : List ByteArray) (bs : List IB) (n : ByteArray) (needs : List ByteArray) (h : ts.length + wMark bs ≤ 1048576) (hn : needs.length ≤ 1048576) : Ev (fun k => spec_ShareEnter.l0 k n needs 0 ts bs) (ts, insB bs ⟨n, [], needs⟩, 0) := by
  have hz := ne_Bz h
  have hl := hz.bs
  have hw := insB_w bs ⟨n, [], needs⟩
  have hcopy : Ev (fun k => spec_l1Copy.f k ts (insB bs ⟨n, [], needs⟩)) (ts, insB bs ⟨n, [], needs⟩) := spec_l1Copy_ev ts _ (by unfold Bz; rw [hw]; simp only [List.length_nil]; omega)
  have hend : ∀ i, i ≤ bs.length → kfrom bs n i = i → kfrom bs n 0 = i → bs.take i ++ [(⟨n, [], needs⟩ : IB)] ++ bs.drop i = insB bs ⟨n, [], needs⟩ := by
    intro i hi _ h0
    have e : insK bs n = i := by rw [← h0]; unfold kfrom insK; rw [List.drop_zero, Nat.zero_add]
    unfold insB
    rw [show insK bs (⟨n, [], needs⟩ : IB).f0 = i from e, List.append_assoc]; rfl
  have go : ∀ (d i : Nat), bs.length - i = d → i ≤ bs.length → kfrom bs n i = kfrom bs n 0 → Ev (fun k => spec_ShareEnter.l0 k n needs (i : Int) ts bs) (ts, insB bs ⟨n, [], needs⟩, 0) := by
    intro d
    induction d with
    | zero =>
      intro i hd hi hk
      have hie : i = bs.length := by omega
      have hke : kfrom bs n i = i := by rw [hie]; exact kfrom_end bs n
      have he := hend i hi hke (by rw [← hk]; exact hke)
      refine Ev.step (fun k => spec_ShareEnter.l0.eq_2 _ _ _ _ _ k) (Ev.neg (by omega) ?_)
      refine Ev.bind (Ev.ret rfl) (Ev.pos (by omega) (Ev.pos (by omega) (Ev.bind (Ev.ret rfl) ?_)))
      rw [Int.toNat_natCast]
      refine Ev.pos (by simp only [List.length_nil, List.length_take]; omega) (Ev.bind (Ev.ret rfl) (Ev.bind (l1Names_ev needs (by omega)) ?_))
      refine Ev.pos (by simp only [List.nil_append, List.length_take]; omega) (Ev.bind (Ev.ret rfl) (Ev.bind (Ev.ret rfl) (Ev.pos (by simp only [List.nil_append, List.length_append, List.length_take, List.length_drop, List.length_cons, List.length_nil]; omega) ?_)))
      rw [List.nil_append, he]
      exact Ev.bind hcopy (Ev.ret rfl)
    | succ d ih =>
      intro i hd hi hk
      have hlt : i < bs.length := by omega
      have hs := kfrom_step (n := n) hlt
      refine Ev.step (fun k => spec_ShareEnter.l0.eq_2 _ _ _ _ _ k) (Ev.pos (by omega) (Ev.pos (by omega) ?_))
      rw [rdB_cast, wrap_up hlt (by omega)]
      refine Ev.prop (fun hp => ?_) (fun hp => ?_)
      · rw [if_pos hp] at hs
        exact ih (i + 1) (by omega) (by omega) (by rw [← hs]; exact hk)
      · rw [if_neg hp] at hs
        have he := hend i hi hs (by rw [← hk]; exact hs)
        refine Ev.bind (Ev.ret rfl) (Ev.pos (by omega) (Ev.bind (Ev.ret rfl) ?_))
        rw [Int.toNat_natCast]
        refine Ev.pos (by simp only [List.length_nil, List.length_take]; omega) (Ev.bind (Ev.ret rfl) (Ev.bind (l1Names_ev needs (by omega)) ?_))
        refine Ev.pos (by simp only [List.nil_append, List.length_take]; omega) (Ev.bind (Ev.ret rfl) (Ev.bind (Ev.ret rfl) (Ev.pos (by simp only [List.nil_append, List.length_append, List.length_take, List.length_drop, List.length_cons, List.length_nil]; omega) ?_)))
        rw [List.nil_append, he]
        exact Ev.bind hcopy (Ev.ret rfl)
  exact go bs.length 0 (by omega) (by omega) rfl
theorem enter_j0 (ts : List ByteArray) (bs : List IB) (n : ByteArray) (needs : List ByteArray) (b : Bool) (h : ts.length + wMark bs ≤ 1048576) (hn : needs.length ≤ 1048576) : Ev (fun k => spec_ShareEnter.j0 k n needs b ts bs ts bs) (if b = true then (ts, bs, 2) else if 0 ≤ atI bs n then (ts, bs, 3) else if 5 ≤ bs.length then (ts, bs, 4) else (ts, insB bs ⟨n, [], needs⟩, 0)) := by
  have hz := ne_Bz h
  have hl := hz.bs
  refine Ev.step (fun k => spec_ShareEnter.j0.eq_2 _ _ _ _ _ _ _ k) (Ev.test b (fun hb => Ev.ret (by rw [if_pos hb])) (fun hb => ?_))
  rw [if_neg (by simp [hb])]
  refine Ev.bind (spec_l1At_ev ts bs n (by omega)) (Ev.prop (fun hc => Ev.ret (by rw [if_pos hc])) (fun hc => ?_))
  rw [if_neg hc]
  refine Ev.prop (fun h5 => Ev.ret (by rw [if_pos (by omega)])) (fun h5 => ?_)
  rw [if_neg (by omega)]
  exact enter_loop ts bs n needs h hn
theorem spec_ShareEnter_ev (ts : List ByteArray) (bs : List IB) (n : ByteArray) (needs : List ByteArray) (h : ts.length + wMark bs ≤ 1048576) (hn : needs.length ≤ 1048576) : Ev (fun k => spec_ShareEnter.f k ts bs n needs) (enterB ts bs n needs) := by
  have hz := ne_Bz h
  have hl := hz.bs
  have ht := hz.ts
  unfold spec_ShareEnter.f enterB
  refine Ev.bind (spec_ShareBookOk_ev ts bs (by omega) (by omega) hz.bok) (Ev.test _ (fun hb => ?_) (fun hb => Ev.ret (by simp [hb])))
  rw [if_pos hb]
  refine Ev.bind (spec_l1Copy_ev ts bs hz) (Ev.bind (spec_l1NameOk_ev n) ?_)
  dsimp only
  refine Ev.test _ (fun hnm => ?_) (fun hnm => ?_)
  · rw [if_pos hnm]
    refine Ev.bind (spec_l1NamesOk_ev needs ts (by omega) (by omega)) ?_
    refine Ev.sub (enter_j0 ts bs n needs _ h hn) ?_
    cases namesB needs ts <;> rfl
  · exact Ev.sub (enter_j0 ts bs n needs true h hn) (by simp [hnm])
end Go.Proofs.Ytaofjgnhapnndaa.Q
