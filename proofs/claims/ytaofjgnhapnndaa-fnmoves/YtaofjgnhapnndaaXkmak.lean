/- Texts that the row needs: words on memory and rows, the contracts of the functions it reaches, and the plain lemmas on what they compute. -/
import Derived.Shelf.GgSortFunc.Tiny
import Derived.Ground.GgsProg
import Derived.Test.YtaofjgnhapnndaaXkmaj
open Go.Proofs.YtaofjgnhapnndaaFkm
namespace Go.Proofs.Ytaofjgnhapnndaa.Q
open Go.RowKit Go.Proofs.YtaofjgnhapnndaaW.PrintWords Go.Proofs.YtaofjgnhapnndaaW.PrintLast Go.Proofs.YtaofjgnhapnndaaW.PrintMore
set_option linter.unusedVariables false
set_option linter.unusedSimpArgs false
open Go.Shelf Go.Lib Go.Sort
def insK (l : List S56) (n : ByteArray) : Nat := (l.takeWhile fun b => Op.bytesLess b.f0.toList n.toList).length
def insB (l : List S56) (x : S56) : List S56 := l.take (insK l x.f0) ++ x :: l.drop (insK l x.f0)
def Asc (l : List S56) : Prop := l.Pairwise fun a b => Op.bytesLess a.f0.toList b.f0.toList = true
theorem le_sum_map {α : Type} (f : α → Nat) : ∀ {l : List α} {x : α}, x ∈ l → f x ≤ (l.map f).sum
  | a :: l, x, h => by
    rw [List.map_cons, List.sum_cons]
    rcases List.mem_cons.1 h with rfl | h
    · omega
    · have := le_sum_map f h; omega
def Bz (ts : List ByteArray) (bs : List IB) : Prop := ts.length + wMark bs ≤ 8388608
theorem wMark_mem {bs : List IB} {b : IB} (h : b ∈ bs) : 1 + b.f1.length + b.f2.length ≤ wMark bs := by
 unfold wMark; exact le_sum_map (fun b => 1 + b.f1.length + b.f2.length) h
theorem wMark_len : ∀ bs : List IB, bs.length ≤ wMark bs
  | [] => by simp [wMark]
  | b :: r => by have := wMark_len r; rw [wMark_cons, List.length_cons]; omega
theorem wMark_append (a b : List IB) : wMark (a ++ b) = wMark a + wMark b := by simp [wMark]
theorem Bz.ts {ts : List ByteArray} {bs : List IB} (h : Bz ts bs) : ts.length ≤ 8388608 := by unfold Bz at h; omega
theorem Bz.bs {ts : List ByteArray} {bs : List IB} (h : Bz ts bs) : bs.length ≤ 8388608 := by have := wMark_len bs; unfold Bz at h; omega
theorem Bz.mem {ts : List ByteArray} {bs : List IB} (h : Bz ts bs) {b : IB} (hb : b ∈ bs) : b.f1.length ≤ 8388608 ∧ b.f2.length ≤ 8388608 := by have := wMark_mem hb; unfold Bz at h; omega
theorem Bz.bok {ts : List ByteArray} {bs : List IB} (h : Bz ts bs) : Bok bs := fun b hb => by have := h.mem hb; omega
theorem gB_mem {bs : List IB} {i : Nat} (h : i < bs.length) : gB bs i ∈ bs := by unfold gB; rw [getD_lt bs _ h]; exact List.getElem_mem h
theorem Bz.at_ {ts : List ByteArray} {bs : List IB} (h : Bz ts bs) {i : Nat} (hi : i < bs.length) : (gB bs i).f1.length ≤ 8388608 ∧ (gB bs i).f2.length ≤ 8388608 := h.mem (gB_mem hi)
theorem l1Names_ev (l : List ByteArray) (h : l.length ≤ 8388608) : Ev (fun _ => spec_l1Names.f l) l := by
 unfold spec_l1Names.f
 exact Ev.bind (Ev.ret rfl) (Ev.pos (by simp only [List.length_nil]; omega) (Ev.ret rfl))
theorem take_gB {bs : List IB} {i : Nat} (h : i < bs.length) : bs.take i ++ [gB bs i] = bs.take (i + 1) := by
 rw [List.take_succ_eq_append_getElem h]; unfold gB; rw [getD_lt bs _ h]
theorem spec_l1Copy_ev (ts : List ByteArray) (bs : List IB) (h : Bz ts bs) : Ev (fun k => spec_l1Copy.f k ts bs) (ts, bs) := by
 unfold spec_l1Copy.f
 have hl := h.bs
 have go : ∀ (d i : Nat), bs.length - i = d → i ≤ bs.length → Ev (fun k => spec_l1Copy.l0 k (i : Int) ts bs ts (bs.take i)) (ts, bs) := by
  intro d
  induction d with
  | zero =>
   intro i hd hi
   refine Ev.step (fun k => spec_l1Copy.l0.eq_2 _ _ _ _ _ k) (Ev.neg (by omega) (Ev.ret ?_))
   rw [List.take_of_length_le (by omega)]
  | succ d ih =>
   intro i hd hi
   have hlt : i < bs.length := by omega
   refine Ev.step (fun k => spec_l1Copy.l0.eq_2 _ _ _ _ _ k) (Ev.pos (by omega) (Ev.pos (by omega) ?_))
   rw [rdB_cast, wrap_up hlt (by omega)]
   refine Ev.bind (l1Names_ev _ (h.at_ hlt).1) (Ev.bind (l1Names_ev _ (h.at_ hlt).2) (Ev.pos (by rw [List.length_take]; omega) ?_))
   have := ih (i + 1) (by omega) (by omega)
   rw [← take_gB hlt] at this
   exact this
 exact Ev.bind (l1Names_ev ts h.ts) (go bs.length 0 (by omega) (by omega))
theorem Bz.of {ts : List ByteArray} {bs : List LB} (hw : wBook ts bs ≤ 1048576) : ts.length + wMark (bs.map toB) ≤ 1048576 := by
 have := wMark_le bs
 unfold wBook wS at hw; omega
theorem Bz.nil : Bz [] [] := by simp [Bz, wMark]
theorem ne_Bz {ts : List ByteArray} {bs : List IB} (h : ts.length + wMark bs ≤ 1048576) : Bz ts bs := by unfold Bz; omega
abbrev MB := S56
section
variable {w0 w w' : World} {lo hi n : Nat} {v0 v1 v : Value} {l0 l r1 : List ByteArray} {l1 r2 : List MB} {S : Nat → Prop}
end
def enterB (ts : List ByteArray) (bs : List IB) (n : ByteArray) (needs : List ByteArray) : List ByteArray × List IB × Int :=
  if bookB ts bs = true then
    (if nameB n = true then (if namesB needs ts = true then (if 0 ≤ atI bs n then (ts, bs, 3) else if 5 ≤ bs.length then (ts, bs, 4) else (ts, insB bs ⟨n, [], needs⟩, 0)) else (ts, bs, 2)) else (ts, bs, 2))
  else ([], [], 1)
theorem insB_w (l : List IB) (x : IB) : wMark (insB l x) = wMark l + (1 + x.f1.length + x.f2.length) := by
 unfold insB
 rw [wMark_append, wMark_cons]
 have : wMark l = wMark (l.take (insK l x.f0)) + wMark (l.drop (insK l x.f0)) := by rw [← wMark_append, List.take_append_drop]
 omega
theorem bl_trans {a b c : List UInt8} (h1 : Op.bytesLess a b = true) (h2 : Op.bytesLess b c = true) : Op.bytesLess a c = true := by
 rw [bytesLess_eq, decide_eq_true_eq] at *
 exact List.lt_trans h1 h2
theorem book_asc {ts : List ByteArray} {bs : List IB} (h : bookB ts bs = true) : Asc bs := by
 unfold bookB at h
 simp only [Bool.and_eq_true, decide_eq_true_eq] at h
 have hall := (allR_iff _ _ _).1 h.2.2
 have hstep : ∀ i (hi : i + 1 < bs.length), Op.bytesLess (bs[i]'(by omega)).f0.toList bs[i + 1].f0.toList = true := by
  intro i hi
  have q := hall (i + 1) (by omega) hi
  simp only [Bool.and_eq_true] at q
  have q2 := q.1
  unfold batchP at q2
  simp only [Bool.and_eq_true, Bool.or_eq_true, decide_eq_true_eq] at q2
  have q3 := q2.2.1
  rcases q3 with q3 | q3
  ·omega
  ·unfold ltB gB at q3
   rw [getD_lt bs _ (show i + 1 - 1 < bs.length by omega), getD_lt bs _ hi] at q3
   exact q3
 unfold Asc
 rw [List.pairwise_iff_getElem]
 have go : ∀ (d i : Nat) (hd : i + d + 1 < bs.length), Op.bytesLess (bs[i]'(by omega)).f0.toList (bs[i + d + 1]'hd).f0.toList = true := by
  intro d
  induction d with
  | zero => intro i hd; exact hstep i hd
  | succ d ih => intro i hd; exact bl_trans (ih i (by omega)) (hstep (i + d + 1) (by omega))
 intro i j hi hj hij
 have := go (j - i - 1) i (by omega)
 simpa only [show i + (j - i - 1) + 1 = j by omega] using this
theorem at_none {bs : List IB} {n : ByteArray} (h : ¬ 0 ≤ atI bs n) : ∀ b ∈ bs, b.f0.toList ≠ n.toList := by
 intro b hb e
 unfold atI idxI at h
 cases hf : findR (fun i => (fun s => s.toList == n.toList) (gB bs i).f0) bs.length 0 with
 | some i => rw [hf] at h; simp at h
 | none =>
  unfold findR at hf
  rw [List.find?_eq_none] at hf
  obtain ⟨i, hi, rfl⟩ := List.getElem_of_mem hb
  have q := hf i (by rw [List.mem_range'_1]; omega)
  unfold gB at q
  rw [getD_lt bs _ hi] at q
  simp [e] at q
def kfrom (bs : List IB) (n : ByteArray) (i : Nat) : Nat := i + ((bs.drop i).takeWhile fun b => Op.bytesLess b.f0.toList n.toList).length
theorem kfrom_end (bs : List IB) (n : ByteArray) : kfrom bs n bs.length = bs.length := by simp [kfrom]
theorem kfrom_step {bs : List IB} {n : ByteArray} {i : Nat} (hi : i < bs.length) : kfrom bs n i = if Op.bytesLess (gB bs i).f0.toList n.toList = true then kfrom bs n (i + 1) else i := by
 have e : gB bs i = bs[i] := by unfold gB; rw [getD_lt bs _ hi]
 unfold kfrom
 rw [List.drop_eq_getElem_cons hi, List.takeWhile_cons, e]
 cases hp : Op.bytesLess bs[i].f0.toList n.toList with
 | true => rw [if_pos rfl, if_pos rfl, List.length_cons]; omega
 | false => rw [if_neg (by simp), if_neg (by simp), List.length_nil]; omega
theorem enter_loop (ts : List ByteArray) (bs : List IB) (n : ByteArray) (needs : List ByteArray) (h : ts.length + wMark bs ≤ 1048576) (hn : needs.length ≤ 1048576) : Ev (fun k => spec_ShareEnter.l0 k n needs 0 ts bs) (ts, insB bs ⟨n, [], needs⟩, 0) := by
 have hz := ne_Bz h
 have hl := hz.bs
 have hw := insB_w bs ⟨n, [], needs⟩
 have hcopy : Ev (fun k => spec_l1Copy.f k ts (insB bs ⟨n, [], needs⟩)) (ts, insB bs ⟨n, [], needs⟩) := spec_l1Copy_ev ts _ (by unfold Bz; rw [hw]; simp only [List.length_nil]; omega)
 have hend : ∀ i, i ≤ bs.length → kfrom bs n i = i → kfrom bs n 0 = i → bs.take i ++ [(⟨n, [], needs⟩ : IB)] ++ bs.drop i = insB bs ⟨n, [], needs⟩ := by
  intro i hi _ h0
  have e : insK bs n = i := by rw [← h0]; unfold kfrom insK; rw [List.drop_zero, Nat.zero_add]
  unfold insB
  rw [show insK bs (⟨n, [], needs⟩ : IB).f0 = i from e, List.append_assoc]; rfl
 have go : ∀ (d i : Nat), bs.length - i = d → i ≤ bs.length → kfrom bs n i = kfrom bs n 0 → Ev (fun k => spec_ShareEnter.l0 k n needs (i : Int) ts bs) (ts, insB bs ⟨n, [], needs⟩, 0) := by
  intro d
  induction d with
  | zero =>
   intro i hd hi hk
   have hie : i = bs.length := by omega
   have hke : kfrom bs n i = i := by rw [hie]; exact kfrom_end bs n
   have he := hend i hi hke (by rw [← hk]; exact hke)
   refine Ev.step (fun k => spec_ShareEnter.l0.eq_2 _ _ _ _ _ k) (Ev.neg (by omega) ?_)
   refine Ev.bind (Ev.ret rfl) (Ev.pos (by omega) (Ev.pos (by omega) (Ev.bind (Ev.ret rfl) ?_)))
   rw [Int.toNat_natCast]
   refine Ev.pos (by simp only [List.length_nil, List.length_take]; omega) (Ev.bind (Ev.ret rfl) (Ev.bind (l1Names_ev needs (by omega)) ?_))
   refine Ev.pos (by simp only [List.nil_append, List.length_take]; omega) (Ev.bind (Ev.ret rfl) (Ev.bind (Ev.ret rfl) (Ev.pos (by simp only [List.nil_append, List.length_append, List.length_take, List.length_drop, List.length_cons, List.length_nil]; omega) ?_)))
   rw [List.nil_append, he]
   exact Ev.bind hcopy (Ev.ret rfl)
  | succ d ih =>
   intro i hd hi hk
   have hlt : i < bs.length := by omega
   have hs := kfrom_step (n := n) hlt
   refine Ev.step (fun k => spec_ShareEnter.l0.eq_2 _ _ _ _ _ k) (Ev.pos (by omega) (Ev.pos (by omega) ?_))
   rw [rdB_cast, wrap_up hlt (by omega)]
   refine Ev.prop (fun hp => ?_) (fun hp => ?_)
   ·rw [if_pos hp] at hs
    exact ih (i + 1) (by omega) (by omega) (by rw [← hs]; exact hk)
   ·rw [if_neg hp] at hs
    have he := hend i hi hs (by rw [← hk]; exact hs)
    refine Ev.bind (Ev.ret rfl) (Ev.pos (by omega) (Ev.bind (Ev.ret rfl) ?_))
    rw [Int.toNat_natCast]
    refine Ev.pos (by simp only [List.length_nil, List.length_take]; omega) (Ev.bind (Ev.ret rfl) (Ev.bind (l1Names_ev needs (by omega)) ?_))
    refine Ev.pos (by simp only [List.nil_append, List.length_take]; omega) (Ev.bind (Ev.ret rfl) (Ev.bind (Ev.ret rfl) (Ev.pos (by simp only [List.nil_append, List.length_append, List.length_take, List.length_drop, List.length_cons, List.length_nil]; omega) ?_)))
    rw [List.nil_append, he]
    exact Ev.bind hcopy (Ev.ret rfl)
 exact go bs.length 0 (by omega) (by omega) rfl
theorem enter_j0 (ts : List ByteArray) (bs : List IB) (n : ByteArray) (needs : List ByteArray) (b : Bool) (h : ts.length + wMark bs ≤ 1048576) (hn : needs.length ≤ 1048576) : Ev (fun k => spec_ShareEnter.j0 k n needs b ts bs ts bs) (if b = true then (ts, bs, 2) else if 0 ≤ atI bs n then (ts, bs, 3) else if 5 ≤ bs.length then (ts, bs, 4) else (ts, insB bs ⟨n, [], needs⟩, 0)) := by
 have hz := ne_Bz h
 have hl := hz.bs
 refine Ev.step (fun k => spec_ShareEnter.j0.eq_2 _ _ _ _ _ _ _ k) (Ev.test b (fun hb => Ev.ret (by rw [if_pos hb])) (fun hb => ?_))
 rw [if_neg (by simp [hb])]
 refine Ev.bind (spec_l1At_ev ts bs n (by omega)) (Ev.prop (fun hc => Ev.ret (by rw [if_pos hc])) (fun hc => ?_))
 rw [if_neg hc]
 refine Ev.prop (fun h5 => Ev.ret (by rw [if_pos (by omega)])) (fun h5 => ?_)
 rw [if_neg (by omega)]
 exact enter_loop ts bs n needs h hn
theorem spec_ShareEnter_ev (ts : List ByteArray) (bs : List IB) (n : ByteArray) (needs : List ByteArray) (h : ts.length + wMark bs ≤ 1048576) (hn : needs.length ≤ 1048576) : Ev (fun k => spec_ShareEnter.f k ts bs n needs) (enterB ts bs n needs) := by
 have hz := ne_Bz h
 have hl := hz.bs
 have ht := hz.ts
 unfold spec_ShareEnter.f enterB
 refine Ev.bind (spec_ShareBookOk_ev ts bs (by omega) (by omega) hz.bok) (Ev.test _ (fun hb => ?_) (fun hb => Ev.ret (by simp [hb])))
 rw [if_pos hb]
 refine Ev.bind (spec_l1Copy_ev ts bs hz) (Ev.bind (spec_l1NameOk_ev n) ?_)
 dsimp only
 refine Ev.test _ (fun hnm => ?_) (fun hnm => ?_)
 ·rw [if_pos hnm]
  refine Ev.bind (spec_l1NamesOk_ev needs ts (by omega) (by omega)) ?_
  refine Ev.sub (enter_j0 ts bs n needs _ h hn) ?_
  cases namesB needs ts <;> rfl
 exact Ev.sub (enter_j0 ts bs n needs true h hn) (by simp [hnm])
end Go.Proofs.Ytaofjgnhapnndaa.Q
