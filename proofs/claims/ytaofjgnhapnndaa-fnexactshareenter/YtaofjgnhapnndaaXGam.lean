/- Texts that the row needs: words on memory and rows, the contracts of the functions it reaches, and the plain lemmas on what they compute. -/
import Derived.Test.YtaofjgnhapnndaaProg
import Derived.Below
import Derived.Deep.Draws
import Derived.Deep.AppendLies
import Derived.Maps.AppendAt
import Derived.OwnWalk
import Derived.Laws.BytesArg
import Derived.Laws.MakeOwn
import Derived.Laws.OwnMore
import Derived.Deep.OwnRows
import Derived.Tactics
import Derived.Lib.ConvBytes
import Derived.Laws.Slices
import Derived.WalkKit
import Derived.KernelRfl
import Derived.RowKit3
import Derived.Deep.LoopGhost
import Derived.Deep.QuietTactic
import Derived.BigQuiet
import Derived.WideLaws
import Derived.Deep.DeepCutAuto
import Derived.Deep.CutBlock
import Derived.Deep.RegionHeld3
import Derived.Laws.Rows
import Derived.Lib.AppendStr
import Derived.ArgAppend
import Derived.Laws.IdiomCopy
import Derived.OrdersHeld
import Derived.Laws.BitsLemmas
import Derived.RowKit
import Derived.WalkLawsBesides
import Derived.Laws.StructEq
import Derived.Shelf.GgSortFunc.Tiny
import Derived.Shelf.GgSortFunc.SmallK
import Derived.Ground.GgsProg
import Derived.Shelf.Abstract
import Derived.Lib.SliceRun
import Derived.Test.YtaofjgnhapnndaaRows
import Derived.ProofKit
import Derived.Test.YtaofjgnhapnndaaXGaa
import Derived.Test.YtaofjgnhapnndaaXGab
import Derived.Test.YtaofjgnhapnndaaXGac
import Derived.Test.YtaofjgnhapnndaaXGad
import Derived.Test.YtaofjgnhapnndaaXGae
import Derived.Test.YtaofjgnhapnndaaXGaf
import Derived.Test.YtaofjgnhapnndaaXGag
import Derived.Test.YtaofjgnhapnndaaXGah
import Derived.Test.YtaofjgnhapnndaaXGai
import Derived.Test.YtaofjgnhapnndaaXGaj
import Derived.Test.YtaofjgnhapnndaaXGak
import Derived.Test.YtaofjgnhapnndaaXGal
open Go.Proofs.YtaofjgnhapnndaaFG
namespace Go.Proofs.Ytaofjgnhapnndaa.Q
open Go.RowKit Go.Proofs.YtaofjgnhapnndaaW.PrintWords Go.Proofs.YtaofjgnhapnndaaW.PrintLast Go.Proofs.YtaofjgnhapnndaaW.PrintMore
set_option linter.unusedVariables false
set_option linter.unusedSimpArgs false
def enterB (ts : List ByteArray) (bs : List IB) (n : ByteArray) (needs : List ByteArray) : List ByteArray × List IB × Int :=
  if bookB ts bs = true then
    (if nameB n = true then (if namesB needs ts = true then (if 0 ≤ atI bs n then (ts, bs, 3) else if 5 ≤ bs.length then (ts, bs, 4) else (ts, insB bs ⟨n, [], needs⟩, 0)) else (ts, bs, 2)) else (ts, bs, 2))
  else ([], [], 1)
theorem insB_w (l : List IB) (x : IB) : wMark (insB l x) = wMark l + (1 + x.f1.length + x.f2.length) := by
  unfold insB
  rw [wMark_append, wMark_cons]
  have : wMark l = wMark (l.take (insK l x.f0)) + wMark (l.drop (insK l x.f0)) := by rw [← wMark_append, List.take_append_drop]
  omega
theorem enterB_z {ts : List ByteArray} {bs : List IB} (n : ByteArray) {needs : List ByteArray} (h : ts.length + wMark bs ≤ 1048576) (hn : needs.length ≤ 1048576) : Bz (enterB ts bs n needs).1 (enterB ts bs n needs).2.1 := by
  have hi := insB_w bs ⟨n, [], needs⟩
  unfold enterB
  repeat' split
  all_goals first | exact ne_Bz h | exact Bz.nil | (unfold Bz; dsimp only; rw [hi]; simp only [List.length_nil]; omega)
theorem tw_all (p : IB → Bool) : ∀ (L : List IB), ∀ a ∈ L.take (L.takeWhile p).length, p a = true
  | [], a, h => by simp at h
  | b :: L, a, h => by
    cases hp : p b with
    | false => rw [List.takeWhile_cons, hp] at h; simp at h
    | true =>
      rw [List.takeWhile_cons, hp, if_pos rfl, List.length_cons, List.take_succ_cons] at h
      rcases List.mem_cons.1 h with rfl | h
      · exact hp
      · exact tw_all p L a h
theorem tw_stop (p : IB → Bool) : ∀ (L : List IB) (h : (L.takeWhile p).length < L.length), p L[(L.takeWhile p).length] = false
  | [], h => by simp at h
  | b :: L, h => by
    cases hp : p b with
    | false =>
      have e : (b :: L).takeWhile p = [] := by rw [List.takeWhile_cons, hp]; rfl
      simp only [e, List.length_nil, List.getElem_cons_zero, hp]
    | true =>
      have e : (b :: L).takeWhile p = b :: L.takeWhile p := by rw [List.takeWhile_cons, hp]; rfl
      simp only [e, List.length_cons, List.getElem_cons_succ]
      rw [e, List.length_cons, List.length_cons] at h
      exact tw_stop p L (by omega)
theorem bl_trans {a b c : List UInt8} (h1 : Op.bytesLess a b = true) (h2 : Op.bytesLess b c = true) : Op.bytesLess a c = true := by
  rw [bytesLess_eq, decide_eq_true_eq] at *
  exact List.lt_trans h1 h2
theorem bl_flip {a b : List UInt8} (h1 : Op.bytesLess a b = false) (hne : a ≠ b) : Op.bytesLess b a = true := by
  rw [bytesLess_eq, decide_eq_false_iff_not] at h1
  rw [bytesLess_eq, decide_eq_true_eq]
  by_cases h : b < a
  · exact h
  · exact (hne (List.le_antisymm (List.not_lt.1 h) (List.not_lt.1 h1))).elim
theorem book_asc {ts : List ByteArray} {bs : List IB} (h : bookB ts bs = true) : Asc bs := by
  unfold bookB at h
  simp only [Bool.and_eq_true, decide_eq_true_eq] at h
  have hall := (allR_iff _ _ _).1 h.2.2
  have hstep : ∀ i (hi : i + 1 < bs.length), Op.bytesLess (bs[i]'(by omega)).f0.toList bs[i + 1].f0.toList = true := by
    intro i hi
    have q := hall (i + 1) (by omega) hi
    simp only [Bool.and_eq_true] at q
    have q2 := q.1
    unfold batchP at q2
    simp only [Bool.and_eq_true, Bool.or_eq_true, decide_eq_true_eq] at q2
    have q3 := q2.2.1
    rcases q3 with q3 | q3
    · omega
    · unfold ltB gB at q3
      rw [getD_lt bs _ (show i + 1 - 1 < bs.length by omega), getD_lt bs _ hi] at q3
      exact q3
  unfold Asc
  rw [List.pairwise_iff_getElem]
  have go : ∀ (d i : Nat) (hd : i + d + 1 < bs.length), Op.bytesLess (bs[i]'(by omega)).f0.toList (bs[i + d + 1]'hd).f0.toList = true := by
    intro d
    induction d with
    | zero => intro i hd; exact hstep i hd
    | succ d ih => intro i hd; exact bl_trans (ih i (by omega)) (hstep (i + d + 1) (by omega))
  intro i j hi hj hij
  have := go (j - i - 1) i (by omega)
  simpa only [show i + (j - i - 1) + 1 = j by omega] using this
theorem at_none {bs : List IB} {n : ByteArray} (h : ¬ 0 ≤ atI bs n) : ∀ b ∈ bs, b.f0.toList ≠ n.toList := by
  intro b hb e
  unfold atI idxI at h
  cases hf : findR (fun i => (fun s => s.toList == n.toList) (gB bs i).f0) bs.length 0 with
  | some i => rw [hf] at h; simp at h
  | none =>
    unfold findR at hf
    rw [List.find?_eq_none] at hf
    obtain ⟨i, hi, rfl⟩ := List.getElem_of_mem hb
    have q := hf i (by rw [List.mem_range'_1]; omega)
    unfold gB at q
    rw [getD_lt bs _ hi] at q
    simp [e] at q
theorem insB_asc {bs : List IB} {x : IB} (ha : Asc bs) (hn : ∀ b ∈ bs, b.f0.toList ≠ x.f0.toList) : Asc (insB bs x) := by
  have hpw := List.pairwise_iff_getElem.1 ha
  have hdrop : ∀ b ∈ bs.drop (insK bs x.f0), Op.bytesLess x.f0.toList b.f0.toList = true := by
    intro b hb
    obtain ⟨j, hj, rfl⟩ := List.getElem_of_mem hb
    rw [List.length_drop] at hj
    rw [List.getElem_drop]
    have hk : insK bs x.f0 < bs.length := by omega
    have hs : Op.bytesLess (bs[insK bs x.f0]'hk).f0.toList x.f0.toList = false := tw_stop _ bs hk
    have h1 := bl_flip hs (hn _ (List.getElem_mem hk))
    by_cases h0 : j = 0
    · subst h0; exact h1
    · exact bl_trans h1 (hpw _ _ hk (by omega) (by omega))
  have htake : ∀ a ∈ bs.take (insK bs x.f0), Op.bytesLess a.f0.toList x.f0.toList = true := fun a h => tw_all (fun b => Op.bytesLess b.f0.toList x.f0.toList) bs a h
  unfold insB Asc
  rw [List.pairwise_append]
  refine ⟨List.Pairwise.sublist (List.take_sublist _ _) ha, List.pairwise_cons.2 ⟨hdrop, List.Pairwise.sublist (List.drop_sublist _ _) ha⟩, fun a h1 b h2 => ?_⟩
  rcases List.mem_cons.1 h2 with rfl | h2
  · exact htake a h1
  · exact bl_trans (htake a h1) (hdrop b h2)
def kfrom (bs : List IB) (n : ByteArray) (i : Nat) : Nat := i + ((bs.drop i).takeWhile fun b => Op.bytesLess b.f0.toList n.toList).length
theorem kfrom_end (bs : List IB) (n : ByteArray) : kfrom bs n bs.length = bs.length := by simp [kfrom]
theorem kfrom_step {bs : List IB} {n : ByteArray} {i : Nat} (hi : i < bs.length) : kfrom bs n i = if Op.bytesLess (gB bs i).f0.toList n.toList = true then kfrom bs n (i + 1) else i := by
  have e : gB bs i = bs[i] := by unfold gB; rw [getD_lt bs _ hi]
  unfold kfrom
  rw [List.drop_eq_getElem_cons hi, List.takeWhile_cons, e]
  cases hp : Op.bytesLess bs[i].f0.toList n.toList with
  | true => rw [if_pos rfl, if_pos rfl, List.length_cons]; omega
  | false => rw [if_neg (by simp), if_neg (by simp), List.length_nil]; omega
theorem enter_loop (ts : List ByteArray) (bs : List IB) (n : ByteArray) (needs : List ByteArray) (h : ts.length + wMark bs ≤ 1048576) (hn : needs.length ≤ 1048576) : Ev (fun k => spec_ShareEnter.l0 k n needs 0 ts bs) (ts, insB bs ⟨n, [], needs⟩, 0) := by
  have hz := ne_Bz h
  have hl := hz.bs
  have hw := insB_w bs ⟨n, [], needs⟩
  have hcopy : Ev (fun k => spec_l1Copy.f k ts (insB bs ⟨n, [], needs⟩)) (ts, insB bs ⟨n, [], needs⟩) := spec_l1Copy_ev ts _ (by unfold Bz; rw [hw]; simp only [List.length_nil]; omega)
  have hend : ∀ i, i ≤ bs.length → kfrom bs n i = i → kfrom bs n 0 = i → bs.take i ++ [(⟨n, [], needs⟩ : IB)] ++ bs.drop i = insB bs ⟨n, [], needs⟩ := by
    intro i hi _ h0
    have e : insK bs n = i := by rw [← h0]; unfold kfrom insK; rw [List.drop_zero, Nat.zero_add]
    unfold insB
    rw [show insK bs (⟨n, [], needs⟩ : IB).f0 = i from e, List.append_assoc]; rfl
  have go : ∀ (d i : Nat), bs.length - i = d → i ≤ bs.length → kfrom bs n i = kfrom bs n 0 → Ev (fun k => spec_ShareEnter.l0 k n needs (i : Int) ts bs) (ts, insB bs ⟨n, [], needs⟩, 0) := by
    intro d
    induction d with
    | zero =>
      intro i hd hi hk
      have hie : i = bs.length := by omega
      have hke : kfrom bs n i = i := by rw [hie]; exact kfrom_end bs n
      have he := hend i hi hke (by rw [← hk]; exact hke)
      refine Ev.step (fun k => spec_ShareEnter.l0.eq_2 _ _ _ _ _ k) (Ev.neg (by omega) ?_)
      refine Ev.bind (Ev.ret rfl) (Ev.pos (by omega) (Ev.pos (by omega) (Ev.bind (Ev.ret rfl) ?_)))
      rw [Int.toNat_natCast]
      refine Ev.pos (by simp only [List.length_nil, List.length_take]; omega) (Ev.bind (Ev.ret rfl) (Ev.bind (l1Names_ev needs (by omega)) ?_))
      refine Ev.pos (by simp only [List.nil_append, List.length_take]; omega) (Ev.bind (Ev.ret rfl) (Ev.bind (Ev.ret rfl) (Ev.pos (by simp only [List.nil_append, List.length_append, List.length_take, List.length_drop, List.length_cons, List.length_nil]; omega) ?_)))
      rw [List.nil_append, he]
      exact Ev.bind hcopy (Ev.ret rfl)
    | succ d ih =>
      intro i hd hi hk
      have hlt : i < bs.length := by omega
      have hs := kfrom_step (n := n) hlt
      refine Ev.step (fun k => spec_ShareEnter.l0.eq_2 _ _ _ _ _ k) (Ev.pos (by omega) (Ev.pos (by omega) ?_))
      rw [rdB_cast, wrap_up hlt (by omega)]
      refine Ev.prop (fun hp => ?_) (fun hp => ?_)
      · rw [if_pos hp] at hs
        exact ih (i + 1) (by omega) (by omega) (by rw [← hs]; exact hk)
      · rw [if_neg hp] at hs
        have he := hend i hi hs (by rw [← hk]; exact hs)
        refine Ev.bind (Ev.ret rfl) (Ev.pos (by omega) (Ev.bind (Ev.ret rfl) ?_))
        rw [Int.toNat_natCast]
        refine Ev.pos (by simp only [List.length_nil, List.length_take]; omega) (Ev.bind (Ev.ret rfl) (Ev.bind (l1Names_ev needs (by omega)) ?_))
        refine Ev.pos (by simp only [List.nil_append, List.length_take]; omega) (Ev.bind (Ev.ret rfl) (Ev.bind (Ev.ret rfl) (Ev.pos (by simp only [List.nil_append, List.length_append, List.length_take, List.length_drop, List.length_cons, List.length_nil]; omega) ?_)))
        rw [List.nil_append, he]
        exact Ev.bind hcopy (Ev.ret rfl)
  exact go bs.length 0 (by omega) (by omega) rfl
theorem enter_j0 (ts : List ByteArray) (bs : List IB) (n : ByteArray) (needs : List ByteArray) (b : Bool) (h : ts.length + wMark bs ≤ 1048576) (hn : needs.length ≤ 1048576) : Ev (fun k => spec_ShareEnter.j0 k n needs b ts bs ts bs) (if b = true then (ts, bs, 2) else if 0 ≤ atI bs n then (ts, bs, 3) else if 5 ≤ bs.length then (ts, bs, 4) else (ts, insB bs ⟨n, [], needs⟩, 0)) := by
  have hz := ne_Bz h
  have hl := hz.bs
  refine Ev.step (fun k => spec_ShareEnter.j0.eq_2 _ _ _ _ _ _ _ k) (Ev.test b (fun hb => Ev.ret (by rw [if_pos hb])) (fun hb => ?_))
  rw [if_neg (by simp [hb])]
  refine Ev.bind (spec_l1At_ev ts bs n (by omega)) (Ev.prop (fun hc => Ev.ret (by rw [if_pos hc])) (fun hc => ?_))
  rw [if_neg hc]
  refine Ev.prop (fun h5 => Ev.ret (by rw [if_pos (by omega)])) (fun h5 => ?_)
  rw [if_neg (by omega)]
  exact enter_loop ts bs n needs h hn
theorem spec_ShareEnter_ev (ts : List ByteArray) (bs : List IB) (n : ByteArray) (needs : List ByteArray) (h : ts.length + wMark bs ≤ 1048576) (hn : needs.length ≤ 1048576) : Ev (fun k => spec_ShareEnter.f k ts bs n needs) (enterB ts bs n needs) := by
  have hz := ne_Bz h
  have hl := hz.bs
  have ht := hz.ts
  unfold spec_ShareEnter.f enterB
  refine Ev.bind (spec_ShareBookOk_ev ts bs (by omega) (by omega) hz.bok) (Ev.test _ (fun hb => ?_) (fun hb => Ev.ret (by simp [hb])))
  rw [if_pos hb]
  refine Ev.bind (spec_l1Copy_ev ts bs hz) (Ev.bind (spec_l1NameOk_ev n) ?_)
  dsimp only
  refine Ev.test _ (fun hnm => ?_) (fun hnm => ?_)
  · rw [if_pos hnm]
    refine Ev.bind (spec_l1NamesOk_ev needs ts (by omega) (by omega)) ?_
    refine Ev.sub (enter_j0 ts bs n needs _ h hn) ?_
    cases namesB needs ts <;> rfl
  · exact Ev.sub (enter_j0 ts bs n needs true h hn) (by simp [hnm])
theorem Ev.posI {α : Type} {c : Prop} {inst : Decidable c} {a b : Nat → Option α} {r : α} (h : c) (H : Ev a r) : Ev (fun k => @ite _ c inst (a k) (b k)) r := Ev.pos h H
theorem impl_ShareEnter_ev (ts : List ByteArray) (bs : List IB) (n : ByteArray) (needs : List ByteArray) (h : ts.length + wMark bs ≤ 1048576) (hn : needs.length ≤ 1048576) : Ev (fun k => impl_ShareEnter.f k ts bs n needs) (enterB ts bs n needs) := by
  have hz := ne_Bz h
  have hl := hz.bs
  have ht := hz.ts
  unfold impl_ShareEnter.f enterB
  refine Ev.bind (impl_ShareBookOk_ev ts bs (by omega) (by omega) hz.bok) (Ev.test _ (fun hb => ?_) (fun hb => Ev.ret (by simp [hb])))
  rw [if_pos hb]
  have h5 := book_five hb
  refine Ev.bind (impl_copyBook_ev ts bs hz) (Ev.bind (name_ev n) ?_)
  dsimp only
  refine Ev.test _ (fun hnm => ?_) (fun hnm => Ev.ret (by simp [hnm]))
  rw [if_pos hnm]
  refine Ev.bind (impl_of_ev needs ts (by omega) (by omega)) (Ev.test _ (fun hq => ?_) (fun hq => Ev.ret (by simp [hq])))
  rw [if_pos hq]
  refine Ev.bind (Ev.ret (s := atI bs n) rfl) (Ev.prop (fun hc => Ev.ret (by rw [if_pos hc])) (fun hc => ?_))
  rw [if_neg hc]
  refine Ev.prop (fun h6 => Ev.ret (by rw [if_pos (by omega)])) (fun h6 => ?_)
  rw [if_neg (by omega)]
  refine Ev.bind (clone_ev needs (by omega)) (Ev.posI ⟨by omega, insB_asc (book_asc hb) (at_none hc)⟩ (Ev.ret rfl))
end Go.Proofs.Ytaofjgnhapnndaa.Q
namespace Go.Proofs.Ytaofjgnhapnndaa.Q
open Go.RowKit Go.Proofs.YtaofjgnhapnndaaW.PrintWords Go.Proofs.YtaofjgnhapnndaaW.PrintLast Go.Proofs.YtaofjgnhapnndaaW.PrintMore
set_option linter.unusedVariables false
set_option linter.unusedSimpArgs false
theorem FnExactShareEnter_pure (ts : List ByteArray) (bs : List LB) (n : ByteArray) (l : List ByteArray) (hi : Inok ts bs) (hs : n.size ≤ 140737488351232) (hl : l.length ≤ 9223372036854775807 ∧ ∀ s ∈ l, s.size ≤ 9223372036854775807) : ∃ k, laws_FnExactShareEnter.f k ts bs n l = some true := by
  refine Ev.rounds (g := fun k => laws_FnExactShareEnter.f k ts bs n l) ?_
  unfold laws_FnExactShareEnter.f
  refine Ev.prop (fun _ => Ev.ret rfl) (fun _ => ?_)
  refine counted hi fun a ha h0 h => ?_
  refine countedS hl h0 (by omega) fun a2 h2 h3 hs2 => ?_
  unfold laws_FnExactShareEnter.t
  have hb := Bz.of (wBook_of ha h0)
  have hx := ne_Bz hb
  have hg := enterB_z n hb h3
  have hsp := spec_ShareEnter_ev ts (bs.map toB) n l hb h3
  have him := impl_ShareEnter_ev ts (bs.map toB) n l hb h3
  have hto := toStringS_ev l (by omega)
  have heq := hg.eq_ev
  have hm := markB_ev hg
  have hh := heldB_ev hg
  have hmx := markB_ev hx
  have hmr := markStringS_ev l (1 + ts.length + wMark (bs.map toB)) (by omega) (by omega)
  have hp : (0 : Int) ≤ 1 + ts.length + wMark (bs.map toB) + l.length := by omega
  have hq : (0 : Int) ≤ 1 + (enterB ts (bs.map toB) n l).1.length + wMark (enterB ts (bs.map toB) n l).2.1 := by omega
  refine Ev.bind h.to_ev (Ev.bind hto (Ev.bind hsp (Ev.bind h.to_ev (Ev.bind hto (Ev.bind him (Ev.bind heq (Ev.pos ⟨rfl, rfl⟩ (Ev.bind h.to_ev (Ev.bind h.eq_ev (Ev.pos rfl ?_))))))))))
  refine Ev.bind hto (Ev.bind (eqStringS_ev l (by omega)) (Ev.pos rfl ?_))
  refine Ev.bind hmx (Ev.bind hmr (Ev.pos hp (Ev.bind heq (Ev.pos rfl (Ev.bind hm (Ev.bind hh (Ev.pos ⟨hq, rfl⟩ ?_)))))))
  exact Ev.bind h.to_ev (Ev.bind hto (Ev.bind him (Ev.bind heq (Ev.pos ⟨rfl, rfl⟩ (Ev.bind hh (Ev.pos ⟨hq, rfl⟩ (Ev.ret rfl)))))))
end Go.Proofs.Ytaofjgnhapnndaa.Q
