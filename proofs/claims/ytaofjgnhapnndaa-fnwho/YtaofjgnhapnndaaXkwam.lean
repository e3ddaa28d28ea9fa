/- Texts that the row needs: words on memory and rows, the contracts of the functions it reaches, and the plain lemmas on what they compute. -/
import Derived.Deep.RegionLaw
import Derived.Test.YtaofjgnhapnndaaXkwal
open Go.Proofs.YtaofjgnhapnndaaFkw
namespace Go.Proofs.Ytaofjgnhapnndaa.Q
open Go.RowKit Go.Proofs.YtaofjgnhapnndaaW.PrintWords Go.Proofs.YtaofjgnhapnndaaW.PrintLast Go.Proofs.YtaofjgnhapnndaaW.PrintMore
set_option linter.unusedVariables false
set_option linter.unusedSimpArgs false
def leaveB (ts : List ByteArray) (bs : List IB) (n : ByteArray) : List ByteArray × List IB × Int :=
  if bookB ts bs = true then (if atI bs n < 0 then (ts, bs, 3) else (ts, bs.eraseIdx (atI bs n).toNat, 0)) else ([], [], 1)
theorem atI_is (bs : List IB) (n : ByteArray) (h : ¬ atI bs n < 0) : ∃ i : Nat, atI bs n = (i : Int) ∧ i < bs.length := by
  unfold atI idxI at h ⊢
  cases hf : findR (fun i => (fun s => s.toList == n.toList) (gB bs i).f0) bs.length 0 with
  | none => rw [hf] at h; simp at h
  | some i => exact ⟨i, by simp, (findR_lt hf).2.1⟩
theorem wMark_erase : ∀ (bs : List IB) (i : Nat), wMark (bs.eraseIdx i) ≤ wMark bs
  | [], i => by simp
  | b :: r, 0 => by rw [List.eraseIdx_zero, List.tail_cons, wMark_cons]; omega
  | b :: r, i + 1 => by have := wMark_erase r i; rw [List.eraseIdx_cons_succ, wMark_cons, wMark_cons]; omega
theorem spec_ShareLeave_ev (ts : List ByteArray) (bs : List IB) (n : ByteArray) (h : Bz ts bs) : Ev (fun k => spec_ShareLeave.f k ts bs n) (leaveB ts bs n) := by
  have hl := h.bs
  unfold spec_ShareLeave.f leaveB
  refine Ev.bind (spec_ShareBookOk_ev ts bs (by have := h.ts; omega) (by omega) h.bok) (Ev.test _ (fun hb => ?_) (fun hb => Ev.ret (by simp [hb])))
  rw [if_pos hb]
  refine Ev.bind (spec_l1Copy_ev ts bs h) (Ev.bind (spec_l1At_ev ts bs n (by omega)) ?_)
  refine Ev.prop (fun hc => Ev.ret (by rw [if_pos hc])) (fun hc => ?_)
  rw [if_neg hc]
  obtain ⟨i, e, hi⟩ := atI_is bs n hc
  rw [e, Int.toNat_natCast, wrap_up hi (by omega)]
  dsimp only
  refine Ev.bind (Ev.ret rfl) (Ev.pos (by omega) (Ev.pos (by omega) (Ev.bind (Ev.ret rfl) (Ev.pos (by simp only [List.length_nil, List.length_take]; omega) (Ev.bind (Ev.ret rfl) (Ev.pos (by omega) (Ev.pos (by omega) (Ev.bind (Ev.ret rfl) (Ev.pos (by simp only [List.nil_append, List.length_take, List.length_drop]; omega) (Ev.ret ?_))))))))))
  rw [List.nil_append, Int.toNat_natCast, List.eraseIdx_eq_take_drop_succ]
def setN (bs : List IB) (i : Nat) (h n : List ByteArray) : List IB := bs.set i ⟨(gB bs i).f0, h, n⟩
def lessB (ts : List ByteArray) (bs : List IB) (n : ByteArray) (needs : List ByteArray) : List ByteArray × List IB × Int :=
  if bookB ts bs = true then
    (if atI bs n < 0 then (ts, bs, 3) else if namesB needs (gB bs (atI bs n).toNat).f2 = true then (ts, setN bs (atI bs n).toNat ((gB bs (atI bs n).toNat).f1.filter (hasS needs)) needs, 0) else (ts, bs, 2))
  else ([], [], 1)
theorem wMark_set {bs : List IB} {i : Nat} (hi : i < bs.length) (x : IB) : wMark (bs.set i x) + (1 + (gB bs i).f1.length + (gB bs i).f2.length) = wMark bs + (1 + x.f1.length + x.f2.length) := by
  have e := List.set_eq_take_append_cons_drop (l := bs) (i := i) (a := x)
  rw [if_pos hi] at e
  have e2 : bs = bs.take i ++ gB bs i :: bs.drop (i + 1) := by
    have := List.drop_eq_getElem_cons hi
    unfold gB; rw [getD_lt bs _ hi, ← this, List.take_append_drop]
  have e3 : wMark bs = wMark (bs.take i) + (1 + (gB bs i).f1.length + (gB bs i).f2.length + wMark (bs.drop (i + 1))) := by
    rw [← wMark_cons, ← wMark_append, ← e2]
  rw [e, wMark_append, wMark_cons, e3]; omega
theorem filter_len (p : ByteArray → Bool) (l : List ByteArray) : (l.filter p).length ≤ l.length := List.length_filter_le p l
theorem setN_w {bs : List IB} {i : Nat} (hi : i < bs.length) (p : ByteArray → Bool) (needs : List ByteArray) : wMark (setN bs i ((gB bs i).f1.filter p) needs) ≤ wMark bs + needs.length := by
  have := wMark_set hi ⟨(gB bs i).f0, (gB bs i).f1.filter p, needs⟩
  have h2 := filter_len p (gB bs i).f1
  unfold setN; simp only at this; omega
theorem filter_take {l : List ByteArray} (p : ByteArray → Bool) {i : Nat} (h : i < l.length) : (l.take (i + 1)).filter p = (l.take i).filter p ++ (if p l[i] = true then [l[i]] else []) := by
  rw [List.take_succ_eq_append_getElem h, List.filter_append]
  cases hp : p l[i] <;> simp [hp]
theorem spec_ShareLess_ev (ts : List ByteArray) (bs : List IB) (n : ByteArray) (needs : List ByteArray) (h : ts.length + wMark bs ≤ 1048576) (hn : needs.length ≤ 1048576) : Ev (fun k => spec_ShareLess.f k ts bs n needs) (lessB ts bs n needs) := by
  have hz := ne_Bz h
  have hl := hz.bs
  unfold spec_ShareLess.f lessB
  refine Ev.bind (spec_ShareBookOk_ev ts bs (by have := hz.ts; omega) (by omega) hz.bok) (Ev.test _ (fun hb => ?_) (fun hb => Ev.ret (by simp [hb])))
  rw [if_pos hb]
  refine Ev.bind (spec_l1Copy_ev ts bs hz) (Ev.bind (spec_l1At_ev ts bs n (by omega)) ?_)
  refine Ev.prop (fun hc => Ev.ret (by rw [if_pos hc])) (fun hc => ?_)
  rw [if_neg hc]
  obtain ⟨i, e, hi⟩ := atI_is bs n hc
  rw [e, Int.toNat_natCast]
  have hii := hz.at_ hi
  dsimp only
  refine Ev.pos (by omega) (Ev.pos (by omega) ?_)
  rw [rdB_cast]
  refine Ev.bind (spec_l1NamesOk_ev needs _ (by omega) (by omega)) (Ev.test _ (fun ht => ?_) (fun ht => Ev.ret (by simp [ht])))
  rw [if_pos ht]
  have go : ∀ (d j : Nat), (gB bs i).f1.length - j = d → j ≤ (gB bs i).f1.length → Ev (fun k => spec_ShareLess.l0 k needs (i : Int) (((gB bs i).f1.take j).filter (hasS needs)) (j : Int) ts bs ts bs) (ts, setN bs i ((gB bs i).f1.filter (hasS needs)) needs, 0) := by
    intro d
    induction d with
    | zero =>
      intro j hd hj
      have hje : j = (gB bs i).f1.length := by omega
      refine Ev.step (fun k => spec_ShareLess.l0.eq_2 _ _ _ _ _ _ _ _ k) (Ev.pos (by omega) (Ev.pos (by omega) ?_))
      rw [rdB_cast]
      refine Ev.neg (by omega) (Ev.bind (l1Names_ev needs (by omega)) (Ev.pos (by omega) (Ev.bind (Ev.ret rfl) ?_)))
      have hset : ((bs.set i (⟨(gB bs i).f0, (gB bs i).f1, needs⟩ : IB)).set i ⟨(gB bs i).f0, (gB bs i).f1.filter (hasS needs), needs⟩) = setN bs i ((gB bs i).f1.filter (hasS needs)) needs := by rw [List.set_set]; rfl
      have hrd : rd_T56 (bs.set i (⟨(gB bs i).f0, (gB bs i).f1, needs⟩ : IB)) (i : Int) = ⟨(gB bs i).f0, (gB bs i).f1, needs⟩ := by
        unfold rd_T56
        rw [Int.toNat_natCast, List.getD_eq_getElem?_getD, List.getElem?_set_self hi]; rfl
      rw [Int.toNat_natCast, hrd, List.take_of_length_le (by omega), hset]
      have hw := setN_w hi (hasS needs) needs
      exact Ev.bind (spec_l1Copy_ev ts _ (by unfold Bz; omega)) (Ev.ret rfl)
    | succ d ih =>
      intro j hd hj
      have hlt : j < (gB bs i).f1.length := by omega
      refine Ev.step (fun k => spec_ShareLess.l0.eq_2 _ _ _ _ _ _ _ _ k) (Ev.pos (by omega) (Ev.pos (by omega) ?_))
      rw [rdB_cast]
      refine Ev.pos (by omega) (Ev.pos (by omega) ?_)
      rw [rdS_cast, show gS (gB bs i).f1 j = (gB bs i).f1[j] from getD_lt _ _ hlt, wrap_up hlt (by omega)]
      have := ih (j + 1) (by omega) (by omega)
      rw [filter_take _ hlt] at this
      refine Ev.bind (spec_l1Has_ev needs _ (by omega)) (Ev.test _ (fun hp => Ev.pos ?_ ?_) (fun hp => ?_))
      · have := filter_len (hasS needs) ((gB bs i).f1.take j); rw [List.length_take] at this; omega
      · rw [if_pos hp] at this; exact this
      · rw [if_neg (by simp [hp]), List.append_nil] at this; exact this
  have := go (gB bs i).f1.length 0 (by omega) (by omega)
  exact this
def takenP (bs : List IB) (at_ : Nat) (things : List ByteArray) (q : Nat) : Bool := !decide (q = at_) && shareB (gB bs q).f1 things
def takenB (bs : List IB) (at_ : Nat) (things : List ByteArray) : Bool := anyR (takenP bs at_ things) bs.length 0
def giveB (bs : List IB) (i : Nat) (things : List ByteArray) : List IB := setN bs i (insAll (gB bs i).f1 things) (gB bs i).f2
def askB (ts : List ByteArray) (bs : List IB) (n : ByteArray) (things : List ByteArray) : List ByteArray × List IB × Int :=
  if bookB ts bs = true then
    (if atI bs n < 0 then (ts, bs, 3) else if namesB things (gB bs (atI bs n).toNat).f2 = true then
      (if takenB bs (atI bs n).toNat things = true then (ts, bs, 5) else if (safeB ts bs && !safeB ts (giveB bs (atI bs n).toNat things)) = true then (ts, bs, 6) else (ts, giveB bs (atI bs n).toNat things, 0)) else (ts, bs, 2))
  else ([], [], 1)
theorem giveB_w {bs : List IB} {i : Nat} (hi : i < bs.length) (things : List ByteArray) : wMark (giveB bs i things) ≤ wMark bs + things.length := by
  have h1 := wMark_set hi ⟨(gB bs i).f0, insAll (gB bs i).f1 things, (gB bs i).f2⟩
  have h2 := insAll_len things (gB bs i).f1
  unfold giveB setN; simp only at h1; omega
theorem giveB_z {ts : List ByteArray} {bs : List IB} {i : Nat} (hi : i < bs.length) {things : List ByteArray} (h : ts.length + wMark bs ≤ 1048576) (hn : things.length ≤ 1048576) : Bz ts (giveB bs i things) := by
  have := giveB_w hi things
  unfold Bz; omega
theorem l3Insert_ev (l : List ByteArray) (a : ByteArray) (hl : l.length ≤ 67108864) (hf : insF a l = false) : Ev (fun k => spec_l3Insert.f k l a) (insL a l) := by
  unfold spec_l3Insert.f
  have go : ∀ (d i : Nat), l.length - i = d → i ≤ l.length → insF a (l.drop i) = false → Ev (fun k => spec_l3Insert.l0 k l a (i : Int)) (l.take i ++ insL a (l.drop i)) := by
    intro d
    induction d with
    | zero =>
      intro i hd hi _
      have hie : i = l.length := by omega
      refine Ev.step (fun k => spec_l3Insert.l0.eq_2 _ _ _ k) (Ev.neg (by omega) ?_)
      refine Ev.bind (Ev.ret rfl) (Ev.pos (by omega) (Ev.pos (by omega) ?_))
      rw [Int.toNat_natCast]
      refine Ev.pos (by simp only [List.length_nil, List.length_take]; omega) (Ev.bind (Ev.ret rfl) (Ev.bind (Ev.ret rfl) ?_))
      refine Ev.pos (by simp only [List.nil_append, List.length_take, List.length_cons, List.length_nil]; omega) (Ev.bind (Ev.ret rfl) (Ev.pos (by simp only [List.nil_append, List.length_append, List.length_take, List.length_drop, List.length_cons, List.length_nil]; omega) (Ev.ret ?_)))
      rw [hie, List.drop_eq_nil_of_le (Nat.le_refl _), List.nil_append, List.append_nil]; rfl
    | succ d ih =>
      intro i hd hi hf
      have hlt : i < l.length := by omega
      rw [List.drop_eq_getElem_cons hlt] at hf ⊢
      unfold insF at hf
      unfold insL
      refine Ev.step (fun k => spec_l3Insert.l0.eq_2 _ _ _ k) (Ev.pos (by omega) (Ev.pos (by omega) ?_))
      rw [rdS_cast, show gS l i = l[i] from getD_lt _ _ hlt, wrap_up hlt (by omega)]
      refine Ev.prop (fun hp => ?_) (fun hp => ?_)
      · rw [if_pos hp] at hf
        rw [show (if Op.bytesLess l[i].toList a.toList = true then l[i] :: insL a (l.drop (i + 1)) else if (l[i].toList == a.toList) = true then l[i] :: l.drop (i + 1) else a :: l[i] :: l.drop (i + 1)) = l[i] :: insL a (l.drop (i + 1)) from if_pos hp]
        have := ih (i + 1) (by omega) (by omega) hf
        rw [List.take_succ_eq_append_getElem hlt, List.append_assoc] at this
        exact this
      · rw [if_neg hp] at hf
        have hres : (if Op.bytesLess l[i].toList a.toList = true then l[i] :: insL a (l.drop (i + 1)) else if (l[i].toList == a.toList) = true then l[i] :: l.drop (i + 1) else a :: l[i] :: l.drop (i + 1)) = a :: l[i] :: l.drop (i + 1) := by
          rw [if_neg hp, if_neg (by rw [hf]; simp)]
        rw [hres]
        refine Ev.neg (by simpa using hf) ?_
        refine Ev.bind (Ev.ret rfl) (Ev.pos (by omega) ?_)
        rw [Int.toNat_natCast]
        refine Ev.pos (by simp only [List.length_nil, List.length_take]; omega) (Ev.bind (Ev.ret rfl) (Ev.bind (Ev.ret rfl) ?_))
        refine Ev.pos (by simp only [List.nil_append, List.length_take, List.length_cons, List.length_nil]; omega) (Ev.bind (Ev.ret rfl) (Ev.pos (by simp only [List.nil_append, List.length_append, List.length_take, List.length_drop, List.length_cons, List.length_nil]; omega) (Ev.ret ?_)))
        rw [List.nil_append, List.append_assoc, List.drop_eq_getElem_cons hlt]; rfl
  have := go l.length 0 (by omega) (by omega) hf
  exact this
theorem spec_l3Taken_ev (ts : List ByteArray) (bs : List IB) (at_ : Nat) (things : List ByteArray) (h : Bz ts bs) (hn : things.length ≤ 1048576) : Ev (fun k => spec_l3Taken.f k ts bs (at_ : Int) things) (takenB bs at_ things) := by
  have hl := h.bs
  unfold spec_l3Taken.f
  refine Ev.loop (f := fun k i => spec_l3Taken.l0 k (at_ : Int) things (i : Int) ts bs) (val := anyR (takenP bs at_ things) bs.length) bs.length ?_ ?_ 0 (by omega)
  · rw [anyR_end]
    refine Ev.step (fun k => spec_l3Taken.l0.eq_2 _ _ _ _ _ k) ?_
    exact Ev.neg (by omega) (Ev.ret rfl)
  · intro i hi H
    rw [anyR_step _ hi]
    refine Ev.step (fun k => spec_l3Taken.l0.eq_2 _ _ _ _ _ k) (Ev.pos (by omega) ?_)
    rw [wrap_up hi (by omega), rdB_cast]
    refine Ev.prop (fun e => Ev.sub H (by simp [takenP, show i = at_ by omega])) (fun e => Ev.pos (by omega) (Ev.bind (spec_l1Share_ev _ _ (by have := h.at_ hi; omega) (by omega)) ?_))
    have hne : decide (i = at_) = false := decide_eq_false (by omega)
    refine Ev.test _ (fun h2 => Ev.ret (by simp [takenP, h2, hne])) (fun h2 => Ev.sub H (by simp [takenP, h2]))
theorem setN_gB {bs : List IB} {i : Nat} (hi : i < bs.length) (h n : List ByteArray) : gB (setN bs i h n) i = ⟨(gB bs i).f0, h, n⟩ := by
  unfold setN gB
  rw [List.getD_eq_getElem?_getD, List.getElem?_set_self hi]; rfl
theorem spec_ShareAsk_ev (ts : List ByteArray) (bs : List IB) (n : ByteArray) (things : List ByteArray) (h : ts.length + wMark bs ≤ 1048576) (hn : things.length ≤ 1048576) : Ev (fun k => spec_ShareAsk.f k ts bs n things) (askB ts bs n things) := by
  have hz := ne_Bz h
  have hl := hz.bs
  have ht := hz.ts
  unfold spec_ShareAsk.f askB
  refine Ev.bind (spec_ShareBookOk_ev ts bs (by omega) (by omega) hz.bok) (Ev.test _ (fun hb => ?_) (fun hb => Ev.ret (by simp [hb])))
  rw [if_pos hb]
  refine Ev.bind (spec_l1Copy_ev ts bs hz) (Ev.bind (spec_l1At_ev ts bs n (by omega)) ?_)
  refine Ev.prop (fun hc => Ev.ret (by rw [if_pos hc])) (fun hc => ?_)
  rw [if_neg hc]
  obtain ⟨i, e, hi⟩ := atI_is bs n hc
  rw [e, Int.toNat_natCast]
  have hii := hz.at_ hi
  dsimp only
  refine Ev.pos (by omega) (Ev.pos (by omega) ?_)
  rw [rdB_cast]
  refine Ev.bind (spec_l1NamesOk_ev things _ (by omega) (by omega)) (Ev.test _ (fun hq => ?_) (fun hq => Ev.ret (by simp [hq])))
  rw [if_pos hq]
  refine Ev.bind (spec_l3Taken_ev ts bs i things hz hn) (Ev.test _ (fun hk => Ev.ret (by simp [hk])) (fun hk => ?_))
  rw [if_neg (by simp [hk])]
  refine Ev.bind (spec_l1Copy_ev ts bs hz) ?_
  dsimp only
  have hself : setN bs i (insAll (gB bs i).f1 (things.take 0)) (gB bs i).f2 = bs := by
    unfold setN insAll
    rw [List.take_zero, List.foldl_nil]
    refine List.ext_getElem (by rw [List.length_set]) fun j h1 h2 => ?_
    rw [List.getElem_set]
    by_cases hj : i = j
    · subst hj; rw [if_pos rfl]; unfold gB; rw [getD_lt bs _ hi]
    · rw [if_neg hj]
  have go : ∀ (d j : Nat), things.length - j = d → j ≤ things.length → Ev (fun k => spec_ShareAsk.l0 k things (i : Int) (j : Int) ts bs ts bs ts (setN bs i (insAll (gB bs i).f1 (things.take j)) (gB bs i).f2)) (if (safeB ts bs && !safeB ts (giveB bs i things)) = true then (ts, bs, 6) else (ts, giveB bs i things, 0)) := by
    intro d
    induction d with
    | zero =>
      intro j hd hj
      rw [List.take_of_length_le (by omega), show setN bs i (insAll (gB bs i).f1 things) (gB bs i).f2 = giveB bs i things from rfl]
      have hg := giveB_z hi h hn
      have hgl := hg.bs
      refine Ev.step (fun k => spec_ShareAsk.l0.eq_2 _ _ _ _ _ _ _ _ _ k) (Ev.neg (by omega) (Ev.bind (spec_ShareSafe_ev ts bs (by omega) (by omega) hz.bok) ?_))
      refine Ev.test _ (fun h1 => ?_) (fun h1 => ?_)
      · refine Ev.bind (spec_ShareSafe_ev ts _ (by omega) (by omega) hg.bok) (Ev.test _ (fun h2 => ?_) (fun h2 => Ev.ret (by simp [h1, h2])))
        exact Ev.bind (spec_l1Copy_ev ts _ hg) (Ev.ret (by simp [h1, h2]))
      · exact Ev.bind (spec_l1Copy_ev ts _ hg) (Ev.ret (by simp [h1]))
    | succ d ih =>
      intro j hd hj
      have hlt : j < things.length := by omega
      have hsn : insAll (gB bs i).f1 (things.take (j + 1)) = insL things[j] (insAll (gB bs i).f1 (things.take j)) := by
        rw [List.take_succ_eq_append_getElem hlt, insAll_snoc]
      have hlen : (setN bs i (insAll (gB bs i).f1 (things.take j)) (gB bs i).f2).length = bs.length := by unfold setN; rw [List.length_set]
      have hil := insAll_len (things.take j) (gB bs i).f1
      rw [List.length_take] at hil
      have next := ih (j + 1) (by omega) (by omega)
      refine Ev.step (fun k => spec_ShareAsk.l0.eq_2 _ _ _ _ _ _ _ _ _ k) (Ev.pos (by omega) (Ev.pos (by omega) (Ev.pos (by rw [hlen]; omega) (Ev.pos (by omega) ?_))))
      rw [rdB_cast, setN_gB hi, rdS_cast, show gS things j = things[j] from getD_lt _ _ hlt, wrap_up hlt (by omega)]
      dsimp only
      refine Ev.test _ (fun hf => ?_) (fun hf => ?_)
      · rw [hsn, insL_same _ _ hf] at next
        exact next
      · refine Ev.bind (l3Insert_ev _ _ (by omega) hf) ?_
        rw [Int.toNat_natCast]
        have e2 : (setN bs i (insAll (gB bs i).f1 (things.take j)) (gB bs i).f2).set i ⟨(gB bs i).f0, insL things[j] (insAll (gB bs i).f1 (things.take j)), (gB bs i).f2⟩ = setN bs i (insAll (gB bs i).f1 (things.take (j + 1))) (gB bs i).f2 := by
          rw [hsn]; unfold setN; rw [List.set_set]
        rw [e2]
        exact next
  have := go things.length 0 (by omega) (by omega)
  rw [hself] at this
  exact this
def Tot {α : Type} (g : Nat → Option α) (P : α → Prop) : Prop := ∃ r, Ev g r ∧ P r
theorem Tot.ret {α : Type} {r : α} {P : α → Prop} (h : P r) : Tot (fun _ => some r) P := ⟨r, Ev.ret rfl, h⟩
theorem Tot.bind {α β : Type} {g : Nat → Option α} {f : Nat → α → Option β} {P : α → Prop} {Q : β → Prop} (H : Tot g P) (K : ∀ x, P x → Tot (fun k => f k x) Q) : Tot (fun k => (g k).bind fun x => f k x) Q := by
  obtain ⟨x, h1, h2⟩ := H
  obtain ⟨y, h3, h4⟩ := K x h2
  exact ⟨y, Ev.bind h1 h3, h4⟩
theorem Tot.bindE {α β : Type} {g : Nat → Option α} {f : Nat → α → Option β} {r : α} {Q : β → Prop} (H : Ev g r) (K : Tot (fun k => f k r) Q) : Tot (fun k => (g k).bind fun x => f k x) Q := by
  obtain ⟨y, h3, h4⟩ := K
  exact ⟨y, Ev.bind H h3, h4⟩
theorem Tot.pos {α : Type} {c : Prop} [Decidable c] {a b : Nat → Option α} {P : α → Prop} (h : c) (H : Tot a P) : Tot (fun k => if c then a k else b k) P := by
  obtain ⟨r, h1, h2⟩ := H; exact ⟨r, Ev.pos h h1, h2⟩
theorem Tot.neg {α : Type} {c : Prop} [Decidable c] {a b : Nat → Option α} {P : α → Prop} (h : ¬ c) (H : Tot b P) : Tot (fun k => if c then a k else b k) P := by
  obtain ⟨r, h1, h2⟩ := H; exact ⟨r, Ev.neg h h1, h2⟩
theorem Tot.prop {α : Type} {c : Prop} [Decidable c] {a b : Nat → Option α} {P : α → Prop} (H1 : c → Tot a P) (H2 : ¬ c → Tot b P) : Tot (fun k => if c then a k else b k) P := by
  by_cases h : c
  · exact Tot.pos h (H1 h)
  · exact Tot.neg h (H2 h)
theorem Tot.weak {α : Type} {g : Nat → Option α} {P Q : α → Prop} (H : Tot g P) (h : ∀ x, P x → Q x) : Tot g Q := by
  obtain ⟨r, h1, h2⟩ := H; exact ⟨r, h1, h r h2⟩
theorem Tot.step {α : Type} {f g : Nat → Option α} {P : α → Prop} (e : ∀ k, f (k + 1) = g k) (H : Tot g P) : Tot f P := by
  obtain ⟨r, h1, h2⟩ := H; exact ⟨r, Ev.step e h1, h2⟩
theorem Tot.sub {α : Type} {f g : Nat → Option α} {P : α → Prop} (e : f = g) (H : Tot g P) : Tot f P := e ▸ H
def Bs (s : List Int) : Prop := ∀ x ∈ s, 0 ≤ x ∧ x ≤ 255
theorem rd_byte {s : List Int} (h : Bs s) (i : Int) : 0 ≤ rd s i ∧ rd s i ≤ 255 := by
  unfold rd
  rw [List.getD_eq_getElem?_getD]
  cases hx : s[i.toNat]? with
  | none => simp
  | some x => exact h x (List.mem_of_getElem? hx)
theorem xor_nn {x y : Int} (hx : 0 ≤ x) (hx2 : x < 9223372036854775808) (hy : 0 ≤ y) (hy2 : y < 9223372036854775808) : 0 ≤ Go.bits .xor .i64 x y := by
  have e : ∀ z : Int, 0 ≤ z → z < 9223372036854775808 → (BitVec.ofInt 64 z).toNat < 2 ^ 63 := by
    intro z h1 h2
    rw [BitVec.toNat_ofInt]
    omega
  have hlt : (BitVec.ofInt 64 x ^^^ BitVec.ofInt 64 y).toNat < 2 ^ 63 := by
    rw [BitVec.toNat_xor]
    exact Nat.xor_lt_two_pow (e x hx hx2) (e y hy hy2)
  have : Go.bits .xor .i64 x y = wrap64 ((BitVec.ofInt 64 x ^^^ BitVec.ofInt 64 y).toNat : Int) := by
    rw [← i64_w]; rfl
  rw [this, wrap64_id _ (by omega)]
  omega
theorem pick_tot {s : List Int} (Hs : Bs s) {p : Int} (h0 : 0 ≤ p) (h1 : p ≤ 1000000) (n : Int) : Tot (fun k => spec_l1Rd_pick.f k s p n) (fun r => 0 ≤ r.1 ∧ (0 < n → r.1 < n) ∧ r.2 = p + 1) := by
  unfold spec_l1Rd_pick.f
  rw [wrap64_id (p + 1) (by omega)]
  have quick : Tot (fun k => spec_l1Rd_pick.j0 k n true s (p + 1)) (fun r => 0 ≤ r.1 ∧ (0 < n → r.1 < n) ∧ r.2 = p + 1) :=
    Tot.step (fun k => spec_l1Rd_pick.j0.eq_2 _ _ _ _ k) (Tot.pos rfl (Tot.ret ⟨Int.le_refl _, fun h => h, rfl⟩))
  refine Tot.prop (fun _ => quick) (fun hn => ?_)
  by_cases hl : s.length = 0
  · rw [show ((s.length : Int) == 0) = true from beq_iff_eq.2 (by omega)]; exact quick
  · rw [show ((s.length : Int) == 0) = false from beq_eq_false_iff_ne.2 (by omega)]
    refine Tot.step (fun k => spec_l1Rd_pick.j0.eq_2 _ _ _ _ k) (Tot.neg (by simp) ?_)
    rw [show wrap64 (p + 1 - 1) = p from by unfold wrap64; omega]
    refine Tot.prop (fun hq => Tot.pos h0 (Tot.neg (by omega) (Tot.ret ?_))) (fun hq => Tot.neg (by omega) ?_)
    · obtain ⟨b1, b2⟩ := rd_byte Hs p
      rw [wrap64_id _ (by omega)]
      exact ⟨Int.tmod_nonneg _ b1, fun h => Int.tmod_lt_of_pos _ h, rfl⟩
    · have hlen : (0 : Int) < (s.length : Int) := by omega
      have hw : wrap64 (wrap64 (p * 7) + 3) = p * 7 + 3 := by rw [wrap64_id (p * 7) (by omega), wrap64_id _ (by omega)]
      rw [hw]
      refine Tot.pos (Int.tmod_nonneg _ h0) (Tot.pos (Int.tmod_lt_of_pos _ hlen) (Tot.pos (Int.tmod_nonneg _ (by omega)) (Tot.pos (Int.tmod_lt_of_pos _ hlen) (Tot.neg (by omega) (Tot.ret ?_)))))
      obtain ⟨b1, b2⟩ := rd_byte Hs (Int.tmod p (s.length : Int))
      obtain ⟨b3, b4⟩ := rd_byte Hs (Int.tmod (p * 7 + 3) (s.length : Int))
      have d1 : 0 ≤ Int.tdiv p (s.length : Int) := Int.tdiv_nonneg h0 (by omega)
      have d2 : Int.tdiv p (s.length : Int) ≤ p := by rw [Int.tdiv_eq_ediv_of_nonneg h0]; exact Int.ediv_le_self _ h0
      generalize rd s (Int.tmod p (s.length : Int)) = m1 at b1 b2 ⊢
      generalize rd s (Int.tmod (p * 7 + 3) (s.length : Int)) = m2 at b3 b4 ⊢
      generalize Int.tdiv p (s.length : Int) = d at d1 d2 ⊢
      have big : wrap64 (wrap64 (wrap64 (wrap64 (wrap64 m1 * 131) + wrap64 (wrap64 m2 * 1117)) + wrap64 (p * 29)) + wrap64 (wrap64 d * 53)) = m1 * 131 + m2 * 1117 + p * 29 + d * 53 := by
        rw [wrap64_id m1 (by omega), wrap64_id m2 (by omega), wrap64_id d (by omega), wrap64_id (m1 * 131) (by omega), wrap64_id (m2 * 1117) (by omega), wrap64_id (p * 29) (by omega), wrap64_id (d * 53) (by omega), wrap64_id (m1 * 131 + m2 * 1117) (by omega), wrap64_id (m1 * 131 + m2 * 1117 + p * 29) (by omega), wrap64_id _ (by omega)]
      rw [big]
      have hx : 0 ≤ m1 * 131 + m2 * 1117 + p * 29 + d * 53 := by omega
      have ht : Int.tdiv (m1 * 131 + m2 * 1117 + p * 29 + d * 53) 64 = (m1 * 131 + m2 * 1117 + p * 29 + d * 53) / 64 := Int.tdiv_eq_ediv_of_nonneg hx
      rw [ht, wrap64_id _ (by omega)]
      exact ⟨Int.tmod_nonneg _ (xor_nn hx (by omega) (by omega) (by omega)), fun h => Int.tmod_lt_of_pos _ h, rfl⟩
theorem of_tot {s : List Int} (Hs : Bs s) {p : Int} (h0 : 0 ≤ p) (h1 : p ≤ 1000000) {l : List ByteArray} (hl : 0 < l.length) : Tot (fun k => spec_l1Rd_of.f k s p l) (fun r => r.2 = p + 1) := by
  unfold spec_l1Rd_of.f
  refine Tot.bind (pick_tot Hs h0 h1 _) (fun x hx => ?_)
  exact Tot.pos hx.1 (Tot.pos (hx.2.1 (by omega)) (Tot.ret hx.2.2))
theorem some_tot {s : List Int} (Hs : Bs s) {p : Int} (h0 : 0 ≤ p) {l : List ByteArray} (of_ : Int) (h1 : p + l.length ≤ 1000000) : Tot (fun k => spec_l5Some.f k s p l of_) (fun r => r.1.length ≤ l.length ∧ p ≤ r.2 ∧ r.2 ≤ p + l.length) := by
  unfold spec_l5Some.f
  have go : ∀ (d i : Nat) (p : Int) (x : List ByteArray), i + d = l.length → 0 ≤ p → p + d ≤ 1000000 → x.length ≤ i → Tot (fun k => spec_l5Some.l0 k l of_ x (i : Int) s p) (fun r => r.1.length ≤ l.length ∧ p ≤ r.2 ∧ r.2 ≤ p + d) := by
    intro d
    induction d with
    | zero =>
      intro i p x hi h0 h1 hx
      refine Tot.step (fun k => spec_l5Some.l0.eq_2 _ _ _ _ _ _ k) (Tot.neg (by omega) (Tot.ret ?_))
      dsimp only; omega
    | succ d ih =>
      intro i p x hi h0 h1 hx
      refine Tot.step (fun k => spec_l5Some.l0.eq_2 _ _ _ _ _ _ k) (Tot.pos (by omega) (Tot.bind (pick_tot Hs h0 (by omega) _) (fun y hy => ?_)))
      obtain ⟨_, _, e⟩ := hy
      rw [e, wrap_up (show i < l.length by omega) (by omega)]
      refine Tot.prop (fun _ => Tot.pos (by omega) (Tot.pos (by omega) ((ih (i + 1) (p + 1) _ (by omega) (by omega) (by omega) (by rw [List.length_append, List.length_singleton]; omega)).weak fun r h => ?_))) (fun _ => (ih (i + 1) (p + 1) x (by omega) (by omega) (by omega) (by omega)).weak fun r h => ?_)
      · omega
      · omega
  exact go l.length 0 p [] (by omega) h0 h1 (by simp)
def Gd (n : Nat) (ts : List ByteArray) (bs : List IB) : Prop := ts.length ≤ 5 ∧ (∀ b ∈ bs, b.f2.length ≤ 5 + n) ∧ wMark bs ≤ 100 * n
theorem needs_le {bs : List IB} {m : Nat} (h : ∀ b ∈ bs, b.f2.length ≤ m) (i : Nat) : (gB bs i).f2.length ≤ m := by
  by_cases hi : i < bs.length
  · exact h _ (gB_mem hi)
  · have : gB bs i = z56 := by unfold gB; rw [List.getD_eq_getElem?_getD, List.getElem?_eq_none (by omega)]; rfl
    rw [this]; exact Nat.zero_le _
def baseN : List ByteArray := [(⟨#[106]⟩ : ByteArray), (⟨#[107, 101, 103]⟩ : ByteArray), (⟨#[116, 117, 110]⟩ : ByteArray), (⟨#[118, 97, 116]⟩ : ByteArray), (⟨#[119]⟩ : ByteArray)]
theorem base_tot {s : List Int} (Hs : Bs s) {p : Int} (h0 : 0 ≤ p) (h1 : p ≤ 999000) : Tot (fun k => spec_l5Base.f k s p) (fun r => r.1.Sublist baseN ∧ r.2.1 = [] ∧ p ≤ r.2.2 ∧ r.2.2 ≤ p + 5) := by
  unfold spec_l5Base.f
  have go : ∀ (d i : Nat) (p : Int) (x : List ByteArray), i + d = 5 → 0 ≤ p → p + d ≤ 999500 → x.Sublist (baseN.take i) → Tot (fun k => spec_l5Base.l0 k baseN (i : Int) s p x) (fun r => r.1.Sublist baseN ∧ r.2.1 = [] ∧ p ≤ r.2.2 ∧ r.2.2 ≤ p + d) := by
    intro d
    induction d with
    | zero =>
      intro i p x hi h0 h1 hx
      refine Tot.step (fun k => spec_l5Base.l0.eq_2 _ _ _ _ _ k) (Tot.neg (by show ¬ ((i : Int) < ((5 : Nat) : Int)); omega) (Tot.ret ?_))
      rw [List.take_of_length_le (show baseN.length ≤ i by show 5 ≤ i; omega)] at hx
      dsimp only; exact ⟨hx, rfl, by omega, by omega⟩
    | succ d ih =>
      intro i p x hi h0 h1 hx
      have hxl : x.length ≤ 5 := Nat.le_trans hx.length_le (by rw [List.length_take]; show min i 5 ≤ 5; omega)
      have hil : i < baseN.length := by show i < 5; omega
      refine Tot.step (fun k => spec_l5Base.l0.eq_2 _ _ _ _ _ k) (Tot.pos (by show (i : Int) < ((5 : Nat) : Int); omega) (Tot.bind (pick_tot Hs h0 (by omega) _) (fun y hy => ?_)))
      obtain ⟨_, _, e⟩ := hy
      rw [e, wrap_up hil (by show 5 ≤ 9223372036854775807; omega)]
      have ht : baseN.take (i + 1) = baseN.take i ++ [baseN[i]] := List.take_succ_eq_append_getElem hil
      refine Tot.prop (fun _ => Tot.pos (by omega) (Tot.pos (by omega) ((ih (i + 1) (p + 1) _ (by omega) (by omega) (by omega) ?_).weak fun r h => ?_))) (fun _ => (ih (i + 1) (p + 1) x (by omega) (by omega) (by omega) ?_).weak fun r h => ?_)
      · rw [ht, rdS_cast, show gS baseN i = baseN[i] from getD_lt _ _ hil]
        exact List.Sublist.append hx (List.Sublist.refl _)
      · exact ⟨h.1, h.2.1, by omega, by omega⟩
      · rw [ht]; exact hx.trans (List.sublist_append_left _ _)
      · exact ⟨h.1, h.2.1, by omega, by omega⟩
  exact (go 5 0 p [] (by omega) h0 (by omega) (by simp)).weak fun r h => ⟨h.1, h.2.1, by omega, by omega⟩
theorem does_tot {s : List Int} (Hs : Bs s) {p : Int} (h0 : 0 ≤ p) {ts : List ByteArray} {bs : List IB} {m : Nat} (ht : ts.length ≤ m) (hb : ∀ b ∈ bs, b.f2.length ≤ m) (hl : bs.length ≤ 1048576) (h1 : p + m ≤ 999000) :
    Tot (fun k => spec_l5Does.f k s p ts bs) (fun r => r.2.2.1.length ≤ m + 1 ∧ p ≤ r.2.2.2 ∧ r.2.2.2 ≤ p + m + 7) := by
  unfold spec_l5Does.f
  have j4 : ∀ (p : Int) (a : Int) (n : ByteArray) (l : List ByteArray), 0 ≤ p → p ≤ 999900 → l.length ≤ m → Tot (fun k => spec_l5Does.j4 k s p a n l) (fun r => r.2.2.1.length ≤ m + 1 ∧ p ≤ r.2.2.2 ∧ r.2.2.2 ≤ p + 2) := by
    intro p a n l h0 h1 hl
    refine Tot.step (fun k => spec_l5Does.j4.eq_2 _ _ _ _ _ k) (Tot.bind (pick_tot Hs h0 (by omega) _) (fun y hy => ?_))
    obtain ⟨_, _, e⟩ := hy
    rw [e]
    refine Tot.prop (fun _ => Tot.bind (of_tot Hs (by omega) (by omega) (by simp)) (fun z hz => Tot.pos (by omega) (Tot.ret ?_))) (fun _ => Tot.prop (fun _ => Tot.bind (of_tot Hs (by omega) (by omega) (by simp)) (fun z hz => Tot.ret ?_)) (fun _ => Tot.ret ?_))
    · dsimp only; rw [hz, List.length_append, List.length_singleton]; omega
    · dsimp only; rw [hz]; omega
    · dsimp only; omega
  have j3 : ∀ (p : Int) (x : List ByteArray) (q : Int) (b : Bool) (a : Int) (n : ByteArray), 0 ≤ p → p + m ≤ 999800 → x.length ≤ m → Tot (fun k => spec_l5Does.j3 k x q b s p ts bs a n) (fun r => r.2.2.1.length ≤ m + 1 ∧ p ≤ r.2.2.2 ∧ r.2.2.2 ≤ p + m + 3) := by
    intro p x q b a n h0 h1 hx
    refine Tot.step (fun k => spec_l5Does.j3.eq_2 _ _ _ _ _ _ _ _ _ k) ?_
    refine Tot.prop (fun _ => Tot.bindE (Ev.ret rfl) (Tot.bind (of_tot Hs h0 (by omega) (by simp)) (fun y hy => ?_))) (fun _ => Tot.prop (fun _ => Tot.bind (some_tot Hs h0 2 (by omega)) (fun y hy => ?_)) (fun _ => Tot.prop (fun _ => ?_) (fun _ => Tot.bind (some_tot Hs h0 2 (by omega)) (fun y hy => ?_))))
    · rw [hy]
      refine Tot.bind (some_tot Hs (by omega) 2 (by omega)) (fun z hz => ?_)
      obtain ⟨z1, z2, z3⟩ := hz
      exact (j4 z.2 _ _ _ (by omega) (by omega) (by omega)).weak fun r h => ⟨h.1, by omega, by omega⟩
    · obtain ⟨z1, z2, z3⟩ := hy
      exact (j4 y.2 _ _ _ (by omega) (by omega) (by omega)).weak fun r h => ⟨h.1, by omega, by omega⟩
    · exact (j4 p _ _ _ h0 (by omega) (by simp)).weak fun r h => ⟨h.1, by omega, by omega⟩
    · obtain ⟨z1, z2, z3⟩ := hy
      exact (j4 y.2 _ _ _ (by omega) (by omega) (by omega)).weak fun r h => ⟨h.1, by omega, by omega⟩
  have j2 : ∀ (p : Int) (x : List ByteArray) (a : Int) (n : ByteArray), 0 ≤ p → p + m ≤ 999700 → x.length ≤ m → Tot (fun k => spec_l5Does.j2 k x s p ts bs a n) (fun r => r.2.2.1.length ≤ m + 1 ∧ p ≤ r.2.2.2 ∧ r.2.2.2 ≤ p + m + 4) := by
    intro p x a n h0 h1 hx
    refine Tot.step (fun k => spec_l5Does.j2.eq_2 _ _ _ _ _ _ _ k) (Tot.bind (pick_tot Hs h0 (by omega) _) (fun y hy => ?_))
    obtain ⟨_, _, e⟩ := hy
    rw [e]
    have J : ∀ q b, Tot (fun k => spec_l5Does.j3 k x q b s (p + 1) ts bs a n) (fun r => r.2.2.1.length ≤ m + 1 ∧ p ≤ r.2.2.2 ∧ r.2.2.2 ≤ p + m + 4) := fun q b => (j3 (p + 1) x q b a n (by omega) (by omega) hx).weak fun r h => ⟨h.1, by omega, by omega⟩
    exact Tot.prop (fun _ => J _ _) (fun _ => Tot.prop (fun _ => J _ _) (fun _ => J _ _))
  have j1 : ∀ (p : Int) (a : Int) (n : ByteArray), 0 ≤ p → p + m ≤ 999700 → Tot (fun k => spec_l5Does.j1 k s p ts bs a n) (fun r => r.2.2.1.length ≤ m + 1 ∧ p ≤ r.2.2.2 ∧ r.2.2.2 ≤ p + m + 4) := by
    intro p a n h0 h1
    refine Tot.step (fun k => spec_l5Does.j1.eq_2 _ _ _ _ _ _ k) (Tot.bindE (spec_l1At_ev ts bs n (by omega)) ?_)
    refine Tot.prop (fun h => ?_) (fun _ => j2 p ts a n h0 h1 ht)
    obtain ⟨i, e, hi⟩ := atI_is bs n (by omega)
    rw [e]
    refine Tot.pos (by omega) (Tot.pos (by omega) ?_)
    rw [rdB_cast]
    exact j2 p _ a n h0 h1 (needs_le hb i)
  have j0 : ∀ (p : Int) (b : Bool) (a : Int) (n : ByteArray), 0 ≤ p → p + m ≤ 999600 → (b = true → 0 < bs.length) → Tot (fun k => spec_l5Does.j0 k b s p ts bs a n) (fun r => r.2.2.1.length ≤ m + 1 ∧ p ≤ r.2.2.2 ∧ r.2.2.2 ≤ p + m + 5) := by
    intro p b a n h0 h1 hbl
    refine Tot.step (fun k => spec_l5Does.j0.eq_2 _ _ _ _ _ _ _ k) (Tot.prop (fun h => Tot.bind (pick_tot Hs h0 (by omega) _) (fun y hy => ?_)) (fun _ => (j1 p a n h0 (by omega)).weak fun r h => ⟨h.1, by omega, by omega⟩))
    obtain ⟨y1, y2, e⟩ := hy
    have := hbl h
    rw [e]
    exact Tot.pos y1 (Tot.pos (y2 (by omega)) ((j1 (p + 1) a _ (by omega) (by omega)).weak fun r h => ⟨h.1, by omega, by omega⟩))
  refine Tot.bindE (Ev.ret rfl) (Tot.bind (of_tot Hs h0 (by omega) (by simp)) (fun y hy => ?_))
  rw [hy]
  refine Tot.prop (fun h => Tot.bind (pick_tot Hs (by omega) (by omega) _) (fun z hz => ?_)) (fun _ => (j0 (p + 1) _ _ _ (by omega) (by omega) (by simp)).weak fun r h => ⟨h.1, by omega, by omega⟩)
  obtain ⟨_, _, e⟩ := hz
  rw [e]
  exact (j0 (p + 1 + 1) _ _ _ (by omega) (by omega) (fun _ => by omega)).weak fun r h => ⟨h.1, by omega, by omega⟩
theorem hasS_iff {l : List ByteArray} {s : ByteArray} : hasS l s = true ↔ s ∈ l := by
  unfold hasS; rw [List.any_eq_true]
  constructor
  · rintro ⟨x, hx, h⟩; rw [toList_inj.1 (beq_iff_eq.1 h)]; exact hx
  · intro h; exact ⟨s, h, by simp⟩
theorem shareB_iff {a b : List ByteArray} : shareB a b = true ↔ ∃ s, s ∈ a ∧ s ∈ b := by
  unfold shareB; rw [List.any_eq_true]
  constructor
  · rintro ⟨s, h1, h2⟩; exact ⟨s, h1, hasS_iff.1 h2⟩
  · rintro ⟨s, h1, h2⟩; exact ⟨s, h1, hasS_iff.2 h2⟩
theorem shareB_no {a b : List ByteArray} : shareB a b = false ↔ ∀ s, s ∈ a → s ∉ b := by
  rw [← Bool.not_eq_true, shareB_iff]
  constructor
  · intro h s h1 h2; exact h ⟨s, h1, h2⟩
  · rintro h ⟨s, h1, h2⟩; exact h s h1 h2
theorem shareB_swap {a b : List ByteArray} (h : shareB a b = false) : shareB b a = false := by
  rw [shareB_no] at *
  intro s hs ht; exact h s ht hs
theorem gB_is {bs : List IB} {i : Nat} (hi : i < bs.length) : gB bs i = bs[i] := getD_lt bs _ hi
theorem names_iff {l all : List ByteArray} : namesB l all = true ↔ (∀ s, s ∈ l → s ∈ all) ∧ AscS l := by
  constructor
  · intro h
    refine ⟨fun s hs => ?_, names_asc h⟩
    unfold namesB at h
    obtain ⟨i, hi, rfl⟩ := List.getElem_of_mem hs
    have q := (allR_iff _ _ _).1 h i (by omega) hi
    unfold namesP at q
    rw [Bool.and_eq_true, hasS_iff, show gS l i = l[i] from getD_lt _ _ hi] at q
    exact q.1
  · rintro ⟨h1, h2⟩
    unfold namesB
    rw [allR_iff]
    intro j _ hj
    unfold namesP
    rw [Bool.and_eq_true, hasS_iff, Bool.or_eq_true, decide_eq_true_eq, show gS l j = l[j] from getD_lt _ _ hj]
    refine ⟨h1 _ (List.getElem_mem hj), ?_⟩
    by_cases h0 : j = 0
    · exact .inl h0
    · refine .inr ?_
      rw [show gS l (j - 1) = l[j - 1] from getD_lt _ _ (by omega)]
      exact List.pairwise_iff_getElem.1 h2 (j - 1) j (by omega) hj (by omega)
structure Bk (ts : List ByteArray) (bs : List IB) : Prop where
  things : thingsB ts = true
  five : bs.length ≤ 5
  asc : Asc bs
  each : ∀ i, i < bs.length → nameB (gB bs i).f0 = true ∧ namesB (gB bs i).f2 ts = true ∧ namesB (gB bs i).f1 (gB bs i).f2 = true
  free : ∀ i j, i < bs.length → j < bs.length → i ≠ j → shareB (gB bs i).f1 (gB bs j).f1 = false
theorem book_is {ts : List ByteArray} {bs : List IB} : bookB ts bs = true ↔ Bk ts bs := by
  constructor
  · intro hb
    have ha := book_asc hb
    have hf := book_five hb
    unfold bookB at hb
    rw [Bool.and_eq_true, Bool.and_eq_true, allR_iff] at hb
    obtain ⟨h1, _, h3⟩ := hb
    have hall : ∀ j, j < bs.length → batchP ts bs j = true ∧ freeP bs j = true := fun j hj => by
      have := h3 j (by omega) hj; rwa [Bool.and_eq_true] at this
    refine ⟨h1, hf, ha, fun i hi => ?_, fun i j hi hj hij => ?_⟩
    · have q := (hall i hi).1
      unfold batchP at q
      simp only [Bool.and_eq_true] at q
      exact ⟨q.1, q.2.2.1, q.2.2.2⟩
    · have low : ∀ i j, i < bs.length → j < i → shareB (gB bs i).f1 (gB bs j).f1 = false := fun i j hi hj => by
        have q := (hall i hi).2
        unfold freeP at q
        have := (allR_iff _ _ _).1 q j (by omega) hj
        simpa using this
      by_cases h : j < i
      · exact low i j hi h
      · exact shareB_swap (low j i hj (by omega))
  · rintro ⟨h1, h2, h3, h4, h5⟩
    unfold bookB
    rw [Bool.and_eq_true, Bool.and_eq_true, allR_iff, decide_eq_true_eq]
    refine ⟨h1, h2, fun j _ hj => ?_⟩
    obtain ⟨q1, q2, q3⟩ := h4 j hj
    rw [Bool.and_eq_true]
    constructor
    · unfold batchP
      simp only [Bool.and_eq_true, Bool.or_eq_true, decide_eq_true_eq]
      refine ⟨q1, ?_, q2, q3⟩
      by_cases h0 : j = 0
      · exact .inl h0
      · refine .inr ?_
        rw [gB_is hj, gB_is (show j - 1 < bs.length by omega)]
        exact List.pairwise_iff_getElem.1 h3 (j - 1) j (by omega) hj (by omega)
    · unfold freeP
      rw [allR_iff]
      intro q _ hq
      rw [h5 j q hj (by omega) (by omega)]; rfl
theorem insB_mem {bs : List IB} {x b : IB} : b ∈ insB bs x ↔ b = x ∨ b ∈ bs := by
  have e : bs = bs.take (insK bs x.f0) ++ bs.drop (insK bs x.f0) := (List.take_append_drop ..).symm
  unfold insB
  rw [List.mem_append, List.mem_cons]
  constructor
  · rintro (h | h | h)
    · exact .inr (List.mem_of_mem_take h)
    · exact .inl h
    · exact .inr (List.mem_of_mem_drop h)
  · rintro (h | h)
    · exact .inr (.inl h)
    · rw [e, List.mem_append] at h
      rcases h with h | h
      · exact .inl h
      · exact .inr (.inr h)
theorem Gd.weak {n m : Nat} {ts : List ByteArray} {bs : List IB} (h : Gd n ts bs) (hn : n ≤ m) : Gd m ts bs :=
  ⟨h.1, fun b hb => by have := h.2.1 b hb; omega, by have := h.2.2; omega⟩
theorem Gd.nil (n : Nat) : Gd n [] [] := ⟨by simp, by simp, by simp [wMark]⟩
theorem enter_gd {n : Nat} {ts : List ByteArray} {bs : List IB} (h : Gd n ts bs) (nm : ByteArray) {l : List ByteArray} (hl : l.length ≤ 6 + n) (hn : n ≤ 90) : Gd (n + 1) (enterB ts bs nm l).1 (enterB ts bs nm l).2.1 := by
  have h1 : Gd (n + 1) ts bs := h.weak (by omega)
  have h2 : Gd (n + 1) ts (insB bs ⟨nm, [], l⟩) := by
    refine ⟨h1.1, fun b hb => ?_, ?_⟩
    · rcases insB_mem.1 hb with e | e
      · subst e; dsimp only; omega
      · exact h1.2.1 b e
    · have := h.2.2
      rw [insB_w]; dsimp only; rw [List.length_nil]; omega
  unfold enterB
  repeat' split
  all_goals first | exact h1 | exact h2 | exact Gd.nil _
theorem set_mem {bs : List IB} {i : Nat} {x b : IB} (h : b ∈ bs.set i x) : b = x ∨ b ∈ bs := by
  rcases List.mem_or_eq_of_mem_set h with e | e
  · exact .inr e
  · exact .inl e
theorem less_gd {n : Nat} {ts : List ByteArray} {bs : List IB} (h : Gd n ts bs) (nm : ByteArray) {l : List ByteArray} (hl : l.length ≤ 6 + n) (hn : n ≤ 90) : Gd (n + 1) (lessB ts bs nm l).1 (lessB ts bs nm l).2.1 := by
  have h1 : Gd (n + 1) ts bs := h.weak (by omega)
  unfold lessB
  split
  · split
    · exact h1
    · rename_i hc
      obtain ⟨i, e, hi⟩ := atI_is bs nm hc
      rw [e, Int.toNat_natCast]
      split
      · refine ⟨h1.1, fun b hb => ?_, ?_⟩
        · rcases set_mem hb with e | e
          · subst e; dsimp only; omega
          · exact h1.2.1 b e
        · have := h.2.2
          have := setN_w hi (hasS l) l
          dsimp only; omega
      · exact h1
  · exact Gd.nil _
theorem ask_gd {n : Nat} {ts : List ByteArray} {bs : List IB} (h : Gd n ts bs) (nm : ByteArray) {l : List ByteArray} (hl : l.length ≤ 6 + n) (hn : n ≤ 90) : Gd (n + 1) (askB ts bs nm l).1 (askB ts bs nm l).2.1 := by
  have h1 : Gd (n + 1) ts bs := h.weak (by omega)
  unfold askB
  split
  · split
    · exact h1
    · rename_i hc
      obtain ⟨i, e, hi⟩ := atI_is bs nm hc
      rw [e, Int.toNat_natCast]
      split
      · split
        · exact h1
        · split
          · exact h1
          · refine ⟨h1.1, fun b hb => ?_, ?_⟩
            · rcases set_mem hb with e | e
              · subst e; exact h1.2.1 (gB bs i) (gB_mem hi)
              · exact h1.2.1 b e
            · have := h.2.2
              have := giveB_w hi l
              dsimp only; omega
      · exact h1
  · exact Gd.nil _
theorem leave_gd {n : Nat} {ts : List ByteArray} {bs : List IB} (h : Gd n ts bs) (nm : ByteArray) : Gd (n + 1) (leaveB ts bs nm).1 (leaveB ts bs nm).2.1 := by
  have h1 : Gd (n + 1) ts bs := h.weak (by omega)
  unfold leaveB
  split
  · split
    · exact h1
    · refine ⟨h1.1, fun b hb => h1.2.1 b ((List.eraseIdx_sublist bs _).subset hb), ?_⟩
      have := wMark_erase bs (atI bs nm).toNat
      have := h1.2.2
      dsimp only; omega
  · exact Gd.nil _
theorem Gd.sz {n : Nat} {ts : List ByteArray} {bs : List IB} (h : Gd n ts bs) (hn : n ≤ 90) : ts.length + wMark bs ≤ 1048576 := by
  have := h.1; have := h.2.2; omega
theorem step_tot {n : Nat} {ts : List ByteArray} {bs : List IB} (h : Gd n ts bs) (hn : n ≤ 90) (c : Int) (nm : ByteArray) {l : List ByteArray} (hl : l.length ≤ 6 + n) : Tot (fun k => spec_l5Step.f k ts bs c nm l) (fun r => Gd (n + 1) r.1 r.2) := by
  have hz := h.sz hn
  unfold spec_l5Step.f
  refine Tot.prop (fun _ => Tot.bindE (spec_ShareEnter_ev ts bs nm l hz (by omega)) (Tot.ret (enter_gd h nm hl hn))) (fun _ => Tot.prop (fun _ => Tot.bindE (spec_ShareAsk_ev ts bs nm l hz (by omega)) (Tot.ret (ask_gd h nm hl hn))) (fun _ => Tot.prop (fun _ => Tot.bindE (spec_ShareLess_ev ts bs nm l hz (by omega)) (Tot.ret (less_gd h nm hl hn))) (fun _ => Tot.bindE (spec_ShareLeave_ev ts bs nm (ne_Bz hz)) (Tot.ret (leave_gd h nm)))))
theorem wild_tot {s : List Int} (Hs : Bs s) {p : Int} (h0 : 0 ≤ p) (h1 : p ≤ 900000) {ts : List ByteArray} (ht : ts.length ≤ 5) (bs : List IB) : Tot (fun k => spec_l5Wild.f k s p ts bs) (fun r => Gd 24 r.1 r.2.1 ∧ p ≤ r.2.2 ∧ r.2.2 ≤ p + 60) := by
  unfold spec_l5Wild.f
  refine Tot.bindE (Ev.ret rfl) ?_
  generalize hN : ([(⟨#[97, 108, 101]⟩ : ByteArray), (⟨#[98]⟩ : ByteArray), (⟨#[99, 45, 99]⟩ : ByteArray), (⟨#[100, 97, 114, 107]⟩ : ByteArray), (⟨#[120, 57]⟩ : ByteArray)] : List ByteArray) = N
  have hN5 : N.length = 5 := by rw [← hN]; rfl
  clear hN
  have go : ∀ (d i : Nat) (q : Int) (tk : List ByteArray) (cs : List IB), i + d = 5 → p ≤ q → q + 12 * d ≤ p + 60 → tk.length ≤ 5 * i → (∀ b ∈ cs, b.f2.length ≤ 5) → wMark cs ≤ 11 * i →
      Tot (fun k => spec_l5Wild.l0 k N tk (i : Int) s q ts cs) (fun r => Gd 24 r.1 r.2.1 ∧ p ≤ r.2.2 ∧ r.2.2 ≤ p + 60) := by
    intro d
    induction d with
    | zero =>
      intro i q tk cs hi hq hq2 htk hcs hw
      refine Tot.step (fun k => spec_l5Wild.l0.eq_2 _ _ _ _ _ _ _ k) (Tot.neg (by omega) (Tot.ret ?_))
      exact ⟨⟨ht, fun b hb => by have := hcs b hb; omega, by dsimp only; omega⟩, hq, by dsimp only; omega⟩
    | succ d ih =>
      intro i q tk cs hi hq hq2 htk hcs hw
      have hcl : cs.length ≤ 11 * i := Nat.le_trans (wMark_len cs) hw
      refine Tot.step (fun k => spec_l5Wild.l0.eq_2 _ _ _ _ _ _ _ k) (Tot.pos (by omega) (Tot.bind (pick_tot Hs (by omega) (by omega) _) (fun y hy => ?_)))
      obtain ⟨_, _, e⟩ := hy
      rw [e, wrap_up (show i < N.length by omega) (by omega)]
      refine Tot.prop (fun _ => ih (i + 1) (q + 1) tk cs (by omega) (by omega) (by omega) (by omega) hcs (by omega)) (fun _ => Tot.pos (by omega) (Tot.bind (some_tot Hs (by omega) 2 (by omega)) (fun z hz => ?_)))
      obtain ⟨z1, z2, z3⟩ := hz
      have inner : ∀ (e j : Nat) (q2 : Int) (tk2 has : List ByteArray), j + e = z.1.length → p ≤ q2 → q2 + e + 12 * d ≤ p + 60 → tk2.length ≤ 5 * i + j → has.length ≤ j →
          Tot (fun k => spec_l5Wild.l1 k N tk2 (i : Int) (j : Int) s q2 ts cs (rdOf ByteArray.empty N (i : Int)) has z.1) (fun r => Gd 24 r.1 r.2.1 ∧ p ≤ r.2.2 ∧ r.2.2 ≤ p + 60) := by
        intro e
        induction e with
        | zero =>
          intro j q2 tk2 has hj hq3 hq4 htk2 hh
          refine Tot.step (fun k => spec_l5Wild.l1.eq_2 _ _ _ _ _ _ _ _ _ _ _ k) (Tot.neg (by omega) (Tot.pos (by omega) ?_))
          rw [wrap_up (show i < N.length by omega) (by omega)]
          refine ih (i + 1) q2 tk2 _ (by omega) hq3 (by omega) (by omega) (fun b hb => ?_) ?_
          · rcases List.mem_append.1 hb with h | h
            · exact hcs b h
            · rw [List.mem_singleton.1 h]; dsimp only; omega
          · rw [wMark_append, wMark_cons]; dsimp only; rw [show wMark ([] : List IB) = 0 from rfl]; omega
        | succ e ihe =>
          intro j q2 tk2 has hj hq3 hq4 htk2 hh
          refine Tot.step (fun k => spec_l5Wild.l1.eq_2 _ _ _ _ _ _ _ _ _ _ _ k) (Tot.pos (by omega) (Tot.pos (by omega) (Tot.bindE (spec_l1Has_ev tk2 _ (by omega)) ?_)))
          rw [wrap_up (show j < z.1.length by omega) (by omega)]
          refine Tot.prop (fun _ => ihe (j + 1) q2 tk2 has (by omega) hq3 (by omega) (by omega) (by omega)) (fun _ => Tot.bind (pick_tot Hs (by omega) (by omega) _) (fun u hu => ?_))
          obtain ⟨_, _, e2⟩ := hu
          rw [e2]
          refine Tot.prop (fun _ => Tot.pos (by omega) (Tot.pos (by omega) (ihe (j + 1) (q2 + 1) _ _ (by omega) (by omega) (by omega) (by rw [List.length_append, List.length_singleton]; omega) (by rw [List.length_append, List.length_singleton]; omega)))) (fun _ => ihe (j + 1) (q2 + 1) tk2 has (by omega) (by omega) (by omega) (by omega) (by omega))
      exact inner z.1.length 0 z.2 tk [] (by omega) (by omega) (by omega) (by omega) (by simp)
  exact go 5 0 p [] [] (by omega) (by omega) (by omega) (by simp) (by simp) (by simp [wMark])
theorem book_tot {s : List Int} (Hs : Bs s) {p : Int} (h0 : 0 ≤ p) (h1 : p ≤ 10) : Tot (fun k => spec_l5Book.f k s p) (fun r => Gd 24 r.1 r.2.1 ∧ 0 ≤ r.2.2 ∧ r.2.2 ≤ 5000) := by
  unfold spec_l5Book.f
  refine Tot.bind (base_tot Hs h0 (by omega)) (fun x hx => ?_)
  obtain ⟨x1, _, x3, x4⟩ := hx
  have hx5 : x.1.length ≤ 5 := x1.length_le
  refine Tot.bind (pick_tot Hs (by omega) (by omega) _) (fun y hy => ?_)
  obtain ⟨_, _, e⟩ := hy
  rw [e]
  refine Tot.prop (fun _ => Tot.bind (wild_tot Hs (by omega) (by omega) hx5 _) (fun z hz => Tot.ret ?_)) (fun _ => Tot.bind (pick_tot Hs (by omega) (by omega) _) (fun z hz => ?_))
  · obtain ⟨w1, w2, w3⟩ := hz
    exact ⟨w1, by (try dsimp only); omega, by (try dsimp only); omega⟩
  · obtain ⟨z1, z2, z3⟩ := hz
    have z2 := z2 (by omega)
    rw [z3]
    have go : ∀ (d n : Nat) (q : Int) (ts : List ByteArray) (cs : List IB), Gd n ts cs → n + d ≤ 24 → 0 ≤ q → q + 100 * d ≤ 5000 → Tot (fun k => spec_l5Book.l0 k (d : Int) s q ts cs) (fun r => Gd 24 r.1 r.2.1 ∧ 0 ≤ r.2.2 ∧ r.2.2 ≤ 5000) := by
      intro d
      induction d with
      | zero =>
        intro n q ts cs hg hn hq hq2
        exact Tot.step (fun k => spec_l5Book.l0.eq_2 _ _ _ _ _ k) (Tot.neg (by omega) (Tot.ret ⟨hg.weak (by omega), hq, by dsimp only; omega⟩))
      | succ d ih =>
        intro n q ts cs hg hn hq hq2
        have hz := hg.sz (by omega)
        have hcl := wMark_len cs
        refine Tot.step (fun k => spec_l5Book.l0.eq_2 _ _ _ _ _ k) (Tot.pos (by omega) (Tot.bind (does_tot (m := 5 + n) Hs hq (by have := hg.1; omega) hg.2.1 (by omega) (by omega)) (fun y hy => ?_)))
        obtain ⟨y1, y2, y3⟩ := hy
        refine Tot.bind (step_tot hg (by omega) _ _ (by omega)) (fun u hu => ?_)
        rw [show wrap64 (((d + 1 : Nat) : Int) - 1) = (d : Int) from by rw [wrap64_id _ (by omega)]; omega]
        exact ih (n + 1) y.2.2.2 u.1 u.2 hu (by omega) (by omega) (by omega)
    obtain ⟨v, hv⟩ : ∃ v : Nat, z.1 = v := ⟨z.1.toNat, by omega⟩
    rw [hv]
    exact go v 0 _ x.1 [] ⟨hx5, by simp, by simp [wMark]⟩ (by omega) (by omega) (by omega)
def Sp (ts : List ByteArray) (bs : List IB) : Prop := ts.length ≤ 6 ∧ wMark bs ≤ 10000
theorem wMark_one {bs : List IB} {i : Nat} (hi : i < bs.length) (x : IB) (c : Nat) (h : x.f1.length + x.f2.length ≤ (gB bs i).f1.length + (gB bs i).f2.length + c) : wMark (bs.set i x) ≤ wMark bs + c := by
  have := wMark_set hi x; omega
theorem spoil_tot {s : List Int} (Hs : Bs s) {p : Int} (h0 : 0 ≤ p) (h1 : p ≤ 900000) {ts : List ByteArray} {bs : List IB} (hg : Gd 24 ts bs) : Tot (fun k => spec_l5Spoil.f k s p ts bs) (fun r => Sp r.1 r.2.1 ∧ 0 ≤ r.2.2 ∧ r.2.2 ≤ p + 10) := by
  have hz := hg.sz (by omega)
  have ht := hg.1
  have hw := hg.2.2
  have hl := wMark_len bs
  unfold spec_l5Spoil.f
  refine Tot.bindE (spec_l1Copy_ev ts bs (ne_Bz hz)) ?_
  have l0 : ∀ (e : Nat) (x7 x8 q : Int) (cs : List IB), x7 ≤ cs.length + e → 0 ≤ q → q ≤ p + 10 → wMark cs + e ≤ 10000 → Tot (fun k => spec_l5Spoil.l0 k x7 x8 s q ts cs) (fun r => Sp r.1 r.2.1 ∧ 0 ≤ r.2.2 ∧ r.2.2 ≤ p + 10) := by
    intro e
    induction e with
    | zero =>
      intro x7 x8 q cs hx hq hq2 hc
      exact Tot.step (fun k => spec_l5Spoil.l0.eq_2 _ _ _ _ _ _ k) (Tot.neg (by omega) (Tot.ret ⟨⟨by dsimp only; omega, by dsimp only; omega⟩, hq, hq2⟩))
    | succ e ih =>
      intro x7 x8 q cs hx hq hq2 hc
      have hcl := wMark_len cs
      refine Tot.step (fun k => spec_l5Spoil.l0.eq_2 _ _ _ _ _ _ k) (Tot.prop (fun _ => Tot.bindE (Ev.ret rfl) (Tot.pos (by simp [strOfNums, ByteArray.size]) (Tot.pos (by omega) ?_))) (fun _ => Tot.ret ⟨⟨by dsimp only; omega, by dsimp only; omega⟩, hq, hq2⟩))
      refine ih x7 _ q _ (by rw [List.length_append, List.length_singleton]; omega) hq hq2 ?_
      rw [wMark_append, wMark_cons, show wMark ([] : List IB) = 0 from rfl]; dsimp only; rw [List.length_nil]; omega
  have j0 : ∀ (b : Bool) (q : Int), (b = false → 0 < bs.length) → 0 ≤ q → q ≤ p + 2 → Tot (fun k => spec_l5Spoil.j0 k b s q ts bs) (fun r => Sp r.1 r.2.1 ∧ 0 ≤ r.2.2 ∧ r.2.2 ≤ p + 10) := by
    intro b q hb hq hq2
    refine Tot.step (fun k => spec_l5Spoil.j0.eq_2 _ _ _ _ _ k) (Tot.prop (fun _ => Tot.bind (of_tot Hs hq (by omega) (by simp)) (fun y hy => Tot.pos (by omega) (Tot.ret ?_))) (fun hbf => ?_))
    · rw [hy]; exact ⟨⟨by show (ts ++ [_]).length ≤ 6; rw [List.length_append, List.length_singleton]; omega, by show wMark bs ≤ 10000; omega⟩, by show 0 ≤ q + 1; omega, by show q + 1 ≤ p + 10; omega⟩
    · have hbl := hb (by simpa using hbf)
      refine Tot.bind (pick_tot Hs hq (by omega) _) (fun y hy => ?_)
      obtain ⟨y1, y2, y3⟩ := hy
      have y2 := y2 (by omega)
      rw [y3]
      refine Tot.bind (pick_tot Hs (by omega) (by omega) _) (fun z hz => ?_)
      obtain ⟨_, _, z3⟩ := hz
      rw [z3]
      obtain ⟨i, hi⟩ : ∃ i : Nat, y.1 = i := ⟨y.1.toNat, by omega⟩
      have hil : i < bs.length := by omega
      rw [hi, Int.toNat_natCast, rdB_cast]
      have b1 : (gB bs i).f1.length + (gB bs i).f2.length ≤ wMark bs := by have := wMark_mem (gB_mem hil); omega
      have fin : ∀ (cs : List IB) (q : Int), wMark cs ≤ 10000 → 0 ≤ q → q ≤ p + 10 → Sp ts cs ∧ 0 ≤ q ∧ q ≤ p + 10 := fun cs q h1 h2 h3 => ⟨⟨by omega, h1⟩, h2, h3⟩
      refine Tot.prop (fun _ => Tot.bind (of_tot Hs (by omega) (by omega) (by simp)) (fun u hu => Tot.pos (by omega) (Tot.pos (by omega) (Tot.ret (fin _ u.2 ?_ (by omega) (by omega)))))) (fun _ => ?_)
      · show wMark (bs.set i _) ≤ 10000
        have := wMark_one hil ⟨u.1, (gB bs i).f1, (gB bs i).f2⟩ 0 (by dsimp only; omega); omega
      refine Tot.prop (fun _ => Tot.pos (by omega) (Tot.pos (by omega) (Tot.bind (of_tot Hs (by omega) (by omega) (by simp)) (fun u hu => Tot.pos (by omega) (Tot.ret (fin _ u.2 ?_ (by omega) (by omega))))))) (fun _ => ?_)
      · show wMark (bs.set i _) ≤ 10000
        have := wMark_one hil ⟨(gB bs i).f0, (gB bs i).f1, (gB bs i).f2 ++ [u.1]⟩ 1 (by dsimp only; rw [List.length_append, List.length_singleton]; omega); omega
      refine Tot.prop (fun _ => Tot.pos (by omega) (Tot.pos (by omega) (Tot.bind (of_tot Hs (by omega) (by omega) (by simp)) (fun u hu => Tot.pos (by omega) (Tot.ret (fin _ u.2 ?_ (by omega) (by omega))))))) (fun _ => ?_)
      · show wMark (bs.set i _) ≤ 10000
        have := wMark_one hil ⟨(gB bs i).f0, (gB bs i).f1 ++ [u.1], (gB bs i).f2⟩ 1 (by dsimp only; rw [List.length_append, List.length_singleton]; omega); omega
      refine Tot.prop (fun _ => Tot.pos (by omega) (Tot.pos (by omega) (Tot.pos (by omega) (Tot.ret (fin _ (q + 1 + 1) ?_ (by omega) (by omega)))))) (fun _ => ?_)
      · show wMark (bs ++ [gB bs i]) ≤ 10000
        rw [wMark_append, wMark_cons, show wMark ([] : List IB) = 0 from rfl]; omega
      refine Tot.bind (pick_tot Hs (by omega) (by omega) _) (fun u hu => ?_)
      obtain ⟨u1, u2, u3⟩ := hu
      have u2 := u2 (by omega)
      exact l0 7 _ _ _ _ (by rw [wrap64_id _ (by omega)]; omega) (by omega) (by omega) (by omega)
  refine Tot.prop (fun _ => j0 true p (by simp) h0 (by omega)) (fun hne => Tot.bind (pick_tot Hs h0 (by omega) _) (fun y hy => ?_))
  have hbl : 0 < bs.length := by have : ¬ ((bs.length : Int) = 0) := hne; omega
  obtain ⟨_, _, e⟩ := hy
  rw [e]
  exact j0 _ (p + 1) (fun _ => hbl) (by omega) (by omega)
theorem any_tot {s : List Int} (Hs : Bs s) : Tot (fun k => spec_l5Any.f k s 0) (fun r => Sp r.1 r.2.1 ∧ 0 ≤ r.2.2 ∧ r.2.2 ≤ 6000) := by
  unfold spec_l5Any.f
  refine Tot.bind (book_tot Hs (by omega) (by omega)) (fun x hx => ?_)
  obtain ⟨x1, x2, x3⟩ := hx
  refine Tot.bind (pick_tot Hs x2 (by omega) _) (fun y hy => ?_)
  obtain ⟨_, _, e⟩ := hy
  rw [e]
  refine Tot.prop (fun _ => Tot.bind (spoil_tot Hs (by omega) (by omega) x1) (fun z hz => Tot.ret ⟨hz.1, hz.2.1, by have := hz.2.2; dsimp only; omega⟩)) (fun _ => Tot.ret ⟨⟨by have := x1.1; dsimp only; omega, by have := x1.2.2; dsimp only; omega⟩, by dsimp only; omega, by dsimp only; omega⟩)
theorem open_tot {l : List Int} (h : ∀ x ∈ l, (Lit.int .u8 x).wf = true) : ∃ s, Bs s ∧ spec_l1Open.f l = some (s, 0) := by
  have hb : Bs l := fun x hx => by
    have := h x hx
    simp only [Lit.wf, Bool.and_eq_true, decide_eq_true_eq] at this
    exact ⟨this.1, this.2⟩
  unfold spec_l1Open.f
  by_cases hc : (l.length : Int) > 2000
  · rw [if_pos hc, if_pos (by omega)]
    exact ⟨_, fun x hx => hb x (List.mem_of_mem_take hx), rfl⟩
  · rw [if_neg hc]; exact ⟨l, hb, rfl⟩
theorem thing_tot {s : List Int} (Hs : Bs s) {p : Int} (h0 : 0 ≤ p) (h1 : p ≤ 900000) (ts : List ByteArray) (bs : List IB) : Tot (fun k => spec_l5Thing.f k s p ts bs) (fun _ => True) := by
  unfold spec_l5Thing.f
  have j0 : ∀ (b : Bool) (q : Int), (b = true → 0 < ts.length) → 0 ≤ q → q ≤ 900001 → Tot (fun k => spec_l5Thing.j0 k b s q ts bs) (fun _ => True) := by
    intro b q hb hq hq2
    refine Tot.step (fun k => spec_l5Thing.j0.eq_2 _ _ _ _ _ k) (Tot.prop (fun h => Tot.bind (pick_tot Hs hq (by omega) _) (fun y hy => ?_)) (fun _ => Tot.bind (of_tot Hs hq (by omega) (by simp)) (fun y hy => Tot.ret trivial)))
    have := hb h
    exact Tot.pos hy.1 (Tot.pos (hy.2.1 (by omega)) (Tot.ret trivial))
  refine Tot.prop (fun h => Tot.bind (pick_tot Hs h0 (by omega) _) (fun y hy => ?_)) (fun _ => j0 false p (by simp) h0 (by omega))
  rw [hy.2.2]
  exact j0 _ (p + 1) (fun _ => by omega) (by omega) (by omega)
theorem findR_none {P : Nat → Bool} {n : Nat} (h : ∀ j, j < n → P j = false) : findR P n 0 = none := by
  unfold findR; rw [List.find?_eq_none]
  intro j hj; rw [List.mem_range'_1] at hj
  rw [h j (by omega)]; simp
theorem findR_some {P : Nat → Bool} {n i : Nat} (hi : i < n) (h : P i = true) : ∃ j, findR P n 0 = some j ∧ j < n ∧ P j = true := by
  cases hf : findR P n 0 with
  | some j => exact ⟨j, rfl, (findR_lt hf).2⟩
  | none =>
    unfold findR at hf; rw [List.find?_eq_none] at hf
    exact absurd h (hf i (by rw [List.mem_range'_1]; omega))
theorem who_one {ts : List ByteArray} {bs : List IB} {thing : ByteArray} (hb : bookB ts bs = true) {i : Nat} (hi : i < bs.length) (h : hasS (gB bs i).f1 thing = true) :
    whoB ts bs thing = (gB bs i).f0 ∧ hasS (gB bs i).f2 thing = true ∧ ∀ j, j < bs.length → hasS (gB bs j).f1 thing = true → j = i := by
  have hk := book_is.1 hb
  have uni : ∀ j, j < bs.length → hasS (gB bs j).f1 thing = true → j = i := fun j hj h2 => by
    by_cases e : j = i
    · exact e
    · exact absurd (hasS_iff.1 h) (shareB_no.1 (hk.free j i hj hi e) thing (hasS_iff.1 h2))
  refine ⟨?_, ?_, uni⟩
  · obtain ⟨j, hf, hj, h2⟩ := findR_some (P := fun i => hasS (gB bs i).f1 thing) hi h
    unfold whoB
    rw [if_pos hb, hf, uni j hj h2]; rfl
  · exact hasS_iff.2 ((names_iff.1 (hk.each i hi).2.2).1 thing (hasS_iff.1 h))
theorem who_none {ts : List ByteArray} {bs : List IB} {thing : ByteArray} (h : ∀ j, j < bs.length → hasS (gB bs j).f1 thing = false) : whoB ts bs thing = ⟨#[]⟩ := by
  unfold whoB
  rw [findR_none h]
  split <;> rfl
theorem wHas_ev (l : List ByteArray) (s : ByteArray) (hl : l.length ≤ 9223372036854775807) : Ev (fun k => laws_wHas.f k l s) (hasS l s) := by
  unfold laws_wHas.f
  have E := Ev.loopAny (f := fun k i => laws_wHas.l0 k l s (i : Int)) (P := fun j => s.toList == (gS l j).toList) l.length
    (Ev.step (fun k => laws_wHas.l0.eq_2 _ _ _ k) (Ev.neg (by omega) (Ev.ret rfl)))
    (fun i r hi hp H => by
      refine Ev.step (fun k => laws_wHas.l0.eq_2 _ _ _ k) (Ev.pos (by omega) (Ev.pos (by omega) ?_))
      rw [rdS_cast, wrap_up hi hl]
      refine Ev.neg (fun e => ?_) H
      rw [e] at hp; simp at hp)
    (fun i hi hp => by
      refine Ev.step (fun k => laws_wHas.l0.eq_2 _ _ _ k) (Ev.pos (by omega) (Ev.pos (by omega) ?_))
      rw [rdS_cast]
      exact Ev.pos (beq_iff_eq.1 hp).symm (Ev.ret rfl)) 0 (by omega)
  rw [show hasS l s = anyR (fun j => s.toList == (gS l j).toList) l.length 0 from (anyR_list (fun x : ByteArray => s.toList == x.toList) ByteArray.empty l).symm]
  exact E
theorem Sp.sz {ts : List ByteArray} {bs : List IB} (h : Sp ts bs) : ts.length + wMark bs ≤ 1048576 := by have := h.1; have := h.2; omega
theorem Sp.ts' {ts : List ByteArray} {bs : List IB} (h : Sp ts bs) : ts.length ≤ 9223372036854775807 := by have := h.1; omega
theorem Sp.bs' {ts : List ByteArray} {bs : List IB} (h : Sp ts bs) : bs.length ≤ 9223372036854775807 := by have := h.2; have := wMark_len bs; omega
theorem Sp.bok {ts : List ByteArray} {bs : List IB} (h : Sp ts bs) : Bok bs := (ne_Bz h.sz).bok
theorem Tot.then {α : Type} {g : Nat → Option α} {f : Nat → α → Option Bool} {P : α → Prop} (H : Tot g P) (K : ∀ x, P x → Ev (fun k => f k x) true) : Ev (fun k => (g k).bind fun x => f k x) true := by
  obtain ⟨x, h1, h2⟩ := H
  exact Ev.bind h1 (K x h2)
theorem who_tot {l : List Int} (h : ∀ x ∈ l, (Lit.int .u8 x).wf = true) : Tot (fun k => spec_DrawShareWho.f k l) (fun r => Sp r.1 r.2.1) := by
  obtain ⟨s, Hs, e⟩ := open_tot h
  unfold spec_DrawShareWho.f
  refine Tot.bindE (e ▸ Ev.ret rfl) (Tot.bind (any_tot Hs) (fun x hx => ?_))
  obtain ⟨x1, x2, x3⟩ := hx
  exact Tot.bind (thing_tot Hs x2 (by omega) _ _) (fun y hy => Tot.ret x1)
theorem who_loop {ts : List ByteArray} {bs : List IB} (hs : Sp ts bs) (hb : bookB ts bs = true) (thing : ByteArray) : Ev (fun k => laws_FnWho.l0 k thing (whoB ts bs thing) 0 0 ts bs) true := by
  have go : ∀ (d i : Nat), i + d = bs.length →
      ((∀ j, j < i → hasS (gB bs j).f1 thing = false) → Ev (fun k => laws_FnWho.l0 k thing (whoB ts bs thing) 0 (i : Int) ts bs) true) ∧
      ((∃ j, j < i ∧ hasS (gB bs j).f1 thing = true) → Ev (fun k => laws_FnWho.l0 k thing (whoB ts bs thing) 1 (i : Int) ts bs) true) := by
    intro d
    induction d with
    | zero =>
      intro i hi
      constructor
      · intro h0
        refine Ev.step (fun k => laws_FnWho.l0.eq_2 _ _ _ _ _ _ k) (Ev.neg (by omega) (Ev.pos rfl (Ev.pos ?_ (Ev.ret rfl))))
        rw [who_none fun j hj => h0 j (by omega)]; simp
      · intro _
        exact Ev.step (fun k => laws_FnWho.l0.eq_2 _ _ _ _ _ _ k) (Ev.neg (by omega) (Ev.neg (by omega) (Ev.ret rfl)))
    | succ d ih =>
      intro i hi
      obtain ⟨ih0, ih1⟩ := ih (i + 1) (by omega)
      have hil : i < bs.length := by omega
      have hbz := hs.bok.at_ hil
      constructor
      · intro h0
        refine Ev.step (fun k => laws_FnWho.l0.eq_2 _ _ _ _ _ _ k) (Ev.pos (by omega) (Ev.pos (by omega) ?_))
        rw [rdB_cast, wrap_up hil hs.bs']
        refine Ev.bind (wHas_ev _ _ hbz.1) (Ev.test _ (fun h => ?_) (fun h => ih0 fun j hj => ?_))
        · obtain ⟨w1, w2, _⟩ := who_one hb hil h
          refine Ev.pos (by rw [w1]) (Ev.bind (wHas_ev _ _ hbz.2) (Ev.pos w2 ?_))
          rw [show wrap64 (0 + 1) = 1 from by unfold wrap64; omega]
          exact ih1 ⟨i, by omega, h⟩
        · by_cases e : j = i
          · subst e; exact h
          · exact h0 j (by omega)
      · rintro ⟨j, hj, hj2⟩
        refine Ev.step (fun k => laws_FnWho.l0.eq_2 _ _ _ _ _ _ k) (Ev.pos (by omega) (Ev.pos (by omega) ?_))
        rw [rdB_cast, wrap_up hil hs.bs']
        refine Ev.bind (wHas_ev _ _ hbz.1) (Ev.test _ (fun h => ?_) (fun h => ih1 ⟨j, by omega, hj2⟩))
        have := (who_one hb hil h).2.2 j (by omega) hj2
        omega
  exact (go bs.length 0 (by omega)).1 (by simp)
theorem FnWho_pure : laws_FnWho.Pure := by
  intro l _ _ hw
  refine Ev.rounds (g := fun k => laws_FnWho.f k l) ?_
  unfold laws_FnWho.f
  refine Ev.prop (fun _ => Ev.ret rfl) (fun _ => Tot.then (who_tot hw) (fun x hx => ?_))
  refine Ev.bind (impl_ShareWho_ev _ _ _ hx.ts' hx.bs' hx.bok) (Ev.bind (spec_ShareWho_ev _ _ _ hx.ts' hx.bs' hx.bok) (Ev.pos rfl ?_))
  refine Ev.bind (spec_ShareBookOk_ev _ _ hx.ts' hx.bs' hx.bok) (Ev.step (fun k => laws_FnWho.j0.eq_2 _ _ _ _ _ k) (Ev.test _ (fun h => ?_) (fun h => ?_)))
  · refine Ev.bind (spec_ShareWho_ev _ _ _ hx.ts' hx.bs' hx.bok) (Ev.pos rfl (Ev.ret ?_))
    rw [Bool.not_eq_true'] at h
    unfold whoB
    rw [h, if_neg (by simp)]; simp
  · rw [Bool.not_eq_false'] at h
    exact who_loop hx h _
end Go.Proofs.Ytaofjgnhapnndaa.Q
