/- Texts that the row needs: words on memory and rows, the contracts of the functions it reaches, and the plain lemmas on what they compute. -/
import Derived.Deep.RegionLaw
import Derived.Test.YtaofjgnhapnndaaXkmal
open Go.Proofs.YtaofjgnhapnndaaFkm
namespace Go.Proofs.Ytaofjgnhapnndaa.Q
open Go.RowKit Go.Proofs.YtaofjgnhapnndaaW.PrintWords Go.Proofs.YtaofjgnhapnndaaW.PrintLast Go.Proofs.YtaofjgnhapnndaaW.PrintMore
set_option linter.unusedVariables false
set_option linter.unusedSimpArgs false
def leaveB (ts : List ByteArray) (bs : List IB) (n : ByteArray) : List ByteArray × List IB × Int :=
  if bookB ts bs = true then (if atI bs n < 0 then (ts, bs, 3) else (ts, bs.eraseIdx (atI bs n).toNat, 0)) else ([], [], 1)
theorem atI_is (bs : List IB) (n : ByteArray) (h : ¬ atI bs n < 0) : ∃ i : Nat, atI bs n = (i : Int) ∧ i < bs.length := by
 unfold atI idxI at h ⊢
 cases hf : findR (fun i => (fun s => s.toList == n.toList) (gB bs i).f0) bs.length 0 with
 | none => rw [hf] at h; simp at h
 | some i => exact ⟨i, by simp, (findR_lt hf).2.1⟩
theorem wMark_erase : ∀ (bs : List IB) (i : Nat), wMark (bs.eraseIdx i) ≤ wMark bs
  | [], i => by simp
  | b :: r, 0 => by rw [List.eraseIdx_zero, List.tail_cons, wMark_cons]; omega
  | b :: r, i + 1 => by have := wMark_erase r i; rw [List.eraseIdx_cons_succ, wMark_cons, wMark_cons]; omega
theorem spec_ShareLeave_ev (ts : List ByteArray) (bs : List IB) (n : ByteArray) (h : Bz ts bs) : Ev (fun k => spec_ShareLeave.f k ts bs n) (leaveB ts bs n) := by
 have hl := h.bs
 unfold spec_ShareLeave.f leaveB
 refine Ev.bind (spec_ShareBookOk_ev ts bs (by have := h.ts; omega) (by omega) h.bok) (Ev.test _ (fun hb => ?_) (fun hb => Ev.ret (by simp [hb])))
 rw [if_pos hb]
 refine Ev.bind (spec_l1Copy_ev ts bs h) (Ev.bind (spec_l1At_ev ts bs n (by omega)) ?_)
 refine Ev.prop (fun hc => Ev.ret (by rw [if_pos hc])) (fun hc => ?_)
 rw [if_neg hc]
 obtain ⟨i, e, hi⟩ := atI_is bs n hc
 rw [e, Int.toNat_natCast, wrap_up hi (by omega)]
 dsimp only
 refine Ev.bind (Ev.ret rfl) (Ev.pos (by omega) (Ev.pos (by omega) (Ev.bind (Ev.ret rfl) (Ev.pos (by simp only [List.length_nil, List.length_take]; omega) (Ev.bind (Ev.ret rfl) (Ev.pos (by omega) (Ev.pos (by omega) (Ev.bind (Ev.ret rfl) (Ev.pos (by simp only [List.nil_append, List.length_take, List.length_drop]; omega) (Ev.ret ?_))))))))))
 rw [List.nil_append, Int.toNat_natCast, List.eraseIdx_eq_take_drop_succ]
def setN (bs : List IB) (i : Nat) (h n : List ByteArray) : List IB := bs.set i ⟨(gB bs i).f0, h, n⟩
def lessB (ts : List ByteArray) (bs : List IB) (n : ByteArray) (needs : List ByteArray) : List ByteArray × List IB × Int :=
  if bookB ts bs = true then
    (if atI bs n < 0 then (ts, bs, 3) else if namesB needs (gB bs (atI bs n).toNat).f2 = true then (ts, setN bs (atI bs n).toNat ((gB bs (atI bs n).toNat).f1.filter (hasS needs)) needs, 0) else (ts, bs, 2))
  else ([], [], 1)
theorem wMark_set {bs : List IB} {i : Nat} (hi : i < bs.length) (x : IB) : wMark (bs.set i x) + (1 + (gB bs i).f1.length + (gB bs i).f2.length) = wMark bs + (1 + x.f1.length + x.f2.length) := by
 have e := List.set_eq_take_append_cons_drop (l := bs) (i := i) (a := x)
 rw [if_pos hi] at e
 have e2 : bs = bs.take i ++ gB bs i :: bs.drop (i + 1) := by
  have := List.drop_eq_getElem_cons hi
  unfold gB; rw [getD_lt bs _ hi, ← this, List.take_append_drop]
 have e3 : wMark bs = wMark (bs.take i) + (1 + (gB bs i).f1.length + (gB bs i).f2.length + wMark (bs.drop (i + 1))) := by
  rw [← wMark_cons, ← wMark_append, ← e2]
 rw [e, wMark_append, wMark_cons, e3]; omega
theorem filter_len (p : ByteArray → Bool) (l : List ByteArray) : (l.filter p).length ≤ l.length := List.length_filter_le p l
theorem setN_w {bs : List IB} {i : Nat} (hi : i < bs.length) (p : ByteArray → Bool) (needs : List ByteArray) : wMark (setN bs i ((gB bs i).f1.filter p) needs) ≤ wMark bs + needs.length := by
 have := wMark_set hi ⟨(gB bs i).f0, (gB bs i).f1.filter p, needs⟩
 have h2 := filter_len p (gB bs i).f1
 unfold setN; simp only at this; omega
theorem filter_take {l : List ByteArray} (p : ByteArray → Bool) {i : Nat} (h : i < l.length) : (l.take (i + 1)).filter p = (l.take i).filter p ++ (if p l[i] = true then [l[i]] else []) := by
 rw [List.take_succ_eq_append_getElem h, List.filter_append]
 cases hp : p l[i] <;> simp [hp]
theorem spec_ShareLess_ev (ts : List ByteArray) (bs : List IB) (n : ByteArray) (needs : List ByteArray) (h : ts.length + wMark bs ≤ 1048576) (hn : needs.length ≤ 1048576) : Ev (fun k => spec_ShareLess.f k ts bs n needs) (lessB ts bs n needs) := by
 have hz := ne_Bz h
 have hl := hz.bs
 unfold spec_ShareLess.f lessB
 refine Ev.bind (spec_ShareBookOk_ev ts bs (by have := hz.ts; omega) (by omega) hz.bok) (Ev.test _ (fun hb => ?_) (fun hb => Ev.ret (by simp [hb])))
 rw [if_pos hb]
 refine Ev.bind (spec_l1Copy_ev ts bs hz) (Ev.bind (spec_l1At_ev ts bs n (by omega)) ?_)
 refine Ev.prop (fun hc => Ev.ret (by rw [if_pos hc])) (fun hc => ?_)
 rw [if_neg hc]
 obtain ⟨i, e, hi⟩ := atI_is bs n hc
 rw [e, Int.toNat_natCast]
 have hii := hz.at_ hi
 dsimp only
 refine Ev.pos (by omega) (Ev.pos (by omega) ?_)
 rw [rdB_cast]
 refine Ev.bind (spec_l1NamesOk_ev needs _ (by omega) (by omega)) (Ev.test _ (fun ht => ?_) (fun ht => Ev.ret (by simp [ht])))
 rw [if_pos ht]
 have go : ∀ (d j : Nat), (gB bs i).f1.length - j = d → j ≤ (gB bs i).f1.length → Ev (fun k => spec_ShareLess.l0 k needs (i : Int) (((gB bs i).f1.take j).filter (hasS needs)) (j : Int) ts bs ts bs) (ts, setN bs i ((gB bs i).f1.filter (hasS needs)) needs, 0) := by
  intro d
  induction d with
  | zero =>
   intro j hd hj
   have hje : j = (gB bs i).f1.length := by omega
   refine Ev.step (fun k => spec_ShareLess.l0.eq_2 _ _ _ _ _ _ _ _ k) (Ev.pos (by omega) (Ev.pos (by omega) ?_))
   rw [rdB_cast]
   refine Ev.neg (by omega) (Ev.bind (l1Names_ev needs (by omega)) (Ev.pos (by omega) (Ev.bind (Ev.ret rfl) ?_)))
   have hset : ((bs.set i (⟨(gB bs i).f0, (gB bs i).f1, needs⟩ : IB)).set i ⟨(gB bs i).f0, (gB bs i).f1.filter (hasS needs), needs⟩) = setN bs i ((gB bs i).f1.filter (hasS needs)) needs := by rw [List.set_set]; rfl
   have hrd : rd_T56 (bs.set i (⟨(gB bs i).f0, (gB bs i).f1, needs⟩ : IB)) (i : Int) = ⟨(gB bs i).f0, (gB bs i).f1, needs⟩ := by
    unfold rd_T56
    rw [Int.toNat_natCast, List.getD_eq_getElem?_getD, List.getElem?_set_self hi]; rfl
   rw [Int.toNat_natCast, hrd, List.take_of_length_le (by omega), hset]
   have hw := setN_w hi (hasS needs) needs
   exact Ev.bind (spec_l1Copy_ev ts _ (by unfold Bz; omega)) (Ev.ret rfl)
  | succ d ih =>
   intro j hd hj
   have hlt : j < (gB bs i).f1.length := by omega
   refine Ev.step (fun k => spec_ShareLess.l0.eq_2 _ _ _ _ _ _ _ _ k) (Ev.pos (by omega) (Ev.pos (by omega) ?_))
   rw [rdB_cast]
   refine Ev.pos (by omega) (Ev.pos (by omega) ?_)
   rw [rdS_cast, show gS (gB bs i).f1 j = (gB bs i).f1[j] from getD_lt _ _ hlt, wrap_up hlt (by omega)]
   have := ih (j + 1) (by omega) (by omega)
   rw [filter_take _ hlt] at this
   refine Ev.bind (spec_l1Has_ev needs _ (by omega)) (Ev.test _ (fun hp => Ev.pos ?_ ?_) (fun hp => ?_))
   ·have := filter_len (hasS needs) ((gB bs i).f1.take j); rw [List.length_take] at this; omega
   ·rw [if_pos hp] at this; exact this
   ·rw [if_neg (by simp [hp]), List.append_nil] at this; exact this
 have := go (gB bs i).f1.length 0 (by omega) (by omega)
 exact this
def takenP (bs : List IB) (at_ : Nat) (things : List ByteArray) (q : Nat) : Bool := !decide (q = at_) && shareB (gB bs q).f1 things
def takenB (bs : List IB) (at_ : Nat) (things : List ByteArray) : Bool := anyR (takenP bs at_ things) bs.length 0
def giveB (bs : List IB) (i : Nat) (things : List ByteArray) : List IB := setN bs i (insAll (gB bs i).f1 things) (gB bs i).f2
def askB (ts : List ByteArray) (bs : List IB) (n : ByteArray) (things : List ByteArray) : List ByteArray × List IB × Int :=
  if bookB ts bs = true then
    (if atI bs n < 0 then (ts, bs, 3) else if namesB things (gB bs (atI bs n).toNat).f2 = true then
      (if takenB bs (atI bs n).toNat things = true then (ts, bs, 5) else if (safeB ts bs && !safeB ts (giveB bs (atI bs n).toNat things)) = true then (ts, bs, 6) else (ts, giveB bs (atI bs n).toNat things, 0)) else (ts, bs, 2))
  else ([], [], 1)
theorem giveB_w {bs : List IB} {i : Nat} (hi : i < bs.length) (things : List ByteArray) : wMark (giveB bs i things) ≤ wMark bs + things.length := by
 have h1 := wMark_set hi ⟨(gB bs i).f0, insAll (gB bs i).f1 things, (gB bs i).f2⟩
 have h2 := insAll_len things (gB bs i).f1
 unfold giveB setN; simp only at h1; omega
theorem giveB_z {ts : List ByteArray} {bs : List IB} {i : Nat} (hi : i < bs.length) {things : List ByteArray} (h : ts.length + wMark bs ≤ 1048576) (hn : things.length ≤ 1048576) : Bz ts (giveB bs i things) := by
 have := giveB_w hi things
 unfold Bz; omega
theorem l3Insert_ev (l : List ByteArray) (a : ByteArray) (hl : l.length ≤ 67108864) (hf : insF a l = false) : Ev (fun k => spec_l3Insert.f k l a) (insL a l) := by
 unfold spec_l3Insert.f
 have go : ∀ (d i : Nat), l.length - i = d → i ≤ l.length → insF a (l.drop i) = false → Ev (fun k => spec_l3Insert.l0 k l a (i : Int)) (l.take i ++ insL a (l.drop i)) := by
  intro d
  induction d with
  | zero =>
   intro i hd hi _
   have hie : i = l.length := by omega
   refine Ev.step (fun k => spec_l3Insert.l0.eq_2 _ _ _ k) (Ev.neg (by omega) ?_)
   refine Ev.bind (Ev.ret rfl) (Ev.pos (by omega) (Ev.pos (by omega) ?_))
   rw [Int.toNat_natCast]
   refine Ev.pos (by simp only [List.length_nil, List.length_take]; omega) (Ev.bind (Ev.ret rfl) (Ev.bind (Ev.ret rfl) ?_))
   refine Ev.pos (by simp only [List.nil_append, List.length_take, List.length_cons, List.length_nil]; omega) (Ev.bind (Ev.ret rfl) (Ev.pos (by simp only [List.nil_append, List.length_append, List.length_take, List.length_drop, List.length_cons, List.length_nil]; omega) (Ev.ret ?_)))
   rw [hie, List.drop_eq_nil_of_le (Nat.le_refl _), List.nil_append, List.append_nil]; rfl
  | succ d ih =>
   intro i hd hi hf
   have hlt : i < l.length := by omega
   rw [List.drop_eq_getElem_cons hlt] at hf ⊢
   unfold insF at hf
   unfold insL
   refine Ev.step (fun k => spec_l3Insert.l0.eq_2 _ _ _ k) (Ev.pos (by omega) (Ev.pos (by omega) ?_))
   rw [rdS_cast, show gS l i = l[i] from getD_lt _ _ hlt, wrap_up hlt (by omega)]
   refine Ev.prop (fun hp => ?_) (fun hp => ?_)
   ·rw [if_pos hp] at hf
    rw [show (if Op.bytesLess l[i].toList a.toList = true then l[i] :: insL a (l.drop (i + 1)) else if (l[i].toList == a.toList) = true then l[i] :: l.drop (i + 1) else a :: l[i] :: l.drop (i + 1)) = l[i] :: insL a (l.drop (i + 1)) from if_pos hp]
    have := ih (i + 1) (by omega) (by omega) hf
    rw [List.take_succ_eq_append_getElem hlt, List.append_assoc] at this
    exact this
   ·rw [if_neg hp] at hf
    have hres : (if Op.bytesLess l[i].toList a.toList = true then l[i] :: insL a (l.drop (i + 1)) else if (l[i].toList == a.toList) = true then l[i] :: l.drop (i + 1) else a :: l[i] :: l.drop (i + 1)) = a :: l[i] :: l.drop (i + 1) := by
     rw [if_neg hp, if_neg (by rw [hf]; simp)]
    rw [hres]
    refine Ev.neg (by simpa using hf) ?_
    refine Ev.bind (Ev.ret rfl) (Ev.pos (by omega) ?_)
    rw [Int.toNat_natCast]
    refine Ev.pos (by simp only [List.length_nil, List.length_take]; omega) (Ev.bind (Ev.ret rfl) (Ev.bind (Ev.ret rfl) ?_))
    refine Ev.pos (by simp only [List.nil_append, List.length_take, List.length_cons, List.length_nil]; omega) (Ev.bind (Ev.ret rfl) (Ev.pos (by simp only [List.nil_append, List.length_append, List.length_take, List.length_drop, List.length_cons, List.length_nil]; omega) (Ev.ret ?_)))
    rw [List.nil_append, List.append_assoc, List.drop_eq_getElem_cons hlt]; rfl
 have := go l.length 0 (by omega) (by omega) hf
 exact this
theorem spec_l3Taken_ev (ts : List ByteArray) (bs : List IB) (at_ : Nat) (things : List ByteArray) (h : Bz ts bs) (hn : things.length ≤ 1048576) : Ev (fun k => spec_l3Taken.f k ts bs (at_ : Int) things) (takenB bs at_ things) := by
 have hl := h.bs
 unfold spec_l3Taken.f
 refine Ev.loop (f := fun k i => spec_l3Taken.l0 k (at_ : Int) things (i : Int) ts bs) (val := anyR (takenP bs at_ things) bs.length) bs.length ?_ ?_ 0 (by omega)
 ·rw [anyR_end]
  refine Ev.step (fun k => spec_l3Taken.l0.eq_2 _ _ _ _ _ k) ?_
  exact Ev.neg (by omega) (Ev.ret rfl)
 intro i hi H
 rw [anyR_step _ hi]
 refine Ev.step (fun k => spec_l3Taken.l0.eq_2 _ _ _ _ _ k) (Ev.pos (by omega) ?_)
 rw [wrap_up hi (by omega), rdB_cast]
 refine Ev.prop (fun e => Ev.sub H (by simp [takenP, show i = at_ by omega])) (fun e => Ev.pos (by omega) (Ev.bind (spec_l1Share_ev _ _ (by have := h.at_ hi; omega) (by omega)) ?_))
 have hne : decide (i = at_) = false := decide_eq_false (by omega)
 refine Ev.test _ (fun h2 => Ev.ret (by simp [takenP, h2, hne])) (fun h2 => Ev.sub H (by simp [takenP, h2]))
theorem setN_gB {bs : List IB} {i : Nat} (hi : i < bs.length) (h n : List ByteArray) : gB (setN bs i h n) i = ⟨(gB bs i).f0, h, n⟩ := by
 unfold setN gB
 rw [List.getD_eq_getElem?_getD, List.getElem?_set_self hi]; rfl
theorem spec_ShareAsk_ev (ts : List ByteArray) (bs : List IB) (n : ByteArray) (things : List ByteArray) (h : ts.length + wMark bs ≤ 1048576) (hn : things.length ≤ 1048576) : Ev (fun k => spec_ShareAsk.f k ts bs n things) (askB ts bs n things) := by
 have hz := ne_Bz h
 have hl := hz.bs
 have ht := hz.ts
 unfold spec_ShareAsk.f askB
 refine Ev.bind (spec_ShareBookOk_ev ts bs (by omega) (by omega) hz.bok) (Ev.test _ (fun hb => ?_) (fun hb => Ev.ret (by simp [hb])))
 rw [if_pos hb]
 refine Ev.bind (spec_l1Copy_ev ts bs hz) (Ev.bind (spec_l1At_ev ts bs n (by omega)) ?_)
 refine Ev.prop (fun hc => Ev.ret (by rw [if_pos hc])) (fun hc => ?_)
 rw [if_neg hc]
 obtain ⟨i, e, hi⟩ := atI_is bs n hc
 rw [e, Int.toNat_natCast]
 have hii := hz.at_ hi
 dsimp only
 refine Ev.pos (by omega) (Ev.pos (by omega) ?_)
 rw [rdB_cast]
 refine Ev.bind (spec_l1NamesOk_ev things _ (by omega) (by omega)) (Ev.test _ (fun hq => ?_) (fun hq => Ev.ret (by simp [hq])))
 rw [if_pos hq]
 refine Ev.bind (spec_l3Taken_ev ts bs i things hz hn) (Ev.test _ (fun hk => Ev.ret (by simp [hk])) (fun hk => ?_))
 rw [if_neg (by simp [hk])]
 refine Ev.bind (spec_l1Copy_ev ts bs hz) ?_
 dsimp only
 have hself : setN bs i (insAll (gB bs i).f1 (things.take 0)) (gB bs i).f2 = bs := by
  unfold setN insAll
  rw [List.take_zero, List.foldl_nil]
  refine List.ext_getElem (by rw [List.length_set]) fun j h1 h2 => ?_
  rw [List.getElem_set]
  by_cases hj : i = j
  ·subst hj; rw [if_pos rfl]; unfold gB; rw [getD_lt bs _ hi]
  ·rw [if_neg hj]
 have go : ∀ (d j : Nat), things.length - j = d → j ≤ things.length → Ev (fun k => spec_ShareAsk.l0 k things (i : Int) (j : Int) ts bs ts bs ts (setN bs i (insAll (gB bs i).f1 (things.take j)) (gB bs i).f2)) (if (safeB ts bs && !safeB ts (giveB bs i things)) = true then (ts, bs, 6) else (ts, giveB bs i things, 0)) := by
  intro d
  induction d with
  | zero =>
   intro j hd hj
   rw [List.take_of_length_le (by omega), show setN bs i (insAll (gB bs i).f1 things) (gB bs i).f2 = giveB bs i things from rfl]
   have hg := giveB_z hi h hn
   have hgl := hg.bs
   refine Ev.step (fun k => spec_ShareAsk.l0.eq_2 _ _ _ _ _ _ _ _ _ k) (Ev.neg (by omega) (Ev.bind (spec_ShareSafe_ev ts bs (by omega) (by omega) hz.bok) ?_))
   refine Ev.test _ (fun h1 => ?_) (fun h1 => ?_)
   ·refine Ev.bind (spec_ShareSafe_ev ts _ (by omega) (by omega) hg.bok) (Ev.test _ (fun h2 => ?_) (fun h2 => Ev.ret (by simp [h1, h2])))
    exact Ev.bind (spec_l1Copy_ev ts _ hg) (Ev.ret (by simp [h1, h2]))
   ·exact Ev.bind (spec_l1Copy_ev ts _ hg) (Ev.ret (by simp [h1]))
  | succ d ih =>
   intro j hd hj
   have hlt : j < things.length := by omega
   have hsn : insAll (gB bs i).f1 (things.take (j + 1)) = insL things[j] (insAll (gB bs i).f1 (things.take j)) := by
    rw [List.take_succ_eq_append_getElem hlt, insAll_snoc]
   have hlen : (setN bs i (insAll (gB bs i).f1 (things.take j)) (gB bs i).f2).length = bs.length := by unfold setN; rw [List.length_set]
   have hil := insAll_len (things.take j) (gB bs i).f1
   rw [List.length_take] at hil
   have next := ih (j + 1) (by omega) (by omega)
   refine Ev.step (fun k => spec_ShareAsk.l0.eq_2 _ _ _ _ _ _ _ _ _ k) (Ev.pos (by omega) (Ev.pos (by omega) (Ev.pos (by rw [hlen]; omega) (Ev.pos (by omega) ?_))))
   rw [rdB_cast, setN_gB hi, rdS_cast, show gS things j = things[j] from getD_lt _ _ hlt, wrap_up hlt (by omega)]
   dsimp only
   refine Ev.test _ (fun hf => ?_) (fun hf => ?_)
   ·rw [hsn, insL_same _ _ hf] at next
    exact next
   ·refine Ev.bind (l3Insert_ev _ _ (by omega) hf) ?_
    rw [Int.toNat_natCast]
    have e2 : (setN bs i (insAll (gB bs i).f1 (things.take j)) (gB bs i).f2).set i ⟨(gB bs i).f0, insL things[j] (insAll (gB bs i).f1 (things.take j)), (gB bs i).f2⟩ = setN bs i (insAll (gB bs i).f1 (things.take (j + 1))) (gB bs i).f2 := by
     rw [hsn]; unfold setN; rw [List.set_set]
    rw [e2]
    exact next
 have := go things.length 0 (by omega) (by omega)
 rw [hself] at this
 exact this
def Tot {α : Type} (g : Nat → Option α) (P : α → Prop) : Prop := ∃ r, Ev g r ∧ P r
theorem Tot.ret {α : Type} {r : α} {P : α → Prop} (h : P r) : Tot (fun _ => some r) P := ⟨r, Ev.ret rfl, h⟩
theorem Tot.bind {α β : Type} {g : Nat → Option α} {f : Nat → α → Option β} {P : α → Prop} {Q : β → Prop} (H : Tot g P) (K : ∀ x, P x → Tot (fun k => f k x) Q) : Tot (fun k => (g k).bind fun x => f k x) Q := by
 obtain ⟨x, h1, h2⟩ := H
 obtain ⟨y, h3, h4⟩ := K x h2
 exact ⟨y, Ev.bind h1 h3, h4⟩
theorem Tot.bindE {α β : Type} {g : Nat → Option α} {f : Nat → α → Option β} {r : α} {Q : β → Prop} (H : Ev g r) (K : Tot (fun k => f k r) Q) : Tot (fun k => (g k).bind fun x => f k x) Q := by
 obtain ⟨y, h3, h4⟩ := K
 exact ⟨y, Ev.bind H h3, h4⟩
theorem Tot.pos {α : Type} {c : Prop} [Decidable c] {a b : Nat → Option α} {P : α → Prop} (h : c) (H : Tot a P) : Tot (fun k => if c then a k else b k) P := by
 obtain ⟨r, h1, h2⟩ := H; exact ⟨r, Ev.pos h h1, h2⟩
theorem Tot.neg {α : Type} {c : Prop} [Decidable c] {a b : Nat → Option α} {P : α → Prop} (h : ¬ c) (H : Tot b P) : Tot (fun k => if c then a k else b k) P := by
 obtain ⟨r, h1, h2⟩ := H; exact ⟨r, Ev.neg h h1, h2⟩
theorem Tot.prop {α : Type} {c : Prop} [Decidable c] {a b : Nat → Option α} {P : α → Prop} (H1 : c → Tot a P) (H2 : ¬ c → Tot b P) : Tot (fun k => if c then a k else b k) P := by
 by_cases h : c
 ·exact Tot.pos h (H1 h)
 exact Tot.neg h (H2 h)
theorem Tot.weak {α : Type} {g : Nat → Option α} {P Q : α → Prop} (H : Tot g P) (h : ∀ x, P x → Q x) : Tot g Q := by
 obtain ⟨r, h1, h2⟩ := H; exact ⟨r, h1, h r h2⟩
theorem Tot.step {α : Type} {f g : Nat → Option α} {P : α → Prop} (e : ∀ k, f (k + 1) = g k) (H : Tot g P) : Tot f P := by
 obtain ⟨r, h1, h2⟩ := H; exact ⟨r, Ev.step e h1, h2⟩
theorem Tot.sub {α : Type} {f g : Nat → Option α} {P : α → Prop} (e : f = g) (H : Tot g P) : Tot f P := e ▸ H
def Bs (s : List Int) : Prop := ∀ x ∈ s, 0 ≤ x ∧ x ≤ 255
theorem rd_byte {s : List Int} (h : Bs s) (i : Int) : 0 ≤ rd s i ∧ rd s i ≤ 255 := by
 unfold rd
 rw [List.getD_eq_getElem?_getD]
 cases hx : s[i.toNat]? with
 | none => simp
 | some x => exact h x (List.mem_of_getElem? hx)
theorem xor_nn {x y : Int} (hx : 0 ≤ x) (UL : x < 9223372036854775808) (hy : 0 ≤ y) (hy2 : y < 9223372036854775808) : 0 ≤ Go.bits .xor .i64 x y := by
 have e : ∀ z : Int, 0 ≤ z → z < 9223372036854775808 → (BitVec.ofInt 64 z).toNat < 2 ^ 63 := by
  intro z h1 h2
  rw [BitVec.toNat_ofInt]
  omega
 have hlt : (BitVec.ofInt 64 x ^^^ BitVec.ofInt 64 y).toNat < 2 ^ 63 := by
  rw [BitVec.toNat_xor]
  exact Nat.xor_lt_two_pow (e x hx UL) (e y hy hy2)
 have : Go.bits .xor .i64 x y = wrap64 ((BitVec.ofInt 64 x ^^^ BitVec.ofInt 64 y).toNat : Int) := by
  rw [← i64_w]; rfl
 rw [this, wrap64_id _ (by omega)]
 omega
theorem pick_tot {s : List Int} (Hs : Bs s) {p : Int} (h0 : 0 ≤ p) (h1 : p ≤ 1000000) (n : Int) : Tot (fun k => spec_l1Rd_pick.f k s p n) (fun r => 0 ≤ r.1 ∧ (0 < n → r.1 < n) ∧ r.2 = p + 1) := by
 unfold spec_l1Rd_pick.f
 rw [wrap64_id (p + 1) (by omega)]
 have quick : Tot (fun k => spec_l1Rd_pick.j0 k n true s (p + 1)) (fun r => 0 ≤ r.1 ∧ (0 < n → r.1 < n) ∧ r.2 = p + 1) :=
   Tot.step (fun k => spec_l1Rd_pick.j0.eq_2 _ _ _ _ k) (Tot.pos rfl (Tot.ret ⟨Int.le_refl _, fun h => h, rfl⟩))
 refine Tot.prop (fun _ => quick) (fun hn => ?_)
 by_cases hl : s.length = 0
 ·rw [show ((s.length : Int) == 0) = true from beq_iff_eq.2 (by omega)]; exact quick
 rw [show ((s.length : Int) == 0) = false from beq_eq_false_iff_ne.2 (by omega)]
 refine Tot.step (fun k => spec_l1Rd_pick.j0.eq_2 _ _ _ _ k) (Tot.neg (by simp) ?_)
 rw [show wrap64 (p + 1 - 1) = p from by unfold wrap64; omega]
 refine Tot.prop (fun hq => Tot.pos h0 (Tot.neg (by omega) (Tot.ret ?_))) (fun hq => Tot.neg (by omega) ?_)
 ·obtain ⟨b1, b2⟩ := rd_byte Hs p
  rw [wrap64_id _ (by omega)]
  exact ⟨Int.tmod_nonneg _ b1, fun h => Int.tmod_lt_of_pos _ h, rfl⟩
 have hlen : (0 : Int) < (s.length : Int) := by omega
 have hw : wrap64 (wrap64 (p * 7) + 3) = p * 7 + 3 := by rw [wrap64_id (p * 7) (by omega), wrap64_id _ (by omega)]
 rw [hw]
 refine Tot.pos (Int.tmod_nonneg _ h0) (Tot.pos (Int.tmod_lt_of_pos _ hlen) (Tot.pos (Int.tmod_nonneg _ (by omega)) (Tot.pos (Int.tmod_lt_of_pos _ hlen) (Tot.neg (by omega) (Tot.ret ?_)))))
 obtain ⟨b1, b2⟩ := rd_byte Hs (Int.tmod p (s.length : Int))
 obtain ⟨b3, b4⟩ := rd_byte Hs (Int.tmod (p * 7 + 3) (s.length : Int))
 have d1 : 0 ≤ Int.tdiv p (s.length : Int) := Int.tdiv_nonneg h0 (by omega)
 have d2 : Int.tdiv p (s.length : Int) ≤ p := by rw [Int.tdiv_eq_ediv_of_nonneg h0]; exact Int.ediv_le_self _ h0
 generalize rd s (Int.tmod p (s.length : Int)) = m1 at b1 b2 ⊢
 generalize rd s (Int.tmod (p * 7 + 3) (s.length : Int)) = m2 at b3 b4 ⊢
 generalize Int.tdiv p (s.length : Int) = d at d1 d2 ⊢
 have big : wrap64 (wrap64 (wrap64 (wrap64 (wrap64 m1 * 131) + wrap64 (wrap64 m2 * 1117)) + wrap64 (p * 29)) + wrap64 (wrap64 d * 53)) = m1 * 131 + m2 * 1117 + p * 29 + d * 53 := by
   rw [wrap64_id m1 (by omega), wrap64_id m2 (by omega), wrap64_id d (by omega), wrap64_id (m1 * 131) (by omega), wrap64_id (m2 * 1117) (by omega), wrap64_id (p * 29) (by omega), wrap64_id (d * 53) (by omega), wrap64_id (m1 * 131 + m2 * 1117) (by omega), wrap64_id (m1 * 131 + m2 * 1117 + p * 29) (by omega), wrap64_id _ (by omega)]
 rw [big]
 have hx : 0 ≤ m1 * 131 + m2 * 1117 + p * 29 + d * 53 := by omega
 have ht : Int.tdiv (m1 * 131 + m2 * 1117 + p * 29 + d * 53) 64 = (m1 * 131 + m2 * 1117 + p * 29 + d * 53) / 64 := Int.tdiv_eq_ediv_of_nonneg hx
 rw [ht, wrap64_id _ (by omega)]
 exact ⟨Int.tmod_nonneg _ (xor_nn hx (by omega) (by omega) (by omega)), fun h => Int.tmod_lt_of_pos _ h, rfl⟩
theorem of_tot {s : List Int} (Hs : Bs s) {p : Int} (h0 : 0 ≤ p) (h1 : p ≤ 1000000) {l : List ByteArray} (hl : 0 < l.length) : Tot (fun k => spec_l1Rd_of.f k s p l) (fun r => r.2 = p + 1) := by
 unfold spec_l1Rd_of.f
 refine Tot.bind (pick_tot Hs h0 h1 _) (fun x hx => ?_)
 exact Tot.pos hx.1 (Tot.pos (hx.2.1 (by omega)) (Tot.ret hx.2.2))
theorem some_tot {s : List Int} (Hs : Bs s) {p : Int} (h0 : 0 ≤ p) {l : List ByteArray} (of_ : Int) (h1 : p + l.length ≤ 1000000) : Tot (fun k => spec_l5Some.f k s p l of_) (fun r => r.1.length ≤ l.length ∧ p ≤ r.2 ∧ r.2 ≤ p + l.length) := by
 unfold spec_l5Some.f
 have go : ∀ (d i : Nat) (p : Int) (x : List ByteArray), i + d = l.length → 0 ≤ p → p + d ≤ 1000000 → x.length ≤ i → Tot (fun k => spec_l5Some.l0 k l of_ x (i : Int) s p) (fun r => r.1.length ≤ l.length ∧ p ≤ r.2 ∧ r.2 ≤ p + d) := by
  intro d
  induction d with
  | zero =>
   intro i p x hi h0 h1 hx
   refine Tot.step (fun k => spec_l5Some.l0.eq_2 _ _ _ _ _ _ k) (Tot.neg (by omega) (Tot.ret ?_))
   dsimp only; omega
  | succ d ih =>
   intro i p x hi h0 h1 hx
   refine Tot.step (fun k => spec_l5Some.l0.eq_2 _ _ _ _ _ _ k) (Tot.pos (by omega) (Tot.bind (pick_tot Hs h0 (by omega) _) (fun y hy => ?_)))
   obtain ⟨_, _, e⟩ := hy
   rw [e, wrap_up (show i < l.length by omega) (by omega)]
   refine Tot.prop (fun _ => Tot.pos (by omega) (Tot.pos (by omega) ((ih (i + 1) (p + 1) _ (by omega) (by omega) (by omega) (by rw [List.length_append, List.length_singleton]; omega)).weak fun r h => ?_))) (fun _ => (ih (i + 1) (p + 1) x (by omega) (by omega) (by omega) (by omega)).weak fun r h => ?_)
   ·omega
   ·omega
 exact go l.length 0 p [] (by omega) h0 h1 (by simp)
def Gd (n : Nat) (ts : List ByteArray) (bs : List IB) : Prop := ts.length ≤ 5 ∧ (∀ b ∈ bs, b.f2.length ≤ 5 + n) ∧ wMark bs ≤ 100 * n
theorem needs_le {bs : List IB} {m : Nat} (h : ∀ b ∈ bs, b.f2.length ≤ m) (i : Nat) : (gB bs i).f2.length ≤ m := by
 by_cases hi : i < bs.length
 ·exact h _ (gB_mem hi)
 have : gB bs i = z56 := by unfold gB; rw [List.getD_eq_getElem?_getD, List.getElem?_eq_none (by omega)]; rfl
 rw [this]; exact Nat.zero_le _
def baseN : List ByteArray := [(⟨#[106]⟩ : ByteArray), (⟨#[107, 101, 103]⟩ : ByteArray), (⟨#[116, 117, 110]⟩ : ByteArray), (⟨#[118, 97, 116]⟩ : ByteArray), (⟨#[119]⟩ : ByteArray)]
theorem base_tot {s : List Int} (Hs : Bs s) {p : Int} (h0 : 0 ≤ p) (h1 : p ≤ 999000) : Tot (fun k => spec_l5Base.f k s p) (fun r => r.1.Sublist baseN ∧ r.2.1 = [] ∧ p ≤ r.2.2 ∧ r.2.2 ≤ p + 5) := by
 unfold spec_l5Base.f
 have go : ∀ (d i : Nat) (p : Int) (x : List ByteArray), i + d = 5 → 0 ≤ p → p + d ≤ 999500 → x.Sublist (baseN.take i) → Tot (fun k => spec_l5Base.l0 k baseN (i : Int) s p x) (fun r => r.1.Sublist baseN ∧ r.2.1 = [] ∧ p ≤ r.2.2 ∧ r.2.2 ≤ p + d) := by
  intro d
  induction d with
  | zero =>
   intro i p x hi h0 h1 hx
   refine Tot.step (fun k => spec_l5Base.l0.eq_2 _ _ _ _ _ k) (Tot.neg (by show ¬ ((i : Int) < ((5 : Nat) : Int)); omega) (Tot.ret ?_))
   rw [List.take_of_length_le (show baseN.length ≤ i by show 5 ≤ i; omega)] at hx
   dsimp only; exact ⟨hx, rfl, by omega, by omega⟩
  | succ d ih =>
   intro i p x hi h0 h1 hx
   have hxl : x.length ≤ 5 := Nat.le_trans hx.length_le (by rw [List.length_take]; show min i 5 ≤ 5; omega)
   have hil : i < baseN.length := by show i < 5; omega
   refine Tot.step (fun k => spec_l5Base.l0.eq_2 _ _ _ _ _ k) (Tot.pos (by show (i : Int) < ((5 : Nat) : Int); omega) (Tot.bind (pick_tot Hs h0 (by omega) _) (fun y hy => ?_)))
   obtain ⟨_, _, e⟩ := hy
   rw [e, wrap_up hil (by show 5 ≤ 9223372036854775807; omega)]
   have ht : baseN.take (i + 1) = baseN.take i ++ [baseN[i]] := List.take_succ_eq_append_getElem hil
   refine Tot.prop (fun _ => Tot.pos (by omega) (Tot.pos (by omega) ((ih (i + 1) (p + 1) _ (by omega) (by omega) (by omega) ?_).weak fun r h => ?_))) (fun _ => (ih (i + 1) (p + 1) x (by omega) (by omega) (by omega) ?_).weak fun r h => ?_)
   ·rw [ht, rdS_cast, show gS baseN i = baseN[i] from getD_lt _ _ hil]
    exact List.Sublist.append hx (List.Sublist.refl _)
   ·exact ⟨h.1, h.2.1, by omega, by omega⟩
   ·rw [ht]; exact hx.trans (List.sublist_append_left _ _)
   ·exact ⟨h.1, h.2.1, by omega, by omega⟩
 exact (go 5 0 p [] (by omega) h0 (by omega) (by simp)).weak fun r h => ⟨h.1, h.2.1, by omega, by omega⟩
theorem does_tot {s : List Int} (Hs : Bs s) {p : Int} (h0 : 0 ≤ p) {ts : List ByteArray} {bs : List IB} {m : Nat} (ht : ts.length ≤ m) (hb : ∀ b ∈ bs, b.f2.length ≤ m) (hl : bs.length ≤ 1048576) (h1 : p + m ≤ 999000) :
  Tot (fun k => spec_l5Does.f k s p ts bs) (fun r => r.2.2.1.length ≤ m + 1 ∧ p ≤ r.2.2.2 ∧ r.2.2.2 ≤ p + m + 7) := by
 unfold spec_l5Does.f
 have j4 : ∀ (p : Int) (a : Int) (n : ByteArray) (l : List ByteArray), 0 ≤ p → p ≤ 999900 → l.length ≤ m → Tot (fun k => spec_l5Does.j4 k s p a n l) (fun r => r.2.2.1.length ≤ m + 1 ∧ p ≤ r.2.2.2 ∧ r.2.2.2 ≤ p + 2) := by
  intro p a n l h0 h1 hl
  refine Tot.step (fun k => spec_l5Does.j4.eq_2 _ _ _ _ _ k) (Tot.bind (pick_tot Hs h0 (by omega) _) (fun y hy => ?_))
  obtain ⟨_, _, e⟩ := hy
  rw [e]
  refine Tot.prop (fun _ => Tot.bind (of_tot Hs (by omega) (by omega) (by simp)) (fun z hz => Tot.pos (by omega) (Tot.ret ?_))) (fun _ => Tot.prop (fun _ => Tot.bind (of_tot Hs (by omega) (by omega) (by simp)) (fun z hz => Tot.ret ?_)) (fun _ => Tot.ret ?_))
  ·dsimp only; rw [hz, List.length_append, List.length_singleton]; omega
  ·dsimp only; rw [hz]; omega
  ·dsimp only; omega
 have j3 : ∀ (p : Int) (x : List ByteArray) (q : Int) (b : Bool) (a : Int) (n : ByteArray), 0 ≤ p → p + m ≤ 999800 → x.length ≤ m → Tot (fun k => spec_l5Does.j3 k x q b s p ts bs a n) (fun r => r.2.2.1.length ≤ m + 1 ∧ p ≤ r.2.2.2 ∧ r.2.2.2 ≤ p + m + 3) := by
  intro p x q b a n h0 h1 hx
  refine Tot.step (fun k => spec_l5Does.j3.eq_2 _ _ _ _ _ _ _ _ _ k) ?_
  refine Tot.prop (fun _ => Tot.bindE (Ev.ret rfl) (Tot.bind (of_tot Hs h0 (by omega) (by simp)) (fun y hy => ?_))) (fun _ => Tot.prop (fun _ => Tot.bind (some_tot Hs h0 2 (by omega)) (fun y hy => ?_)) (fun _ => Tot.prop (fun _ => ?_) (fun _ => Tot.bind (some_tot Hs h0 2 (by omega)) (fun y hy => ?_))))
  ·rw [hy]
   refine Tot.bind (some_tot Hs (by omega) 2 (by omega)) (fun z hz => ?_)
   obtain ⟨z1, z2, z3⟩ := hz
   exact (j4 z.2 _ _ _ (by omega) (by omega) (by omega)).weak fun r h => ⟨h.1, by omega, by omega⟩
  ·obtain ⟨z1, z2, z3⟩ := hy
   exact (j4 y.2 _ _ _ (by omega) (by omega) (by omega)).weak fun r h => ⟨h.1, by omega, by omega⟩
  ·exact (j4 p _ _ _ h0 (by omega) (by simp)).weak fun r h => ⟨h.1, by omega, by omega⟩
  ·obtain ⟨z1, z2, z3⟩ := hy
   exact (j4 y.2 _ _ _ (by omega) (by omega) (by omega)).weak fun r h => ⟨h.1, by omega, by omega⟩
 have j2 : ∀ (p : Int) (x : List ByteArray) (a : Int) (n : ByteArray), 0 ≤ p → p + m ≤ 999700 → x.length ≤ m → Tot (fun k => spec_l5Does.j2 k x s p ts bs a n) (fun r => r.2.2.1.length ≤ m + 1 ∧ p ≤ r.2.2.2 ∧ r.2.2.2 ≤ p + m + 4) := by
  intro p x a n h0 h1 hx
  refine Tot.step (fun k => spec_l5Does.j2.eq_2 _ _ _ _ _ _ _ k) (Tot.bind (pick_tot Hs h0 (by omega) _) (fun y hy => ?_))
  obtain ⟨_, _, e⟩ := hy
  rw [e]
  have J : ∀ q b, Tot (fun k => spec_l5Does.j3 k x q b s (p + 1) ts bs a n) (fun r => r.2.2.1.length ≤ m + 1 ∧ p ≤ r.2.2.2 ∧ r.2.2.2 ≤ p + m + 4) := fun q b => (j3 (p + 1) x q b a n (by omega) (by omega) hx).weak fun r h => ⟨h.1, by omega, by omega⟩
  exact Tot.prop (fun _ => J _ _) (fun _ => Tot.prop (fun _ => J _ _) (fun _ => J _ _))
 have j1 : ∀ (p : Int) (a : Int) (n : ByteArray), 0 ≤ p → p + m ≤ 999700 → Tot (fun k => spec_l5Does.j1 k s p ts bs a n) (fun r => r.2.2.1.length ≤ m + 1 ∧ p ≤ r.2.2.2 ∧ r.2.2.2 ≤ p + m + 4) := by
  intro p a n h0 h1
  refine Tot.step (fun k => spec_l5Does.j1.eq_2 _ _ _ _ _ _ k) (Tot.bindE (spec_l1At_ev ts bs n (by omega)) ?_)
  refine Tot.prop (fun h => ?_) (fun _ => j2 p ts a n h0 h1 ht)
  obtain ⟨i, e, hi⟩ := atI_is bs n (by omega)
  rw [e]
  refine Tot.pos (by omega) (Tot.pos (by omega) ?_)
  rw [rdB_cast]
  exact j2 p _ a n h0 h1 (needs_le hb i)
 have j0 : ∀ (p : Int) (b : Bool) (a : Int) (n : ByteArray), 0 ≤ p → p + m ≤ 999600 → (b = true → 0 < bs.length) → Tot (fun k => spec_l5Does.j0 k b s p ts bs a n) (fun r => r.2.2.1.length ≤ m + 1 ∧ p ≤ r.2.2.2 ∧ r.2.2.2 ≤ p + m + 5) := by
  intro p b a n h0 h1 hbl
  refine Tot.step (fun k => spec_l5Does.j0.eq_2 _ _ _ _ _ _ _ k) (Tot.prop (fun h => Tot.bind (pick_tot Hs h0 (by omega) _) (fun y hy => ?_)) (fun _ => (j1 p a n h0 (by omega)).weak fun r h => ⟨h.1, by omega, by omega⟩))
  obtain ⟨y1, y2, e⟩ := hy
  have := hbl h
  rw [e]
  exact Tot.pos y1 (Tot.pos (y2 (by omega)) ((j1 (p + 1) a _ (by omega) (by omega)).weak fun r h => ⟨h.1, by omega, by omega⟩))
 refine Tot.bindE (Ev.ret rfl) (Tot.bind (of_tot Hs h0 (by omega) (by simp)) (fun y hy => ?_))
 rw [hy]
 refine Tot.prop (fun h => Tot.bind (pick_tot Hs (by omega) (by omega) _) (fun z hz => ?_)) (fun _ => (j0 (p + 1) _ _ _ (by omega) (by omega) (by simp)).weak fun r h => ⟨h.1, by omega, by omega⟩)
 obtain ⟨_, _, e⟩ := hz
 rw [e]
 exact (j0 (p + 1 + 1) _ _ _ (by omega) (by omega) (fun _ => by omega)).weak fun r h => ⟨h.1, by omega, by omega⟩
theorem hasS_iff {l : List ByteArray} {s : ByteArray} : hasS l s = true ↔ s ∈ l := by
 unfold hasS; rw [List.any_eq_true]
 constructor
 ·rintro ⟨x, hx, h⟩; rw [toList_inj.1 (beq_iff_eq.1 h)]; exact hx
 intro h; exact ⟨s, h, by simp⟩
theorem hasS_no {l : List ByteArray} {s : ByteArray} : hasS l s = false ↔ s ∉ l := by
 rw [← hasS_iff]; cases hasS l s <;> simp
theorem gB_is {bs : List IB} {i : Nat} (hi : i < bs.length) : gB bs i = bs[i] := getD_lt bs _ hi
theorem mem_gB {bs : List IB} {b : IB} (h : b ∈ bs) : ∃ i, i < bs.length ∧ gB bs i = b := by
 obtain ⟨i, hi, rfl⟩ := List.getElem_of_mem h
 exact ⟨i, hi, gB_is hi⟩
theorem bl_irr (a : List UInt8) : Op.bytesLess a a = false := by
 rw [bytesLess_eq, decide_eq_false_iff_not]; exact List.lt_irrefl a
theorem asc_ne {bs : List IB} (ha : Asc bs) {i j : Nat} (hi : i < bs.length) (hj : j < bs.length) (h : (gB bs i).f0 = (gB bs j).f0) : i = j := by
 rw [gB_is hi, gB_is hj] at h
 have hp := List.pairwise_iff_getElem.1 ha
 rcases Nat.lt_trichotomy i j with q | q | q
 ·have := hp i j hi hj q; rw [h, bl_irr] at this; exact absurd this (by simp)
 ·exact q
 have := hp j i hj hi q; rw [h, bl_irr] at this; exact absurd this (by simp)
theorem canB_iff {bs : List IB} {i : Nat} {gone : List ByteArray} : canB bs i gone = true ↔ ∀ q, q < bs.length → q = i ∨ (gB bs q).f0 ∈ gone ∨ shareB (gB bs q).f1 (gB bs i).f2 = false := by
 unfold canB; rw [allR_iff]
 simp only [canP, Bool.or_eq_true, decide_eq_true_eq, hasS_iff, Bool.not_eq_true', Nat.zero_le, true_implies]
theorem atI_at {bs : List IB} (ha : Asc bs) {i : Nat} (hi : i < bs.length) : atI bs (gB bs i).f0 = (i : Int) := by
 have h : ¬ atI bs (gB bs i).f0 < 0 := by
  intro h
  exact at_none (by omega) (gB bs i) (gB_mem hi) rfl
 obtain ⟨a, e, h1, h2⟩ := atI_lt h
 rw [e, asc_ne ha h1 hi (toList_inj.1 h2)]
theorem len_le_of_sub : ∀ {l m : List ByteArray}, l.Nodup → (∀ s, s ∈ l → s ∈ m) → l.length ≤ m.length
  | [], m, _, _ => Nat.zero_le _
  | a :: l, m, hn, hs => by
    rw [List.nodup_cons] at hn
    have ha := hs a (List.mem_cons_self ..)
    obtain ⟨m1, m2, rfl⟩ := List.append_of_mem ha
    have h := len_le_of_sub (l := l) (m := m1 ++ m2) hn.2 fun s h => by
      rcases List.mem_append.1 (hs s (List.mem_cons_of_mem _ h)) with h1 | h1
      · exact List.mem_append.2 (.inl h1)
      · rcases List.mem_cons.1 h1 with e | h1
        · exact absurd (e ▸ h) hn.1
        · exact List.mem_append.2 (.inr h1)
    rw [List.length_append] at h
    rw [List.length_append, List.length_cons, List.length_cons]; omega
theorem sub_of_len {l m : List ByteArray} (hn : l.Nodup) (hs : ∀ s, s ∈ l → s ∈ m) (hl : m.length ≤ l.length) : ∀ s, s ∈ m → s ∈ l := by
 intro s h
 by_cases hc : s ∈ l
 ·exact hc
 have := len_le_of_sub (l := s :: l) (m := m) (List.nodup_cons.2 ⟨hc, hn⟩) fun x hx => by
  rcases List.mem_cons.1 hx with rfl | hx
  ·exact h
  ·exact hs x hx
 rw [List.length_cons] at this; omega
def namesOf (bs : List IB) : List ByteArray := bs.map fun b => b.f0
theorem namesOf_mem {bs : List IB} {s : ByteArray} : s ∈ namesOf bs ↔ ∃ i, i < bs.length ∧ (gB bs i).f0 = s := by
 unfold namesOf; rw [List.mem_map]
 constructor
 ·rintro ⟨b, hb, rfl⟩; obtain ⟨i, hi, rfl⟩ := mem_gB hb; exact ⟨i, hi, rfl⟩
 rintro ⟨i, hi, rfl⟩; exact ⟨_, gB_mem hi, rfl⟩
theorem namesOf_nodup {bs : List IB} (ha : Asc bs) : (namesOf bs).Nodup := by
 unfold namesOf List.Nodup
 rw [List.pairwise_map]
 exact List.Pairwise.imp (fun {a b} h e => by rw [e, bl_irr] at h; exact absurd h (by simp)) ha
inductive Goes (bs : List IB) : List ByteArray → Prop
  | all {gone : List ByteArray} : (∀ s, s ∈ namesOf bs → s ∈ gone) → Goes bs gone
  | one {gone : List ByteArray} {i : Nat} : i < bs.length → canB bs i gone = true → Goes bs (gone ++ [(gB bs i).f0]) → Goes bs gone
def First (bs : List IB) (S : ByteArray → Prop) : Prop := ∃ y, y < bs.length ∧ S (gB bs y).f0 ∧ ∀ x, x < bs.length → S (gB bs x).f0 → x = y ∨ shareB (gB bs x).f1 (gB bs y).f2 = false
def NoDead (bs : List IB) : Prop := ∀ S : ByteArray → Prop, (∃ i, i < bs.length ∧ S (gB bs i).f0) → First bs S
theorem goes_dead {bs : List IB} {gone : List ByteArray} (h : Goes bs gone) : ∀ S : ByteArray → Prop, (∃ i, i < bs.length ∧ S (gB bs i).f0) → (∀ s, s ∈ gone → ¬ S s) → First bs S := by
 induction h with
 | all h => intro S ⟨i, hi, hs⟩ hg; exact absurd hs (hg _ (h _ (namesOf_mem.2 ⟨i, hi, rfl⟩)))
 | @one gone i hi hc _ ih =>
  intro S hS hg
  by_cases hs : S (gB bs i).f0
  ·refine ⟨i, hi, hs, fun x hx hxs => ?_⟩
   rcases canB_iff.1 hc x hx with h | h | h
   ·exact .inl h
   ·exact absurd hxs (hg _ h)
   ·exact .inr h
  ·refine ih S hS fun s h => ?_
   rcases List.mem_append.1 h with h | h
   ·exact hg s h
   ·rw [List.mem_singleton.1 h]; exact hs
theorem go_goes {bs : List IB} : ∀ (d : Nat) (gone : List ByteArray), gone.Nodup → (∀ s, s ∈ gone → s ∈ namesOf bs) → gone.length + d = bs.length → (orderGo bs d gone).2 = true → Goes bs gone
  | 0, gone, hn, hs, hl, _ => .all (sub_of_len hn hs (by unfold namesOf; rw [List.length_map]; omega))
  | d + 1, gone, hn, hs, hl, h => by
    unfold orderGo at h
    cases hx : nextB bs gone with
    | none => rw [hx] at h; exact absurd h (by simp)
    | some i =>
      rw [hx] at h
      obtain ⟨_, hi, hp⟩ := findR_lt hx
      unfold nextP at hp
      rw [Bool.and_eq_true, Bool.not_eq_true', hasS_no] at hp
      refine .one hi hp.2 (go_goes d _ ?_ ?_ (by rw [List.length_append, List.length_singleton]; omega) h)
      · rw [List.nodup_append]
        refine ⟨hn, by simp, fun a ha b hb e => ?_⟩
        rw [List.mem_singleton] at hb
        exact hp.1 (hb ▸ e ▸ ha)
      · intro s h
        rcases List.mem_append.1 h with h | h
        · exact hs s h
        · rw [List.mem_singleton.1 h]; exact namesOf_mem.2 ⟨i, hi, rfl⟩
theorem dead_go {bs : List IB} (ha : Asc bs) (H : NoDead bs) : ∀ (d : Nat) (gone : List ByteArray), gone.length + d = bs.length → (orderGo bs d gone).2 = true
 | 0, gone, _ => rfl
 | d + 1, gone, hl => by
  unfold orderGo
  cases hx : nextB bs gone with
  | some i => exact dead_go ha H d _ (by rw [List.length_append, List.length_singleton]; omega)
  | none =>
   exfalso
   unfold nextB findR at hx
   rw [List.find?_eq_none] at hx
   have hm : ∃ i, i < bs.length ∧ (gB bs i).f0 ∉ gone := by
    by_cases hc : ∀ s, s ∈ namesOf bs → s ∈ gone
    ·have := len_le_of_sub (namesOf_nodup ha) hc
     unfold namesOf at this
     rw [List.length_map] at this; omega
    ·obtain ⟨s, h1, h2⟩ : ∃ s, s ∈ namesOf bs ∧ s ∉ gone := by
      apply Classical.byContradiction
      intro h; exact hc fun s h1 => Classical.byContradiction fun h2 => h ⟨s, h1, h2⟩
     obtain ⟨i, hi, rfl⟩ := namesOf_mem.1 h1
     exact ⟨i, hi, h2⟩
   obtain ⟨y, hy, hy2, hy3⟩ := H (fun s => s ∉ gone) hm
   refine hx y (by rw [List.mem_range'_1]; omega) ?_
   unfold nextP
   rw [Bool.and_eq_true, Bool.not_eq_true', hasS_no, canB_iff]
   refine ⟨hy2, fun q hq => ?_⟩
   by_cases hg : (gB bs q).f0 ∈ gone
   ·exact .inr (.inl hg)
   ·rcases hy3 q hq hg with h | h
    ·exact .inl h
    ·exact .inr (.inr h)
theorem safe_iff {ts : List ByteArray} {bs : List IB} : safeB ts bs = true ↔ bookB ts bs = true ∧ NoDead bs := by
 unfold safeB orderB
 cases hb : bookB ts bs with
 | false => simp
 | true =>
  rw [if_pos rfl]
  constructor
  ·intro h
   refine ⟨rfl, fun S hS => goes_dead (go_goes bs.length [] List.nodup_nil (by simp) (by simp) h) S hS (by simp)⟩
  ·rintro ⟨_, h⟩
   exact dead_go (book_asc hb) h _ _ (by simp)
theorem insB_mem {bs : List IB} {x b : IB} : b ∈ insB bs x ↔ b = x ∨ b ∈ bs := by
 have e : bs = bs.take (insK bs x.f0) ++ bs.drop (insK bs x.f0) := (List.take_append_drop ..).symm
 unfold insB
 rw [List.mem_append, List.mem_cons]
 constructor
 ·rintro (h | h | h)
  ·exact .inr (List.mem_of_mem_take h)
  ·exact .inl h
  exact .inr (List.mem_of_mem_drop h)
 rintro (h | h)
 ·exact .inr (.inl h)
 rw [e, List.mem_append] at h
 rcases h with h | h
 ·exact .inl h
 exact .inr (.inr h)
theorem Gd.weak {n m : Nat} {ts : List ByteArray} {bs : List IB} (h : Gd n ts bs) (hn : n ≤ m) : Gd m ts bs :=
  ⟨h.1, fun b hb => by have := h.2.1 b hb; omega, by have := h.2.2; omega⟩
theorem Gd.nil (n : Nat) : Gd n [] [] := ⟨by simp, by simp, by simp [wMark]⟩
theorem enter_gd {n : Nat} {ts : List ByteArray} {bs : List IB} (h : Gd n ts bs) (nm : ByteArray) {l : List ByteArray} (hl : l.length ≤ 6 + n) (hn : n ≤ 90) : Gd (n + 1) (enterB ts bs nm l).1 (enterB ts bs nm l).2.1 := by
 have h1 : Gd (n + 1) ts bs := h.weak (by omega)
 have h2 : Gd (n + 1) ts (insB bs ⟨nm, [], l⟩) := by
  refine ⟨h1.1, fun b hb => ?_, ?_⟩
  ·rcases insB_mem.1 hb with e | e
   ·subst e; dsimp only; omega
   ·exact h1.2.1 b e
  ·have := h.2.2
   rw [insB_w]; dsimp only; rw [List.length_nil]; omega
 unfold enterB
 repeat' split
 all_goals first | exact h1 | exact h2 | exact Gd.nil _
theorem set_mem {bs : List IB} {i : Nat} {x b : IB} (h : b ∈ bs.set i x) : b = x ∨ b ∈ bs := by
 rcases List.mem_or_eq_of_mem_set h with e | e
 ·exact .inr e
 exact .inl e
theorem less_gd {n : Nat} {ts : List ByteArray} {bs : List IB} (h : Gd n ts bs) (nm : ByteArray) {l : List ByteArray} (hl : l.length ≤ 6 + n) (hn : n ≤ 90) : Gd (n + 1) (lessB ts bs nm l).1 (lessB ts bs nm l).2.1 := by
 have h1 : Gd (n + 1) ts bs := h.weak (by omega)
 unfold lessB
 split
 ·split
  ·exact h1
  rename_i hc
  obtain ⟨i, e, hi⟩ := atI_is bs nm hc
  rw [e, Int.toNat_natCast]
  split
  ·refine ⟨h1.1, fun b hb => ?_, ?_⟩
   ·rcases set_mem hb with e | e
    ·subst e; dsimp only; omega
    exact h1.2.1 b e
   have := h.2.2
   have := setN_w hi (hasS l) l
   dsimp only; omega
  exact h1
 exact Gd.nil _
theorem ask_gd {n : Nat} {ts : List ByteArray} {bs : List IB} (h : Gd n ts bs) (nm : ByteArray) {l : List ByteArray} (hl : l.length ≤ 6 + n) (hn : n ≤ 90) : Gd (n + 1) (askB ts bs nm l).1 (askB ts bs nm l).2.1 := by
 have h1 : Gd (n + 1) ts bs := h.weak (by omega)
 unfold askB
 split
 ·split
  ·exact h1
  rename_i hc
  obtain ⟨i, e, hi⟩ := atI_is bs nm hc
  rw [e, Int.toNat_natCast]
  split
  ·split
   ·exact h1
   split
   ·exact h1
   refine ⟨h1.1, fun b hb => ?_, ?_⟩
   ·rcases set_mem hb with e | e
    ·subst e; exact h1.2.1 (gB bs i) (gB_mem hi)
    exact h1.2.1 b e
   have := h.2.2
   have := giveB_w hi l
   dsimp only; omega
  exact h1
 exact Gd.nil _
theorem leave_gd {n : Nat} {ts : List ByteArray} {bs : List IB} (h : Gd n ts bs) (nm : ByteArray) : Gd (n + 1) (leaveB ts bs nm).1 (leaveB ts bs nm).2.1 := by
 have h1 : Gd (n + 1) ts bs := h.weak (by omega)
 unfold leaveB
 split
 ·split
  ·exact h1
  refine ⟨h1.1, fun b hb => h1.2.1 b ((List.eraseIdx_sublist bs _).subset hb), ?_⟩
  have := wMark_erase bs (atI bs nm).toNat
  have := h1.2.2
  dsimp only; omega
 exact Gd.nil _
theorem Gd.sz {n : Nat} {ts : List ByteArray} {bs : List IB} (h : Gd n ts bs) (hn : n ≤ 90) : ts.length + wMark bs ≤ 1048576 := by
 have := h.1; have := h.2.2; omega
theorem step_tot {n : Nat} {ts : List ByteArray} {bs : List IB} (h : Gd n ts bs) (hn : n ≤ 90) (c : Int) (nm : ByteArray) {l : List ByteArray} (hl : l.length ≤ 6 + n) : Tot (fun k => spec_l5Step.f k ts bs c nm l) (fun r => Gd (n + 1) r.1 r.2) := by
 have hz := h.sz hn
 unfold spec_l5Step.f
 refine Tot.prop (fun _ => Tot.bindE (spec_ShareEnter_ev ts bs nm l hz (by omega)) (Tot.ret (enter_gd h nm hl hn))) (fun _ => Tot.prop (fun _ => Tot.bindE (spec_ShareAsk_ev ts bs nm l hz (by omega)) (Tot.ret (ask_gd h nm hl hn))) (fun _ => Tot.prop (fun _ => Tot.bindE (spec_ShareLess_ev ts bs nm l hz (by omega)) (Tot.ret (less_gd h nm hl hn))) (fun _ => Tot.bindE (spec_ShareLeave_ev ts bs nm (ne_Bz hz)) (Tot.ret (leave_gd h nm)))))
theorem wild_tot {s : List Int} (Hs : Bs s) {p : Int} (h0 : 0 ≤ p) (h1 : p ≤ 900000) {ts : List ByteArray} (ht : ts.length ≤ 5) (bs : List IB) : Tot (fun k => spec_l5Wild.f k s p ts bs) (fun r => Gd 24 r.1 r.2.1 ∧ p ≤ r.2.2 ∧ r.2.2 ≤ p + 60) := by
 unfold spec_l5Wild.f
 refine Tot.bindE (Ev.ret rfl) ?_
 generalize hN : ([(⟨#[97, 108, 101]⟩ : ByteArray), (⟨#[98]⟩ : ByteArray), (⟨#[99, 45, 99]⟩ : ByteArray), (⟨#[100, 97, 114, 107]⟩ : ByteArray), (⟨#[120, 57]⟩ : ByteArray)] : List ByteArray) = N
 have hN5 : N.length = 5 := by rw [← hN]; rfl
 clear hN
 have go : ∀ (d i : Nat) (q : Int) (tk : List ByteArray) (cs : List IB), i + d = 5 → p ≤ q → q + 12 * d ≤ p + 60 → tk.length ≤ 5 * i → (∀ b ∈ cs, b.f2.length ≤ 5) → wMark cs ≤ 11 * i →
     Tot (fun k => spec_l5Wild.l0 k N tk (i : Int) s q ts cs) (fun r => Gd 24 r.1 r.2.1 ∧ p ≤ r.2.2 ∧ r.2.2 ≤ p + 60) := by
   intro d
   induction d with
   | zero =>
     intro i q tk cs hi hq hq2 htk hcs hw
     refine Tot.step (fun k => spec_l5Wild.l0.eq_2 _ _ _ _ _ _ _ k) (Tot.neg (by omega) (Tot.ret ?_))
     exact ⟨⟨ht, fun b hb => by have := hcs b hb; omega, by dsimp only; omega⟩, hq, by dsimp only; omega⟩
   | succ d ih =>
     intro i q tk cs hi hq hq2 htk hcs hw
     have hcl : cs.length ≤ 11 * i := Nat.le_trans (wMark_len cs) hw
     refine Tot.step (fun k => spec_l5Wild.l0.eq_2 _ _ _ _ _ _ _ k) (Tot.pos (by omega) (Tot.bind (pick_tot Hs (by omega) (by omega) _) (fun y hy => ?_)))
     obtain ⟨_, _, e⟩ := hy
     rw [e, wrap_up (show i < N.length by omega) (by omega)]
     refine Tot.prop (fun _ => ih (i + 1) (q + 1) tk cs (by omega) (by omega) (by omega) (by omega) hcs (by omega)) (fun _ => Tot.pos (by omega) (Tot.bind (some_tot Hs (by omega) 2 (by omega)) (fun z hz => ?_)))
     obtain ⟨z1, z2, z3⟩ := hz
     have inner : ∀ (e j : Nat) (q2 : Int) (tk2 has : List ByteArray), j + e = z.1.length → p ≤ q2 → q2 + e + 12 * d ≤ p + 60 → tk2.length ≤ 5 * i + j → has.length ≤ j →
         Tot (fun k => spec_l5Wild.l1 k N tk2 (i : Int) (j : Int) s q2 ts cs (rdOf ByteArray.empty N (i : Int)) has z.1) (fun r => Gd 24 r.1 r.2.1 ∧ p ≤ r.2.2 ∧ r.2.2 ≤ p + 60) := by
       intro e
       induction e with
       | zero =>
         intro j q2 tk2 has hj hq3 hq4 htk2 hh
         refine Tot.step (fun k => spec_l5Wild.l1.eq_2 _ _ _ _ _ _ _ _ _ _ _ k) (Tot.neg (by omega) (Tot.pos (by omega) ?_))
         rw [wrap_up (show i < N.length by omega) (by omega)]
         refine ih (i + 1) q2 tk2 _ (by omega) hq3 (by omega) (by omega) (fun b hb => ?_) ?_
         · rcases List.mem_append.1 hb with h | h
           · exact hcs b h
           · rw [List.mem_singleton.1 h]; dsimp only; omega
         · rw [wMark_append, wMark_cons]; dsimp only; rw [show wMark ([] : List IB) = 0 from rfl]; omega
       | succ e ihe =>
         intro j q2 tk2 has hj hq3 hq4 htk2 hh
         refine Tot.step (fun k => spec_l5Wild.l1.eq_2 _ _ _ _ _ _ _ _ _ _ _ k) (Tot.pos (by omega) (Tot.pos (by omega) (Tot.bindE (spec_l1Has_ev tk2 _ (by omega)) ?_)))
         rw [wrap_up (show j < z.1.length by omega) (by omega)]
         refine Tot.prop (fun _ => ihe (j + 1) q2 tk2 has (by omega) hq3 (by omega) (by omega) (by omega)) (fun _ => Tot.bind (pick_tot Hs (by omega) (by omega) _) (fun u hu => ?_))
         obtain ⟨_, _, e2⟩ := hu
         rw [e2]
         refine Tot.prop (fun _ => Tot.pos (by omega) (Tot.pos (by omega) (ihe (j + 1) (q2 + 1) _ _ (by omega) (by omega) (by omega) (by rw [List.length_append, List.length_singleton]; omega) (by rw [List.length_append, List.length_singleton]; omega)))) (fun _ => ihe (j + 1) (q2 + 1) tk2 has (by omega) (by omega) (by omega) (by omega) (by omega))
     exact inner z.1.length 0 z.2 tk [] (by omega) (by omega) (by omega) (by omega) (by simp)
 exact go 5 0 p [] [] (by omega) (by omega) (by omega) (by simp) (by simp) (by simp [wMark])
theorem book_tot {s : List Int} (Hs : Bs s) {p : Int} (h0 : 0 ≤ p) (h1 : p ≤ 10) : Tot (fun k => spec_l5Book.f k s p) (fun r => Gd 24 r.1 r.2.1 ∧ 0 ≤ r.2.2 ∧ r.2.2 ≤ 5000) := by
 unfold spec_l5Book.f
 refine Tot.bind (base_tot Hs h0 (by omega)) (fun x hx => ?_)
 obtain ⟨x1, _, x3, x4⟩ := hx
 have dd : x.1.length ≤ 5 := x1.length_le
 refine Tot.bind (pick_tot Hs (by omega) (by omega) _) (fun y hy => ?_)
 obtain ⟨_, _, e⟩ := hy
 rw [e]
 refine Tot.prop (fun _ => Tot.bind (wild_tot Hs (by omega) (by omega) dd _) (fun z hz => Tot.ret ?_)) (fun _ => Tot.bind (pick_tot Hs (by omega) (by omega) _) (fun z hz => ?_))
 ·obtain ⟨w1, w2, w3⟩ := hz
  exact ⟨w1, by (try dsimp only); omega, by (try dsimp only); omega⟩
 obtain ⟨z1, z2, z3⟩ := hz
 have z2 := z2 (by omega)
 rw [z3]
 have go : ∀ (d n : Nat) (q : Int) (ts : List ByteArray) (cs : List IB), Gd n ts cs → n + d ≤ 24 → 0 ≤ q → q + 100 * d ≤ 5000 → Tot (fun k => spec_l5Book.l0 k (d : Int) s q ts cs) (fun r => Gd 24 r.1 r.2.1 ∧ 0 ≤ r.2.2 ∧ r.2.2 ≤ 5000) := by
  intro d
  induction d with
  | zero =>
   intro n q ts cs hg hn hq hq2
   exact Tot.step (fun k => spec_l5Book.l0.eq_2 _ _ _ _ _ k) (Tot.neg (by omega) (Tot.ret ⟨hg.weak (by omega), hq, by dsimp only; omega⟩))
  | succ d ih =>
   intro n q ts cs hg hn hq hq2
   have hz := hg.sz (by omega)
   have hcl := wMark_len cs
   refine Tot.step (fun k => spec_l5Book.l0.eq_2 _ _ _ _ _ k) (Tot.pos (by omega) (Tot.bind (does_tot (m := 5 + n) Hs hq (by have := hg.1; omega) hg.2.1 (by omega) (by omega)) (fun y hy => ?_)))
   obtain ⟨y1, y2, y3⟩ := hy
   refine Tot.bind (step_tot hg (by omega) _ _ (by omega)) (fun u hu => ?_)
   rw [show wrap64 (((d + 1 : Nat) : Int) - 1) = (d : Int) from by rw [wrap64_id _ (by omega)]; omega]
   exact ih (n + 1) y.2.2.2 u.1 u.2 hu (by omega) (by omega) (by omega)
 obtain ⟨v, hv⟩ : ∃ v : Nat, z.1 = v := ⟨z.1.toNat, by omega⟩
 rw [hv]
 exact go v 0 _ x.1 [] ⟨dd, by simp, by simp [wMark]⟩ (by omega) (by omega) (by omega)
def Sp (ts : List ByteArray) (bs : List IB) : Prop := ts.length ≤ 6 ∧ wMark bs ≤ 10000
theorem wMark_one {bs : List IB} {i : Nat} (hi : i < bs.length) (x : IB) (c : Nat) (h : x.f1.length + x.f2.length ≤ (gB bs i).f1.length + (gB bs i).f2.length + c) : wMark (bs.set i x) ≤ wMark bs + c := by
 have := wMark_set hi x; omega
theorem spoil_tot {s : List Int} (Hs : Bs s) {p : Int} (h0 : 0 ≤ p) (h1 : p ≤ 900000) {ts : List ByteArray} {bs : List IB} (hg : Gd 24 ts bs) : Tot (fun k => spec_l5Spoil.f k s p ts bs) (fun r => Sp r.1 r.2.1 ∧ 0 ≤ r.2.2 ∧ r.2.2 ≤ p + 10) := by
 have hz := hg.sz (by omega)
 have ht := hg.1
 have hw := hg.2.2
 have hl := wMark_len bs
 unfold spec_l5Spoil.f
 refine Tot.bindE (spec_l1Copy_ev ts bs (ne_Bz hz)) ?_
 have l0 : ∀ (e : Nat) (x7 x8 q : Int) (cs : List IB), x7 ≤ cs.length + e → 0 ≤ q → q ≤ p + 10 → wMark cs + e ≤ 10000 → Tot (fun k => spec_l5Spoil.l0 k x7 x8 s q ts cs) (fun r => Sp r.1 r.2.1 ∧ 0 ≤ r.2.2 ∧ r.2.2 ≤ p + 10) := by
  intro e
  induction e with
  | zero =>
   intro x7 x8 q cs hx hq hq2 hc
   exact Tot.step (fun k => spec_l5Spoil.l0.eq_2 _ _ _ _ _ _ k) (Tot.neg (by omega) (Tot.ret ⟨⟨by dsimp only; omega, by dsimp only; omega⟩, hq, hq2⟩))
  | succ e ih =>
   intro x7 x8 q cs hx hq hq2 hc
   have hcl := wMark_len cs
   refine Tot.step (fun k => spec_l5Spoil.l0.eq_2 _ _ _ _ _ _ k) (Tot.prop (fun _ => Tot.bindE (Ev.ret rfl) (Tot.pos (by simp [strOfNums, ByteArray.size]) (Tot.pos (by omega) ?_))) (fun _ => Tot.ret ⟨⟨by dsimp only; omega, by dsimp only; omega⟩, hq, hq2⟩))
   refine ih x7 _ q _ (by rw [List.length_append, List.length_singleton]; omega) hq hq2 ?_
   rw [wMark_append, wMark_cons, show wMark ([] : List IB) = 0 from rfl]; dsimp only; rw [List.length_nil]; omega
 have j0 : ∀ (b : Bool) (q : Int), (b = false → 0 < bs.length) → 0 ≤ q → q ≤ p + 2 → Tot (fun k => spec_l5Spoil.j0 k b s q ts bs) (fun r => Sp r.1 r.2.1 ∧ 0 ≤ r.2.2 ∧ r.2.2 ≤ p + 10) := by
  intro b q hb hq hq2
  refine Tot.step (fun k => spec_l5Spoil.j0.eq_2 _ _ _ _ _ k) (Tot.prop (fun _ => Tot.bind (of_tot Hs hq (by omega) (by simp)) (fun y hy => Tot.pos (by omega) (Tot.ret ?_))) (fun hbf => ?_))
  ·rw [hy]; exact ⟨⟨by show (ts ++ [_]).length ≤ 6; rw [List.length_append, List.length_singleton]; omega, by show wMark bs ≤ 10000; omega⟩, by show 0 ≤ q + 1; omega, by show q + 1 ≤ p + 10; omega⟩
  ·have hbl := hb (by simpa using hbf)
   refine Tot.bind (pick_tot Hs hq (by omega) _) (fun y hy => ?_)
   obtain ⟨y1, y2, y3⟩ := hy
   have y2 := y2 (by omega)
   rw [y3]
   refine Tot.bind (pick_tot Hs (by omega) (by omega) _) (fun z hz => ?_)
   obtain ⟨_, _, z3⟩ := hz
   rw [z3]
   obtain ⟨i, hi⟩ : ∃ i : Nat, y.1 = i := ⟨y.1.toNat, by omega⟩
   have hil : i < bs.length := by omega
   rw [hi, Int.toNat_natCast, rdB_cast]
   have b1 : (gB bs i).f1.length + (gB bs i).f2.length ≤ wMark bs := by have := wMark_mem (gB_mem hil); omega
   have fin : ∀ (cs : List IB) (q : Int), wMark cs ≤ 10000 → 0 ≤ q → q ≤ p + 10 → Sp ts cs ∧ 0 ≤ q ∧ q ≤ p + 10 := fun cs q h1 h2 h3 => ⟨⟨by omega, h1⟩, h2, h3⟩
   refine Tot.prop (fun _ => Tot.bind (of_tot Hs (by omega) (by omega) (by simp)) (fun u hu => Tot.pos (by omega) (Tot.pos (by omega) (Tot.ret (fin _ u.2 ?_ (by omega) (by omega)))))) (fun _ => ?_)
   ·show wMark (bs.set i _) ≤ 10000
    have := wMark_one hil ⟨u.1, (gB bs i).f1, (gB bs i).f2⟩ 0 (by dsimp only; omega); omega
   refine Tot.prop (fun _ => Tot.pos (by omega) (Tot.pos (by omega) (Tot.bind (of_tot Hs (by omega) (by omega) (by simp)) (fun u hu => Tot.pos (by omega) (Tot.ret (fin _ u.2 ?_ (by omega) (by omega))))))) (fun _ => ?_)
   ·show wMark (bs.set i _) ≤ 10000
    have := wMark_one hil ⟨(gB bs i).f0, (gB bs i).f1, (gB bs i).f2 ++ [u.1]⟩ 1 (by dsimp only; rw [List.length_append, List.length_singleton]; omega); omega
   refine Tot.prop (fun _ => Tot.pos (by omega) (Tot.pos (by omega) (Tot.bind (of_tot Hs (by omega) (by omega) (by simp)) (fun u hu => Tot.pos (by omega) (Tot.ret (fin _ u.2 ?_ (by omega) (by omega))))))) (fun _ => ?_)
   ·show wMark (bs.set i _) ≤ 10000
    have := wMark_one hil ⟨(gB bs i).f0, (gB bs i).f1 ++ [u.1], (gB bs i).f2⟩ 1 (by dsimp only; rw [List.length_append, List.length_singleton]; omega); omega
   refine Tot.prop (fun _ => Tot.pos (by omega) (Tot.pos (by omega) (Tot.pos (by omega) (Tot.ret (fin _ (q + 1 + 1) ?_ (by omega) (by omega)))))) (fun _ => ?_)
   ·show wMark (bs ++ [gB bs i]) ≤ 10000
    rw [wMark_append, wMark_cons, show wMark ([] : List IB) = 0 from rfl]; omega
   refine Tot.bind (pick_tot Hs (by omega) (by omega) _) (fun u hu => ?_)
   obtain ⟨u1, u2, u3⟩ := hu
   have u2 := u2 (by omega)
   exact l0 7 _ _ _ _ (by rw [wrap64_id _ (by omega)]; omega) (by omega) (by omega) (by omega)
 refine Tot.prop (fun _ => j0 true p (by simp) h0 (by omega)) (fun hne => Tot.bind (pick_tot Hs h0 (by omega) _) (fun y hy => ?_))
 have hbl : 0 < bs.length := by have : ¬ ((bs.length : Int) = 0) := hne; omega
 obtain ⟨_, _, e⟩ := hy
 rw [e]
 exact j0 _ (p + 1) (fun _ => hbl) (by omega) (by omega)
theorem any_tot {s : List Int} (Hs : Bs s) : Tot (fun k => spec_l5Any.f k s 0) (fun r => Sp r.1 r.2.1 ∧ 0 ≤ r.2.2 ∧ r.2.2 ≤ 6000) := by
 unfold spec_l5Any.f
 refine Tot.bind (book_tot Hs (by omega) (by omega)) (fun x hx => ?_)
 obtain ⟨x1, x2, x3⟩ := hx
 refine Tot.bind (pick_tot Hs x2 (by omega) _) (fun y hy => ?_)
 obtain ⟨_, _, e⟩ := hy
 rw [e]
 refine Tot.prop (fun _ => Tot.bind (spoil_tot Hs (by omega) (by omega) x1) (fun z hz => Tot.ret ⟨hz.1, hz.2.1, by have := hz.2.2; dsimp only; omega⟩)) (fun _ => Tot.ret ⟨⟨by have := x1.1; dsimp only; omega, by have := x1.2.2; dsimp only; omega⟩, by dsimp only; omega, by dsimp only; omega⟩)
theorem open_tot {l : List Int} (h : ∀ x ∈ l, (Lit.int .u8 x).wf = true) : ∃ s, Bs s ∧ spec_l1Open.f l = some (s, 0) := by
 have hb : Bs l := fun x hx => by
  have := h x hx
  simp only [Lit.wf, Bool.and_eq_true, decide_eq_true_eq] at this
  exact ⟨this.1, this.2⟩
 unfold spec_l1Open.f
 by_cases hc : (l.length : Int) > 2000
 ·rw [if_pos hc, if_pos (by omega)]
  exact ⟨_, fun x hx => hb x (List.mem_of_mem_take hx), rfl⟩
 rw [if_neg hc]; exact ⟨l, hb, rfl⟩
theorem asks_tot {l : List Int} (h : ∀ x ∈ l, (Lit.int .u8 x).wf = true) : Tot (fun k => spec_l5Asks.f k l) (fun r => Sp r.1 r.2.1 ∧ r.2.2.2.length ≤ 10001) := by
 obtain ⟨s, Hs, e⟩ := open_tot h
 unfold spec_l5Asks.f
 refine Tot.bindE (e ▸ Ev.ret rfl) (Tot.bind (any_tot Hs) (fun x hx => ?_))
 obtain ⟨⟨x1, x2⟩, x3, x4⟩ := hx
 have := wMark_len x.2.1
 refine Tot.bind (does_tot (m := 10000) Hs x3 (by omega) (fun b hb => by have := wMark_mem hb; omega) (by omega) (by omega)) (fun y hy => Tot.ret ⟨⟨x1, x2⟩, hy.1⟩)
theorem draw_tot {l : List Int} (h : ∀ x ∈ l, (Lit.int .u8 x).wf = true) : Tot (fun k => (spec_l1Open.f l).bind fun b => (spec_l5Any.f k b.1 b.2).bind fun c => some (c.1, c.2.1)) (fun r => Sp r.1 r.2) := by
 obtain ⟨s, Hs, e⟩ := open_tot h
 exact Tot.bindE (e ▸ Ev.ret rfl) (Tot.bind (any_tot Hs) (fun x hx => Tot.ret hx.1))
theorem filterR_mem {P : Nat → Bool} {n j : Nat} : j ∈ filterR P n 0 ↔ j < n ∧ P j = true := by
 unfold filterR; rw [List.mem_filter, List.mem_range'_1]
 constructor
 ·rintro ⟨h1, h2⟩; exact ⟨by omega, h2⟩
 rintro ⟨h1, h2⟩; exact ⟨by omega, h2⟩
theorem moves_mem {ts : List ByteArray} {bs : List IB} (hb : bookB ts bs = true) {i : Nat} (hi : i < bs.length) : hasS (movesB ts bs) (gB bs i).f0 = canB bs i [] := by
 have ha := book_asc hb
 rw [Bool.eq_iff_iff, hasS_iff]
 unfold movesB movesL
 rw [if_pos hb, List.mem_map]
 constructor
 ·rintro ⟨q, hq, e⟩
  obtain ⟨h1, h2⟩ := filterR_mem.1 hq
  rw [asc_ne ha h1 hi e] at h2; exact h2
 intro h; exact ⟨i, filterR_mem.2 ⟨hi, h⟩, rfl⟩
theorem waits_none {ts : List ByteArray} {bs : List IB} (hb : bookB ts bs = true) {i : Nat} (hi : i < bs.length) : (waitsB ts bs (gB bs i).f0).length = 0 ↔ canB bs i [] = true := by
 have ha := book_asc hb
 have e : waitsB ts bs (gB bs i).f0 = waitsL bs i 0 := by
  unfold waitsB
  rw [atI_at ha hi, Int.toNat_natCast, if_pos (by rw [hb, decide_eq_false (show ¬ (i : Int) < 0 by omega)]; rfl)]
 rw [e, canB_iff]
 unfold waitsL
 rw [List.length_map, List.length_eq_zero_iff]
 constructor
 ·intro h q hq
  by_cases hqi : q = i
  ·exact .inl hqi
  refine .inr (.inr ?_)
  cases hs : shareB (gB bs q).f1 (gB bs i).f2 with
  | false => rfl
  | true =>
   have : q ∈ filterR (fun q => !decide (q = i) && shareB (gB bs q).f1 (gB bs i).f2) bs.length 0 := filterR_mem.2 ⟨hq, by rw [hs, decide_eq_false hqi]; rfl⟩
   rw [h] at this; simp at this
 intro h
 apply List.eq_nil_iff_forall_not_mem.2
 intro q hq
 obtain ⟨h1, h2⟩ := filterR_mem.1 hq
 rw [Bool.and_eq_true, Bool.not_eq_true', decide_eq_false_iff_not] at h2
 rcases h q h1 with h3 | h3 | h3
 ·exact h2.1 h3
 ·simp at h3
 rw [h2.2] at h3; exact absurd h3 (by simp)
theorem stuck_unsafe {ts : List ByteArray} {bs : List IB} (h : stuckB ts bs = true) : safeB ts bs = false := by
 cases hs : safeB ts bs with
 | false => rfl
 | true =>
  exfalso
  obtain ⟨hb, hd⟩ := safe_iff.1 hs
  unfold stuckB at h
  simp only [Bool.and_eq_true, decide_eq_true_eq, List.isEmpty_iff] at h
  obtain ⟨_, h1, h2⟩ := h
  obtain ⟨y, hy, _, hy3⟩ := hd (fun _ => True) ⟨0, h1, trivial⟩
  have hc : canB bs y [] = true := canB_iff.2 fun q hq => by
   rcases hy3 q hq trivial with h | h
   ·exact .inl h
   ·exact .inr (.inr h)
  rw [← moves_mem hb hy, h2] at hc
  simp [hasS] at hc
theorem waits_self {ts : List ByteArray} {bs : List IB} (n : ByteArray) : n ∉ waitsB ts bs n := by
 unfold waitsB
 split
 ·rename_i hc
  rw [Bool.and_eq_true, Bool.not_eq_true', decide_eq_false_iff_not] at hc
  obtain ⟨hb, hc⟩ := hc
  obtain ⟨a, e, h1, h2⟩ := atI_lt hc
  rw [e, Int.toNat_natCast]
  unfold waitsL
  rw [List.mem_map]
  rintro ⟨q, hq, hn⟩
  obtain ⟨h3, h4⟩ := filterR_mem.1 hq
  rw [Bool.and_eq_true, Bool.not_eq_true', decide_eq_false_iff_not] at h4
  exact h4.1 (asc_ne (book_asc hb) h3 h1 (by rw [hn, toList_inj.1 h2]))
 simp
theorem wHas_ev (l : List ByteArray) (s : ByteArray) (hl : l.length ≤ 9223372036854775807) : Ev (fun k => laws_wHas.f k l s) (hasS l s) := by
 unfold laws_wHas.f
 have E := Ev.loopAny (f := fun k i => laws_wHas.l0 k l s (i : Int)) (P := fun j => s.toList == (gS l j).toList) l.length
   (Ev.step (fun k => laws_wHas.l0.eq_2 _ _ _ k) (Ev.neg (by omega) (Ev.ret rfl)))
   (fun i r hi hp H => by
     refine Ev.step (fun k => laws_wHas.l0.eq_2 _ _ _ k) (Ev.pos (by omega) (Ev.pos (by omega) ?_))
     rw [rdS_cast, wrap_up hi hl]
     refine Ev.neg (fun e => ?_) H
     rw [e] at hp; simp at hp)
   (fun i hi hp => by
     refine Ev.step (fun k => laws_wHas.l0.eq_2 _ _ _ k) (Ev.pos (by omega) (Ev.pos (by omega) ?_))
     rw [rdS_cast]
     exact Ev.pos (beq_iff_eq.1 hp).symm (Ev.ret rfl)) 0 (by omega)
 rw [show hasS l s = anyR (fun j => s.toList == (gS l j).toList) l.length 0 from (anyR_list (fun x : ByteArray => s.toList == x.toList) ByteArray.empty l).symm]
 exact E
theorem wTexts_ev (l : List ByteArray) (hl : l.length ≤ 9223372036854775807) : Ev (fun k => laws_wTexts.f k l l) true := by
 unfold laws_wTexts.f
 refine Ev.pos rfl ?_
 refine Ev.loop (f := fun k i => laws_wTexts.l0 k l l (i : Int)) (val := fun _ => true) l.length ?_ ?_ 0 (by omega)
 ·exact Ev.step (fun k => laws_wTexts.l0.eq_2 _ _ _ k) (Ev.neg (by omega) (Ev.ret rfl))
 intro i hi H
 refine Ev.step (fun k => laws_wTexts.l0.eq_2 _ _ _ k) (Ev.pos (by omega) (Ev.pos (by omega) (Ev.pos (by omega) (Ev.pos rfl ?_))))
 rw [wrap_up hi hl]; exact H
theorem Sp.sz {ts : List ByteArray} {bs : List IB} (h : Sp ts bs) : ts.length + wMark bs ≤ 1048576 := by have := h.1; have := h.2; omega
theorem Sp.ts' {ts : List ByteArray} {bs : List IB} (h : Sp ts bs) : ts.length ≤ 9223372036854775807 := by have := h.1; omega
theorem Sp.bs' {ts : List ByteArray} {bs : List IB} (h : Sp ts bs) : bs.length ≤ 9223372036854775807 := by have := h.2; have := wMark_len bs; omega
theorem Sp.bok {ts : List ByteArray} {bs : List IB} (h : Sp ts bs) : Bok bs := (ne_Bz h.sz).bok
theorem Tot.then {α : Type} {g : Nat → Option α} {f : Nat → α → Option Bool} {P : α → Prop} (H : Tot g P) (K : ∀ x, P x → Ev (fun k => f k x) true) : Ev (fun k => (g k).bind fun x => f k x) true := by
 obtain ⟨x, h1, h2⟩ := H
 exact Ev.bind h1 (K x h2)
theorem moves_tot {l : List Int} (h : ∀ x ∈ l, (Lit.int .u8 x).wf = true) : Tot (fun k => spec_DrawShareMoves.f k l) (fun r => Sp r.1 r.2) := by
 unfold spec_DrawShareMoves.f
 exact draw_tot h
theorem waits_tot {l : List Int} (h : ∀ x ∈ l, (Lit.int .u8 x).wf = true) : Tot (fun k => spec_DrawShareWaits.f k l) (fun r => Sp r.1 r.2.1) := by
 unfold spec_DrawShareWaits.f
 exact Tot.bind (asks_tot h) (fun x hx => Tot.ret hx.1)
theorem moves_end {l : List Int} (h : ∀ x ∈ l, (Lit.int .u8 x).wf = true) : Ev (fun k => (spec_DrawShareWaits.f k l).bind fun b => (impl_ShareWaits.f k b.1 b.2.1 b.2.2).bind fun t => laws_FnMoves.l1 k b.2.2 t 0 b.1 b.2.1) true := by
 refine Tot.then (waits_tot h) (fun x hx => ?_)
 obtain ⟨ts, bs, n⟩ := x
 replace hx : Sp ts bs := hx
 refine Ev.bind (impl_ShareWaits_ev ts bs n hx.ts' hx.bs' hx.bok) ?_
 have hl : (waitsB ts bs n).length ≤ 9223372036854775807 := by have := waitsB_len ts bs n; have := hx.bs'; omega
 refine Ev.loop (f := fun k i => laws_FnMoves.l1 k n (waitsB ts bs n) (i : Int) ts bs) (val := fun _ => true) (waitsB ts bs n).length ?_ ?_ 0 (by omega)
 ·refine Ev.step (fun k => laws_FnMoves.l1.eq_2 _ _ _ _ _ k) (Ev.neg (by omega) (Ev.bind (spec_ShareWaits_ev ts bs n hx.ts' hx.bs' hx.bok) (Ev.bind (wTexts_ev _ hl) (Ev.ret rfl))))
 intro i hi H
 refine Ev.step (fun k => laws_FnMoves.l1.eq_2 _ _ _ _ _ k) (Ev.pos (by omega) (Ev.pos (by omega) (Ev.neg (fun e => ?_) ?_)))
 ·rw [rdS_cast, toList_inj, show gS (waitsB ts bs n) i = (waitsB ts bs n)[i] from getD_lt _ _ hi] at e
  have hm := List.getElem_mem hi
  rw [e] at hm
  exact waits_self (ts := ts) (bs := bs) n hm
 rw [wrap_up hi hl]; exact H
theorem moves_loop {ts : List ByteArray} {bs : List IB} (hs : Sp ts bs) {l : List Int} (h : ∀ x ∈ l, (Lit.int .u8 x).wf = true) : Ev (fun k => laws_FnMoves.l0 k l (movesB ts bs) 0 ts bs) true := by
 have hl : (movesB ts bs).length ≤ 9223372036854775807 := by have := movesB_len ts bs; have := hs.bs'; omega
 have fin : ∀ (i : Int), Ev (fun k => laws_FnMoves.j3 k l (movesB ts bs) i false ts bs) true := fun i => Ev.step (fun k => laws_FnMoves.j3.eq_2 _ _ _ _ _ _ k) (Ev.neg (by simp) (moves_end h))
 refine Ev.loop (f := fun k i => laws_FnMoves.l0 k l (movesB ts bs) (i : Int) ts bs) (val := fun _ => true) bs.length ?_ ?_ 0 (by omega)
 ·exact Ev.step (fun k => laws_FnMoves.l0.eq_2 _ _ _ _ _ k) (Ev.neg (by omega) (fin _))
 intro i hi H
 refine Ev.step (fun k => laws_FnMoves.l0.eq_2 _ _ _ _ _ k) (Ev.pos (by omega) (Ev.bind (spec_ShareBookOk_ev ts bs hs.ts' hs.bs' hs.bok) ?_))
 cases hb : bookB ts bs with
 | false => exact fin _
 | true =>
  refine Ev.step (fun k => laws_FnMoves.j3.eq_2 _ _ _ _ _ _ k) (Ev.pos rfl (Ev.pos (by omega) (Ev.pos (by omega) ?_)))
  rw [rdB_cast, wrap_up hi hs.bs']
  refine Ev.bind (wHas_ev _ _ hl) (Ev.bind (impl_ShareWaits_ev ts bs _ hs.ts' hs.bs' hs.bok) ?_)
  rw [moves_mem hb hi]
  refine Ev.neg ?_ H
  have hw := waits_none hb hi
  cases hc : canB bs i [] with
  | true =>
   rw [hc] at hw
   have := hw.2 rfl
   rw [this]; simp
  | false =>
   rw [hc] at hw
   have : ¬ (waitsB ts bs (gB bs i).f0).length = 0 := fun e => by have := hw.1 e; simp at this
   rw [show (((waitsB ts bs (gB bs i).f0).length : Int) == 0) = false from beq_eq_false_iff_ne.2 (by omega)]; simp
theorem FnMoves_pure : laws_FnMoves.Pure := by
 intro l m _ _ hw _ _ hv
 refine Ev.rounds (g := fun k => laws_FnMoves.f k l m) ?_
 have J0 : ∀ b, Ev (fun k => laws_FnMoves.j0 k l m b) true := by
  intro b
  refine Ev.step (fun k => laws_FnMoves.j0.eq_2 _ _ _ k) (Ev.prop (fun _ => Ev.ret rfl) (fun _ => Tot.then (moves_tot hw) (fun x hx => ?_)))
  obtain ⟨ts, bs⟩ := x
  replace hx : Sp ts bs := hx
  have hl : (movesB ts bs).length ≤ 9223372036854775807 := by have := movesB_len ts bs; have := hx.bs'; omega
  refine Ev.bind (impl_ShareMoves_ev ts bs hx.ts' hx.bs' hx.bok) (Ev.bind (spec_ShareMoves_ev ts bs hx.ts' hx.bs' hx.bok) (Ev.bind (wTexts_ev _ hl) (Ev.pos rfl ?_)))
  refine Ev.bind (impl_ShareStuck_ev ts bs hx.ts' hx.bs' hx.bok) (Ev.bind (spec_ShareStuck_ev ts bs hx.ts' hx.bs' hx.bok) (Ev.neg (by simp) (Ev.bind (impl_ShareStuck_ev ts bs hx.ts' hx.bs' hx.bok) ?_)))
  have J1 : Ev (fun k => laws_FnMoves.j1 k m (movesB ts bs) false ts bs) true := Ev.step (fun k => laws_FnMoves.j1.eq_2 _ _ _ _ _ k) (Ev.neg (by simp) (moves_loop hx hv))
  refine Ev.test _ (fun h => Ev.bind (impl_ShareSafe_ev ts bs hx.ts' hx.bs' hx.bok) ?_) (fun _ => J1)
  rw [stuck_unsafe h]; exact J1
 unfold laws_FnMoves.f
 exact Ev.prop (fun _ => J0 _) (fun _ => J0 _)
end Go.Proofs.Ytaofjgnhapnndaa.Q
