/- Texts that the row needs: words on memory and rows, the contracts of the functions it reaches, and the plain lemmas on what they compute. -/
import Derived.Shelf.Sort.Plain
import Derived.Shelf.Slices.In.SortNone2
import Derived.Shelf.Slices.Cells
import Derived.Shelf.Bodies
import Derived.Ground.NamesProg
import Derived.Test.YtaofjgnhapnndaaXklam
open Go.Proofs.YtaofjgnhapnndaaFkl
namespace Go.Proofs.Ytaofjgnhapnndaa.Q
open Go.RowKit Go.Proofs.YtaofjgnhapnndaaW.PrintWords Go.Proofs.YtaofjgnhapnndaaW.PrintLast Go.Proofs.YtaofjgnhapnndaaW.PrintMore
set_option linter.unusedVariables false
set_option linter.unusedSimpArgs false
def insL (a : ByteArray) : List ByteArray → List ByteArray
  | [] => [a]
  | x :: t => if Op.bytesLess x.toList a.toList = true then x :: insL a t else if x.toList == a.toList then x :: t else a :: x :: t
def AscS (l : List ByteArray) : Prop := l.Pairwise fun a b => Op.bytesLess a.toList b.toList = true
def uL (has things : List ByteArray) : List ByteArray := things.foldl (fun h a => insL a h) has
theorem WO (a : ByteArray) : ∀ l : List ByteArray, insF a l = true → insL a l = l
  | [], h => by cases h
  | x :: t, h => by
    unfold insF at h
    unfold insL
    by_cases hc : Op.bytesLess x.toList a.toList = true
    · rw [if_pos hc] at h ⊢
      rw [WO a t h]
    · rw [if_neg hc] at h ⊢
      rw [if_pos h]
theorem Ch (a : ByteArray) : ∀ l : List ByteArray, (insL a l).length ≤ l.length + 1
  | [] => by simp [insL]
  | x :: t => by
    unfold insL
    have := Ch a t
    split
    · simp only [List.length_cons]; omega
    · split <;> simp only [List.length_cons] <;> omega
theorem MQ : ∀ (things has : List ByteArray), (uL has things).length ≤ has.length + things.length
  | [], has => by simp [uL]
  | a :: t, has => by
    have h1 := MQ t (insL a has)
    have h2 := Ch a has
    show (uL (insL a has) t).length ≤ _
    simp only [List.length_cons]; omega
theorem Ce (has l : List ByteArray) (a : ByteArray) : uL has (l ++ [a]) = insL a (uL has l) := by
 unfold uL; rw [List.foldl_append]; rfl
theorem Mf {l all : List ByteArray} (h : lV l all = true) : AscS l := by
 unfold lV at h
 have hall := (vE _ _ _).1 h
 have hstep : ∀ i (hi : i + 1 < l.length), Op.bytesLess (l[i]'(by omega)).toList l[i + 1].toList = true := by
  intro i hi
  have q := hall (i + 1) (by omega) hi
  unfold AY at q
  simp only [Bool.and_eq_true, Bool.or_eq_true, decide_eq_true_eq] at q
  rcases q.2 with q3 | q3
  ·omega
  ·unfold ltB gS at q3
   rw [getD_lt l _ (show i + 1 - 1 < l.length by omega), getD_lt l _ hi] at q3
   exact q3
 unfold AscS
 rw [List.pairwise_iff_getElem]
 have go : ∀ (d i : Nat) (hd : i + d + 1 < l.length), Op.bytesLess (l[i]'(by omega)).toList (l[i + d + 1]'hd).toList = true := by
  intro d
  induction d with
  | zero => intro i hd; exact hstep i hd
  | succ d ih => intro i hd; exact NK (ih i (by omega)) (hstep (i + d + 1) (by omega))
 intro i j hi hj hij
 have := go (j - i - 1) i (by omega)
 simpa only [show i + (j - i - 1) + 1 = j by omega] using this
def yI (ts : List ByteArray) (bs : List IB) (n : ByteArray) : List ByteArray × List IB × Int :=
  if rU ts bs = true then (if atI bs n < 0 then (ts, bs, 3) else (ts, bs.eraseIdx (atI bs n).toNat, 0)) else ([], [], 1)
theorem CR (bs : List IB) (n : ByteArray) (h : ¬ atI bs n < 0) : ∃ i : Nat, atI bs n = (i : Int) ∧ i < bs.length := by
 unfold atI idxI at h ⊢
 cases hf : D7 (fun i => (fun s => s.toList == n.toList) (gB bs i).f0) bs.length 0 with
 | none => rw [hf] at h; simp at h
 | some i => exact ⟨i, by simp, (TY hf).2.1⟩
theorem K3 : ∀ (bs : List IB) (i : Nat), iZ (bs.eraseIdx i) ≤ iZ bs
  | [], i => by simp
  | b :: r, 0 => by rw [List.eraseIdx_zero, List.tail_cons, sK]; omega
  | b :: r, i + 1 => by have := K3 r i; rw [List.eraseIdx_cons_succ, sK, sK]; omega
theorem Si {ts : List ByteArray} {bs : List IB} (n : ByteArray) (h : Bz ts bs) : Bz (yI ts bs n).1 (yI ts bs n).2.1 := by
 unfold yI
 split
 ·split
  ·exact h
  have := K3 bs (atI bs n).toNat
  unfold Bz at h ⊢; dsimp only; omega
 exact Bz.nil
theorem DU (ts : List ByteArray) (bs : List IB) (n : ByteArray) (h : Bz ts bs) : Ev (fun k => fV.f k ts bs n) (yI ts bs n) := by
 have hl := h.bs
 unfold fV.f yI
 refine Ev.bind (pJ ts bs (by have := h.ts; omega) (by omega) h.bok) (Ev.test _ (fun hb => ?_) (fun hb => Ev.ret (by simp [hb])))
 rw [if_pos hb]
 refine Ev.bind (lX ts bs h) (Ev.bind (yO ts bs n (by omega)) ?_)
 refine Ev.prop (fun hc => Ev.ret (by rw [if_pos hc])) (fun hc => ?_)
 rw [if_neg hc]
 obtain ⟨i, e, hi⟩ := CR bs n hc
 rw [e, Int.toNat_natCast, jZ hi (by omega)]
 dsimp only
 refine Ev.bind (Ev.ret rfl) (Ev.pos (by omega) (Ev.pos (by omega) (Ev.bind (Ev.ret rfl) (Ev.pos (by simp only [List.length_nil, List.length_take]; omega) (Ev.bind (Ev.ret rfl) (Ev.pos (by omega) (Ev.pos (by omega) (Ev.bind (Ev.ret rfl) (Ev.pos (by simp only [List.nil_append, List.length_take, List.length_drop]; omega) (Ev.ret ?_))))))))))
 rw [List.nil_append, Int.toNat_natCast, List.eraseIdx_eq_take_drop_succ]
theorem MO (ts : List ByteArray) (bs : List IB) (n : ByteArray) (h : Bz ts bs) : Ev (fun k => oZ.f k ts bs n) (yI ts bs n) := by
 have hl := h.bs
 unfold oZ.f yI
 refine Ev.bind (sS ts bs (by have := h.ts; omega) (by omega) h.bok) (Ev.test _ (fun hb => ?_) (fun hb => Ev.ret (by simp [hb])))
 rw [if_pos hb]
 refine Ev.bind (zM ts bs h) (Ev.bind (Ev.ret (s := atI bs n) rfl) ?_)
 refine Ev.prop (fun hc => Ev.ret (by rw [if_pos hc])) (fun hc => ?_)
 rw [if_neg hc]
 obtain ⟨i, e, hi⟩ := CR bs n hc
 rw [e, Int.toNat_natCast]
 exact Ev.pos ⟨hi, by dsimp only; omega⟩ (Ev.ret rfl)
def setN (bs : List IB) (i : Nat) (h n : List ByteArray) : List IB := bs.set i ⟨(gB bs i).f0, h, n⟩
def EI (ts : List ByteArray) (bs : List IB) (n : ByteArray) (needs : List ByteArray) : List ByteArray × List IB × Int :=
  if rU ts bs = true then
    (if atI bs n < 0 then (ts, bs, 3) else if lV needs (gB bs (atI bs n).toNat).f2 = true then (ts, setN bs (atI bs n).toNat ((gB bs (atI bs n).toNat).f1.filter (hasS needs)) needs, 0) else (ts, bs, 2))
  else ([], [], 1)
theorem QH {bs : List IB} {i : Nat} (hi : i < bs.length) (x : IB) : iZ (bs.set i x) + (1 + (gB bs i).f1.length + (gB bs i).f2.length) = iZ bs + (1 + x.f1.length + x.f2.length) := by
 have e := List.set_eq_take_append_cons_drop (l := bs) (i := i) (a := x)
 rw [if_pos hi] at e
 have e2 : bs = bs.take i ++ gB bs i :: bs.drop (i + 1) := by
  have := List.drop_eq_getElem_cons hi
  unfold gB; rw [getD_lt bs _ hi, ← this, List.take_append_drop]
 have e3 : iZ bs = iZ (bs.take i) + (1 + (gB bs i).f1.length + (gB bs i).f2.length + iZ (bs.drop (i + 1))) := by
  rw [← sK, ← uC, ← e2]
 rw [e, uC, sK, e3]; omega
theorem TW (p : ByteArray → Bool) (l : List ByteArray) : (l.filter p).length ≤ l.length := List.length_filter_le p l
theorem Gg {bs : List IB} {i : Nat} (hi : i < bs.length) (p : ByteArray → Bool) (needs : List ByteArray) : iZ (setN bs i ((gB bs i).f1.filter p) needs) ≤ iZ bs + needs.length := by
 have := QH hi ⟨(gB bs i).f0, (gB bs i).f1.filter p, needs⟩
 have h2 := TW p (gB bs i).f1
 unfold setN; simp only at this; omega
theorem Yh {ts : List ByteArray} {bs : List IB} (n : ByteArray) {needs : List ByteArray} (h : ts.length + iZ bs ≤ 1048576) (hn : needs.length ≤ 1048576) : Bz (EI ts bs n needs).1 (EI ts bs n needs).2.1 := by
 unfold EI
 split
 ·split
  ·exact yX h
  rename_i hc
  obtain ⟨i, e, hi⟩ := CR bs n hc
  rw [e, Int.toNat_natCast]
  split
  ·have := Gg hi (hasS needs) needs
   unfold Bz; dsimp only; omega
  exact yX h
 exact Bz.nil
theorem Bt {l : List ByteArray} (p : ByteArray → Bool) {i : Nat} (h : i < l.length) : (l.take (i + 1)).filter p = (l.take i).filter p ++ (if p l[i] = true then [l[i]] else []) := by
 rw [List.take_succ_eq_append_getElem h, List.filter_append]
 cases hp : p l[i] <;> simp [hp]
theorem EP (ts : List ByteArray) (bs : List IB) (n : ByteArray) (needs : List ByteArray) (h : ts.length + iZ bs ≤ 1048576) (hn : needs.length ≤ 1048576) : Ev (fun k => eD.f k ts bs n needs) (EI ts bs n needs) := by
 have hz := yX h
 have hl := hz.bs
 unfold eD.f EI
 refine Ev.bind (pJ ts bs (by have := hz.ts; omega) (by omega) hz.bok) (Ev.test _ (fun hb => ?_) (fun hb => Ev.ret (by simp [hb])))
 rw [if_pos hb]
 refine Ev.bind (lX ts bs hz) (Ev.bind (yO ts bs n (by omega)) ?_)
 refine Ev.prop (fun hc => Ev.ret (by rw [if_pos hc])) (fun hc => ?_)
 rw [if_neg hc]
 obtain ⟨i, e, hi⟩ := CR bs n hc
 rw [e, Int.toNat_natCast]
 have hii := hz.at_ hi
 dsimp only
 refine Ev.pos (by omega) (Ev.pos (by omega) ?_)
 rw [jF]
 refine Ev.bind (sD needs _ (by omega) (by omega)) (Ev.test _ (fun ht => ?_) (fun ht => Ev.ret (by simp [ht])))
 rw [if_pos ht]
 have go : ∀ (d j : Nat), (gB bs i).f1.length - j = d → j ≤ (gB bs i).f1.length → Ev (fun k => eD.l0 k needs (i : Int) (((gB bs i).f1.take j).filter (hasS needs)) (j : Int) ts bs ts bs) (ts, setN bs i ((gB bs i).f1.filter (hasS needs)) needs, 0) := by
  intro d
  induction d with
  | zero =>
   intro j hd hj
   have hje : j = (gB bs i).f1.length := by omega
   refine Ev.step (fun k => eD.l0.eq_2 _ _ _ _ _ _ _ _ k) (Ev.pos (by omega) (Ev.pos (by omega) ?_))
   rw [jF]
   refine Ev.neg (by omega) (Ev.bind (zN needs (by omega)) (Ev.pos (by omega) (Ev.bind (Ev.ret rfl) ?_)))
   have hset : ((bs.set i (⟨(gB bs i).f0, (gB bs i).f1, needs⟩ : IB)).set i ⟨(gB bs i).f0, (gB bs i).f1.filter (hasS needs), needs⟩) = setN bs i ((gB bs i).f1.filter (hasS needs)) needs := by rw [List.set_set]; rfl
   have hrd : aA (bs.set i (⟨(gB bs i).f0, (gB bs i).f1, needs⟩ : IB)) (i : Int) = ⟨(gB bs i).f0, (gB bs i).f1, needs⟩ := by
    unfold aA
    rw [Int.toNat_natCast, List.getD_eq_getElem?_getD, List.getElem?_set_self hi]; rfl
   rw [Int.toNat_natCast, hrd, List.take_of_length_le (by omega), hset]
   have hw := Gg hi (hasS needs) needs
   exact Ev.bind (lX ts _ (by unfold Bz; omega)) (Ev.ret rfl)
  | succ d ih =>
   intro j hd hj
   have hlt : j < (gB bs i).f1.length := by omega
   refine Ev.step (fun k => eD.l0.eq_2 _ _ _ _ _ _ _ _ k) (Ev.pos (by omega) (Ev.pos (by omega) ?_))
   rw [jF]
   refine Ev.pos (by omega) (Ev.pos (by omega) ?_)
   rw [pI, show gS (gB bs i).f1 j = (gB bs i).f1[j] from getD_lt _ _ hlt, jZ hlt (by omega)]
   have := ih (j + 1) (by omega) (by omega)
   rw [Bt _ hlt] at this
   refine Ev.bind (qB needs _ (by omega)) (Ev.test _ (fun hp => Ev.pos ?_ ?_) (fun hp => ?_))
   ·have := TW (hasS needs) ((gB bs i).f1.take j); rw [List.length_take] at this; omega
   ·rw [if_pos hp] at this; exact this
   ·rw [if_neg (by simp [hp]), List.append_nil] at this; exact this
 have := go (gB bs i).f1.length 0 (by omega) (by omega)
 exact this
theorem OL (ts : List ByteArray) (bs : List IB) (n : ByteArray) (needs : List ByteArray) (h : ts.length + iZ bs ≤ 1048576) (hn : needs.length ≤ 1048576) : Ev (fun k => qL.f k ts bs n needs) (EI ts bs n needs) := by
 have hz := yX h
 have hl := hz.bs
 unfold qL.f EI
 refine Ev.bind (sS ts bs (by have := hz.ts; omega) (by omega) hz.bok) (Ev.test _ (fun hb => ?_) (fun hb => Ev.ret (by simp [hb])))
 rw [if_pos hb]
 refine Ev.bind (zM ts bs hz) (Ev.bind (Ev.ret (s := atI bs n) rfl) ?_)
 refine Ev.prop (fun hc => Ev.ret (by rw [if_pos hc])) (fun hc => ?_)
 rw [if_neg hc]
 obtain ⟨i, e, hi⟩ := CR bs n hc
 rw [e, Int.toNat_natCast]
 have hii := hz.at_ hi
 refine Ev.pos ⟨by omega, by dsimp only; omega⟩ ?_
 rw [jF]
 refine Ev.bind (DD needs _ (by omega) (by omega)) (Ev.test _ (fun ht => ?_) (fun ht => Ev.ret (by simp [ht])))
 rw [if_pos ht]
 dsimp only
 exact Ev.bind (JH needs (by omega)) (Ev.ret (by simp [setN]))
def UG (bs : List IB) (at_ : Nat) (things : List ByteArray) (q : Nat) : Bool := !decide (q = at_) && pQ (gB bs q).f1 things
def Tw (bs : List IB) (at_ : Nat) (things : List ByteArray) : Bool := anyR (UG bs at_ things) bs.length 0
def R3 (bs : List IB) (i : Nat) (things : List ByteArray) : List IB := setN bs i (uL (gB bs i).f1 things) (gB bs i).f2
def askB (ts : List ByteArray) (bs : List IB) (n : ByteArray) (things : List ByteArray) : List ByteArray × List IB × Int :=
  if rU ts bs = true then
    (if atI bs n < 0 then (ts, bs, 3) else if lV things (gB bs (atI bs n).toNat).f2 = true then
      (if Tw bs (atI bs n).toNat things = true then (ts, bs, 5) else if (DR ts bs && !DR ts (R3 bs (atI bs n).toNat things)) = true then (ts, bs, 6) else (ts, R3 bs (atI bs n).toNat things, 0)) else (ts, bs, 2))
  else ([], [], 1)
theorem Jc {bs : List IB} {i : Nat} (hi : i < bs.length) (things : List ByteArray) : iZ (R3 bs i things) ≤ iZ bs + things.length := by
 have h1 := QH hi ⟨(gB bs i).f0, uL (gB bs i).f1 things, (gB bs i).f2⟩
 have h2 := MQ things (gB bs i).f1
 unfold R3 setN; simp only at h1; omega
theorem Xl {ts : List ByteArray} {bs : List IB} {i : Nat} (hi : i < bs.length) {things : List ByteArray} (h : ts.length + iZ bs ≤ 1048576) (hn : things.length ≤ 1048576) : Bz ts (R3 bs i things) := by
 have := Jc hi things
 unfold Bz; omega
theorem Ck (l : List ByteArray) (a : ByteArray) (hl : l.length ≤ 67108864) (hf : insF a l = false) : Ev (fun k => dD.f k l a) (insL a l) := by
 unfold dD.f
 have go : ∀ (d i : Nat), l.length - i = d → i ≤ l.length → insF a (l.drop i) = false → Ev (fun k => dD.l0 k l a (i : Int)) (l.take i ++ insL a (l.drop i)) := by
  intro d
  induction d with
  | zero =>
   intro i hd hi _
   have hie : i = l.length := by omega
   refine Ev.step (fun k => dD.l0.eq_2 _ _ _ k) (Ev.neg (by omega) ?_)
   refine Ev.bind (Ev.ret rfl) (Ev.pos (by omega) (Ev.pos (by omega) ?_))
   rw [Int.toNat_natCast]
   refine Ev.pos (by simp only [List.length_nil, List.length_take]; omega) (Ev.bind (Ev.ret rfl) (Ev.bind (Ev.ret rfl) ?_))
   refine Ev.pos (by simp only [List.nil_append, List.length_take, List.length_cons, List.length_nil]; omega) (Ev.bind (Ev.ret rfl) (Ev.pos (by simp only [List.nil_append, List.length_append, List.length_take, List.length_drop, List.length_cons, List.length_nil]; omega) (Ev.ret ?_)))
   rw [hie, List.drop_eq_nil_of_le (Nat.le_refl _), List.nil_append, List.append_nil]; rfl
  | succ d ih =>
   intro i hd hi hf
   have hlt : i < l.length := by omega
   rw [List.drop_eq_getElem_cons hlt] at hf ⊢
   unfold insF at hf
   unfold insL
   refine Ev.step (fun k => dD.l0.eq_2 _ _ _ k) (Ev.pos (by omega) (Ev.pos (by omega) ?_))
   rw [pI, show gS l i = l[i] from getD_lt _ _ hlt, jZ hlt (by omega)]
   refine Ev.prop (fun hp => ?_) (fun hp => ?_)
   ·rw [if_pos hp] at hf
    rw [show (if Op.bytesLess l[i].toList a.toList = true then l[i] :: insL a (l.drop (i + 1)) else if (l[i].toList == a.toList) = true then l[i] :: l.drop (i + 1) else a :: l[i] :: l.drop (i + 1)) = l[i] :: insL a (l.drop (i + 1)) from if_pos hp]
    have := ih (i + 1) (by omega) (by omega) hf
    rw [List.take_succ_eq_append_getElem hlt, List.append_assoc] at this
    exact this
   ·rw [if_neg hp] at hf
    have hres : (if Op.bytesLess l[i].toList a.toList = true then l[i] :: insL a (l.drop (i + 1)) else if (l[i].toList == a.toList) = true then l[i] :: l.drop (i + 1) else a :: l[i] :: l.drop (i + 1)) = a :: l[i] :: l.drop (i + 1) := by
     rw [if_neg hp, if_neg (by rw [hf]; simp)]
    rw [hres]
    refine Ev.neg (by simpa using hf) ?_
    refine Ev.bind (Ev.ret rfl) (Ev.pos (by omega) ?_)
    rw [Int.toNat_natCast]
    refine Ev.pos (by simp only [List.length_nil, List.length_take]; omega) (Ev.bind (Ev.ret rfl) (Ev.bind (Ev.ret rfl) ?_))
    refine Ev.pos (by simp only [List.nil_append, List.length_take, List.length_cons, List.length_nil]; omega) (Ev.bind (Ev.ret rfl) (Ev.pos (by simp only [List.nil_append, List.length_append, List.length_take, List.length_drop, List.length_cons, List.length_nil]; omega) (Ev.ret ?_)))
    rw [List.nil_append, List.append_assoc, List.drop_eq_getElem_cons hlt]; rfl
 have := go l.length 0 (by omega) (by omega) hf
 exact this
theorem RV (ts : List ByteArray) (bs : List IB) (at_ : Nat) (things : List ByteArray) (h : Bz ts bs) (hn : things.length ≤ 1048576) : Ev (fun k => iU.f k ts bs (at_ : Int) things) (Tw bs at_ things) := by
 have hl := h.bs
 unfold iU.f
 refine Ev.loop (f := fun k i => iU.l0 k (at_ : Int) things (i : Int) ts bs) (val := anyR (UG bs at_ things) bs.length) bs.length ?_ ?_ 0 (by omega)
 ·rw [Ay]
  refine Ev.step (fun k => iU.l0.eq_2 _ _ _ _ _ k) ?_
  exact Ev.neg (by omega) (Ev.ret rfl)
 intro i hi H
 rw [WB _ hi]
 refine Ev.step (fun k => iU.l0.eq_2 _ _ _ _ _ k) (Ev.pos (by omega) ?_)
 rw [jZ hi (by omega), jF]
 refine Ev.prop (fun e => Ev.sub H (by simp [UG, show i = at_ by omega])) (fun e => Ev.pos (by omega) (Ev.bind (BC _ _ (by have := h.at_ hi; omega) (by omega)) ?_))
 have hne : decide (i = at_) = false := decide_eq_false (by omega)
 refine Ev.test _ (fun h2 => Ev.ret (by simp [UG, h2, hne])) (fun h2 => Ev.sub H (by simp [UG, h2]))
theorem Yv {bs : List IB} {i : Nat} (hi : i < bs.length) (h n : List ByteArray) : gB (setN bs i h n) i = ⟨(gB bs i).f0, h, n⟩ := by
 unfold setN gB
 rw [List.getD_eq_getElem?_getD, List.getElem?_set_self hi]; rfl
theorem QC (ts : List ByteArray) (bs : List IB) (n : ByteArray) (things : List ByteArray) (h : ts.length + iZ bs ≤ 1048576) (hn : things.length ≤ 1048576) : Ev (fun k => fC.f k ts bs n things) (askB ts bs n things) := by
 have hz := yX h
 have hl := hz.bs
 have ht := hz.ts
 unfold fC.f askB
 refine Ev.bind (pJ ts bs (by omega) (by omega) hz.bok) (Ev.test _ (fun hb => ?_) (fun hb => Ev.ret (by simp [hb])))
 rw [if_pos hb]
 refine Ev.bind (lX ts bs hz) (Ev.bind (yO ts bs n (by omega)) ?_)
 refine Ev.prop (fun hc => Ev.ret (by rw [if_pos hc])) (fun hc => ?_)
 rw [if_neg hc]
 obtain ⟨i, e, hi⟩ := CR bs n hc
 rw [e, Int.toNat_natCast]
 have hii := hz.at_ hi
 dsimp only
 refine Ev.pos (by omega) (Ev.pos (by omega) ?_)
 rw [jF]
 refine Ev.bind (sD things _ (by omega) (by omega)) (Ev.test _ (fun hq => ?_) (fun hq => Ev.ret (by simp [hq])))
 rw [if_pos hq]
 refine Ev.bind (RV ts bs i things hz hn) (Ev.test _ (fun hk => Ev.ret (by simp [hk])) (fun hk => ?_))
 rw [if_neg (by simp [hk])]
 refine Ev.bind (lX ts bs hz) ?_
 dsimp only
 have hself : setN bs i (uL (gB bs i).f1 (things.take 0)) (gB bs i).f2 = bs := by
  unfold setN uL
  rw [List.take_zero, List.foldl_nil]
  refine List.ext_getElem (by rw [List.length_set]) fun j h1 h2 => ?_
  rw [List.getElem_set]
  by_cases hj : i = j
  ·subst hj; rw [if_pos rfl]; unfold gB; rw [getD_lt bs _ hi]
  ·rw [if_neg hj]
 have go : ∀ (d j : Nat), things.length - j = d → j ≤ things.length → Ev (fun k => fC.l0 k things (i : Int) (j : Int) ts bs ts bs ts (setN bs i (uL (gB bs i).f1 (things.take j)) (gB bs i).f2)) (if (DR ts bs && !DR ts (R3 bs i things)) = true then (ts, bs, 6) else (ts, R3 bs i things, 0)) := by
  intro d
  induction d with
  | zero =>
   intro j hd hj
   rw [List.take_of_length_le (by omega), show setN bs i (uL (gB bs i).f1 things) (gB bs i).f2 = R3 bs i things from rfl]
   have hg := Xl hi h hn
   have hgl := hg.bs
   refine Ev.step (fun k => fC.l0.eq_2 _ _ _ _ _ _ _ _ _ k) (Ev.neg (by omega) (Ev.bind (EQ ts bs (by omega) (by omega) hz.bok) ?_))
   refine Ev.test _ (fun h1 => ?_) (fun h1 => ?_)
   ·refine Ev.bind (EQ ts _ (by omega) (by omega) hg.bok) (Ev.test _ (fun h2 => ?_) (fun h2 => Ev.ret (by simp [h1, h2])))
    exact Ev.bind (lX ts _ hg) (Ev.ret (by simp [h1, h2]))
   ·exact Ev.bind (lX ts _ hg) (Ev.ret (by simp [h1]))
  | succ d ih =>
   intro j hd hj
   have hlt : j < things.length := by omega
   have hsn : uL (gB bs i).f1 (things.take (j + 1)) = insL things[j] (uL (gB bs i).f1 (things.take j)) := by
    rw [List.take_succ_eq_append_getElem hlt, Ce]
   have hlen : (setN bs i (uL (gB bs i).f1 (things.take j)) (gB bs i).f2).length = bs.length := by unfold setN; rw [List.length_set]
   have hil := MQ (things.take j) (gB bs i).f1
   rw [List.length_take] at hil
   have next := ih (j + 1) (by omega) (by omega)
   refine Ev.step (fun k => fC.l0.eq_2 _ _ _ _ _ _ _ _ _ k) (Ev.pos (by omega) (Ev.pos (by omega) (Ev.pos (by rw [hlen]; omega) (Ev.pos (by omega) ?_))))
   rw [jF, Yv hi, pI, show gS things j = things[j] from getD_lt _ _ hlt, jZ hlt (by omega)]
   dsimp only
   refine Ev.test _ (fun hf => ?_) (fun hf => ?_)
   ·rw [hsn, WO _ _ hf] at next
    exact next
   ·refine Ev.bind (Ck _ _ (by omega) hf) ?_
    rw [Int.toNat_natCast]
    have e2 : (setN bs i (uL (gB bs i).f1 (things.take j)) (gB bs i).f2).set i ⟨(gB bs i).f0, insL things[j] (uL (gB bs i).f1 (things.take j)), (gB bs i).f2⟩ = setN bs i (uL (gB bs i).f1 (things.take (j + 1))) (gB bs i).f2 := by
     rw [hsn]; unfold setN; rw [List.set_set]
    rw [e2]
    exact next
 have := go things.length 0 (by omega) (by omega)
 rw [hself] at this
 exact this
def Tot {α : Type} (g : Nat → Option α) (P : α → Prop) : Prop := ∃ r, Ev g r ∧ P r
theorem Tot.ret {α : Type} {r : α} {P : α → Prop} (h : P r) : Tot (fun _ => some r) P := ⟨r, Ev.ret rfl, h⟩
theorem Tot.bind {α β : Type} {g : Nat → Option α} {f : Nat → α → Option β} {P : α → Prop} {Q : β → Prop} (H : Tot g P) (K : ∀ x, P x → Tot (fun k => f k x) Q) : Tot (fun k => (g k).bind fun x => f k x) Q := by
 obtain ⟨x, h1, h2⟩ := H
 obtain ⟨y, h3, h4⟩ := K x h2
 exact ⟨y, Ev.bind h1 h3, h4⟩
theorem Tot.FW {α β : Type} {g : Nat → Option α} {f : Nat → α → Option β} {r : α} {Q : β → Prop} (H : Ev g r) (K : Tot (fun k => f k r) Q) : Tot (fun k => (g k).bind fun x => f k x) Q := by
 obtain ⟨y, h3, h4⟩ := K
 exact ⟨y, Ev.bind H h3, h4⟩
theorem Tot.pos {α : Type} {c : Prop} [Decidable c] {a b : Nat → Option α} {P : α → Prop} (h : c) (H : Tot a P) : Tot (fun k => if c then a k else b k) P := by
 obtain ⟨r, h1, h2⟩ := H; exact ⟨r, Ev.pos h h1, h2⟩
theorem Tot.neg {α : Type} {c : Prop} [Decidable c] {a b : Nat → Option α} {P : α → Prop} (h : ¬ c) (H : Tot b P) : Tot (fun k => if c then a k else b k) P := by
 obtain ⟨r, h1, h2⟩ := H; exact ⟨r, Ev.neg h h1, h2⟩
theorem Tot.prop {α : Type} {c : Prop} [Decidable c] {a b : Nat → Option α} {P : α → Prop} (H1 : c → Tot a P) (H2 : ¬ c → Tot b P) : Tot (fun k => if c then a k else b k) P := by
 by_cases h : c
 ·exact Tot.pos h (H1 h)
 exact Tot.neg h (H2 h)
theorem Tot.weak {α : Type} {g : Nat → Option α} {P Q : α → Prop} (H : Tot g P) (h : ∀ x, P x → Q x) : Tot g Q := by
 obtain ⟨r, h1, h2⟩ := H; exact ⟨r, h1, h r h2⟩
theorem Tot.step {α : Type} {f g : Nat → Option α} {P : α → Prop} (e : ∀ k, f (k + 1) = g k) (H : Tot g P) : Tot f P := by
 obtain ⟨r, h1, h2⟩ := H; exact ⟨r, Ev.step e h1, h2⟩
theorem Tot.sub {α : Type} {f g : Nat → Option α} {P : α → Prop} (e : f = g) (H : Tot g P) : Tot f P := e ▸ H
def Bs (s : List Int) : Prop := ∀ x ∈ s, 0 ≤ x ∧ x ≤ 255
theorem ZU {s : List Int} (h : Bs s) (i : Int) : 0 ≤ rd s i ∧ rd s i ≤ 255 := by
 unfold rd
 rw [List.getD_eq_getElem?_getD]
 cases hx : s[i.toNat]? with
 | none => simp
 | some x => exact h x (List.mem_of_getElem? hx)
theorem ui {x y : Int} (hx : 0 ≤ x) (Nb : x < 9223372036854775808) (hy : 0 ≤ y) (hy2 : y < 9223372036854775808) : 0 ≤ Go.bits .xor .i64 x y := by
 have e : ∀ z : Int, 0 ≤ z → z < 9223372036854775808 → (BitVec.ofInt 64 z).toNat < 2 ^ 63 := by
  intro z h1 h2
  rw [BitVec.toNat_ofInt]
  omega
 have hlt : (BitVec.ofInt 64 x ^^^ BitVec.ofInt 64 y).toNat < 2 ^ 63 := by
  rw [BitVec.toNat_xor]
  exact Nat.xor_lt_two_pow (e x hx Nb) (e y hy hy2)
 have : Go.bits .xor .i64 x y = wrap64 ((BitVec.ofInt 64 x ^^^ BitVec.ofInt 64 y).toNat : Int) := by
  rw [← q8]; rfl
 rw [this, kV _ (by omega)]
 omega
theorem oG {s : List Int} (Hs : Bs s) {p : Int} (h0 : 0 ≤ p) (h1 : p ≤ 1000000) (n : Int) : Tot (fun k => bN.f k s p n) (fun r => 0 ≤ r.1 ∧ (0 < n → r.1 < n) ∧ r.2 = p + 1) := by
 unfold bN.f
 rw [kV (p + 1) (by omega)]
 have quick : Tot (fun k => bN.j0 k n true s (p + 1)) (fun r => 0 ≤ r.1 ∧ (0 < n → r.1 < n) ∧ r.2 = p + 1) :=
   Tot.step (fun k => bN.j0.eq_2 _ _ _ _ k) (Tot.pos rfl (Tot.ret ⟨Int.le_refl _, fun h => h, rfl⟩))
 refine Tot.prop (fun _ => quick) (fun hn => ?_)
 by_cases hl : s.length = 0
 ·rw [show ((s.length : Int) == 0) = true from beq_iff_eq.2 (by omega)]; exact quick
 rw [show ((s.length : Int) == 0) = false from beq_eq_false_iff_ne.2 (by omega)]
 refine Tot.step (fun k => bN.j0.eq_2 _ _ _ _ k) (Tot.neg (by simp) ?_)
 rw [show wrap64 (p + 1 - 1) = p from by unfold wrap64; omega]
 refine Tot.prop (fun hq => Tot.pos h0 (Tot.neg (by omega) (Tot.ret ?_))) (fun hq => Tot.neg (by omega) ?_)
 ·obtain ⟨b1, b2⟩ := ZU Hs p
  rw [kV _ (by omega)]
  exact ⟨Int.tmod_nonneg _ b1, fun h => Int.tmod_lt_of_pos _ h, rfl⟩
 have hlen : (0 : Int) < (s.length : Int) := by omega
 have hw : wrap64 (wrap64 (p * 7) + 3) = p * 7 + 3 := by rw [kV (p * 7) (by omega), kV _ (by omega)]
 rw [hw]
 refine Tot.pos (Int.tmod_nonneg _ h0) (Tot.pos (Int.tmod_lt_of_pos _ hlen) (Tot.pos (Int.tmod_nonneg _ (by omega)) (Tot.pos (Int.tmod_lt_of_pos _ hlen) (Tot.neg (by omega) (Tot.ret ?_)))))
 obtain ⟨b1, b2⟩ := ZU Hs (Int.tmod p (s.length : Int))
 obtain ⟨b3, b4⟩ := ZU Hs (Int.tmod (p * 7 + 3) (s.length : Int))
 have d1 : 0 ≤ Int.tdiv p (s.length : Int) := Int.tdiv_nonneg h0 (by omega)
 have d2 : Int.tdiv p (s.length : Int) ≤ p := by rw [Int.tdiv_eq_ediv_of_nonneg h0]; exact Int.ediv_le_self _ h0
 generalize rd s (Int.tmod p (s.length : Int)) = m1 at b1 b2 ⊢
 generalize rd s (Int.tmod (p * 7 + 3) (s.length : Int)) = m2 at b3 b4 ⊢
 generalize Int.tdiv p (s.length : Int) = d at d1 d2 ⊢
 have big : wrap64 (wrap64 (wrap64 (wrap64 (wrap64 m1 * 131) + wrap64 (wrap64 m2 * 1117)) + wrap64 (p * 29)) + wrap64 (wrap64 d * 53)) = m1 * 131 + m2 * 1117 + p * 29 + d * 53 := by
   rw [kV m1 (by omega), kV m2 (by omega), kV d (by omega), kV (m1 * 131) (by omega), kV (m2 * 1117) (by omega), kV (p * 29) (by omega), kV (d * 53) (by omega), kV (m1 * 131 + m2 * 1117) (by omega), kV (m1 * 131 + m2 * 1117 + p * 29) (by omega), kV _ (by omega)]
 rw [big]
 have hx : 0 ≤ m1 * 131 + m2 * 1117 + p * 29 + d * 53 := by omega
 have ht : Int.tdiv (m1 * 131 + m2 * 1117 + p * 29 + d * 53) 64 = (m1 * 131 + m2 * 1117 + p * 29 + d * 53) / 64 := Int.tdiv_eq_ediv_of_nonneg hx
 rw [ht, kV _ (by omega)]
 exact ⟨Int.tmod_nonneg _ (ui hx (by omega) (by omega) (by omega)), fun h => Int.tmod_lt_of_pos _ h, rfl⟩
theorem DF {s : List Int} (Hs : Bs s) {p : Int} (h0 : 0 ≤ p) (h1 : p ≤ 1000000) {l : List ByteArray} (hl : 0 < l.length) : Tot (fun k => fE.f k s p l) (fun r => r.2 = p + 1) := by
 unfold fE.f
 refine Tot.bind (oG Hs h0 h1 _) (fun x hx => ?_)
 exact Tot.pos hx.1 (Tot.pos (hx.2.1 (by omega)) (Tot.ret hx.2.2))
theorem JV {s : List Int} (Hs : Bs s) {p : Int} (h0 : 0 ≤ p) {l : List ByteArray} (of_ : Int) (h1 : p + l.length ≤ 1000000) : Tot (fun k => fO.f k s p l of_) (fun r => r.1.length ≤ l.length ∧ p ≤ r.2 ∧ r.2 ≤ p + l.length) := by
 unfold fO.f
 have go : ∀ (d i : Nat) (p : Int) (x : List ByteArray), i + d = l.length → 0 ≤ p → p + d ≤ 1000000 → x.length ≤ i → Tot (fun k => fO.l0 k l of_ x (i : Int) s p) (fun r => r.1.length ≤ l.length ∧ p ≤ r.2 ∧ r.2 ≤ p + d) := by
  intro d
  induction d with
  | zero =>
   intro i p x hi h0 h1 hx
   refine Tot.step (fun k => fO.l0.eq_2 _ _ _ _ _ _ k) (Tot.neg (by omega) (Tot.ret ?_))
   dsimp only; omega
  | succ d ih =>
   intro i p x hi h0 h1 hx
   refine Tot.step (fun k => fO.l0.eq_2 _ _ _ _ _ _ k) (Tot.pos (by omega) (Tot.bind (oG Hs h0 (by omega) _) (fun y hy => ?_)))
   obtain ⟨_, _, e⟩ := hy
   rw [e, jZ (show i < l.length by omega) (by omega)]
   refine Tot.prop (fun _ => Tot.pos (by omega) (Tot.pos (by omega) ((ih (i + 1) (p + 1) _ (by omega) (by omega) (by omega) (by rw [List.length_append, List.length_singleton]; omega)).weak fun r h => ?_))) (fun _ => (ih (i + 1) (p + 1) x (by omega) (by omega) (by omega) (by omega)).weak fun r h => ?_)
   ·omega
   ·omega
 exact go l.length 0 p [] (by omega) h0 h1 (by simp)
def Gd (n : Nat) (ts : List ByteArray) (bs : List IB) : Prop := ts.length ≤ 5 ∧ (∀ b ∈ bs, b.f2.length ≤ 5 + n) ∧ iZ bs ≤ 100 * n
theorem Sr {bs : List IB} {m : Nat} (h : ∀ b ∈ bs, b.f2.length ≤ m) (i : Nat) : (gB bs i).f2.length ≤ m := by
 by_cases hi : i < bs.length
 ·exact h _ (F5 hi)
 have : gB bs i = z56 := by unfold gB; rw [List.getD_eq_getElem?_getD, List.getElem?_eq_none (by omega)]; rfl
 rw [this]; exact Nat.zero_le _
def JD : List ByteArray := [(⟨#[106]⟩ : ByteArray), (⟨#[107, 101, 103]⟩ : ByteArray), (⟨#[116, 117, 110]⟩ : ByteArray), (⟨#[118, 97, 116]⟩ : ByteArray), (⟨#[119]⟩ : ByteArray)]
theorem Qe {s : List Int} (Hs : Bs s) {p : Int} (h0 : 0 ≤ p) (h1 : p ≤ 999000) : Tot (fun k => fZ.f k s p) (fun r => r.1.Sublist JD ∧ r.2.1 = [] ∧ p ≤ r.2.2 ∧ r.2.2 ≤ p + 5) := by
 unfold fZ.f
 have go : ∀ (d i : Nat) (p : Int) (x : List ByteArray), i + d = 5 → 0 ≤ p → p + d ≤ 999500 → x.Sublist (JD.take i) → Tot (fun k => fZ.l0 k JD (i : Int) s p x) (fun r => r.1.Sublist JD ∧ r.2.1 = [] ∧ p ≤ r.2.2 ∧ r.2.2 ≤ p + d) := by
  intro d
  induction d with
  | zero =>
   intro i p x hi h0 h1 hx
   refine Tot.step (fun k => fZ.l0.eq_2 _ _ _ _ _ k) (Tot.neg (by show ¬ ((i : Int) < ((5 : Nat) : Int)); omega) (Tot.ret ?_))
   rw [List.take_of_length_le (show JD.length ≤ i by show 5 ≤ i; omega)] at hx
   dsimp only; exact ⟨hx, rfl, by omega, by omega⟩
  | succ d ih =>
   intro i p x hi h0 h1 hx
   have hxl : x.length ≤ 5 := Nat.le_trans hx.length_le (by rw [List.length_take]; show min i 5 ≤ 5; omega)
   have hil : i < JD.length := by show i < 5; omega
   refine Tot.step (fun k => fZ.l0.eq_2 _ _ _ _ _ k) (Tot.pos (by show (i : Int) < ((5 : Nat) : Int); omega) (Tot.bind (oG Hs h0 (by omega) _) (fun y hy => ?_)))
   obtain ⟨_, _, e⟩ := hy
   rw [e, jZ hil (by show 5 ≤ 9223372036854775807; omega)]
   have ht : JD.take (i + 1) = JD.take i ++ [JD[i]] := List.take_succ_eq_append_getElem hil
   refine Tot.prop (fun _ => Tot.pos (by omega) (Tot.pos (by omega) ((ih (i + 1) (p + 1) _ (by omega) (by omega) (by omega) ?_).weak fun r h => ?_))) (fun _ => (ih (i + 1) (p + 1) x (by omega) (by omega) (by omega) ?_).weak fun r h => ?_)
   ·rw [ht, pI, show gS JD i = JD[i] from getD_lt _ _ hil]
    exact List.Sublist.append hx (List.Sublist.refl _)
   ·exact ⟨h.1, h.2.1, by omega, by omega⟩
   ·rw [ht]; exact hx.trans (List.sublist_append_left _ _)
   ·exact ⟨h.1, h.2.1, by omega, by omega⟩
 exact (go 5 0 p [] (by omega) h0 (by omega) (by simp)).weak fun r h => ⟨h.1, h.2.1, by omega, by omega⟩
theorem Bo {s : List Int} (Hs : Bs s) {p : Int} (h0 : 0 ≤ p) {ts : List ByteArray} {bs : List IB} {m : Nat} (ht : ts.length ≤ m) (hb : ∀ b ∈ bs, b.f2.length ≤ m) (hl : bs.length ≤ 1048576) (h1 : p + m ≤ 999000) :
  Tot (fun k => bO.f k s p ts bs) (fun r => r.2.2.1.length ≤ m + 1 ∧ p ≤ r.2.2.2 ∧ r.2.2.2 ≤ p + m + 7) := by
 unfold bO.f
 have j4 : ∀ (p : Int) (a : Int) (n : ByteArray) (l : List ByteArray), 0 ≤ p → p ≤ 999900 → l.length ≤ m → Tot (fun k => bO.j4 k s p a n l) (fun r => r.2.2.1.length ≤ m + 1 ∧ p ≤ r.2.2.2 ∧ r.2.2.2 ≤ p + 2) := by
  intro p a n l h0 h1 hl
  refine Tot.step (fun k => bO.j4.eq_2 _ _ _ _ _ k) (Tot.bind (oG Hs h0 (by omega) _) (fun y hy => ?_))
  obtain ⟨_, _, e⟩ := hy
  rw [e]
  refine Tot.prop (fun _ => Tot.bind (DF Hs (by omega) (by omega) (by simp)) (fun z hz => Tot.pos (by omega) (Tot.ret ?_))) (fun _ => Tot.prop (fun _ => Tot.bind (DF Hs (by omega) (by omega) (by simp)) (fun z hz => Tot.ret ?_)) (fun _ => Tot.ret ?_))
  ·dsimp only; rw [hz, List.length_append, List.length_singleton]; omega
  ·dsimp only; rw [hz]; omega
  ·dsimp only; omega
 have j3 : ∀ (p : Int) (x : List ByteArray) (q : Int) (b : Bool) (a : Int) (n : ByteArray), 0 ≤ p → p + m ≤ 999800 → x.length ≤ m → Tot (fun k => bO.j3 k x q b s p ts bs a n) (fun r => r.2.2.1.length ≤ m + 1 ∧ p ≤ r.2.2.2 ∧ r.2.2.2 ≤ p + m + 3) := by
  intro p x q b a n h0 h1 hx
  refine Tot.step (fun k => bO.j3.eq_2 _ _ _ _ _ _ _ _ _ k) ?_
  refine Tot.prop (fun _ => Tot.FW (Ev.ret rfl) (Tot.bind (DF Hs h0 (by omega) (by simp)) (fun y hy => ?_))) (fun _ => Tot.prop (fun _ => Tot.bind (JV Hs h0 2 (by omega)) (fun y hy => ?_)) (fun _ => Tot.prop (fun _ => ?_) (fun _ => Tot.bind (JV Hs h0 2 (by omega)) (fun y hy => ?_))))
  ·rw [hy]
   refine Tot.bind (JV Hs (by omega) 2 (by omega)) (fun z hz => ?_)
   obtain ⟨z1, z2, z3⟩ := hz
   exact (j4 z.2 _ _ _ (by omega) (by omega) (by omega)).weak fun r h => ⟨h.1, by omega, by omega⟩
  ·obtain ⟨z1, z2, z3⟩ := hy
   exact (j4 y.2 _ _ _ (by omega) (by omega) (by omega)).weak fun r h => ⟨h.1, by omega, by omega⟩
  ·exact (j4 p _ _ _ h0 (by omega) (by simp)).weak fun r h => ⟨h.1, by omega, by omega⟩
  ·obtain ⟨z1, z2, z3⟩ := hy
   exact (j4 y.2 _ _ _ (by omega) (by omega) (by omega)).weak fun r h => ⟨h.1, by omega, by omega⟩
 have j2 : ∀ (p : Int) (x : List ByteArray) (a : Int) (n : ByteArray), 0 ≤ p → p + m ≤ 999700 → x.length ≤ m → Tot (fun k => bO.j2 k x s p ts bs a n) (fun r => r.2.2.1.length ≤ m + 1 ∧ p ≤ r.2.2.2 ∧ r.2.2.2 ≤ p + m + 4) := by
  intro p x a n h0 h1 hx
  refine Tot.step (fun k => bO.j2.eq_2 _ _ _ _ _ _ _ k) (Tot.bind (oG Hs h0 (by omega) _) (fun y hy => ?_))
  obtain ⟨_, _, e⟩ := hy
  rw [e]
  have J : ∀ q b, Tot (fun k => bO.j3 k x q b s (p + 1) ts bs a n) (fun r => r.2.2.1.length ≤ m + 1 ∧ p ≤ r.2.2.2 ∧ r.2.2.2 ≤ p + m + 4) := fun q b => (j3 (p + 1) x q b a n (by omega) (by omega) hx).weak fun r h => ⟨h.1, by omega, by omega⟩
  exact Tot.prop (fun _ => J _ _) (fun _ => Tot.prop (fun _ => J _ _) (fun _ => J _ _))
 have j1 : ∀ (p : Int) (a : Int) (n : ByteArray), 0 ≤ p → p + m ≤ 999700 → Tot (fun k => bO.j1 k s p ts bs a n) (fun r => r.2.2.1.length ≤ m + 1 ∧ p ≤ r.2.2.2 ∧ r.2.2.2 ≤ p + m + 4) := by
  intro p a n h0 h1
  refine Tot.step (fun k => bO.j1.eq_2 _ _ _ _ _ _ k) (Tot.FW (yO ts bs n (by omega)) ?_)
  refine Tot.prop (fun h => ?_) (fun _ => j2 p ts a n h0 h1 ht)
  obtain ⟨i, e, hi⟩ := CR bs n (by omega)
  rw [e]
  refine Tot.pos (by omega) (Tot.pos (by omega) ?_)
  rw [jF]
  exact j2 p _ a n h0 h1 (Sr hb i)
 have j0 : ∀ (p : Int) (b : Bool) (a : Int) (n : ByteArray), 0 ≤ p → p + m ≤ 999600 → (b = true → 0 < bs.length) → Tot (fun k => bO.j0 k b s p ts bs a n) (fun r => r.2.2.1.length ≤ m + 1 ∧ p ≤ r.2.2.2 ∧ r.2.2.2 ≤ p + m + 5) := by
  intro p b a n h0 h1 hbl
  refine Tot.step (fun k => bO.j0.eq_2 _ _ _ _ _ _ _ k) (Tot.prop (fun h => Tot.bind (oG Hs h0 (by omega) _) (fun y hy => ?_)) (fun _ => (j1 p a n h0 (by omega)).weak fun r h => ⟨h.1, by omega, by omega⟩))
  obtain ⟨y1, y2, e⟩ := hy
  have := hbl h
  rw [e]
  exact Tot.pos y1 (Tot.pos (y2 (by omega)) ((j1 (p + 1) a _ (by omega) (by omega)).weak fun r h => ⟨h.1, by omega, by omega⟩))
 refine Tot.FW (Ev.ret rfl) (Tot.bind (DF Hs h0 (by omega) (by simp)) (fun y hy => ?_))
 rw [hy]
 refine Tot.prop (fun h => Tot.bind (oG Hs (by omega) (by omega) _) (fun z hz => ?_)) (fun _ => (j0 (p + 1) _ _ _ (by omega) (by omega) (by simp)).weak fun r h => ⟨h.1, by omega, by omega⟩)
 obtain ⟨_, _, e⟩ := hz
 rw [e]
 exact (j0 (p + 1 + 1) _ _ _ (by omega) (by omega) (fun _ => by omega)).weak fun r h => ⟨h.1, by omega, by omega⟩
theorem DC {l : List ByteArray} {s : ByteArray} : hasS l s = true ↔ s ∈ l := by
 unfold hasS; rw [List.any_eq_true]
 constructor
 ·rintro ⟨x, hx, h⟩; rw [toList_inj.1 (beq_iff_eq.1 h)]; exact hx
 intro h; exact ⟨s, h, by simp⟩
theorem Je {l : List ByteArray} {s : ByteArray} : hasS l s = false ↔ s ∉ l := by
 rw [← DC]; cases hasS l s <;> simp
theorem Gh {a b : List ByteArray} : pQ a b = true ↔ ∃ s, s ∈ a ∧ s ∈ b := by
 unfold pQ; rw [List.any_eq_true]
 constructor
 ·rintro ⟨s, h1, h2⟩; exact ⟨s, h1, DC.1 h2⟩
 rintro ⟨s, h1, h2⟩; exact ⟨s, h1, DC.2 h2⟩
theorem C8 {a b : List ByteArray} : pQ a b = false ↔ ∀ s, s ∈ a → s ∉ b := by
 rw [← Bool.not_eq_true, Gh]
 constructor
 ·intro h s h1 h2; exact h ⟨s, h1, h2⟩
 rintro h ⟨s, h1, h2⟩; exact h s h1 h2
theorem UD {a b c d : List ByteArray} (h : pQ a b = false) (h1 : ∀ s, s ∈ c → s ∈ a) (h2 : ∀ s, s ∈ d → s ∈ b) : pQ c d = false := by
 rw [C8] at *
 intro s hs ht; exact h s (h1 s hs) (h2 s ht)
theorem JU {a b : List ByteArray} (h : pQ a b = false) : pQ b a = false := by
 rw [C8] at *
 intro s hs ht; exact h s ht hs
theorem JK {bs : List IB} {i : Nat} (hi : i < bs.length) : gB bs i = bs[i] := getD_lt bs _ hi
theorem Q4 {bs : List IB} {b : IB} (h : b ∈ bs) : ∃ i, i < bs.length ∧ gB bs i = b := by
 obtain ⟨i, hi, rfl⟩ := List.getElem_of_mem h
 exact ⟨i, hi, JK hi⟩
theorem Ed (a : List UInt8) : Op.bytesLess a a = false := by
 rw [bytesLess_eq, decide_eq_false_iff_not]; exact List.lt_irrefl a
theorem TJ {bs : List IB} (ha : Asc bs) {i j : Nat} (hi : i < bs.length) (hj : j < bs.length) (h : (gB bs i).f0 = (gB bs j).f0) : i = j := by
 rw [JK hi, JK hj] at h
 have hp := List.pairwise_iff_getElem.1 ha
 rcases Nat.lt_trichotomy i j with q | q | q
 ·have := hp i j hi hj q; rw [h, Ed] at this; exact absurd this (by simp)
 ·exact q
 have := hp j i hj hi q; rw [h, Ed] at this; exact absurd this (by simp)
theorem Bj {bs : List IB} {i : Nat} {gone : List ByteArray} : canB bs i gone = true ↔ ∀ q, q < bs.length → q = i ∨ (gB bs q).f0 ∈ gone ∨ pQ (gB bs q).f1 (gB bs i).f2 = false := by
 unfold canB; rw [vE]
 simp only [canP, Bool.or_eq_true, decide_eq_true_eq, DC, Bool.not_eq_true', Nat.zero_le, true_implies]
theorem F6 : ∀ {l m : List ByteArray}, l.Nodup → (∀ s, s ∈ l → s ∈ m) → l.length ≤ m.length
  | [], m, _, _ => Nat.zero_le _
  | a :: l, m, hn, hs => by
    rw [List.nodup_cons] at hn
    have ha := hs a (List.mem_cons_self ..)
    obtain ⟨m1, m2, rfl⟩ := List.append_of_mem ha
    have h := F6 (l := l) (m := m1 ++ m2) hn.2 fun s h => by
      rcases List.mem_append.1 (hs s (List.mem_cons_of_mem _ h)) with h1 | h1
      · exact List.mem_append.2 (.inl h1)
      · rcases List.mem_cons.1 h1 with e | h1
        · exact absurd (e ▸ h) hn.1
        · exact List.mem_append.2 (.inr h1)
    rw [List.length_append] at h
    rw [List.length_append, List.length_cons, List.length_cons]; omega
theorem Gi {l m : List ByteArray} (hn : l.Nodup) (hs : ∀ s, s ∈ l → s ∈ m) (hl : m.length ≤ l.length) : ∀ s, s ∈ m → s ∈ l := by
 intro s h
 by_cases hc : s ∈ l
 ·exact hc
 have := F6 (l := s :: l) (m := m) (List.nodup_cons.2 ⟨hc, hn⟩) fun x hx => by
  rcases List.mem_cons.1 hx with rfl | hx
  ·exact h
  ·exact hs x hx
 rw [List.length_cons] at this; omega
def yJ (bs : List IB) : List ByteArray := bs.map fun b => b.f0
theorem xU {bs : List IB} {s : ByteArray} : s ∈ yJ bs ↔ ∃ i, i < bs.length ∧ (gB bs i).f0 = s := by
 unfold yJ; rw [List.mem_map]
 constructor
 ·rintro ⟨b, hb, rfl⟩; obtain ⟨i, hi, rfl⟩ := Q4 hb; exact ⟨i, hi, rfl⟩
 rintro ⟨i, hi, rfl⟩; exact ⟨_, F5 hi, rfl⟩
theorem UV {bs : List IB} (ha : Asc bs) : (yJ bs).Nodup := by
 unfold yJ List.Nodup
 rw [List.pairwise_map]
 exact List.Pairwise.imp (fun {a b} h e => by rw [e, Ed] at h; exact absurd h (by simp)) ha
inductive Goes (bs : List IB) : List ByteArray → Prop
  | all {gone : List ByteArray} : (∀ s, s ∈ yJ bs → s ∈ gone) → Goes bs gone
  | one {gone : List ByteArray} {i : Nat} : i < bs.length → canB bs i gone = true → Goes bs (gone ++ [(gB bs i).f0]) → Goes bs gone
def First (bs : List IB) (S : ByteArray → Prop) : Prop := ∃ y, y < bs.length ∧ S (gB bs y).f0 ∧ ∀ x, x < bs.length → S (gB bs x).f0 → x = y ∨ pQ (gB bs x).f1 (gB bs y).f2 = false
def XK (bs : List IB) : Prop := ∀ S : ByteArray → Prop, (∃ i, i < bs.length ∧ S (gB bs i).f0) → First bs S
theorem Lp {bs : List IB} {gone : List ByteArray} (h : Goes bs gone) : ∀ S : ByteArray → Prop, (∃ i, i < bs.length ∧ S (gB bs i).f0) → (∀ s, s ∈ gone → ¬ S s) → First bs S := by
 induction h with
 | all h => intro S ⟨i, hi, hs⟩ hg; exact absurd hs (hg _ (h _ (xU.2 ⟨i, hi, rfl⟩)))
 | @one gone i hi hc _ ih =>
  intro S hS hg
  by_cases hs : S (gB bs i).f0
  ·refine ⟨i, hi, hs, fun x hx hxs => ?_⟩
   rcases Bj.1 hc x hx with h | h | h
   ·exact .inl h
   ·exact absurd hxs (hg _ h)
   ·exact .inr h
  ·refine ih S hS fun s h => ?_
   rcases List.mem_append.1 h with h | h
   ·exact hg s h
   ·rw [List.mem_singleton.1 h]; exact hs
theorem Jd {bs : List IB} : ∀ (d : Nat) (gone : List ByteArray), gone.Nodup → (∀ s, s ∈ gone → s ∈ yJ bs) → gone.length + d = bs.length → (yK bs d gone).2 = true → Goes bs gone
  | 0, gone, hn, hs, hl, _ => .all (Gi hn hs (by unfold yJ; rw [List.length_map]; omega))
  | d + 1, gone, hn, hs, hl, h => by
    unfold yK at h
    cases hx : R8 bs gone with
    | none => rw [hx] at h; exact absurd h (by simp)
    | some i =>
      rw [hx] at h
      obtain ⟨_, hi, hp⟩ := TY hx
      unfold G6 at hp
      rw [Bool.and_eq_true, Bool.not_eq_true', Je] at hp
      refine .one hi hp.2 (Jd d _ ?_ ?_ (by rw [List.length_append, List.length_singleton]; omega) h)
      · rw [List.nodup_append]
        refine ⟨hn, by simp, fun a ha b hb e => ?_⟩
        rw [List.mem_singleton] at hb
        exact hp.1 (hb ▸ e ▸ ha)
      · intro s h
        rcases List.mem_append.1 h with h | h
        · exact hs s h
        · rw [List.mem_singleton.1 h]; exact xU.2 ⟨i, hi, rfl⟩
theorem Iu {bs : List IB} (ha : Asc bs) (H : XK bs) : ∀ (d : Nat) (gone : List ByteArray), gone.length + d = bs.length → (yK bs d gone).2 = true
 | 0, gone, _ => rfl
 | d + 1, gone, hl => by
  unfold yK
  cases hx : R8 bs gone with
  | some i => exact Iu ha H d _ (by rw [List.length_append, List.length_singleton]; omega)
  | none =>
   exfalso
   unfold R8 D7 at hx
   rw [List.find?_eq_none] at hx
   have hm : ∃ i, i < bs.length ∧ (gB bs i).f0 ∉ gone := by
    by_cases hc : ∀ s, s ∈ yJ bs → s ∈ gone
    ·have := F6 (UV ha) hc
     unfold yJ at this
     rw [List.length_map] at this; omega
    ·obtain ⟨s, h1, h2⟩ : ∃ s, s ∈ yJ bs ∧ s ∉ gone := by
      apply Classical.byContradiction
      intro h; exact hc fun s h1 => Classical.byContradiction fun h2 => h ⟨s, h1, h2⟩
     obtain ⟨i, hi, rfl⟩ := xU.1 h1
     exact ⟨i, hi, h2⟩
   obtain ⟨y, hy, hy2, hy3⟩ := H (fun s => s ∉ gone) hm
   refine hx y (by rw [List.mem_range'_1]; omega) ?_
   unfold G6
   rw [Bool.and_eq_true, Bool.not_eq_true', Je, Bj]
   refine ⟨hy2, fun q hq => ?_⟩
   by_cases hg : (gB bs q).f0 ∈ gone
   ·exact .inr (.inl hg)
   ·rcases hy3 q hq hg with h | h
    ·exact .inl h
    ·exact .inr (.inr h)
theorem GD {ts : List ByteArray} {bs : List IB} : DR ts bs = true ↔ rU ts bs = true ∧ XK bs := by
 unfold DR Q5
 cases hb : rU ts bs with
 | false => simp
 | true =>
  rw [if_pos rfl]
  constructor
  ·intro h
   refine ⟨rfl, fun S hS => Lp (Jd bs.length [] List.nodup_nil (by simp) (by simp) h) S hS (by simp)⟩
  ·rintro ⟨_, h⟩
   exact Iu (yD hb) h _ _ (by simp)
theorem G5 {l all : List ByteArray} : lV l all = true ↔ (∀ s, s ∈ l → s ∈ all) ∧ AscS l := by
 constructor
 ·intro h
  refine ⟨fun s hs => ?_, Mf h⟩
  unfold lV at h
  obtain ⟨i, hi, rfl⟩ := List.getElem_of_mem hs
  have q := (vE _ _ _).1 h i (by omega) hi
  unfold AY at q
  rw [Bool.and_eq_true, DC, show gS l i = l[i] from getD_lt _ _ hi] at q
  exact q.1
 rintro ⟨h1, h2⟩
 unfold lV
 rw [vE]
 intro j _ hj
 unfold AY
 rw [Bool.and_eq_true, DC, Bool.or_eq_true, decide_eq_true_eq, show gS l j = l[j] from getD_lt _ _ hj]
 refine ⟨h1 _ (List.getElem_mem hj), ?_⟩
 by_cases h0 : j = 0
 ·exact .inl h0
 refine .inr ?_
 rw [show gS l (j - 1) = l[j - 1] from getD_lt _ _ (by omega)]
 exact List.pairwise_iff_getElem.1 h2 (j - 1) j (by omega) hj (by omega)
structure Bk (ts : List ByteArray) (bs : List IB) : Prop where
  things : L9 ts = true
  five : bs.length ≤ 5
  asc : Asc bs
  each : ∀ i, i < bs.length → wI (gB bs i).f0 = true ∧ lV (gB bs i).f2 ts = true ∧ lV (gB bs i).f1 (gB bs i).f2 = true
  free : ∀ i j, i < bs.length → j < bs.length → i ≠ j → pQ (gB bs i).f1 (gB bs j).f1 = false
theorem KI {ts : List ByteArray} {bs : List IB} : rU ts bs = true ↔ Bk ts bs := by
 constructor
 ·intro hb
  have ha := yD hb
  have hf := KH hb
  unfold rU at hb
  rw [Bool.and_eq_true, Bool.and_eq_true, vE] at hb
  obtain ⟨h1, _, h3⟩ := hb
  have hall : ∀ j, j < bs.length → vF ts bs j = true ∧ yV bs j = true := fun j hj => by
   have := h3 j (by omega) hj; rwa [Bool.and_eq_true] at this
  refine ⟨h1, hf, ha, fun i hi => ?_, fun i j hi hj hij => ?_⟩
  ·have q := (hall i hi).1
   unfold vF at q
   simp only [Bool.and_eq_true] at q
   exact ⟨q.1, q.2.2.1, q.2.2.2⟩
  have low : ∀ i j, i < bs.length → j < i → pQ (gB bs i).f1 (gB bs j).f1 = false := fun i j hi hj => by
   have q := (hall i hi).2
   unfold yV at q
   have := (vE _ _ _).1 q j (by omega) hj
   simpa using this
  by_cases h : j < i
  ·exact low i j hi h
  exact JU (low j i hj (by omega))
 rintro ⟨h1, h2, h3, h4, h5⟩
 unfold rU
 rw [Bool.and_eq_true, Bool.and_eq_true, vE, decide_eq_true_eq]
 refine ⟨h1, h2, fun j _ hj => ?_⟩
 obtain ⟨q1, q2, q3⟩ := h4 j hj
 rw [Bool.and_eq_true]
 constructor
 ·unfold vF
  simp only [Bool.and_eq_true, Bool.or_eq_true, decide_eq_true_eq]
  refine ⟨q1, ?_, q2, q3⟩
  by_cases h0 : j = 0
  ·exact .inl h0
  refine .inr ?_
  rw [JK hj, JK (show j - 1 < bs.length by omega)]
  exact List.pairwise_iff_getElem.1 h3 (j - 1) j (by omega) hj (by omega)
 unfold yV
 rw [vE]
 intro q _ hq
 rw [h5 j q hj (by omega) (by omega)]; rfl
theorem U0 {bs : List IB} {i j : Nat} (x : IB) (hj : j < bs.length) : gB (bs.set i x) j = if i = j then x else gB bs j := by
 rw [JK (show j < (bs.set i x).length by rw [List.length_set]; exact hj), List.getElem_set, JK hj]
theorem Ws {bs : List IB} (ha : Asc bs) {i : Nat} {x : IB} (hx : x.f0 = (gB bs i).f0) (hi : i < bs.length) : Asc (bs.set i x) := by
 have hn : ∀ j, (hj : j < bs.length) → (gB (bs.set i x) j).f0 = (gB bs j).f0 := fun j hj => by
  rw [U0 x hj]
  split
  ·rename_i e; subst e; exact hx
  ·rfl
 unfold Asc
 rw [List.pairwise_iff_getElem]
 intro a b h1 h2 hab
 rw [List.length_set] at h1 h2
 rw [← JK (bs := bs.set i x) (by rw [List.length_set]; exact h1), ← JK (bs := bs.set i x) (by rw [List.length_set]; exact h2), hn a h1, hn b h2, JK h1, JK h2]
 exact List.pairwise_iff_getElem.1 ha a b h1 h2 hab
theorem lm {ts : List ByteArray} {bs : List IB} (h : Bk ts bs) {i : Nat} (hi : i < bs.length) {has needs : List ByteArray} (h1 : lV needs ts = true) (h2 : lV has needs = true)
  (h3 : ∀ j, j < bs.length → j ≠ i → pQ has (gB bs j).f1 = false) : Bk ts (setN bs i has needs) := by
 obtain ⟨a1, a2, a3, a4, a5⟩ := h
 unfold setN
 refine ⟨a1, by rw [List.length_set]; exact a2, Ws a3 rfl hi, fun j hj => ?_, fun j k hj hk hjk => ?_⟩
 ·rw [List.length_set] at hj
  rw [U0 _ hj]
  split
  ·exact ⟨(a4 i hi).1, h1, h2⟩
  exact a4 j hj
 rw [List.length_set] at hj hk
 rw [U0 _ hj, U0 _ hk]
 split
 ·rename_i e; subst e
  rw [if_neg hjk]
  exact h3 k hk (fun e => hjk e.symm)
 split
 ·rename_i e; subst e
  exact JU (h3 j hj hjk)
 exact a5 j k hj hk hjk
theorem Qi {ts : List ByteArray} {bs : List IB} (h : Bk ts bs) (i : Nat) : Bk ts (bs.eraseIdx i) := by
 obtain ⟨a1, a2, a3, a4, a5⟩ := h
 have hs : List.Sublist (bs.eraseIdx i) bs := List.eraseIdx_sublist ..
 have hl := hs.length_le
 have hat : ∀ j, j < (bs.eraseIdx i).length → ∃ k, k < bs.length ∧ gB (bs.eraseIdx i) j = gB bs k := fun j hj => by
  obtain ⟨k, hk, e⟩ := Q4 (hs.subset (F5 hj)); exact ⟨k, hk, e.symm⟩
 have ha : Asc (bs.eraseIdx i) := List.Pairwise.sublist hs a3
 refine ⟨a1, by omega, ha, fun j hj => ?_, fun j k hj hk hjk => ?_⟩
 ·obtain ⟨q, hq, e⟩ := hat j hj
  rw [e]; exact a4 q hq
 obtain ⟨q, hq, e⟩ := hat j hj
 obtain ⟨p, hp, e2⟩ := hat k hk
 rw [e, e2]
 refine a5 q p hq hp fun h => hjk ?_
 exact TJ ha hj hk (by rw [e, e2, h])
theorem OO {bs : List IB} {x b : IB} : b ∈ insB bs x ↔ b = x ∨ b ∈ bs := by
 have e : bs = bs.take (insK bs x.f0) ++ bs.drop (insK bs x.f0) := (List.take_append_drop ..).symm
 unfold insB
 rw [List.mem_append, List.mem_cons]
 constructor
 ·rintro (h | h | h)
  ·exact .inr (List.mem_of_mem_take h)
  ·exact .inl h
  exact .inr (List.mem_of_mem_drop h)
 rintro (h | h)
 ·exact .inr (.inl h)
 rw [e, List.mem_append] at h
 rcases h with h | h
 ·exact .inl h
 exact .inr (.inr h)
theorem Cg {bs : List IB} {x : IB} : (insB bs x).length = bs.length + 1 := by
 have e := congrArg List.length (List.take_append_drop (insK bs x.f0) bs)
 unfold insB
 rw [List.length_append] at e
 rw [List.length_append, List.length_cons]; omega
theorem ll {ts : List ByteArray} {bs : List IB} (h : Bk ts bs) {n : ByteArray} {needs : List ByteArray} (hn : wI n = true) (h1 : lV needs ts = true) (h2 : ∀ b ∈ bs, b.f0.toList ≠ n.toList) (hl : bs.length < 5) : Bk ts (insB bs ⟨n, [], needs⟩) := by
 obtain ⟨a1, a2, a3, a4, a5⟩ := h
 have ha : Asc (insB bs ⟨n, [], needs⟩) := Cf a3 h2
 have hat : ∀ j, j < (insB bs ⟨n, [], needs⟩).length → gB (insB bs ⟨n, [], needs⟩) j = ⟨n, [], needs⟩ ∨ ∃ k, k < bs.length ∧ gB (insB bs ⟨n, [], needs⟩) j = gB bs k := fun j hj => by
  rcases OO.1 (F5 hj) with h | h
  ·exact .inl h
  ·obtain ⟨k, hk, e⟩ := Q4 h; exact .inr ⟨k, hk, e.symm⟩
 refine ⟨a1, by rw [Cg]; omega, ha, fun j hj => ?_, fun j k hj hk hjk => ?_⟩
 ·rcases hat j hj with e | ⟨q, hq, e⟩
  ·rw [e]; exact ⟨hn, h1, G5.2 ⟨by simp, List.Pairwise.nil⟩⟩
  rw [e]; exact a4 q hq
 rcases hat j hj with e | ⟨q, hq, e⟩
 ·rw [e]; exact C8.2 (by simp)
 rcases hat k hk with e2 | ⟨p, hp, e2⟩
 ·rw [e2]; exact JU (C8.2 (by simp))
 rw [e, e2]
 refine a5 q p hq hp fun h => hjk ?_
 exact TJ ha hj hk (by rw [e, e2, h])
theorem TS {cs bs : List IB} (ha : Asc bs) (hs : ∀ i, i < cs.length → ∃ j, j < bs.length ∧ (gB cs i).f0 = (gB bs j).f0 ∧ (∀ s, s ∈ (gB cs i).f1 → s ∈ (gB bs j).f1) ∧ ∀ s, s ∈ (gB cs i).f2 → s ∈ (gB bs j).f2)
  (ha2 : Asc cs) (H : XK bs) : XK cs := by
 intro S ⟨i, hi, hS⟩
 obtain ⟨j, hj, e, _, _⟩ := hs i hi
 obtain ⟨y, hy, ⟨hy1, hy2⟩, hy3⟩ := H (fun n => S n ∧ n ∈ yJ cs) ⟨j, hj, e ▸ hS, e ▸ xU.2 ⟨i, hi, rfl⟩⟩
 obtain ⟨q, hq, e2⟩ := xU.1 hy2
 obtain ⟨p, hp, e3, s1, s2⟩ := hs q hq
 have hpy : p = y := TJ ha hp hy (by rw [← e3, e2])
 subst hpy
 refine ⟨q, hq, e2 ▸ hy1, fun x hx hxs => ?_⟩
 obtain ⟨x2, Nb, e4, t1, t2⟩ := hs x hx
 rcases hy3 x2 Nb ⟨e4 ▸ hxs, e4 ▸ xU.2 ⟨x, hx, rfl⟩⟩ with h | h
 ·subst h; exact .inl (TJ ha2 hx hq (by rw [e4, ← e3]))
 exact .inr (UD h t1 s2)
theorem Ma {ts : List ByteArray} {bs : List IB} {i : Nat} {needs : List ByteArray} (hi : i < bs.length) (hn : lV needs (gB bs i).f2 = true) (hb : rU ts bs = true) :
  rU ts (setN bs i ((gB bs i).f1.filter (hasS needs)) needs) = true := by
 have h := KI.1 hb
 obtain ⟨q1, q2, q3⟩ := h.each i hi
 rw [G5] at hn q2 q3
 refine KI.2 (lm h hi (G5.2 ⟨fun s hs => q2.1 s (hn.1 s hs), hn.2⟩) (G5.2 ⟨fun s hs => ?_, List.Pairwise.filter _ q3.2⟩) fun j hj hji => UD (h.free i j hi hj (fun e => hji e.symm)) (fun s hs => (List.mem_filter.1 hs).1) fun s hs => hs)
 exact DC.1 (List.mem_filter.1 hs).2
theorem Md {ts : List ByteArray} {bs : List IB} {i : Nat} {needs : List ByteArray} (hi : i < bs.length) (hn : lV needs (gB bs i).f2 = true) (hb : DR ts bs = true) :
  DR ts (setN bs i ((gB bs i).f1.filter (hasS needs)) needs) = true := by
 obtain ⟨hb, hd⟩ := GD.1 hb
 have hk := Ma hi hn hb
 rw [GD]
 refine ⟨hk, TS (yD hb) (fun j hj => ?_) (yD hk) hd⟩
 unfold setN at hj ⊢
 rw [List.length_set] at hj
 rw [U0 _ hj]
 split
 ·rename_i e; subst e
  exact ⟨i, hi, rfl, fun s hs => (List.mem_filter.1 hs).1, (G5.1 hn).1⟩
 exact ⟨j, hj, rfl, fun s hs => hs, fun s hs => hs⟩
theorem Fj {ts : List ByteArray} {bs : List IB} (i : Nat) (hb : rU ts bs = true) : rU ts (bs.eraseIdx i) = true := KI.2 (Qi (KI.1 hb) i)
theorem Fp {ts : List ByteArray} {bs : List IB} (i : Nat) (hb : DR ts bs = true) : DR ts (bs.eraseIdx i) = true := by
 obtain ⟨hb, hd⟩ := GD.1 hb
 have hk := Fj i hb
 rw [GD]
 refine ⟨hk, TS (yD hb) (fun j hj => ?_) (yD hk) hd⟩
 obtain ⟨k, hk2, e⟩ := Q4 ((List.eraseIdx_sublist bs i).subset (F5 hj))
 exact ⟨k, hk2, by rw [e], fun s hs => by rw [e]; exact hs, fun s hs => by rw [e]; exact hs⟩
theorem Eu {ts : List ByteArray} {bs : List IB} {n : ByteArray} {needs : List ByteArray} (hb : rU ts bs = true) (hn : wI n = true) (h1 : lV needs ts = true) (h2 : ¬ 0 ≤ atI bs n) (hl : ¬ 5 ≤ bs.length) : rU ts (insB bs ⟨n, [], needs⟩) = true :=
  KI.2 (ll (KI.1 hb) hn h1 (Ip h2) (by omega))
theorem Ey {ts : List ByteArray} {bs : List IB} {n : ByteArray} {needs : List ByteArray} (hb : rU ts bs = true) (hn : wI n = true) (h1 : lV needs ts = true) (h2 : ¬ 0 ≤ atI bs n) (hl : ¬ 5 ≤ bs.length) : DR ts (insB bs ⟨n, [], needs⟩) = DR ts bs := by
 have hk := Eu hb hn h1 h2 hl
 have ha := yD hk
 have old : ∀ k, k < bs.length → ∃ j, j < (insB bs ⟨n, [], needs⟩).length ∧ gB (insB bs ⟨n, [], needs⟩) j = gB bs k := fun k hk2 => Q4 (OO.2 (.inr (F5 hk2)))
 rw [Bool.eq_iff_iff, GD, GD]
 constructor
 ·rintro ⟨_, hd⟩
  refine ⟨hb, TS ha (fun k hk2 => ?_) (yD hb) hd⟩
  obtain ⟨j, hj, e⟩ := old k hk2
  exact ⟨j, hj, by rw [e], fun s hs => by rw [e]; exact hs, fun s hs => by rw [e]; exact hs⟩
 rintro ⟨_, hd⟩
 refine ⟨hk, fun S ⟨i, hi, hS⟩ => ?_⟩
 have hat : ∀ j, j < (insB bs ⟨n, [], needs⟩).length → gB (insB bs ⟨n, [], needs⟩) j = ⟨n, [], needs⟩ ∨ ∃ k, k < bs.length ∧ gB (insB bs ⟨n, [], needs⟩) j = gB bs k := fun j hj => by
  rcases OO.1 (F5 hj) with h | h
  ·exact .inl h
  ·obtain ⟨k, hk, e⟩ := Q4 h; exact .inr ⟨k, hk, e.symm⟩
 by_cases hc : ∃ k, k < bs.length ∧ S (gB bs k).f0
 ·obtain ⟨y, hy, hy2, hy3⟩ := hd S hc
  obtain ⟨j, hj, e⟩ := old y hy
  refine ⟨j, hj, by rw [e]; exact hy2, fun x hx hxs => ?_⟩
  rcases hat x hx with e2 | ⟨k, hk2, e2⟩
  ·rw [e2]; exact .inr (C8.2 (by simp))
  rw [e2] at hxs ⊢
  rcases hy3 k hk2 hxs with h | h
  ·exact .inl (TJ ha hx hj (by rw [e2, e, h]))
  rw [e]; exact .inr h
 refine ⟨i, hi, hS, fun x hx hxs => ?_⟩
 rcases hat x hx with e2 | ⟨k, hk2, e2⟩
 ·rw [e2]; exact .inr (C8.2 (by simp))
 exact absurd ⟨k, hk2, e2 ▸ hxs⟩ hc
theorem Gd.weak {n m : Nat} {ts : List ByteArray} {bs : List IB} (h : Gd n ts bs) (hn : n ≤ m) : Gd m ts bs :=
  ⟨h.1, fun b hb => by have := h.2.1 b hb; omega, by have := h.2.2; omega⟩
theorem Gd.nil (n : Nat) : Gd n [] [] := ⟨by simp, by simp, by simp [iZ]⟩
theorem Rl {n : Nat} {ts : List ByteArray} {bs : List IB} (h : Gd n ts bs) (nm : ByteArray) {l : List ByteArray} (hl : l.length ≤ 6 + n) (hn : n ≤ 90) : Gd (n + 1) (yH ts bs nm l).1 (yH ts bs nm l).2.1 := by
 have h1 : Gd (n + 1) ts bs := h.weak (by omega)
 have h2 : Gd (n + 1) ts (insB bs ⟨nm, [], l⟩) := by
  refine ⟨h1.1, fun b hb => ?_, ?_⟩
  ·rcases OO.1 hb with e | e
   ·subst e; dsimp only; omega
   ·exact h1.2.1 b e
  ·have := h.2.2
   rw [Fg]; dsimp only; rw [List.length_nil]; omega
 unfold yH
 repeat' split
 all_goals first | exact h1 | exact h2 | exact Gd.nil _
theorem Kg {bs : List IB} {i : Nat} {x b : IB} (h : b ∈ bs.set i x) : b = x ∨ b ∈ bs := by
 rcases List.mem_or_eq_of_mem_set h with e | e
 ·exact .inr e
 exact .inl e
theorem Yi {n : Nat} {ts : List ByteArray} {bs : List IB} (h : Gd n ts bs) (nm : ByteArray) {l : List ByteArray} (hl : l.length ≤ 6 + n) (hn : n ≤ 90) : Gd (n + 1) (EI ts bs nm l).1 (EI ts bs nm l).2.1 := by
 have h1 : Gd (n + 1) ts bs := h.weak (by omega)
 unfold EI
 split
 ·split
  ·exact h1
  rename_i hc
  obtain ⟨i, e, hi⟩ := CR bs nm hc
  rw [e, Int.toNat_natCast]
  split
  ·refine ⟨h1.1, fun b hb => ?_, ?_⟩
   ·rcases Kg hb with e | e
    ·subst e; dsimp only; omega
    exact h1.2.1 b e
   have := h.2.2
   have := Gg hi (hasS l) l
   dsimp only; omega
  exact h1
 exact Gd.nil _
theorem ky {n : Nat} {ts : List ByteArray} {bs : List IB} (h : Gd n ts bs) (nm : ByteArray) {l : List ByteArray} (hl : l.length ≤ 6 + n) (hn : n ≤ 90) : Gd (n + 1) (askB ts bs nm l).1 (askB ts bs nm l).2.1 := by
 have h1 : Gd (n + 1) ts bs := h.weak (by omega)
 unfold askB
 split
 ·split
  ·exact h1
  rename_i hc
  obtain ⟨i, e, hi⟩ := CR bs nm hc
  rw [e, Int.toNat_natCast]
  split
  ·split
   ·exact h1
   split
   ·exact h1
   refine ⟨h1.1, fun b hb => ?_, ?_⟩
   ·rcases Kg hb with e | e
    ·subst e; exact h1.2.1 (gB bs i) (F5 hi)
    exact h1.2.1 b e
   have := h.2.2
   have := Jc hi l
   dsimp only; omega
  exact h1
 exact Gd.nil _
theorem Sj {n : Nat} {ts : List ByteArray} {bs : List IB} (h : Gd n ts bs) (nm : ByteArray) : Gd (n + 1) (yI ts bs nm).1 (yI ts bs nm).2.1 := by
 have h1 : Gd (n + 1) ts bs := h.weak (by omega)
 unfold yI
 split
 ·split
  ·exact h1
  refine ⟨h1.1, fun b hb => h1.2.1 b ((List.eraseIdx_sublist bs _).subset hb), ?_⟩
  have := K3 bs (atI bs nm).toNat
  have := h1.2.2
  dsimp only; omega
 exact Gd.nil _
theorem Gd.sz {n : Nat} {ts : List ByteArray} {bs : List IB} (h : Gd n ts bs) (hn : n ≤ 90) : ts.length + iZ bs ≤ 1048576 := by
 have := h.1; have := h.2.2; omega
theorem Tq {n : Nat} {ts : List ByteArray} {bs : List IB} (h : Gd n ts bs) (hn : n ≤ 90) (c : Int) (nm : ByteArray) {l : List ByteArray} (hl : l.length ≤ 6 + n) : Tot (fun k => vQ.f k ts bs c nm l) (fun r => Gd (n + 1) r.1 r.2) := by
 have hz := h.sz hn
 unfold vQ.f
 refine Tot.prop (fun _ => Tot.FW (DT ts bs nm l hz (by omega)) (Tot.ret (Rl h nm hl hn))) (fun _ => Tot.prop (fun _ => Tot.FW (QC ts bs nm l hz (by omega)) (Tot.ret (ky h nm hl hn))) (fun _ => Tot.prop (fun _ => Tot.FW (EP ts bs nm l hz (by omega)) (Tot.ret (Yi h nm hl hn))) (fun _ => Tot.FW (DU ts bs nm (yX hz)) (Tot.ret (Sj h nm)))))
theorem Uc {s : List Int} (Hs : Bs s) {p : Int} (h0 : 0 ≤ p) (h1 : p ≤ 900000) {ts : List ByteArray} (ht : ts.length ≤ 5) (bs : List IB) : Tot (fun k => dH.f k s p ts bs) (fun r => Gd 24 r.1 r.2.1 ∧ p ≤ r.2.2 ∧ r.2.2 ≤ p + 60) := by
 unfold dH.f
 refine Tot.FW (Ev.ret rfl) ?_
 generalize hN : ([(⟨#[97, 108, 101]⟩ : ByteArray), (⟨#[98]⟩ : ByteArray), (⟨#[99, 45, 99]⟩ : ByteArray), (⟨#[100, 97, 114, 107]⟩ : ByteArray), (⟨#[120, 57]⟩ : ByteArray)] : List ByteArray) = N
 have hN5 : N.length = 5 := by rw [← hN]; rfl
 clear hN
 have go : ∀ (d i : Nat) (q : Int) (tk : List ByteArray) (cs : List IB), i + d = 5 → p ≤ q → q + 12 * d ≤ p + 60 → tk.length ≤ 5 * i → (∀ b ∈ cs, b.f2.length ≤ 5) → iZ cs ≤ 11 * i →
     Tot (fun k => dH.l0 k N tk (i : Int) s q ts cs) (fun r => Gd 24 r.1 r.2.1 ∧ p ≤ r.2.2 ∧ r.2.2 ≤ p + 60) := by
   intro d
   induction d with
   | zero =>
     intro i q tk cs hi hq hq2 htk hcs hw
     refine Tot.step (fun k => dH.l0.eq_2 _ _ _ _ _ _ _ k) (Tot.neg (by omega) (Tot.ret ?_))
     exact ⟨⟨ht, fun b hb => by have := hcs b hb; omega, by dsimp only; omega⟩, hq, by dsimp only; omega⟩
   | succ d ih =>
     intro i q tk cs hi hq hq2 htk hcs hw
     have hcl : cs.length ≤ 11 * i := Nat.le_trans (zS cs) hw
     refine Tot.step (fun k => dH.l0.eq_2 _ _ _ _ _ _ _ k) (Tot.pos (by omega) (Tot.bind (oG Hs (by omega) (by omega) _) (fun y hy => ?_)))
     obtain ⟨_, _, e⟩ := hy
     rw [e, jZ (show i < N.length by omega) (by omega)]
     refine Tot.prop (fun _ => ih (i + 1) (q + 1) tk cs (by omega) (by omega) (by omega) (by omega) hcs (by omega)) (fun _ => Tot.pos (by omega) (Tot.bind (JV Hs (by omega) 2 (by omega)) (fun z hz => ?_)))
     obtain ⟨z1, z2, z3⟩ := hz
     have inner : ∀ (e j : Nat) (q2 : Int) (tk2 has : List ByteArray), j + e = z.1.length → p ≤ q2 → q2 + e + 12 * d ≤ p + 60 → tk2.length ≤ 5 * i + j → has.length ≤ j →
         Tot (fun k => dH.l1 k N tk2 (i : Int) (j : Int) s q2 ts cs (rdOf ByteArray.empty N (i : Int)) has z.1) (fun r => Gd 24 r.1 r.2.1 ∧ p ≤ r.2.2 ∧ r.2.2 ≤ p + 60) := by
       intro e
       induction e with
       | zero =>
         intro j q2 tk2 has hj hq3 hq4 htk2 hh
         refine Tot.step (fun k => dH.l1.eq_2 _ _ _ _ _ _ _ _ _ _ _ k) (Tot.neg (by omega) (Tot.pos (by omega) ?_))
         rw [jZ (show i < N.length by omega) (by omega)]
         refine ih (i + 1) q2 tk2 _ (by omega) hq3 (by omega) (by omega) (fun b hb => ?_) ?_
         · rcases List.mem_append.1 hb with h | h
           · exact hcs b h
           · rw [List.mem_singleton.1 h]; dsimp only; omega
         · rw [uC, sK]; dsimp only; rw [show iZ ([] : List IB) = 0 from rfl]; omega
       | succ e ihe =>
         intro j q2 tk2 has hj hq3 hq4 htk2 hh
         refine Tot.step (fun k => dH.l1.eq_2 _ _ _ _ _ _ _ _ _ _ _ k) (Tot.pos (by omega) (Tot.pos (by omega) (Tot.FW (qB tk2 _ (by omega)) ?_)))
         rw [jZ (show j < z.1.length by omega) (by omega)]
         refine Tot.prop (fun _ => ihe (j + 1) q2 tk2 has (by omega) hq3 (by omega) (by omega) (by omega)) (fun _ => Tot.bind (oG Hs (by omega) (by omega) _) (fun u hu => ?_))
         obtain ⟨_, _, e2⟩ := hu
         rw [e2]
         refine Tot.prop (fun _ => Tot.pos (by omega) (Tot.pos (by omega) (ihe (j + 1) (q2 + 1) _ _ (by omega) (by omega) (by omega) (by rw [List.length_append, List.length_singleton]; omega) (by rw [List.length_append, List.length_singleton]; omega)))) (fun _ => ihe (j + 1) (q2 + 1) tk2 has (by omega) (by omega) (by omega) (by omega) (by omega))
     exact inner z.1.length 0 z.2 tk [] (by omega) (by omega) (by omega) (by omega) (by simp)
 exact go 5 0 p [] [] (by omega) (by omega) (by omega) (by simp) (by simp) (by simp [iZ])
theorem Qj {s : List Int} (Hs : Bs s) {p : Int} (h0 : 0 ≤ p) (h1 : p ≤ 10) : Tot (fun k => kF.f k s p) (fun r => Gd 24 r.1 r.2.1 ∧ 0 ≤ r.2.2 ∧ r.2.2 ≤ 5000) := by
 unfold kF.f
 refine Tot.bind (Qe Hs h0 (by omega)) (fun x hx => ?_)
 obtain ⟨x1, _, x3, x4⟩ := hx
 have hx5 : x.1.length ≤ 5 := x1.length_le
 refine Tot.bind (oG Hs (by omega) (by omega) _) (fun y hy => ?_)
 obtain ⟨_, _, e⟩ := hy
 rw [e]
 refine Tot.prop (fun _ => Tot.bind (Uc Hs (by omega) (by omega) hx5 _) (fun z hz => Tot.ret ?_)) (fun _ => Tot.bind (oG Hs (by omega) (by omega) _) (fun z hz => ?_))
 ·obtain ⟨w1, w2, w3⟩ := hz
  exact ⟨w1, by (try dsimp only); omega, by (try dsimp only); omega⟩
 obtain ⟨z1, z2, z3⟩ := hz
 have z2 := z2 (by omega)
 rw [z3]
 have go : ∀ (d n : Nat) (q : Int) (ts : List ByteArray) (cs : List IB), Gd n ts cs → n + d ≤ 24 → 0 ≤ q → q + 100 * d ≤ 5000 → Tot (fun k => kF.l0 k (d : Int) s q ts cs) (fun r => Gd 24 r.1 r.2.1 ∧ 0 ≤ r.2.2 ∧ r.2.2 ≤ 5000) := by
  intro d
  induction d with
  | zero =>
   intro n q ts cs hg hn hq hq2
   exact Tot.step (fun k => kF.l0.eq_2 _ _ _ _ _ k) (Tot.neg (by omega) (Tot.ret ⟨hg.weak (by omega), hq, by dsimp only; omega⟩))
  | succ d ih =>
   intro n q ts cs hg hn hq hq2
   have hz := hg.sz (by omega)
   have hcl := zS cs
   refine Tot.step (fun k => kF.l0.eq_2 _ _ _ _ _ k) (Tot.pos (by omega) (Tot.bind (Bo (m := 5 + n) Hs hq (by have := hg.1; omega) hg.2.1 (by omega) (by omega)) (fun y hy => ?_)))
   obtain ⟨y1, y2, y3⟩ := hy
   refine Tot.bind (Tq hg (by omega) _ _ (by omega)) (fun u hu => ?_)
   rw [show wrap64 (((d + 1 : Nat) : Int) - 1) = (d : Int) from by rw [kV _ (by omega)]; omega]
   exact ih (n + 1) y.2.2.2 u.1 u.2 hu (by omega) (by omega) (by omega)
 obtain ⟨v, hv⟩ : ∃ v : Nat, z.1 = v := ⟨z.1.toNat, by omega⟩
 rw [hv]
 exact go v 0 _ x.1 [] ⟨hx5, by simp, by simp [iZ]⟩ (by omega) (by omega) (by omega)
def Sp (ts : List ByteArray) (bs : List IB) : Prop := ts.length ≤ 6 ∧ iZ bs ≤ 10000
theorem QG {bs : List IB} {i : Nat} (hi : i < bs.length) (x : IB) (c : Nat) (h : x.f1.length + x.f2.length ≤ (gB bs i).f1.length + (gB bs i).f2.length + c) : iZ (bs.set i x) ≤ iZ bs + c := by
 have := QH hi x; omega
theorem Mr {s : List Int} (Hs : Bs s) {p : Int} (h0 : 0 ≤ p) (h1 : p ≤ 900000) {ts : List ByteArray} {bs : List IB} (hg : Gd 24 ts bs) : Tot (fun k => bK.f k s p ts bs) (fun r => Sp r.1 r.2.1 ∧ 0 ≤ r.2.2 ∧ r.2.2 ≤ p + 10) := by
 have hz := hg.sz (by omega)
 have ht := hg.1
 have hw := hg.2.2
 have hl := zS bs
 unfold bK.f
 refine Tot.FW (lX ts bs (yX hz)) ?_
 have l0 : ∀ (e : Nat) (x7 x8 q : Int) (cs : List IB), x7 ≤ cs.length + e → 0 ≤ q → q ≤ p + 10 → iZ cs + e ≤ 10000 → Tot (fun k => bK.l0 k x7 x8 s q ts cs) (fun r => Sp r.1 r.2.1 ∧ 0 ≤ r.2.2 ∧ r.2.2 ≤ p + 10) := by
  intro e
  induction e with
  | zero =>
   intro x7 x8 q cs hx hq hq2 hc
   exact Tot.step (fun k => bK.l0.eq_2 _ _ _ _ _ _ k) (Tot.neg (by omega) (Tot.ret ⟨⟨by dsimp only; omega, by dsimp only; omega⟩, hq, hq2⟩))
  | succ e ih =>
   intro x7 x8 q cs hx hq hq2 hc
   have hcl := zS cs
   refine Tot.step (fun k => bK.l0.eq_2 _ _ _ _ _ _ k) (Tot.prop (fun _ => Tot.FW (Ev.ret rfl) (Tot.pos (by simp [strOfNums, ByteArray.size]) (Tot.pos (by omega) ?_))) (fun _ => Tot.ret ⟨⟨by dsimp only; omega, by dsimp only; omega⟩, hq, hq2⟩))
   refine ih x7 _ q _ (by rw [List.length_append, List.length_singleton]; omega) hq hq2 ?_
   rw [uC, sK, show iZ ([] : List IB) = 0 from rfl]; dsimp only; rw [List.length_nil]; omega
 have j0 : ∀ (b : Bool) (q : Int), (b = false → 0 < bs.length) → 0 ≤ q → q ≤ p + 2 → Tot (fun k => bK.j0 k b s q ts bs) (fun r => Sp r.1 r.2.1 ∧ 0 ≤ r.2.2 ∧ r.2.2 ≤ p + 10) := by
  intro b q hb hq hq2
  refine Tot.step (fun k => bK.j0.eq_2 _ _ _ _ _ k) (Tot.prop (fun _ => Tot.bind (DF Hs hq (by omega) (by simp)) (fun y hy => Tot.pos (by omega) (Tot.ret ?_))) (fun hbf => ?_))
  ·rw [hy]; exact ⟨⟨by show (ts ++ [_]).length ≤ 6; rw [List.length_append, List.length_singleton]; omega, by show iZ bs ≤ 10000; omega⟩, by show 0 ≤ q + 1; omega, by show q + 1 ≤ p + 10; omega⟩
  ·have hbl := hb (by simpa using hbf)
   refine Tot.bind (oG Hs hq (by omega) _) (fun y hy => ?_)
   obtain ⟨y1, y2, y3⟩ := hy
   have y2 := y2 (by omega)
   rw [y3]
   refine Tot.bind (oG Hs (by omega) (by omega) _) (fun z hz => ?_)
   obtain ⟨_, _, z3⟩ := hz
   rw [z3]
   obtain ⟨i, hi⟩ : ∃ i : Nat, y.1 = i := ⟨y.1.toNat, by omega⟩
   have hil : i < bs.length := by omega
   rw [hi, Int.toNat_natCast, jF]
   have b1 : (gB bs i).f1.length + (gB bs i).f2.length ≤ iZ bs := by have := QF (F5 hil); omega
   have fin : ∀ (cs : List IB) (q : Int), iZ cs ≤ 10000 → 0 ≤ q → q ≤ p + 10 → Sp ts cs ∧ 0 ≤ q ∧ q ≤ p + 10 := fun cs q h1 h2 h3 => ⟨⟨by omega, h1⟩, h2, h3⟩
   refine Tot.prop (fun _ => Tot.bind (DF Hs (by omega) (by omega) (by simp)) (fun u hu => Tot.pos (by omega) (Tot.pos (by omega) (Tot.ret (fin _ u.2 ?_ (by omega) (by omega)))))) (fun _ => ?_)
   ·show iZ (bs.set i _) ≤ 10000
    have := QG hil ⟨u.1, (gB bs i).f1, (gB bs i).f2⟩ 0 (by dsimp only; omega); omega
   refine Tot.prop (fun _ => Tot.pos (by omega) (Tot.pos (by omega) (Tot.bind (DF Hs (by omega) (by omega) (by simp)) (fun u hu => Tot.pos (by omega) (Tot.ret (fin _ u.2 ?_ (by omega) (by omega))))))) (fun _ => ?_)
   ·show iZ (bs.set i _) ≤ 10000
    have := QG hil ⟨(gB bs i).f0, (gB bs i).f1, (gB bs i).f2 ++ [u.1]⟩ 1 (by dsimp only; rw [List.length_append, List.length_singleton]; omega); omega
   refine Tot.prop (fun _ => Tot.pos (by omega) (Tot.pos (by omega) (Tot.bind (DF Hs (by omega) (by omega) (by simp)) (fun u hu => Tot.pos (by omega) (Tot.ret (fin _ u.2 ?_ (by omega) (by omega))))))) (fun _ => ?_)
   ·show iZ (bs.set i _) ≤ 10000
    have := QG hil ⟨(gB bs i).f0, (gB bs i).f1 ++ [u.1], (gB bs i).f2⟩ 1 (by dsimp only; rw [List.length_append, List.length_singleton]; omega); omega
   refine Tot.prop (fun _ => Tot.pos (by omega) (Tot.pos (by omega) (Tot.pos (by omega) (Tot.ret (fin _ (q + 1 + 1) ?_ (by omega) (by omega)))))) (fun _ => ?_)
   ·show iZ (bs ++ [gB bs i]) ≤ 10000
    rw [uC, sK, show iZ ([] : List IB) = 0 from rfl]; omega
   refine Tot.bind (oG Hs (by omega) (by omega) _) (fun u hu => ?_)
   obtain ⟨u1, u2, u3⟩ := hu
   have u2 := u2 (by omega)
   exact l0 7 _ _ _ _ (by rw [kV _ (by omega)]; omega) (by omega) (by omega) (by omega)
 refine Tot.prop (fun _ => j0 true p (by simp) h0 (by omega)) (fun hne => Tot.bind (oG Hs h0 (by omega) _) (fun y hy => ?_))
 have hbl : 0 < bs.length := by have : ¬ ((bs.length : Int) = 0) := hne; omega
 obtain ⟨_, _, e⟩ := hy
 rw [e]
 exact j0 _ (p + 1) (fun _ => hbl) (by omega) (by omega)
theorem Io {s : List Int} (Hs : Bs s) : Tot (fun k => uB.f k s 0) (fun r => Sp r.1 r.2.1 ∧ 0 ≤ r.2.2 ∧ r.2.2 ≤ 6000) := by
 unfold uB.f
 refine Tot.bind (Qj Hs (by omega) (by omega)) (fun x hx => ?_)
 obtain ⟨x1, x2, x3⟩ := hx
 refine Tot.bind (oG Hs x2 (by omega) _) (fun y hy => ?_)
 obtain ⟨_, _, e⟩ := hy
 rw [e]
 refine Tot.prop (fun _ => Tot.bind (Mr Hs (by omega) (by omega) x1) (fun z hz => Tot.ret ⟨hz.1, hz.2.1, by have := hz.2.2; dsimp only; omega⟩)) (fun _ => Tot.ret ⟨⟨by have := x1.1; dsimp only; omega, by have := x1.2.2; dsimp only; omega⟩, by dsimp only; omega, by dsimp only; omega⟩)
theorem Cq {l : List Int} (h : ∀ x ∈ l, (Lit.int .u8 x).wf = true) : ∃ s, Bs s ∧ sF.f l = some (s, 0) := by
 have hb : Bs l := fun x hx => by
  have := h x hx
  simp only [Lit.wf, Bool.and_eq_true, decide_eq_true_eq] at this
  exact ⟨this.1, this.2⟩
 unfold sF.f
 by_cases hc : (l.length : Int) > 2000
 ·rw [if_pos hc, if_pos (by omega)]
  exact ⟨_, fun x hx => hb x (List.mem_of_mem_take hx), rfl⟩
 rw [if_neg hc]; exact ⟨l, hb, rfl⟩
theorem Qd {l : List Int} (h : ∀ x ∈ l, (Lit.int .u8 x).wf = true) : Tot (fun k => kE.f k l) (fun r => Sp r.1 r.2.1 ∧ r.2.2.2.length ≤ 10001) := by
 obtain ⟨s, Hs, e⟩ := Cq h
 unfold kE.f
 refine Tot.FW (e ▸ Ev.ret rfl) (Tot.bind (Io Hs) (fun x hx => ?_))
 obtain ⟨⟨x1, x2⟩, x3, x4⟩ := hx
 have := zS x.2.1
 refine Tot.bind (Bo (m := 10000) Hs x3 (by omega) (fun b hb => by have := QF hb; omega) (by omega) (by omega)) (fun y hy => Tot.ret ⟨⟨x1, x2⟩, hy.1⟩)
theorem QI (l : List ByteArray) (hl : l.length ≤ 9223372036854775807) : Ev (fun k => gN.f k l l) true := by
 unfold gN.f
 refine Ev.pos rfl ?_
 refine Ev.loop (f := fun k i => gN.l0 k l l (i : Int)) (val := fun _ => true) l.length ?_ ?_ 0 (by omega)
 ·exact Ev.step (fun k => gN.l0.eq_2 _ _ _ k) (Ev.neg (by omega) (Ev.ret rfl))
 intro i hi H
 refine Ev.step (fun k => gN.l0.eq_2 _ _ _ k) (Ev.pos (by omega) (Ev.pos (by omega) (Ev.pos (by omega) (Ev.pos rfl ?_))))
 rw [jZ hi hl]; exact H
theorem Sp.sz {ts : List ByteArray} {bs : List IB} (h : Sp ts bs) : ts.length + iZ bs ≤ 1048576 := by have := h.1; have := h.2; omega
theorem Sp.bok {ts : List ByteArray} {bs : List IB} (h : Sp ts bs) : Bok bs := (yX h.sz).bok
theorem Tot.then {α : Type} {g : Nat → Option α} {f : Nat → α → Option Bool} {P : α → Prop} (H : Tot g P) (K : ∀ x, P x → Ev (fun k => f k x) true) : Ev (fun k => (g k).bind fun x => f k x) true := by
 obtain ⟨x, h1, h2⟩ := H
 exact Ev.bind h1 (K x h2)
theorem JZ {ts : List ByteArray} {bs : List IB} (h : Bz ts bs) : Ev (fun k => dK.f k ts bs ts bs) true := by
 unfold dK.f
 refine Ev.bind (QI ts (by have := h.ts; omega)) (Ev.pos rfl ?_)
 refine Ev.step (fun k => dK.j0.eq_2 _ _ _ _ _ k) (Ev.neg (by simp) ?_)
 refine Ev.loop (f := fun k i => dK.l0 k (i : Int) ts bs ts bs) (val := fun _ => true) bs.length ?_ ?_ 0 (by omega)
 ·exact Ev.step (fun k => dK.l0.eq_2 _ _ _ _ _ k) (Ev.neg (by omega) (Ev.ret rfl))
 intro i hi H
 obtain ⟨h1, h2⟩ := h.at_ hi
 refine Ev.step (fun k => dK.l0.eq_2 _ _ _ _ _ k) (Ev.pos (by omega) (Ev.pos (by omega) (Ev.pos (by omega) (Ev.pos rfl ?_))))
 rw [jF, jZ hi (by have := h.bs; omega)]
 exact Ev.bind (QI _ (by omega)) (Ev.pos rfl (Ev.bind (QI _ (by omega)) (Ev.pos rfl H)))
theorem ZH {l : List Int} (h : ∀ x ∈ l, (Lit.int .u8 x).wf = true) : Tot (fun k => mE.f k l) (fun r => Sp r.1 r.2.1 ∧ r.2.2.2.length ≤ 10001) := by
 unfold mE.f
 exact Tot.bind (Qd h) (fun x hx => Tot.ret hx)
theorem UQ {l : List Int} (h : ∀ x ∈ l, (Lit.int .u8 x).wf = true) : Tot (fun k => eT.f k l) (fun r => Sp r.1 r.2.1 ∧ r.2.2.2.length ≤ 10) := by
 obtain ⟨s, Hs, e⟩ := Cq h
 unfold eT.f
 refine Tot.FW (e ▸ Ev.ret rfl) (Tot.bind (Io Hs) (fun x hx => ?_))
 obtain ⟨hs, x3, x4⟩ := hx
 have h6 := hs.1
 refine Tot.bind (JV Hs x3 2 (by omega)) (fun y hy => ?_)
 obtain ⟨y1, y2, y3⟩ := hy
 refine Tot.bind (oG Hs (by omega) (by omega) 12) (fun z hz => ?_)
 obtain ⟨_, _, hz⟩ := hz
 refine Tot.prop (fun _ => Tot.bind (DF Hs (by omega) (by omega) (by decide)) (fun a ha => Tot.pos (by omega) (Tot.bind (DF Hs (by omega) (by omega) (by decide)) (fun b hb => Tot.ret ⟨hs, ?_⟩)))) (fun _ => Tot.bind (DF Hs (by omega) (by omega) (by decide)) (fun b hb => Tot.ret ⟨hs, ?_⟩))
 ·show (y.1 ++ [a.1]).length ≤ 10
  simp only [List.length_append, List.length_singleton]
  omega
 show y.1.length ≤ 10
 omega
theorem Lm (ts : List ByteArray) (bs : List IB) (n : ByteArray) (l : List ByteArray) : (yH ts bs n l = (ts, insB bs ⟨n, [], l⟩, 0) ∧ rU ts bs = true ∧ wI n = true ∧ lV l ts = true ∧ ¬ 0 ≤ atI bs n ∧ ¬ 5 ≤ bs.length) ∨ yH ts bs n l = ([], [], 1) ∨ ∃ c : Int, 2 ≤ c ∧ yH ts bs n l = (ts, bs, c) := by
 unfold yH
 by_cases h1 : rU ts bs = true
 ·by_cases h2 : wI n = true
  ·by_cases h3 : lV l ts = true
   ·by_cases h4 : 0 ≤ atI bs n
    ·exact .inr (.inr ⟨3, by decide, by rw [if_pos h1, if_pos h2, if_pos h3, if_pos h4]⟩)
    by_cases h5 : 5 ≤ bs.length
    ·exact .inr (.inr ⟨4, by decide, by rw [if_pos h1, if_pos h2, if_pos h3, if_neg h4, if_pos h5]⟩)
    exact .inl ⟨by rw [if_pos h1, if_pos h2, if_pos h3, if_neg h4, if_neg h5], h1, h2, h3, h4, h5⟩
   exact .inr (.inr ⟨2, by decide, by rw [if_pos h1, if_pos h2, if_neg h3]⟩)
  exact .inr (.inr ⟨2, by decide, by rw [if_pos h1, if_neg h2]⟩)
 exact .inr (.inl (by rw [if_neg h1]))
theorem Lv (ts : List ByteArray) (bs : List IB) (n : ByteArray) : (∃ i : Nat, i < bs.length ∧ yI ts bs n = (ts, bs.eraseIdx i, 0)) ∨ yI ts bs n = ([], [], 1) ∨ yI ts bs n = (ts, bs, 3) := by
 unfold yI
 by_cases h1 : rU ts bs = true
 ·by_cases h2 : atI bs n < 0
  ·exact .inr (.inr (by rw [if_pos h1, if_pos h2]))
  obtain ⟨i, e, hi⟩ := CR bs n h2
  exact .inl ⟨i, hi, by rw [if_pos h1, if_neg h2, e]; rfl⟩
 exact .inr (.inl (by rw [if_neg h1]))
theorem Sk (ts : List ByteArray) (bs : List IB) (n : ByteArray) (l : List ByteArray) : (∃ i : Nat, i < bs.length ∧ lV l (gB bs i).f2 = true ∧ EI ts bs n l = (ts, setN bs i ((gB bs i).f1.filter (hasS l)) l, 0)) ∨ EI ts bs n l = ([], [], 1) ∨ ∃ c : Int, 2 ≤ c ∧ EI ts bs n l = (ts, bs, c) := by
 unfold EI
 by_cases h1 : rU ts bs = true
 ·by_cases h2 : atI bs n < 0
  ·exact .inr (.inr ⟨3, by decide, by rw [if_pos h1, if_pos h2]⟩)
  obtain ⟨i, e, hi⟩ := CR bs n h2
  rw [e]
  by_cases h3 : lV l (gB bs i).f2 = true
  ·exact .inl ⟨i, hi, h3, by rw [if_pos h1, if_neg (by omega)]; exact if_pos h3⟩
  exact .inr (.inr ⟨2, by decide, by rw [if_pos h1, if_neg (by omega)]; exact if_neg h3⟩)
 exact .inr (.inl (by rw [if_neg h1]))
theorem Bz.L8 {ts : List ByteArray} {bs : List IB} (h : Bz ts bs) : Ev (fun k => gF.f k ts bs) (DR ts bs) := OM ts bs (by have := h.ts; omega) (by have := h.bs; omega) h.bok
theorem OU {m : List Int} (hv : ∀ x ∈ m, (Lit.int .u8 x).wf = true) : Ev (fun k => dB.j2 k m false) true := by
 refine Ev.step (fun k => dB.j2.eq_2 _ _ k) (Ev.neg (by simp) (Tot.then (UQ hv) (fun x hx => ?_)))
 obtain ⟨ts, bs, n, l⟩ := x
 replace hx : Sp ts bs ∧ l.length ≤ 10 := hx
 obtain ⟨hs, hl⟩ := hx
 have hb := hs.sz
 have hz := Rj n hb (show l.length ≤ 1048576 by omega)
 refine Ev.bind (MN ts bs n l hb (by omega)) (Ev.bind (DT ts bs n l hb (by omega)) (Ev.pos rfl (Ev.bind (JZ hz) (Ev.pos rfl ?_))))
 rcases Lm ts bs n l with ⟨e, h1, h2, h3, h4, h5⟩ | e | ⟨c, hc, e⟩
 ·rw [e] at hz ⊢
  refine Ev.pos rfl (Ev.bind (Bz.L8 hz) (Ev.bind (Bz.L8 (yX hb)) (Ev.pos ?_ (Ev.pos ?_ (Ev.pos (by simp) (Ev.ret rfl))))))
  ·rw [Ey h1 h2 h3 h4 h5]; simp
  show ((insB bs ⟨n, [], l⟩).length : Int) = wrap64 ((bs.length : Int) + 1)
  rw [Cg, kV _ (by omega)]; omega
 ·rw [e]
  exact Ev.neg (by simp) (Ev.pos (by simp) (Ev.ret rfl))
 rw [e]
 exact Ev.neg (by show ¬ c = 0; omega) (Ev.neg (by show ¬ c < 2; omega) (Ev.bind (JZ (yX hb)) (Ev.ret rfl)))
theorem Sl {ts : List ByteArray} {bs : List IB} (hs : Sp ts bs) (n : ByteArray) {m : List Int} (hv : ∀ x ∈ m, (Lit.int .u8 x).wf = true) : Ev (fun k => dB.j1 k m n false ts bs) true := by
 have hb := yX hs.sz
 have hz := Si n hb
 refine Ev.step (fun k => dB.j1.eq_2 _ _ _ _ _ k) (Ev.neg (by simp) (Ev.bind (MO ts bs n hb) (Ev.bind (DU ts bs n hb) (Ev.pos rfl (Ev.bind (JZ hz) (Ev.pos rfl ?_))))))
 rcases Lv ts bs n with ⟨i, hi, e⟩ | e | e
 ·rw [e] at hz ⊢
  refine Ev.pos rfl (Ev.pos ?_ (Ev.bind (Bz.L8 hb) (Ev.test _ (fun h => Ev.bind (Bz.L8 hz) ?_) (fun _ => OU hv))))
  ·show ((bs.eraseIdx i).length : Int) = wrap64 ((bs.length : Int) - 1)
   rw [List.length_eraseIdx_of_lt hi, kV _ (by have := hb.bs; omega)]; omega
  rw [Fp i h]; exact OU hv
 ·rw [e]
  exact Ev.neg (by simp) (OU hv)
 rw [e]
 exact Ev.neg (by simp) (OU hv)
theorem Ak : dB.Pure := by
 intro l m _ _ hw _ _ hv
 refine Ev.rounds (g := fun k => dB.f k l m) ?_
 have J0 : ∀ b, Ev (fun k => dB.j0 k l m b) true := by
  intro b
  refine Ev.step (fun k => dB.j0.eq_2 _ _ _ k) (Ev.prop (fun _ => Ev.ret rfl) (fun _ => Tot.then (ZH hw) (fun x hx => ?_)))
  obtain ⟨ts, bs, n, needs⟩ := x
  replace hx : Sp ts bs ∧ needs.length ≤ 10001 := hx
  obtain ⟨hs, hl⟩ := hx
  have hb := hs.sz
  have hz := Yh n hb (show needs.length ≤ 1048576 by omega)
  have J1 := Sl hs n hv
  refine Ev.bind (OL ts bs n needs hb (by omega)) (Ev.bind (EP ts bs n needs hb (by omega)) (Ev.pos rfl (Ev.bind (JZ hz) (Ev.pos rfl ?_))))
  rcases Sk ts bs n needs with ⟨i, hi, hn, e⟩ | e | ⟨c, hc, e⟩
  ·rw [e] at hz ⊢
   refine Ev.pos rfl (Ev.bind (Bz.L8 (yX hb)) (Ev.test _ (fun h => Ev.bind (Bz.L8 hz) ?_) (fun _ => Ev.neg (by simp) J1)))
   rw [Md hi hn h]
   exact Ev.pos rfl (Ev.neg (by simp) J1)
  ·rw [e]
   exact Ev.neg (by simp) (Ev.neg (by simp) J1)
  ·rw [e]
   exact Ev.neg (by show ¬ c = 0; omega) (Ev.pos (by show c > 1; omega) (Ev.bind (JZ (yX hb)) J1))
 unfold dB.f
 exact Ev.prop (fun _ => J0 _) (fun _ => J0 _)
end Go.Proofs.Ytaofjgnhapnndaa.Q
