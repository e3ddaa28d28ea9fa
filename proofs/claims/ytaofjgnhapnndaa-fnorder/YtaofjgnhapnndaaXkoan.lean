/- Texts that the row needs: words on memory and rows, the contracts of the functions it reaches, and the plain lemmas on what they compute. -/
import Derived.Deep.RegionLaw
import Derived.Test.YtaofjgnhapnndaaXkoam
open Go.Proofs.YtaofjgnhapnndaaFko
namespace Go.Proofs.Ytaofjgnhapnndaa.Q
open Go.RowKit Go.Proofs.YtaofjgnhapnndaaW.PrintWords Go.Proofs.YtaofjgnhapnndaaW.PrintLast Go.Proofs.YtaofjgnhapnndaaW.PrintMore
set_option linter.unusedVariables false
set_option linter.unusedSimpArgs false
def PZ (ts : List ByteArray) (bs : List IB) (n : ByteArray) : List ByteArray × List IB × Int :=
  if uO ts bs = true then (if atI bs n < 0 then (ts, bs, 3) else (ts, bs.eraseIdx (atI bs n).toNat, 0)) else ([], [], 1)
theorem LU (bs : List IB) (n : ByteArray) (h : ¬ atI bs n < 0) : ∃ i : Nat, atI bs n = (i : Int) ∧ i < bs.length := by
 unfold atI idxI at h ⊢
 cases hf : yR (fun i => (fun s => s.toList == n.toList) (gB bs i).f0) bs.length 0 with
 | none => rw [hf] at h; simp at h
 | some i => exact ⟨i, by simp, (G9 hf).2.1⟩
theorem NP : ∀ (bs : List IB) (i : Nat), jE (bs.eraseIdx i) ≤ jE bs
  | [], i => by simp
  | b :: r, 0 => by rw [List.eraseIdx_zero, List.tail_cons, qD]; omega
  | b :: r, i + 1 => by have := NP r i; rw [List.eraseIdx_cons_succ, qD, qD]; omega
theorem JG (ts : List ByteArray) (bs : List IB) (n : ByteArray) (h : Bz ts bs) : Ev (fun k => gT.f k ts bs n) (PZ ts bs n) := by
 have hl := h.bs
 unfold gT.f PZ
 refine Ev.bind (kG ts bs (by have := h.ts; omega) (by omega) h.bok) (Ev.test _ (fun hb => ?_) (fun hb => Ev.ret (by simp [hb])))
 rw [if_pos hb]
 refine Ev.bind (lK ts bs h) (Ev.bind (uA ts bs n (by omega)) ?_)
 refine Ev.prop (fun hc => Ev.ret (by rw [if_pos hc])) (fun hc => ?_)
 rw [if_neg hc]
 obtain ⟨i, e, hi⟩ := LU bs n hc
 rw [e, Int.toNat_natCast, jB hi (by omega)]
 dsimp only
 refine Ev.bind (Ev.ret rfl) (Ev.pos (by omega) (Ev.pos (by omega) (Ev.bind (Ev.ret rfl) (Ev.pos (by simp only [List.length_nil, List.length_take]; omega) (Ev.bind (Ev.ret rfl) (Ev.pos (by omega) (Ev.pos (by omega) (Ev.bind (Ev.ret rfl) (Ev.pos (by simp only [List.nil_append, List.length_take, List.length_drop]; omega) (Ev.ret ?_))))))))))
 rw [List.nil_append, Int.toNat_natCast, List.eraseIdx_eq_take_drop_succ]
def setN (bs : List IB) (i : Nat) (h n : List ByteArray) : List IB := bs.set i ⟨(gB bs i).f0, h, n⟩
def Y3 (ts : List ByteArray) (bs : List IB) (n : ByteArray) (needs : List ByteArray) : List ByteArray × List IB × Int :=
  if uO ts bs = true then
    (if atI bs n < 0 then (ts, bs, 3) else if wK needs (gB bs (atI bs n).toNat).f2 = true then (ts, setN bs (atI bs n).toNat ((gB bs (atI bs n).toNat).f1.filter (hasS needs)) needs, 0) else (ts, bs, 2))
  else ([], [], 1)
theorem MI {bs : List IB} {i : Nat} (hi : i < bs.length) (x : IB) : jE (bs.set i x) + (1 + (gB bs i).f1.length + (gB bs i).f2.length) = jE bs + (1 + x.f1.length + x.f2.length) := by
 have e := List.set_eq_take_append_cons_drop (l := bs) (i := i) (a := x)
 rw [if_pos hi] at e
 have e2 : bs = bs.take i ++ gB bs i :: bs.drop (i + 1) := by
  have := List.drop_eq_getElem_cons hi
  unfold gB; rw [getD_lt bs _ hi, ← this, List.take_append_drop]
 have e3 : jE bs = jE (bs.take i) + (1 + (gB bs i).f1.length + (gB bs i).f2.length + jE (bs.drop (i + 1))) := by
  rw [← qD, ← rT, ← e2]
 rw [e, rT, qD, e3]; omega
theorem PR (p : ByteArray → Bool) (l : List ByteArray) : (l.filter p).length ≤ l.length := List.length_filter_le p l
theorem Oh {bs : List IB} {i : Nat} (hi : i < bs.length) (p : ByteArray → Bool) (needs : List ByteArray) : jE (setN bs i ((gB bs i).f1.filter p) needs) ≤ jE bs + needs.length := by
 have := MI hi ⟨(gB bs i).f0, (gB bs i).f1.filter p, needs⟩
 have h2 := PR p (gB bs i).f1
 unfold setN; simp only at this; omega
theorem XK {l : List ByteArray} (p : ByteArray → Bool) {i : Nat} (h : i < l.length) : (l.take (i + 1)).filter p = (l.take i).filter p ++ (if p l[i] = true then [l[i]] else []) := by
 rw [List.take_succ_eq_append_getElem h, List.filter_append]
 cases hp : p l[i] <;> simp [hp]
theorem KY (ts : List ByteArray) (bs : List IB) (n : ByteArray) (needs : List ByteArray) (h : ts.length + jE bs ≤ 1048576) (hn : needs.length ≤ 1048576) : Ev (fun k => eD.f k ts bs n needs) (Y3 ts bs n needs) := by
 have hz := NC h
 have hl := hz.bs
 unfold eD.f Y3
 refine Ev.bind (kG ts bs (by have := hz.ts; omega) (by omega) hz.bok) (Ev.test _ (fun hb => ?_) (fun hb => Ev.ret (by simp [hb])))
 rw [if_pos hb]
 refine Ev.bind (lK ts bs hz) (Ev.bind (uA ts bs n (by omega)) ?_)
 refine Ev.prop (fun hc => Ev.ret (by rw [if_pos hc])) (fun hc => ?_)
 rw [if_neg hc]
 obtain ⟨i, e, hi⟩ := LU bs n hc
 rw [e, Int.toNat_natCast]
 have hii := hz.at_ hi
 dsimp only
 refine Ev.pos (by omega) (Ev.pos (by omega) ?_)
 rw [jI]
 refine Ev.bind (qA needs _ (by omega) (by omega)) (Ev.test _ (fun ht => ?_) (fun ht => Ev.ret (by simp [ht])))
 rw [if_pos ht]
 have go : ∀ (d j : Nat), (gB bs i).f1.length - j = d → j ≤ (gB bs i).f1.length → Ev (fun k => eD.l0 k needs (i : Int) (((gB bs i).f1.take j).filter (hasS needs)) (j : Int) ts bs ts bs) (ts, setN bs i ((gB bs i).f1.filter (hasS needs)) needs, 0) := by
  intro d
  induction d with
  | zero =>
   intro j hd hj
   have hje : j = (gB bs i).f1.length := by omega
   refine Ev.step (fun k => eD.l0.eq_2 _ _ _ _ _ _ _ _ k) (Ev.pos (by omega) (Ev.pos (by omega) ?_))
   rw [jI]
   refine Ev.neg (by omega) (Ev.bind (xD needs (by omega)) (Ev.pos (by omega) (Ev.bind (Ev.ret rfl) ?_)))
   have hset : ((bs.set i (⟨(gB bs i).f0, (gB bs i).f1, needs⟩ : IB)).set i ⟨(gB bs i).f0, (gB bs i).f1.filter (hasS needs), needs⟩) = setN bs i ((gB bs i).f1.filter (hasS needs)) needs := by rw [List.set_set]; rfl
   have hrd : aC (bs.set i (⟨(gB bs i).f0, (gB bs i).f1, needs⟩ : IB)) (i : Int) = ⟨(gB bs i).f0, (gB bs i).f1, needs⟩ := by
    unfold aC
    rw [Int.toNat_natCast, List.getD_eq_getElem?_getD, List.getElem?_set_self hi]; rfl
   rw [Int.toNat_natCast, hrd, List.take_of_length_le (by omega), hset]
   have hw := Oh hi (hasS needs) needs
   exact Ev.bind (lK ts _ (by unfold Bz; omega)) (Ev.ret rfl)
  | succ d ih =>
   intro j hd hj
   have hlt : j < (gB bs i).f1.length := by omega
   refine Ev.step (fun k => eD.l0.eq_2 _ _ _ _ _ _ _ _ k) (Ev.pos (by omega) (Ev.pos (by omega) ?_))
   rw [jI]
   refine Ev.pos (by omega) (Ev.pos (by omega) ?_)
   rw [lY, show gS (gB bs i).f1 j = (gB bs i).f1[j] from getD_lt _ _ hlt, jB hlt (by omega)]
   have := ih (j + 1) (by omega) (by omega)
   rw [XK _ hlt] at this
   refine Ev.bind (nP needs _ (by omega)) (Ev.test _ (fun hp => Ev.pos ?_ ?_) (fun hp => ?_))
   ·have := PR (hasS needs) ((gB bs i).f1.take j); rw [List.length_take] at this; omega
   ·rw [if_pos hp] at this; exact this
   ·rw [if_neg (by simp [hp]), List.append_nil] at this; exact this
 have := go (gB bs i).f1.length 0 (by omega) (by omega)
 exact this
def QA (bs : List IB) (at_ : Nat) (things : List ByteArray) (q : Nat) : Bool := !decide (q = at_) && wO (gB bs q).f1 things
def Oq (bs : List IB) (at_ : Nat) (things : List ByteArray) : Bool := anyR (QA bs at_ things) bs.length 0
def N8 (bs : List IB) (i : Nat) (things : List ByteArray) : List IB := setN bs i (sH (gB bs i).f1 things) (gB bs i).f2
def askB (ts : List ByteArray) (bs : List IB) (n : ByteArray) (things : List ByteArray) : List ByteArray × List IB × Int :=
  if uO ts bs = true then
    (if atI bs n < 0 then (ts, bs, 3) else if wK things (gB bs (atI bs n).toNat).f2 = true then
      (if Oq bs (atI bs n).toNat things = true then (ts, bs, 5) else if (CG ts bs && !CG ts (N8 bs (atI bs n).toNat things)) = true then (ts, bs, 6) else (ts, N8 bs (atI bs n).toNat things, 0)) else (ts, bs, 2))
  else ([], [], 1)
theorem Eb {bs : List IB} {i : Nat} (hi : i < bs.length) (things : List ByteArray) : jE (N8 bs i things) ≤ jE bs + things.length := by
 have h1 := MI hi ⟨(gB bs i).f0, sH (gB bs i).f1 things, (gB bs i).f2⟩
 have h2 := JA things (gB bs i).f1
 unfold N8 setN; simp only at h1; omega
theorem Sc {ts : List ByteArray} {bs : List IB} {i : Nat} (hi : i < bs.length) {things : List ByteArray} (h : ts.length + jE bs ≤ 1048576) (hn : things.length ≤ 1048576) : Bz ts (N8 bs i things) := by
 have := Eb hi things
 unfold Bz; omega
theorem Y2 (l : List ByteArray) (a : ByteArray) (hl : l.length ≤ 67108864) (hf : insF a l = false) : Ev (fun k => dF.f k l a) (insL a l) := by
 unfold dF.f
 have go : ∀ (d i : Nat), l.length - i = d → i ≤ l.length → insF a (l.drop i) = false → Ev (fun k => dF.l0 k l a (i : Int)) (l.take i ++ insL a (l.drop i)) := by
  intro d
  induction d with
  | zero =>
   intro i hd hi _
   have hie : i = l.length := by omega
   refine Ev.step (fun k => dF.l0.eq_2 _ _ _ k) (Ev.neg (by omega) ?_)
   refine Ev.bind (Ev.ret rfl) (Ev.pos (by omega) (Ev.pos (by omega) ?_))
   rw [Int.toNat_natCast]
   refine Ev.pos (by simp only [List.length_nil, List.length_take]; omega) (Ev.bind (Ev.ret rfl) (Ev.bind (Ev.ret rfl) ?_))
   refine Ev.pos (by simp only [List.nil_append, List.length_take, List.length_cons, List.length_nil]; omega) (Ev.bind (Ev.ret rfl) (Ev.pos (by simp only [List.nil_append, List.length_append, List.length_take, List.length_drop, List.length_cons, List.length_nil]; omega) (Ev.ret ?_)))
   rw [hie, List.drop_eq_nil_of_le (Nat.le_refl _), List.nil_append, List.append_nil]; rfl
  | succ d ih =>
   intro i hd hi hf
   have hlt : i < l.length := by omega
   rw [List.drop_eq_getElem_cons hlt] at hf ⊢
   unfold insF at hf
   unfold insL
   refine Ev.step (fun k => dF.l0.eq_2 _ _ _ k) (Ev.pos (by omega) (Ev.pos (by omega) ?_))
   rw [lY, show gS l i = l[i] from getD_lt _ _ hlt, jB hlt (by omega)]
   refine Ev.prop (fun hp => ?_) (fun hp => ?_)
   ·rw [if_pos hp] at hf
    rw [show (if Op.bytesLess l[i].toList a.toList = true then l[i] :: insL a (l.drop (i + 1)) else if (l[i].toList == a.toList) = true then l[i] :: l.drop (i + 1) else a :: l[i] :: l.drop (i + 1)) = l[i] :: insL a (l.drop (i + 1)) from if_pos hp]
    have := ih (i + 1) (by omega) (by omega) hf
    rw [List.take_succ_eq_append_getElem hlt, List.append_assoc] at this
    exact this
   ·rw [if_neg hp] at hf
    have hres : (if Op.bytesLess l[i].toList a.toList = true then l[i] :: insL a (l.drop (i + 1)) else if (l[i].toList == a.toList) = true then l[i] :: l.drop (i + 1) else a :: l[i] :: l.drop (i + 1)) = a :: l[i] :: l.drop (i + 1) := by
     rw [if_neg hp, if_neg (by rw [hf]; simp)]
    rw [hres]
    refine Ev.neg (by simpa using hf) ?_
    refine Ev.bind (Ev.ret rfl) (Ev.pos (by omega) ?_)
    rw [Int.toNat_natCast]
    refine Ev.pos (by simp only [List.length_nil, List.length_take]; omega) (Ev.bind (Ev.ret rfl) (Ev.bind (Ev.ret rfl) ?_))
    refine Ev.pos (by simp only [List.nil_append, List.length_take, List.length_cons, List.length_nil]; omega) (Ev.bind (Ev.ret rfl) (Ev.pos (by simp only [List.nil_append, List.length_append, List.length_take, List.length_drop, List.length_cons, List.length_nil]; omega) (Ev.ret ?_)))
    rw [List.nil_append, List.append_assoc, List.drop_eq_getElem_cons hlt]; rfl
 have := go l.length 0 (by omega) (by omega) hf
 exact this
theorem NU (ts : List ByteArray) (bs : List IB) (at_ : Nat) (things : List ByteArray) (h : Bz ts bs) (hn : things.length ≤ 1048576) : Ev (fun k => iK.f k ts bs (at_ : Int) things) (Oq bs at_ things) := by
 have hl := h.bs
 unfold iK.f
 refine Ev.loop (f := fun k i => iK.l0 k (at_ : Int) things (i : Int) ts bs) (val := anyR (QA bs at_ things) bs.length) bs.length ?_ ?_ 0 (by omega)
 ·rw [X5]
  refine Ev.step (fun k => iK.l0.eq_2 _ _ _ _ _ k) ?_
  exact Ev.neg (by omega) (Ev.ret rfl)
 intro i hi H
 rw [RY _ hi]
 refine Ev.step (fun k => iK.l0.eq_2 _ _ _ _ _ k) (Ev.pos (by omega) ?_)
 rw [jB hi (by omega), jI]
 refine Ev.prop (fun e => Ev.sub H (by simp [QA, show i = at_ by omega])) (fun e => Ev.pos (by omega) (Ev.bind (yH _ _ (by have := h.at_ hi; omega) (by omega)) ?_))
 have hne : decide (i = at_) = false := decide_eq_false (by omega)
 refine Ev.test _ (fun h2 => Ev.ret (by simp [QA, h2, hne])) (fun h2 => Ev.sub H (by simp [QA, h2]))
theorem Tp {bs : List IB} {i : Nat} (hi : i < bs.length) (h n : List ByteArray) : gB (setN bs i h n) i = ⟨(gB bs i).f0, h, n⟩ := by
 unfold setN gB
 rw [List.getD_eq_getElem?_getD, List.getElem?_set_self hi]; rfl
theorem MG (ts : List ByteArray) (bs : List IB) (n : ByteArray) (things : List ByteArray) (h : ts.length + jE bs ≤ 1048576) (hn : things.length ≤ 1048576) : Ev (fun k => eT.f k ts bs n things) (askB ts bs n things) := by
 have hz := NC h
 have hl := hz.bs
 have ht := hz.ts
 unfold eT.f askB
 refine Ev.bind (kG ts bs (by omega) (by omega) hz.bok) (Ev.test _ (fun hb => ?_) (fun hb => Ev.ret (by simp [hb])))
 rw [if_pos hb]
 refine Ev.bind (lK ts bs hz) (Ev.bind (uA ts bs n (by omega)) ?_)
 refine Ev.prop (fun hc => Ev.ret (by rw [if_pos hc])) (fun hc => ?_)
 rw [if_neg hc]
 obtain ⟨i, e, hi⟩ := LU bs n hc
 rw [e, Int.toNat_natCast]
 have hii := hz.at_ hi
 dsimp only
 refine Ev.pos (by omega) (Ev.pos (by omega) ?_)
 rw [jI]
 refine Ev.bind (qA things _ (by omega) (by omega)) (Ev.test _ (fun hq => ?_) (fun hq => Ev.ret (by simp [hq])))
 rw [if_pos hq]
 refine Ev.bind (NU ts bs i things hz hn) (Ev.test _ (fun hk => Ev.ret (by simp [hk])) (fun hk => ?_))
 rw [if_neg (by simp [hk])]
 refine Ev.bind (lK ts bs hz) ?_
 dsimp only
 have hself : setN bs i (sH (gB bs i).f1 (things.take 0)) (gB bs i).f2 = bs := by
  unfold setN sH
  rw [List.take_zero, List.foldl_nil]
  refine List.ext_getElem (by rw [List.length_set]) fun j h1 h2 => ?_
  rw [List.getElem_set]
  by_cases hj : i = j
  ·subst hj; rw [if_pos rfl]; unfold gB; rw [getD_lt bs _ hi]
  ·rw [if_neg hj]
 have go : ∀ (d j : Nat), things.length - j = d → j ≤ things.length → Ev (fun k => eT.l0 k things (i : Int) (j : Int) ts bs ts bs ts (setN bs i (sH (gB bs i).f1 (things.take j)) (gB bs i).f2)) (if (CG ts bs && !CG ts (N8 bs i things)) = true then (ts, bs, 6) else (ts, N8 bs i things, 0)) := by
  intro d
  induction d with
  | zero =>
   intro j hd hj
   rw [List.take_of_length_le (by omega), show setN bs i (sH (gB bs i).f1 things) (gB bs i).f2 = N8 bs i things from rfl]
   have hg := Sc hi h hn
   have hgl := hg.bs
   refine Ev.step (fun k => eT.l0.eq_2 _ _ _ _ _ _ _ _ _ k) (Ev.neg (by omega) (Ev.bind (CJ ts bs (by omega) (by omega) hz.bok) ?_))
   refine Ev.test _ (fun h1 => ?_) (fun h1 => ?_)
   ·refine Ev.bind (CJ ts _ (by omega) (by omega) hg.bok) (Ev.test _ (fun h2 => ?_) (fun h2 => Ev.ret (by simp [h1, h2])))
    exact Ev.bind (lK ts _ hg) (Ev.ret (by simp [h1, h2]))
   ·exact Ev.bind (lK ts _ hg) (Ev.ret (by simp [h1]))
  | succ d ih =>
   intro j hd hj
   have hlt : j < things.length := by omega
   have hsn : sH (gB bs i).f1 (things.take (j + 1)) = insL things[j] (sH (gB bs i).f1 (things.take j)) := by
    rw [List.take_succ_eq_append_getElem hlt, XZ]
   have hlen : (setN bs i (sH (gB bs i).f1 (things.take j)) (gB bs i).f2).length = bs.length := by unfold setN; rw [List.length_set]
   have hil := JA (things.take j) (gB bs i).f1
   rw [List.length_take] at hil
   have next := ih (j + 1) (by omega) (by omega)
   refine Ev.step (fun k => eT.l0.eq_2 _ _ _ _ _ _ _ _ _ k) (Ev.pos (by omega) (Ev.pos (by omega) (Ev.pos (by rw [hlen]; omega) (Ev.pos (by omega) ?_))))
   rw [jI, Tp hi, lY, show gS things j = things[j] from getD_lt _ _ hlt, jB hlt (by omega)]
   dsimp only
   refine Ev.test _ (fun hf => ?_) (fun hf => ?_)
   ·rw [hsn, SI _ _ hf] at next
    exact next
   ·refine Ev.bind (Y2 _ _ (by omega) hf) ?_
    rw [Int.toNat_natCast]
    have e2 : (setN bs i (sH (gB bs i).f1 (things.take j)) (gB bs i).f2).set i ⟨(gB bs i).f0, insL things[j] (sH (gB bs i).f1 (things.take j)), (gB bs i).f2⟩ = setN bs i (sH (gB bs i).f1 (things.take (j + 1))) (gB bs i).f2 := by
     rw [hsn]; unfold setN; rw [List.set_set]
    rw [e2]
    exact next
 have := go things.length 0 (by omega) (by omega)
 rw [hself] at this
 exact this
def Tot {α : Type} (g : Nat → Option α) (P : α → Prop) : Prop := ∃ r, Ev g r ∧ P r
theorem Tot.ret {α : Type} {r : α} {P : α → Prop} (h : P r) : Tot (fun _ => some r) P := ⟨r, Ev.ret rfl, h⟩
theorem Tot.bind {α β : Type} {g : Nat → Option α} {f : Nat → α → Option β} {P : α → Prop} {Q : β → Prop} (H : Tot g P) (K : ∀ x, P x → Tot (fun k => f k x) Q) : Tot (fun k => (g k).bind fun x => f k x) Q := by
 obtain ⟨x, h1, h2⟩ := H
 obtain ⟨y, h3, h4⟩ := K x h2
 exact ⟨y, Ev.bind h1 h3, h4⟩
theorem Tot.vL {α β : Type} {g : Nat → Option α} {f : Nat → α → Option β} {r : α} {Q : β → Prop} (H : Ev g r) (K : Tot (fun k => f k r) Q) : Tot (fun k => (g k).bind fun x => f k x) Q := by
 obtain ⟨y, h3, h4⟩ := K
 exact ⟨y, Ev.bind H h3, h4⟩
theorem Tot.pos {α : Type} {c : Prop} [Decidable c] {a b : Nat → Option α} {P : α → Prop} (h : c) (H : Tot a P) : Tot (fun k => if c then a k else b k) P := by
 obtain ⟨r, h1, h2⟩ := H; exact ⟨r, Ev.pos h h1, h2⟩
theorem Tot.neg {α : Type} {c : Prop} [Decidable c] {a b : Nat → Option α} {P : α → Prop} (h : ¬ c) (H : Tot b P) : Tot (fun k => if c then a k else b k) P := by
 obtain ⟨r, h1, h2⟩ := H; exact ⟨r, Ev.neg h h1, h2⟩
theorem Tot.prop {α : Type} {c : Prop} [Decidable c] {a b : Nat → Option α} {P : α → Prop} (H1 : c → Tot a P) (H2 : ¬ c → Tot b P) : Tot (fun k => if c then a k else b k) P := by
 by_cases h : c
 ·exact Tot.pos h (H1 h)
 exact Tot.neg h (H2 h)
theorem Tot.weak {α : Type} {g : Nat → Option α} {P Q : α → Prop} (H : Tot g P) (h : ∀ x, P x → Q x) : Tot g Q := by
 obtain ⟨r, h1, h2⟩ := H; exact ⟨r, h1, h r h2⟩
theorem Tot.step {α : Type} {f g : Nat → Option α} {P : α → Prop} (e : ∀ k, f (k + 1) = g k) (H : Tot g P) : Tot f P := by
 obtain ⟨r, h1, h2⟩ := H; exact ⟨r, Ev.step e h1, h2⟩
theorem Tot.sub {α : Type} {f g : Nat → Option α} {P : α → Prop} (e : f = g) (H : Tot g P) : Tot f P := e ▸ H
def Bs (s : List Int) : Prop := ∀ x ∈ s, 0 ≤ x ∧ x ≤ 255
theorem WE {s : List Int} (h : Bs s) (i : Int) : 0 ≤ rd s i ∧ rd s i ≤ 255 := by
 unfold rd
 rw [List.getD_eq_getElem?_getD]
 cases hx : s[i.toNat]? with
 | none => simp
 | some x => exact h x (List.mem_of_getElem? hx)
theorem jl {x y : Int} (hx : 0 ≤ x) (fd : x < 9223372036854775808) (hy : 0 ≤ y) (hy2 : y < 9223372036854775808) : 0 ≤ Go.bits .xor .i64 x y := by
 have e : ∀ z : Int, 0 ≤ z → z < 9223372036854775808 → (BitVec.ofInt 64 z).toNat < 2 ^ 63 := by
  intro z h1 h2
  rw [BitVec.toNat_ofInt]
  omega
 have hlt : (BitVec.ofInt 64 x ^^^ BitVec.ofInt 64 y).toNat < 2 ^ 63 := by
  rw [BitVec.toNat_xor]
  exact Nat.xor_lt_two_pow (e x hx fd) (e y hy hy2)
 have : Go.bits .xor .i64 x y = wrap64 ((BitVec.ofInt 64 x ^^^ BitVec.ofInt 64 y).toNat : Int) := by
  rw [← mV]; rfl
 rw [this, lD _ (by omega)]
 omega
theorem lX {s : List Int} (Hs : Bs s) {p : Int} (h0 : 0 ≤ p) (h1 : p ≤ 1000000) (n : Int) : Tot (fun k => bE.f k s p n) (fun r => 0 ≤ r.1 ∧ (0 < n → r.1 < n) ∧ r.2 = p + 1) := by
 unfold bE.f
 rw [lD (p + 1) (by omega)]
 have quick : Tot (fun k => bE.j0 k n true s (p + 1)) (fun r => 0 ≤ r.1 ∧ (0 < n → r.1 < n) ∧ r.2 = p + 1) :=
   Tot.step (fun k => bE.j0.eq_2 _ _ _ _ k) (Tot.pos rfl (Tot.ret ⟨Int.le_refl _, fun h => h, rfl⟩))
 refine Tot.prop (fun _ => quick) (fun hn => ?_)
 by_cases hl : s.length = 0
 ·rw [show ((s.length : Int) == 0) = true from beq_iff_eq.2 (by omega)]; exact quick
 rw [show ((s.length : Int) == 0) = false from beq_eq_false_iff_ne.2 (by omega)]
 refine Tot.step (fun k => bE.j0.eq_2 _ _ _ _ k) (Tot.neg (by simp) ?_)
 rw [show wrap64 (p + 1 - 1) = p from by unfold wrap64; omega]
 refine Tot.prop (fun hq => Tot.pos h0 (Tot.neg (by omega) (Tot.ret ?_))) (fun hq => Tot.neg (by omega) ?_)
 ·obtain ⟨b1, b2⟩ := WE Hs p
  rw [lD _ (by omega)]
  exact ⟨Int.tmod_nonneg _ b1, fun h => Int.tmod_lt_of_pos _ h, rfl⟩
 have hlen : (0 : Int) < (s.length : Int) := by omega
 have hw : wrap64 (wrap64 (p * 7) + 3) = p * 7 + 3 := by rw [lD (p * 7) (by omega), lD _ (by omega)]
 rw [hw]
 refine Tot.pos (Int.tmod_nonneg _ h0) (Tot.pos (Int.tmod_lt_of_pos _ hlen) (Tot.pos (Int.tmod_nonneg _ (by omega)) (Tot.pos (Int.tmod_lt_of_pos _ hlen) (Tot.neg (by omega) (Tot.ret ?_)))))
 obtain ⟨b1, b2⟩ := WE Hs (Int.tmod p (s.length : Int))
 obtain ⟨b3, b4⟩ := WE Hs (Int.tmod (p * 7 + 3) (s.length : Int))
 have d1 : 0 ≤ Int.tdiv p (s.length : Int) := Int.tdiv_nonneg h0 (by omega)
 have d2 : Int.tdiv p (s.length : Int) ≤ p := by rw [Int.tdiv_eq_ediv_of_nonneg h0]; exact Int.ediv_le_self _ h0
 generalize rd s (Int.tmod p (s.length : Int)) = m1 at b1 b2 ⊢
 generalize rd s (Int.tmod (p * 7 + 3) (s.length : Int)) = m2 at b3 b4 ⊢
 generalize Int.tdiv p (s.length : Int) = d at d1 d2 ⊢
 have big : wrap64 (wrap64 (wrap64 (wrap64 (wrap64 m1 * 131) + wrap64 (wrap64 m2 * 1117)) + wrap64 (p * 29)) + wrap64 (wrap64 d * 53)) = m1 * 131 + m2 * 1117 + p * 29 + d * 53 := by
   rw [lD m1 (by omega), lD m2 (by omega), lD d (by omega), lD (m1 * 131) (by omega), lD (m2 * 1117) (by omega), lD (p * 29) (by omega), lD (d * 53) (by omega), lD (m1 * 131 + m2 * 1117) (by omega), lD (m1 * 131 + m2 * 1117 + p * 29) (by omega), lD _ (by omega)]
 rw [big]
 have hx : 0 ≤ m1 * 131 + m2 * 1117 + p * 29 + d * 53 := by omega
 have ht : Int.tdiv (m1 * 131 + m2 * 1117 + p * 29 + d * 53) 64 = (m1 * 131 + m2 * 1117 + p * 29 + d * 53) / 64 := Int.tdiv_eq_ediv_of_nonneg hx
 rw [ht, lD _ (by omega)]
 exact ⟨Int.tmod_nonneg _ (jl hx (by omega) (by omega) (by omega)), fun h => Int.tmod_lt_of_pos _ h, rfl⟩
theorem F4 {s : List Int} (Hs : Bs s) {p : Int} (h0 : 0 ≤ p) (h1 : p ≤ 1000000) {l : List ByteArray} (hl : 0 < l.length) : Tot (fun k => fU.f k s p l) (fun r => r.2 = p + 1) := by
 unfold fU.f
 refine Tot.bind (lX Hs h0 h1 _) (fun x hx => ?_)
 exact Tot.pos hx.1 (Tot.pos (hx.2.1 (by omega)) (Tot.ret hx.2.2))
theorem KW {s : List Int} (Hs : Bs s) {p : Int} (h0 : 0 ≤ p) {l : List ByteArray} (of_ : Int) (h1 : p + l.length ≤ 1000000) : Tot (fun k => gF.f k s p l of_) (fun r => r.1.length ≤ l.length ∧ p ≤ r.2 ∧ r.2 ≤ p + l.length) := by
 unfold gF.f
 have go : ∀ (d i : Nat) (p : Int) (x : List ByteArray), i + d = l.length → 0 ≤ p → p + d ≤ 1000000 → x.length ≤ i → Tot (fun k => gF.l0 k l of_ x (i : Int) s p) (fun r => r.1.length ≤ l.length ∧ p ≤ r.2 ∧ r.2 ≤ p + d) := by
  intro d
  induction d with
  | zero =>
   intro i p x hi h0 h1 hx
   refine Tot.step (fun k => gF.l0.eq_2 _ _ _ _ _ _ k) (Tot.neg (by omega) (Tot.ret ?_))
   dsimp only; omega
  | succ d ih =>
   intro i p x hi h0 h1 hx
   refine Tot.step (fun k => gF.l0.eq_2 _ _ _ _ _ _ k) (Tot.pos (by omega) (Tot.bind (lX Hs h0 (by omega) _) (fun y hy => ?_)))
   obtain ⟨_, _, e⟩ := hy
   rw [e, jB (show i < l.length by omega) (by omega)]
   refine Tot.prop (fun _ => Tot.pos (by omega) (Tot.pos (by omega) ((ih (i + 1) (p + 1) _ (by omega) (by omega) (by omega) (by rw [List.length_append, List.length_singleton]; omega)).weak fun r h => ?_))) (fun _ => (ih (i + 1) (p + 1) x (by omega) (by omega) (by omega) (by omega)).weak fun r h => ?_)
   ·omega
   ·omega
 exact go l.length 0 p [] (by omega) h0 h1 (by simp)
def Gd (n : Nat) (ts : List ByteArray) (bs : List IB) : Prop := ts.length ≤ 5 ∧ (∀ b ∈ bs, b.f2.length ≤ 5 + n) ∧ jE bs ≤ 100 * n
theorem Nk {bs : List IB} {m : Nat} (h : ∀ b ∈ bs, b.f2.length ≤ m) (i : Nat) : (gB bs i).f2.length ≤ m := by
 by_cases hi : i < bs.length
 ·exact h _ (M4 hi)
 have : gB bs i = z56 := by unfold gB; rw [List.getD_eq_getElem?_getD, List.getElem?_eq_none (by omega)]; rfl
 rw [this]; exact Nat.zero_le _
def G7 : List ByteArray := [(⟨#[106]⟩ : ByteArray), (⟨#[107, 101, 103]⟩ : ByteArray), (⟨#[116, 117, 110]⟩ : ByteArray), (⟨#[118, 97, 116]⟩ : ByteArray), (⟨#[119]⟩ : ByteArray)]
theorem Kn {s : List Int} (Hs : Bs s) {p : Int} (h0 : 0 ≤ p) (h1 : p ≤ 999000) : Tot (fun k => fZ.f k s p) (fun r => r.1.Sublist G7 ∧ r.2.1 = [] ∧ p ≤ r.2.2 ∧ r.2.2 ≤ p + 5) := by
 unfold fZ.f
 have go : ∀ (d i : Nat) (p : Int) (x : List ByteArray), i + d = 5 → 0 ≤ p → p + d ≤ 999500 → x.Sublist (G7.take i) → Tot (fun k => fZ.l0 k G7 (i : Int) s p x) (fun r => r.1.Sublist G7 ∧ r.2.1 = [] ∧ p ≤ r.2.2 ∧ r.2.2 ≤ p + d) := by
  intro d
  induction d with
  | zero =>
   intro i p x hi h0 h1 hx
   refine Tot.step (fun k => fZ.l0.eq_2 _ _ _ _ _ k) (Tot.neg (by show ¬ ((i : Int) < ((5 : Nat) : Int)); omega) (Tot.ret ?_))
   rw [List.take_of_length_le (show G7.length ≤ i by show 5 ≤ i; omega)] at hx
   dsimp only; exact ⟨hx, rfl, by omega, by omega⟩
  | succ d ih =>
   intro i p x hi h0 h1 hx
   have hxl : x.length ≤ 5 := Nat.le_trans hx.length_le (by rw [List.length_take]; show min i 5 ≤ 5; omega)
   have hil : i < G7.length := by show i < 5; omega
   refine Tot.step (fun k => fZ.l0.eq_2 _ _ _ _ _ k) (Tot.pos (by show (i : Int) < ((5 : Nat) : Int); omega) (Tot.bind (lX Hs h0 (by omega) _) (fun y hy => ?_)))
   obtain ⟨_, _, e⟩ := hy
   rw [e, jB hil (by show 5 ≤ 9223372036854775807; omega)]
   have ht : G7.take (i + 1) = G7.take i ++ [G7[i]] := List.take_succ_eq_append_getElem hil
   refine Tot.prop (fun _ => Tot.pos (by omega) (Tot.pos (by omega) ((ih (i + 1) (p + 1) _ (by omega) (by omega) (by omega) ?_).weak fun r h => ?_))) (fun _ => (ih (i + 1) (p + 1) x (by omega) (by omega) (by omega) ?_).weak fun r h => ?_)
   ·rw [ht, lY, show gS G7 i = G7[i] from getD_lt _ _ hil]
    exact List.Sublist.append hx (List.Sublist.refl _)
   ·exact ⟨h.1, h.2.1, by omega, by omega⟩
   ·rw [ht]; exact hx.trans (List.sublist_append_left _ _)
   ·exact ⟨h.1, h.2.1, by omega, by omega⟩
 exact (go 5 0 p [] (by omega) h0 (by omega) (by simp)).weak fun r h => ⟨h.1, h.2.1, by omega, by omega⟩
theorem Lm {s : List Int} (Hs : Bs s) {p : Int} (h0 : 0 ≤ p) {ts : List ByteArray} {bs : List IB} {m : Nat} (ht : ts.length ≤ m) (hb : ∀ b ∈ bs, b.f2.length ≤ m) (hl : bs.length ≤ 1048576) (h1 : p + m ≤ 999000) :
  Tot (fun k => bM.f k s p ts bs) (fun r => r.2.2.1.length ≤ m + 1 ∧ p ≤ r.2.2.2 ∧ r.2.2.2 ≤ p + m + 7) := by
 unfold bM.f
 have j4 : ∀ (p : Int) (a : Int) (n : ByteArray) (l : List ByteArray), 0 ≤ p → p ≤ 999900 → l.length ≤ m → Tot (fun k => bM.j4 k s p a n l) (fun r => r.2.2.1.length ≤ m + 1 ∧ p ≤ r.2.2.2 ∧ r.2.2.2 ≤ p + 2) := by
  intro p a n l h0 h1 hl
  refine Tot.step (fun k => bM.j4.eq_2 _ _ _ _ _ k) (Tot.bind (lX Hs h0 (by omega) _) (fun y hy => ?_))
  obtain ⟨_, _, e⟩ := hy
  rw [e]
  refine Tot.prop (fun _ => Tot.bind (F4 Hs (by omega) (by omega) (by simp)) (fun z hz => Tot.pos (by omega) (Tot.ret ?_))) (fun _ => Tot.prop (fun _ => Tot.bind (F4 Hs (by omega) (by omega) (by simp)) (fun z hz => Tot.ret ?_)) (fun _ => Tot.ret ?_))
  ·dsimp only; rw [hz, List.length_append, List.length_singleton]; omega
  ·dsimp only; rw [hz]; omega
  ·dsimp only; omega
 have j3 : ∀ (p : Int) (x : List ByteArray) (q : Int) (b : Bool) (a : Int) (n : ByteArray), 0 ≤ p → p + m ≤ 999800 → x.length ≤ m → Tot (fun k => bM.j3 k x q b s p ts bs a n) (fun r => r.2.2.1.length ≤ m + 1 ∧ p ≤ r.2.2.2 ∧ r.2.2.2 ≤ p + m + 3) := by
  intro p x q b a n h0 h1 hx
  refine Tot.step (fun k => bM.j3.eq_2 _ _ _ _ _ _ _ _ _ k) ?_
  refine Tot.prop (fun _ => Tot.vL (Ev.ret rfl) (Tot.bind (F4 Hs h0 (by omega) (by simp)) (fun y hy => ?_))) (fun _ => Tot.prop (fun _ => Tot.bind (KW Hs h0 2 (by omega)) (fun y hy => ?_)) (fun _ => Tot.prop (fun _ => ?_) (fun _ => Tot.bind (KW Hs h0 2 (by omega)) (fun y hy => ?_))))
  ·rw [hy]
   refine Tot.bind (KW Hs (by omega) 2 (by omega)) (fun z hz => ?_)
   obtain ⟨z1, z2, z3⟩ := hz
   exact (j4 z.2 _ _ _ (by omega) (by omega) (by omega)).weak fun r h => ⟨h.1, by omega, by omega⟩
  ·obtain ⟨z1, z2, z3⟩ := hy
   exact (j4 y.2 _ _ _ (by omega) (by omega) (by omega)).weak fun r h => ⟨h.1, by omega, by omega⟩
  ·exact (j4 p _ _ _ h0 (by omega) (by simp)).weak fun r h => ⟨h.1, by omega, by omega⟩
  ·obtain ⟨z1, z2, z3⟩ := hy
   exact (j4 y.2 _ _ _ (by omega) (by omega) (by omega)).weak fun r h => ⟨h.1, by omega, by omega⟩
 have j2 : ∀ (p : Int) (x : List ByteArray) (a : Int) (n : ByteArray), 0 ≤ p → p + m ≤ 999700 → x.length ≤ m → Tot (fun k => bM.j2 k x s p ts bs a n) (fun r => r.2.2.1.length ≤ m + 1 ∧ p ≤ r.2.2.2 ∧ r.2.2.2 ≤ p + m + 4) := by
  intro p x a n h0 h1 hx
  refine Tot.step (fun k => bM.j2.eq_2 _ _ _ _ _ _ _ k) (Tot.bind (lX Hs h0 (by omega) _) (fun y hy => ?_))
  obtain ⟨_, _, e⟩ := hy
  rw [e]
  have J : ∀ q b, Tot (fun k => bM.j3 k x q b s (p + 1) ts bs a n) (fun r => r.2.2.1.length ≤ m + 1 ∧ p ≤ r.2.2.2 ∧ r.2.2.2 ≤ p + m + 4) := fun q b => (j3 (p + 1) x q b a n (by omega) (by omega) hx).weak fun r h => ⟨h.1, by omega, by omega⟩
  exact Tot.prop (fun _ => J _ _) (fun _ => Tot.prop (fun _ => J _ _) (fun _ => J _ _))
 have j1 : ∀ (p : Int) (a : Int) (n : ByteArray), 0 ≤ p → p + m ≤ 999700 → Tot (fun k => bM.j1 k s p ts bs a n) (fun r => r.2.2.1.length ≤ m + 1 ∧ p ≤ r.2.2.2 ∧ r.2.2.2 ≤ p + m + 4) := by
  intro p a n h0 h1
  refine Tot.step (fun k => bM.j1.eq_2 _ _ _ _ _ _ k) (Tot.vL (uA ts bs n (by omega)) ?_)
  refine Tot.prop (fun h => ?_) (fun _ => j2 p ts a n h0 h1 ht)
  obtain ⟨i, e, hi⟩ := LU bs n (by omega)
  rw [e]
  refine Tot.pos (by omega) (Tot.pos (by omega) ?_)
  rw [jI]
  exact j2 p _ a n h0 h1 (Nk hb i)
 have j0 : ∀ (p : Int) (b : Bool) (a : Int) (n : ByteArray), 0 ≤ p → p + m ≤ 999600 → (b = true → 0 < bs.length) → Tot (fun k => bM.j0 k b s p ts bs a n) (fun r => r.2.2.1.length ≤ m + 1 ∧ p ≤ r.2.2.2 ∧ r.2.2.2 ≤ p + m + 5) := by
  intro p b a n h0 h1 hbl
  refine Tot.step (fun k => bM.j0.eq_2 _ _ _ _ _ _ _ k) (Tot.prop (fun h => Tot.bind (lX Hs h0 (by omega) _) (fun y hy => ?_)) (fun _ => (j1 p a n h0 (by omega)).weak fun r h => ⟨h.1, by omega, by omega⟩))
  obtain ⟨y1, y2, e⟩ := hy
  have := hbl h
  rw [e]
  exact Tot.pos y1 (Tot.pos (y2 (by omega)) ((j1 (p + 1) a _ (by omega) (by omega)).weak fun r h => ⟨h.1, by omega, by omega⟩))
 refine Tot.vL (Ev.ret rfl) (Tot.bind (F4 Hs h0 (by omega) (by simp)) (fun y hy => ?_))
 rw [hy]
 refine Tot.prop (fun h => Tot.bind (lX Hs (by omega) (by omega) _) (fun z hz => ?_)) (fun _ => (j0 (p + 1) _ _ _ (by omega) (by omega) (by simp)).weak fun r h => ⟨h.1, by omega, by omega⟩)
 obtain ⟨_, _, e⟩ := hz
 rw [e]
 exact (j0 (p + 1 + 1) _ _ _ (by omega) (by omega) (fun _ => by omega)).weak fun r h => ⟨h.1, by omega, by omega⟩
theorem XN {l : List ByteArray} {s : ByteArray} : hasS l s = true ↔ s ∈ l := by
 unfold hasS; rw [List.any_eq_true]
 constructor
 ·rintro ⟨x, hx, h⟩; rw [toList_inj.1 (beq_iff_eq.1 h)]; exact hx
 intro h; exact ⟨s, h, by simp⟩
theorem UX {l : List ByteArray} {s : ByteArray} : hasS l s = false ↔ s ∉ l := by
 rw [← XN]; cases hasS l s <;> simp
theorem Md {bs : List IB} {i : Nat} (hi : i < bs.length) : gB bs i = bs[i] := getD_lt bs _ hi
theorem gm {bs : List IB} {b : IB} (h : b ∈ bs) : ∃ i, i < bs.length ∧ gB bs i = b := by
 obtain ⟨i, hi, rfl⟩ := List.getElem_of_mem h
 exact ⟨i, hi, Md hi⟩
theorem ZO (a : List UInt8) : Op.bytesLess a a = false := by
 rw [bytesLess_eq, decide_eq_false_iff_not]; exact List.lt_irrefl a
theorem ae {bs : List IB} (ha : Asc bs) {i j : Nat} (hi : i < bs.length) (hj : j < bs.length) (h : (gB bs i).f0 = (gB bs j).f0) : i = j := by
 rw [Md hi, Md hj] at h
 have hp := List.pairwise_iff_getElem.1 ha
 rcases Nat.lt_trichotomy i j with q | q | q
 ·have := hp i j hi hj q; rw [h, ZO] at this; exact absurd this (by simp)
 ·exact q
 have := hp j i hj hi q; rw [h, ZO] at this; exact absurd this (by simp)
theorem XE {bs : List IB} {i : Nat} {gone : List ByteArray} : canB bs i gone = true ↔ ∀ q, q < bs.length → q = i ∨ (gB bs q).f0 ∈ gone ∨ wO (gB bs q).f1 (gB bs i).f2 = false := by
 unfold canB; rw [AA]
 simp only [canP, Bool.or_eq_true, decide_eq_true_eq, XN, Bool.not_eq_true', Nat.zero_le, true_implies]
theorem ag {bs : List IB} (ha : Asc bs) {i : Nat} (hi : i < bs.length) : atI bs (gB bs i).f0 = (i : Int) := by
 have h : ¬ atI bs (gB bs i).f0 < 0 := by
  intro h
  exact Rj (by omega) (gB bs i) (M4 hi) rfl
 obtain ⟨a, e, h1, h2⟩ := P8 h
 rw [e, ae ha h1 hi (toList_inj.1 h2)]
theorem CU : ∀ {l m : List ByteArray}, l.Nodup → (∀ s, s ∈ l → s ∈ m) → l.length ≤ m.length
  | [], m, _, _ => Nat.zero_le _
  | a :: l, m, hn, hs => by
    rw [List.nodup_cons] at hn
    have ha := hs a (List.mem_cons_self ..)
    obtain ⟨m1, m2, rfl⟩ := List.append_of_mem ha
    have h := CU (l := l) (m := m1 ++ m2) hn.2 fun s h => by
      rcases List.mem_append.1 (hs s (List.mem_cons_of_mem _ h)) with h1 | h1
      · exact List.mem_append.2 (.inl h1)
      · rcases List.mem_cons.1 h1 with e | h1
        · exact absurd (e ▸ h) hn.1
        · exact List.mem_append.2 (.inr h1)
    rw [List.length_append] at h
    rw [List.length_append, List.length_cons, List.length_cons]; omega
theorem Q8 {l m : List ByteArray} (hn : l.Nodup) (hs : ∀ s, s ∈ l → s ∈ m) (hl : m.length ≤ l.length) : ∀ s, s ∈ m → s ∈ l := by
 intro s h
 by_cases hc : s ∈ l
 ·exact hc
 have := CU (l := s :: l) (m := m) (List.nodup_cons.2 ⟨hc, hn⟩) fun x hx => by
  rcases List.mem_cons.1 hx with rfl | hx
  ·exact h
  ·exact hs x hx
 rw [List.length_cons] at this; omega
def uW (bs : List IB) : List ByteArray := bs.map fun b => b.f0
theorem C9 {bs : List IB} {s : ByteArray} : s ∈ uW bs ↔ ∃ i, i < bs.length ∧ (gB bs i).f0 = s := by
 unfold uW; rw [List.mem_map]
 constructor
 ·rintro ⟨b, hb, rfl⟩; obtain ⟨i, hi, rfl⟩ := gm hb; exact ⟨i, hi, rfl⟩
 rintro ⟨i, hi, rfl⟩; exact ⟨_, M4 hi, rfl⟩
theorem QO {bs : List IB} (ha : Asc bs) : (uW bs).Nodup := by
 unfold uW List.Nodup
 rw [List.pairwise_map]
 exact List.Pairwise.imp (fun {a b} h e => by rw [e, ZO] at h; exact absurd h (by simp)) ha
inductive Goes (bs : List IB) : List ByteArray → Prop
  | all {gone : List ByteArray} : (∀ s, s ∈ uW bs → s ∈ gone) → Goes bs gone
  | one {gone : List ByteArray} {i : Nat} : i < bs.length → canB bs i gone = true → Goes bs (gone ++ [(gB bs i).f0]) → Goes bs gone
def First (bs : List IB) (S : ByteArray → Prop) : Prop := ∃ y, y < bs.length ∧ S (gB bs y).f0 ∧ ∀ x, x < bs.length → S (gB bs x).f0 → x = y ∨ wO (gB bs x).f1 (gB bs y).f2 = false
def Jn (bs : List IB) : Prop := ∀ S : ByteArray → Prop, (∃ i, i < bs.length ∧ S (gB bs i).f0) → First bs S
theorem SC {bs : List IB} {gone : List ByteArray} (h : Goes bs gone) : ∀ S : ByteArray → Prop, (∃ i, i < bs.length ∧ S (gB bs i).f0) → (∀ s, s ∈ gone → ¬ S s) → First bs S := by
 induction h with
 | all h => intro S ⟨i, hi, hs⟩ hg; exact absurd hs (hg _ (h _ (C9.2 ⟨i, hi, rfl⟩)))
 | @one gone i hi hc _ ih =>
  intro S hS hg
  by_cases hs : S (gB bs i).f0
  ·refine ⟨i, hi, hs, fun x hx hxs => ?_⟩
   rcases XE.1 hc x hx with h | h | h
   ·exact .inl h
   ·exact absurd hxs (hg _ h)
   ·exact .inr h
  ·refine ih S hS fun s h => ?_
   rcases List.mem_append.1 h with h | h
   ·exact hg s h
   ·rw [List.mem_singleton.1 h]; exact hs
theorem Ed {bs : List IB} : ∀ (d : Nat) (gone : List ByteArray), gone.Nodup → (∀ s, s ∈ gone → s ∈ uW bs) → gone.length + d = bs.length → (nN bs d gone).2 = true → Goes bs gone
  | 0, gone, hn, hs, hl, _ => .all (Q8 hn hs (by unfold uW; rw [List.length_map]; omega))
  | d + 1, gone, hn, hs, hl, h => by
    unfold nN at h
    cases hx : KO bs gone with
    | none => rw [hx] at h; exact absurd h (by simp)
    | some i =>
      rw [hx] at h
      obtain ⟨_, hi, hp⟩ := G9 hx
      unfold CB at hp
      rw [Bool.and_eq_true, Bool.not_eq_true', UX] at hp
      refine .one hi hp.2 (Ed d _ ?_ ?_ (by rw [List.length_append, List.length_singleton]; omega) h)
      · rw [List.nodup_append]
        refine ⟨hn, by simp, fun a ha b hb e => ?_⟩
        rw [List.mem_singleton] at hb
        exact hp.1 (hb ▸ e ▸ ha)
      · intro s h
        rcases List.mem_append.1 h with h | h
        · exact hs s h
        · rw [List.mem_singleton.1 h]; exact C9.2 ⟨i, hi, rfl⟩
theorem Du {bs : List IB} (ha : Asc bs) (H : Jn bs) : ∀ (d : Nat) (gone : List ByteArray), gone.length + d = bs.length → (nN bs d gone).2 = true
 | 0, gone, _ => rfl
 | d + 1, gone, hl => by
  unfold nN
  cases hx : KO bs gone with
  | some i => exact Du ha H d _ (by rw [List.length_append, List.length_singleton]; omega)
  | none =>
   exfalso
   unfold KO yR at hx
   rw [List.find?_eq_none] at hx
   have hm : ∃ i, i < bs.length ∧ (gB bs i).f0 ∉ gone := by
    by_cases hc : ∀ s, s ∈ uW bs → s ∈ gone
    ·have := CU (QO ha) hc
     unfold uW at this
     rw [List.length_map] at this; omega
    ·obtain ⟨s, h1, h2⟩ : ∃ s, s ∈ uW bs ∧ s ∉ gone := by
      apply Classical.byContradiction
      intro h; exact hc fun s h1 => Classical.byContradiction fun h2 => h ⟨s, h1, h2⟩
     obtain ⟨i, hi, rfl⟩ := C9.1 h1
     exact ⟨i, hi, h2⟩
   obtain ⟨y, hy, hy2, hy3⟩ := H (fun s => s ∉ gone) hm
   refine hx y (by rw [List.mem_range'_1]; omega) ?_
   unfold CB
   rw [Bool.and_eq_true, Bool.not_eq_true', UX, XE]
   refine ⟨hy2, fun q hq => ?_⟩
   by_cases hg : (gB bs q).f0 ∈ gone
   ·exact .inr (.inl hg)
   ·rcases hy3 q hq hg with h | h
    ·exact .inl h
    ·exact .inr (.inr h)
theorem Og {ts : List ByteArray} {bs : List IB} : CG ts bs = true ↔ uO ts bs = true ∧ Jn bs := by
 unfold CG sZ
 cases hb : uO ts bs with
 | false => simp
 | true =>
  rw [if_pos rfl]
  constructor
  ·intro h
   refine ⟨rfl, fun S hS => SC (Ed bs.length [] List.nodup_nil (by simp) (by simp) h) S hS (by simp)⟩
  ·rintro ⟨_, h⟩
   exact Du (PE hb) h _ _ (by simp)
theorem Gp {ts : List ByteArray} {bs : List IB} {order : List ByteArray} (h : DI ts bs order = true) : Goes bs [] := by
 unfold DI at h
 simp only [Bool.and_eq_true, decide_eq_true_eq] at h
 obtain ⟨hb, hl, hall⟩ := h
 have hall := (AA _ _ _).1 hall
 have ha := PE hb
 have each : ∀ k, k < order.length → ∃ i, i < bs.length ∧ (gB bs i).f0 = gS order k ∧ gS order k ∉ order.take k ∧ canB bs i (order.take k) = true := by
  intro k hk
  have q := hall k (by omega) hk
  unfold fitP at q
  simp only [Bool.and_eq_true, Bool.not_eq_true', decide_eq_false_iff_not, UX] at q
  obtain ⟨q1, q2, q3⟩ := q
  obtain ⟨a, e, h1, h2⟩ := P8 q1
  rw [e, Int.toNat_natCast] at q3
  exact ⟨a, h1, toList_inj.1 h2, q2, q3⟩
 have nod : ∀ k, k ≤ order.length → (order.take k).Nodup ∧ ∀ s, s ∈ order.take k → s ∈ uW bs := by
  intro k
  induction k with
  | zero => intro _; simp
  | succ k ih =>
   intro hk
   obtain ⟨h1, h2⟩ := ih (by omega)
   obtain ⟨i, hi, e, h3, _⟩ := each k (by omega)
   have e2 : gS order k = order[k] := getD_lt _ _ (by omega)
   rw [List.take_succ_eq_append_getElem (by omega), ← e2]
   refine ⟨?_, fun s h => ?_⟩
   ·rw [List.nodup_append]
    refine ⟨h1, by simp, fun a ha b hb e => ?_⟩
    rw [List.mem_singleton] at hb
    exact h3 (hb ▸ e ▸ ha)
   ·rcases List.mem_append.1 h with h | h
    ·exact h2 s h
    ·rw [List.mem_singleton.1 h, ← e]; exact C9.2 ⟨i, hi, rfl⟩
 have go : ∀ d k, k + d = order.length → Goes bs (order.take k) := by
  intro d
  induction d with
  | zero =>
   intro k hk
   obtain ⟨h1, h2⟩ := nod k (by omega)
   exact .all (Q8 h1 h2 (by unfold uW; rw [List.length_map, List.length_take]; omega))
  | succ d ih =>
   intro k hk
   obtain ⟨i, hi, e, _, h4⟩ := each k (by omega)
   have e2 : gS order k = order[k] := getD_lt _ _ (by omega)
   have := ih (k + 1) (by omega)
   rw [List.take_succ_eq_append_getElem (by omega), ← e2, ← e] at this
   exact .one hi h4 this
 have := go order.length 0 (by omega)
 simpa using this
theorem SA {ts : List ByteArray} {bs : List IB} {order : List ByteArray} (h : DI ts bs order = true) : CG ts bs = true := by
 have hb : uO ts bs = true := by unfold DI at h; rw [Bool.and_eq_true] at h; exact h.1
 exact Og.2 ⟨hb, fun S hS => SC (Gp h) S hS (by simp)⟩
theorem Gn {bs : List IB} {o p : List ByteArray} {k : Nat} (h : k < o.length) : fitP bs (o ++ p) k = fitP bs o k := by
 unfold fitP
 rw [List.take_append_of_le_length (by omega), show gS (o ++ p) k = gS o k from by rw [show gS (o ++ p) k = (o ++ p)[k]'(by rw [List.length_append]; omega) from getD_lt _ _ _, show gS o k = o[k] from getD_lt _ _ _, List.getElem_append_left h]]
theorem Ec {bs : List IB} (ha : Asc bs) : ∀ (d : Nat) (gone : List ByteArray), gone.length + d = bs.length → (∀ k, k < gone.length → fitP bs gone k = true) → (nN bs d gone).2 = true →
  (nN bs d gone).1.length = bs.length ∧ ∀ k, k < (nN bs d gone).1.length → fitP bs (nN bs d gone).1 k = true
 | 0, gone, hl, hv, _ => ⟨by unfold nN; simpa using hl, by unfold nN; exact hv⟩
 | d + 1, gone, hl, hv, h => by
  unfold nN at h ⊢
  cases hx : KO bs gone with
  | none => rw [hx] at h; exact absurd h (by simp)
  | some i =>
   rw [hx] at h
   obtain ⟨_, hi, hp⟩ := G9 hx
   unfold CB at hp
   rw [Bool.and_eq_true] at hp
   refine Ec ha d _ (by rw [List.length_append, List.length_singleton]; omega) (fun k hk => ?_) h
   by_cases hc : k < gone.length
   ·rw [Gn hc]; exact hv k hc
   ·have : k = gone.length := by rw [List.length_append, List.length_singleton] at hk; omega
    subst this
    unfold fitP
    have e : gS (gone ++ [(gB bs i).f0]) gone.length = (gB bs i).f0 := by
     rw [show gS (gone ++ [(gB bs i).f0]) gone.length = (gone ++ [(gB bs i).f0])[gone.length]'(by simp) from getD_lt _ _ _]; simp
    rw [e, List.take_left, ag ha hi, Int.toNat_natCast, hp.1, hp.2]
    simp
theorem Q3 {ts : List ByteArray} {bs : List IB} (h : (sZ ts bs).2 = true) : DI ts bs (sZ ts bs).1 = true := by
 unfold sZ at h ⊢
 cases hb : uO ts bs with
 | false => rw [hb] at h; exact absurd h (by simp)
 | true =>
  rw [hb, if_pos rfl] at h
  rw [if_pos rfl]
  obtain ⟨h1, h2⟩ := Ec (PE hb) bs.length [] (by simp) (fun k hk => by simp at hk) h
  unfold DI
  rw [hb, Bool.true_and, Bool.and_eq_true, decide_eq_true_eq, AA]
  exact ⟨h1, fun j _ hj => h2 j hj⟩
theorem Mx {bs : List IB} {x b : IB} : b ∈ insB bs x ↔ b = x ∨ b ∈ bs := by
 have e : bs = bs.take (insK bs x.f0) ++ bs.drop (insK bs x.f0) := (List.take_append_drop ..).symm
 unfold insB
 rw [List.mem_append, List.mem_cons]
 constructor
 ·rintro (h | h | h)
  ·exact .inr (List.mem_of_mem_take h)
  ·exact .inl h
  exact .inr (List.mem_of_mem_drop h)
 rintro (h | h)
 ·exact .inr (.inl h)
 rw [e, List.mem_append] at h
 rcases h with h | h
 ·exact .inl h
 exact .inr (.inr h)
theorem Gd.weak {n m : Nat} {ts : List ByteArray} {bs : List IB} (h : Gd n ts bs) (hn : n ≤ m) : Gd m ts bs :=
  ⟨h.1, fun b hb => by have := h.2.1 b hb; omega, by have := h.2.2; omega⟩
theorem Gd.nil (n : Nat) : Gd n [] [] := ⟨by simp, by simp, by simp [jE]⟩
theorem Lt {n : Nat} {ts : List ByteArray} {bs : List IB} (h : Gd n ts bs) (nm : ByteArray) {l : List ByteArray} (hl : l.length ≤ 6 + n) (hn : n ≤ 90) : Gd (n + 1) (PP ts bs nm l).1 (PP ts bs nm l).2.1 := by
 have h1 : Gd (n + 1) ts bs := h.weak (by omega)
 have h2 : Gd (n + 1) ts (insB bs ⟨nm, [], l⟩) := by
  refine ⟨h1.1, fun b hb => ?_, ?_⟩
  ·rcases Mx.1 hb with e | e
   ·subst e; dsimp only; omega
   ·exact h1.2.1 b e
  ·have := h.2.2
   rw [Na]; dsimp only; rw [List.length_nil]; omega
 unfold PP
 repeat' split
 all_goals first | exact h1 | exact h2 | exact Gd.nil _
theorem Fj {bs : List IB} {i : Nat} {x b : IB} (h : b ∈ bs.set i x) : b = x ∨ b ∈ bs := by
 rcases List.mem_or_eq_of_mem_set h with e | e
 ·exact .inr e
 exact .inl e
theorem Sz {n : Nat} {ts : List ByteArray} {bs : List IB} (h : Gd n ts bs) (nm : ByteArray) {l : List ByteArray} (hl : l.length ≤ 6 + n) (hn : n ≤ 90) : Gd (n + 1) (Y3 ts bs nm l).1 (Y3 ts bs nm l).2.1 := by
 have h1 : Gd (n + 1) ts bs := h.weak (by omega)
 unfold Y3
 split
 ·split
  ·exact h1
  rename_i hc
  obtain ⟨i, e, hi⟩ := LU bs nm hc
  rw [e, Int.toNat_natCast]
  split
  ·refine ⟨h1.1, fun b hb => ?_, ?_⟩
   ·rcases Fj hb with e | e
    ·subst e; dsimp only; omega
    exact h1.2.1 b e
   have := h.2.2
   have := Oh hi (hasS l) l
   dsimp only; omega
  exact h1
 exact Gd.nil _
theorem af {n : Nat} {ts : List ByteArray} {bs : List IB} (h : Gd n ts bs) (nm : ByteArray) {l : List ByteArray} (hl : l.length ≤ 6 + n) (hn : n ≤ 90) : Gd (n + 1) (askB ts bs nm l).1 (askB ts bs nm l).2.1 := by
 have h1 : Gd (n + 1) ts bs := h.weak (by omega)
 unfold askB
 split
 ·split
  ·exact h1
  rename_i hc
  obtain ⟨i, e, hi⟩ := LU bs nm hc
  rw [e, Int.toNat_natCast]
  split
  ·split
   ·exact h1
   split
   ·exact h1
   refine ⟨h1.1, fun b hb => ?_, ?_⟩
   ·rcases Fj hb with e | e
    ·subst e; exact h1.2.1 (gB bs i) (M4 hi)
    exact h1.2.1 b e
   have := h.2.2
   have := Eb hi l
   dsimp only; omega
  exact h1
 exact Gd.nil _
theorem Nc {n : Nat} {ts : List ByteArray} {bs : List IB} (h : Gd n ts bs) (nm : ByteArray) : Gd (n + 1) (PZ ts bs nm).1 (PZ ts bs nm).2.1 := by
 have h1 : Gd (n + 1) ts bs := h.weak (by omega)
 unfold PZ
 split
 ·split
  ·exact h1
  refine ⟨h1.1, fun b hb => h1.2.1 b ((List.eraseIdx_sublist bs _).subset hb), ?_⟩
  have := NP bs (atI bs nm).toNat
  have := h1.2.2
  dsimp only; omega
 exact Gd.nil _
theorem Gd.sz {n : Nat} {ts : List ByteArray} {bs : List IB} (h : Gd n ts bs) (hn : n ≤ 90) : ts.length + jE bs ≤ 1048576 := by
 have := h.1; have := h.2.2; omega
theorem Oi {n : Nat} {ts : List ByteArray} {bs : List IB} (h : Gd n ts bs) (hn : n ≤ 90) (c : Int) (nm : ByteArray) {l : List ByteArray} (hl : l.length ≤ 6 + n) : Tot (fun k => tJ.f k ts bs c nm l) (fun r => Gd (n + 1) r.1 r.2) := by
 have hz := h.sz hn
 unfold tJ.f
 refine Tot.prop (fun _ => Tot.vL (JF ts bs nm l hz (by omega)) (Tot.ret (Lt h nm hl hn))) (fun _ => Tot.prop (fun _ => Tot.vL (MG ts bs nm l hz (by omega)) (Tot.ret (af h nm hl hn))) (fun _ => Tot.prop (fun _ => Tot.vL (KY ts bs nm l hz (by omega)) (Tot.ret (Sz h nm hl hn))) (fun _ => Tot.vL (JG ts bs nm (NC hz)) (Tot.ret (Nc h nm)))))
theorem Oy {s : List Int} (Hs : Bs s) {p : Int} (h0 : 0 ≤ p) (h1 : p ≤ 900000) {ts : List ByteArray} (ht : ts.length ≤ 5) (bs : List IB) : Tot (fun k => dM.f k s p ts bs) (fun r => Gd 24 r.1 r.2.1 ∧ p ≤ r.2.2 ∧ r.2.2 ≤ p + 60) := by
 unfold dM.f
 refine Tot.vL (Ev.ret rfl) ?_
 generalize hN : ([(⟨#[97, 108, 101]⟩ : ByteArray), (⟨#[98]⟩ : ByteArray), (⟨#[99, 45, 99]⟩ : ByteArray), (⟨#[100, 97, 114, 107]⟩ : ByteArray), (⟨#[120, 57]⟩ : ByteArray)] : List ByteArray) = N
 have hN5 : N.length = 5 := by rw [← hN]; rfl
 clear hN
 have go : ∀ (d i : Nat) (q : Int) (tk : List ByteArray) (cs : List IB), i + d = 5 → p ≤ q → q + 12 * d ≤ p + 60 → tk.length ≤ 5 * i → (∀ b ∈ cs, b.f2.length ≤ 5) → jE cs ≤ 11 * i →
     Tot (fun k => dM.l0 k N tk (i : Int) s q ts cs) (fun r => Gd 24 r.1 r.2.1 ∧ p ≤ r.2.2 ∧ r.2.2 ≤ p + 60) := by
   intro d
   induction d with
   | zero =>
     intro i q tk cs hi hq hq2 htk hcs hw
     refine Tot.step (fun k => dM.l0.eq_2 _ _ _ _ _ _ _ k) (Tot.neg (by omega) (Tot.ret ?_))
     exact ⟨⟨ht, fun b hb => by have := hcs b hb; omega, by dsimp only; omega⟩, hq, by dsimp only; omega⟩
   | succ d ih =>
     intro i q tk cs hi hq hq2 htk hcs hw
     have hcl : cs.length ≤ 11 * i := Nat.le_trans (rZ cs) hw
     refine Tot.step (fun k => dM.l0.eq_2 _ _ _ _ _ _ _ k) (Tot.pos (by omega) (Tot.bind (lX Hs (by omega) (by omega) _) (fun y hy => ?_)))
     obtain ⟨_, _, e⟩ := hy
     rw [e, jB (show i < N.length by omega) (by omega)]
     refine Tot.prop (fun _ => ih (i + 1) (q + 1) tk cs (by omega) (by omega) (by omega) (by omega) hcs (by omega)) (fun _ => Tot.pos (by omega) (Tot.bind (KW Hs (by omega) 2 (by omega)) (fun z hz => ?_)))
     obtain ⟨z1, z2, z3⟩ := hz
     have inner : ∀ (e j : Nat) (q2 : Int) (tk2 has : List ByteArray), j + e = z.1.length → p ≤ q2 → q2 + e + 12 * d ≤ p + 60 → tk2.length ≤ 5 * i + j → has.length ≤ j →
         Tot (fun k => dM.l1 k N tk2 (i : Int) (j : Int) s q2 ts cs (rdOf ByteArray.empty N (i : Int)) has z.1) (fun r => Gd 24 r.1 r.2.1 ∧ p ≤ r.2.2 ∧ r.2.2 ≤ p + 60) := by
       intro e
       induction e with
       | zero =>
         intro j q2 tk2 has hj hq3 hq4 htk2 hh
         refine Tot.step (fun k => dM.l1.eq_2 _ _ _ _ _ _ _ _ _ _ _ k) (Tot.neg (by omega) (Tot.pos (by omega) ?_))
         rw [jB (show i < N.length by omega) (by omega)]
         refine ih (i + 1) q2 tk2 _ (by omega) hq3 (by omega) (by omega) (fun b hb => ?_) ?_
         · rcases List.mem_append.1 hb with h | h
           · exact hcs b h
           · rw [List.mem_singleton.1 h]; dsimp only; omega
         · rw [rT, qD]; dsimp only; rw [show jE ([] : List IB) = 0 from rfl]; omega
       | succ e ihe =>
         intro j q2 tk2 has hj hq3 hq4 htk2 hh
         refine Tot.step (fun k => dM.l1.eq_2 _ _ _ _ _ _ _ _ _ _ _ k) (Tot.pos (by omega) (Tot.pos (by omega) (Tot.vL (nP tk2 _ (by omega)) ?_)))
         rw [jB (show j < z.1.length by omega) (by omega)]
         refine Tot.prop (fun _ => ihe (j + 1) q2 tk2 has (by omega) hq3 (by omega) (by omega) (by omega)) (fun _ => Tot.bind (lX Hs (by omega) (by omega) _) (fun u hu => ?_))
         obtain ⟨_, _, e2⟩ := hu
         rw [e2]
         refine Tot.prop (fun _ => Tot.pos (by omega) (Tot.pos (by omega) (ihe (j + 1) (q2 + 1) _ _ (by omega) (by omega) (by omega) (by rw [List.length_append, List.length_singleton]; omega) (by rw [List.length_append, List.length_singleton]; omega)))) (fun _ => ihe (j + 1) (q2 + 1) tk2 has (by omega) (by omega) (by omega) (by omega) (by omega))
     exact inner z.1.length 0 z.2 tk [] (by omega) (by omega) (by omega) (by omega) (by simp)
 exact go 5 0 p [] [] (by omega) (by omega) (by omega) (by simp) (by simp) (by simp [jE])
theorem Kt {s : List Int} (Hs : Bs s) {p : Int} (h0 : 0 ≤ p) (h1 : p ≤ 10) : Tot (fun k => kH.f k s p) (fun r => Gd 24 r.1 r.2.1 ∧ 0 ≤ r.2.2 ∧ r.2.2 ≤ 5000) := by
 unfold kH.f
 refine Tot.bind (Kn Hs h0 (by omega)) (fun x hx => ?_)
 obtain ⟨x1, _, x3, x4⟩ := hx
 have hx5 : x.1.length ≤ 5 := x1.length_le
 refine Tot.bind (lX Hs (by omega) (by omega) _) (fun y hy => ?_)
 obtain ⟨_, _, e⟩ := hy
 rw [e]
 refine Tot.prop (fun _ => Tot.bind (Oy Hs (by omega) (by omega) hx5 _) (fun z hz => Tot.ret ?_)) (fun _ => Tot.bind (lX Hs (by omega) (by omega) _) (fun z hz => ?_))
 ·obtain ⟨w1, w2, w3⟩ := hz
  exact ⟨w1, by (try dsimp only); omega, by (try dsimp only); omega⟩
 obtain ⟨z1, z2, z3⟩ := hz
 have z2 := z2 (by omega)
 rw [z3]
 have go : ∀ (d n : Nat) (q : Int) (ts : List ByteArray) (cs : List IB), Gd n ts cs → n + d ≤ 24 → 0 ≤ q → q + 100 * d ≤ 5000 → Tot (fun k => kH.l0 k (d : Int) s q ts cs) (fun r => Gd 24 r.1 r.2.1 ∧ 0 ≤ r.2.2 ∧ r.2.2 ≤ 5000) := by
  intro d
  induction d with
  | zero =>
   intro n q ts cs hg hn hq hq2
   exact Tot.step (fun k => kH.l0.eq_2 _ _ _ _ _ k) (Tot.neg (by omega) (Tot.ret ⟨hg.weak (by omega), hq, by dsimp only; omega⟩))
  | succ d ih =>
   intro n q ts cs hg hn hq hq2
   have hz := hg.sz (by omega)
   have hcl := rZ cs
   refine Tot.step (fun k => kH.l0.eq_2 _ _ _ _ _ k) (Tot.pos (by omega) (Tot.bind (Lm (m := 5 + n) Hs hq (by have := hg.1; omega) hg.2.1 (by omega) (by omega)) (fun y hy => ?_)))
   obtain ⟨y1, y2, y3⟩ := hy
   refine Tot.bind (Oi hg (by omega) _ _ (by omega)) (fun u hu => ?_)
   rw [show wrap64 (((d + 1 : Nat) : Int) - 1) = (d : Int) from by rw [lD _ (by omega)]; omega]
   exact ih (n + 1) y.2.2.2 u.1 u.2 hu (by omega) (by omega) (by omega)
 obtain ⟨v, hv⟩ : ∃ v : Nat, z.1 = v := ⟨z.1.toNat, by omega⟩
 rw [hv]
 exact go v 0 _ x.1 [] ⟨hx5, by simp, by simp [jE]⟩ (by omega) (by omega) (by omega)
def Sp (ts : List ByteArray) (bs : List IB) : Prop := ts.length ≤ 6 ∧ jE bs ≤ 10000
theorem MH {bs : List IB} {i : Nat} (hi : i < bs.length) (x : IB) (c : Nat) (h : x.f1.length + x.f2.length ≤ (gB bs i).f1.length + (gB bs i).f2.length + c) : jE (bs.set i x) ≤ jE bs + c := by
 have := MI hi x; omega
theorem Ho {s : List Int} (Hs : Bs s) {p : Int} (h0 : 0 ≤ p) (h1 : p ≤ 900000) {ts : List ByteArray} {bs : List IB} (hg : Gd 24 ts bs) : Tot (fun k => bJ.f k s p ts bs) (fun r => Sp r.1 r.2.1 ∧ 0 ≤ r.2.2 ∧ r.2.2 ≤ p + 10) := by
 have hz := hg.sz (by omega)
 have ht := hg.1
 have hw := hg.2.2
 have hl := rZ bs
 unfold bJ.f
 refine Tot.vL (lK ts bs (NC hz)) ?_
 have l0 : ∀ (e : Nat) (x7 x8 q : Int) (cs : List IB), x7 ≤ cs.length + e → 0 ≤ q → q ≤ p + 10 → jE cs + e ≤ 10000 → Tot (fun k => bJ.l0 k x7 x8 s q ts cs) (fun r => Sp r.1 r.2.1 ∧ 0 ≤ r.2.2 ∧ r.2.2 ≤ p + 10) := by
  intro e
  induction e with
  | zero =>
   intro x7 x8 q cs hx hq hq2 hc
   exact Tot.step (fun k => bJ.l0.eq_2 _ _ _ _ _ _ k) (Tot.neg (by omega) (Tot.ret ⟨⟨by dsimp only; omega, by dsimp only; omega⟩, hq, hq2⟩))
  | succ e ih =>
   intro x7 x8 q cs hx hq hq2 hc
   have hcl := rZ cs
   refine Tot.step (fun k => bJ.l0.eq_2 _ _ _ _ _ _ k) (Tot.prop (fun _ => Tot.vL (Ev.ret rfl) (Tot.pos (by simp [strOfNums, ByteArray.size]) (Tot.pos (by omega) ?_))) (fun _ => Tot.ret ⟨⟨by dsimp only; omega, by dsimp only; omega⟩, hq, hq2⟩))
   refine ih x7 _ q _ (by rw [List.length_append, List.length_singleton]; omega) hq hq2 ?_
   rw [rT, qD, show jE ([] : List IB) = 0 from rfl]; dsimp only; rw [List.length_nil]; omega
 have j0 : ∀ (b : Bool) (q : Int), (b = false → 0 < bs.length) → 0 ≤ q → q ≤ p + 2 → Tot (fun k => bJ.j0 k b s q ts bs) (fun r => Sp r.1 r.2.1 ∧ 0 ≤ r.2.2 ∧ r.2.2 ≤ p + 10) := by
  intro b q hb hq hq2
  refine Tot.step (fun k => bJ.j0.eq_2 _ _ _ _ _ k) (Tot.prop (fun _ => Tot.bind (F4 Hs hq (by omega) (by simp)) (fun y hy => Tot.pos (by omega) (Tot.ret ?_))) (fun hbf => ?_))
  ·rw [hy]; exact ⟨⟨by show (ts ++ [_]).length ≤ 6; rw [List.length_append, List.length_singleton]; omega, by show jE bs ≤ 10000; omega⟩, by show 0 ≤ q + 1; omega, by show q + 1 ≤ p + 10; omega⟩
  ·have hbl := hb (by simpa using hbf)
   refine Tot.bind (lX Hs hq (by omega) _) (fun y hy => ?_)
   obtain ⟨y1, y2, y3⟩ := hy
   have y2 := y2 (by omega)
   rw [y3]
   refine Tot.bind (lX Hs (by omega) (by omega) _) (fun z hz => ?_)
   obtain ⟨_, _, z3⟩ := hz
   rw [z3]
   obtain ⟨i, hi⟩ : ∃ i : Nat, y.1 = i := ⟨y.1.toNat, by omega⟩
   have hil : i < bs.length := by omega
   rw [hi, Int.toNat_natCast, jI]
   have b1 : (gB bs i).f1.length + (gB bs i).f2.length ≤ jE bs := by have := T9 (M4 hil); omega
   have fin : ∀ (cs : List IB) (q : Int), jE cs ≤ 10000 → 0 ≤ q → q ≤ p + 10 → Sp ts cs ∧ 0 ≤ q ∧ q ≤ p + 10 := fun cs q h1 h2 h3 => ⟨⟨by omega, h1⟩, h2, h3⟩
   refine Tot.prop (fun _ => Tot.bind (F4 Hs (by omega) (by omega) (by simp)) (fun u hu => Tot.pos (by omega) (Tot.pos (by omega) (Tot.ret (fin _ u.2 ?_ (by omega) (by omega)))))) (fun _ => ?_)
   ·show jE (bs.set i _) ≤ 10000
    have := MH hil ⟨u.1, (gB bs i).f1, (gB bs i).f2⟩ 0 (by dsimp only; omega); omega
   refine Tot.prop (fun _ => Tot.pos (by omega) (Tot.pos (by omega) (Tot.bind (F4 Hs (by omega) (by omega) (by simp)) (fun u hu => Tot.pos (by omega) (Tot.ret (fin _ u.2 ?_ (by omega) (by omega))))))) (fun _ => ?_)
   ·show jE (bs.set i _) ≤ 10000
    have := MH hil ⟨(gB bs i).f0, (gB bs i).f1, (gB bs i).f2 ++ [u.1]⟩ 1 (by dsimp only; rw [List.length_append, List.length_singleton]; omega); omega
   refine Tot.prop (fun _ => Tot.pos (by omega) (Tot.pos (by omega) (Tot.bind (F4 Hs (by omega) (by omega) (by simp)) (fun u hu => Tot.pos (by omega) (Tot.ret (fin _ u.2 ?_ (by omega) (by omega))))))) (fun _ => ?_)
   ·show jE (bs.set i _) ≤ 10000
    have := MH hil ⟨(gB bs i).f0, (gB bs i).f1 ++ [u.1], (gB bs i).f2⟩ 1 (by dsimp only; rw [List.length_append, List.length_singleton]; omega); omega
   refine Tot.prop (fun _ => Tot.pos (by omega) (Tot.pos (by omega) (Tot.pos (by omega) (Tot.ret (fin _ (q + 1 + 1) ?_ (by omega) (by omega)))))) (fun _ => ?_)
   ·show jE (bs ++ [gB bs i]) ≤ 10000
    rw [rT, qD, show jE ([] : List IB) = 0 from rfl]; omega
   refine Tot.bind (lX Hs (by omega) (by omega) _) (fun u hu => ?_)
   obtain ⟨u1, u2, u3⟩ := hu
   have u2 := u2 (by omega)
   exact l0 7 _ _ _ _ (by rw [lD _ (by omega)]; omega) (by omega) (by omega) (by omega)
 refine Tot.prop (fun _ => j0 true p (by simp) h0 (by omega)) (fun hne => Tot.bind (lX Hs h0 (by omega) _) (fun y hy => ?_))
 have hbl : 0 < bs.length := by have : ¬ ((bs.length : Int) = 0) := hne; omega
 obtain ⟨_, _, e⟩ := hy
 rw [e]
 exact j0 _ (p + 1) (fun _ => hbl) (by omega) (by omega)
theorem Dn {s : List Int} (Hs : Bs s) : Tot (fun k => qC.f k s 0) (fun r => Sp r.1 r.2.1 ∧ 0 ≤ r.2.2 ∧ r.2.2 ≤ 6000) := by
 unfold qC.f
 refine Tot.bind (Kt Hs (by omega) (by omega)) (fun x hx => ?_)
 obtain ⟨x1, x2, x3⟩ := hx
 refine Tot.bind (lX Hs x2 (by omega) _) (fun y hy => ?_)
 obtain ⟨_, _, e⟩ := hy
 rw [e]
 refine Tot.prop (fun _ => Tot.bind (Ho Hs (by omega) (by omega) x1) (fun z hz => Tot.ret ⟨hz.1, hz.2.1, by have := hz.2.2; dsimp only; omega⟩)) (fun _ => Tot.ret ⟨⟨by have := x1.1; dsimp only; omega, by have := x1.2.2; dsimp only; omega⟩, by dsimp only; omega, by dsimp only; omega⟩)
theorem Y5 {l : List Int} (h : ∀ x ∈ l, (Lit.int .u8 x).wf = true) : ∃ s, Bs s ∧ oK.f l = some (s, 0) := by
 have hb : Bs l := fun x hx => by
  have := h x hx
  simp only [Lit.wf, Bool.and_eq_true, decide_eq_true_eq] at this
  exact ⟨this.1, this.2⟩
 unfold oK.f
 by_cases hc : (l.length : Int) > 2000
 ·rw [if_pos hc, if_pos (by omega)]
  exact ⟨_, fun x hx => hb x (List.mem_of_mem_take hx), rfl⟩
 rw [if_neg hc]; exact ⟨l, hb, rfl⟩
theorem Lp {l : List Int} (h : ∀ x ∈ l, (Lit.int .u8 x).wf = true) : Tot (fun k => (oK.f l).bind fun b => (qC.f k b.1 b.2).bind fun c => some (c.1, c.2.1)) (fun r => Sp r.1 r.2) := by
 obtain ⟨s, Hs, e⟩ := Y5 h
 exact Tot.vL (e ▸ Ev.ret rfl) (Tot.bind (Dn Hs) (fun x hx => Tot.ret hx.1))
def BA (ts : List ByteArray) (bs : List IB) : Nat → List ByteArray → Bool
  | 0, gone => DI ts bs gone
  | d + 1, gone => anyR (fun i => !hasS gone (gB bs i).f0 && BA ts bs d (gone ++ [(gB bs i).f0])) bs.length 0
theorem SV {ts : List ByteArray} {bs : List IB} : ∀ (d : Nat) (gone : List ByteArray), BA ts bs d gone = true → CG ts bs = true
  | 0, gone, h => SA h
  | d + 1, gone, h => by
    unfold BA at h
    obtain ⟨j, _, _, hp⟩ := (P7 _ _ _).1 h
    rw [Bool.and_eq_true] at hp
    exact SV d _ hp.2
theorem Gq {ts : List ByteArray} {bs : List IB} {order : List ByteArray} (h : DI ts bs order = true) : ∀ (d k : Nat), k + d = bs.length → BA ts bs d (order.take k) = true := by
 have h0 := h
 unfold DI at h
 simp only [Bool.and_eq_true, decide_eq_true_eq] at h
 obtain ⟨hb, hl, hall⟩ := h
 have hall := (AA _ _ _).1 hall
 intro d
 induction d with
 | zero =>
  intro k hk
  unfold BA
  rw [List.take_of_length_le (by omega)]; exact h0
 | succ d ih =>
  intro k hk
  unfold BA
  rw [P7]
  have q := hall k (by omega) (by omega)
  unfold fitP at q
  simp only [Bool.and_eq_true, Bool.not_eq_true', decide_eq_false_iff_not] at q
  obtain ⟨a, e, h1, h2⟩ := P8 q.1
  have h2 := toList_inj.1 h2
  refine ⟨a, by omega, h1, ?_⟩
  rw [h2, q.2.1]
  have := ih (k + 1) (by omega)
  rw [List.take_succ_eq_append_getElem (by omega), ← show gS order k = order[k]'(by omega) from getD_lt _ _ _] at this
  rw [this]; rfl
theorem Hm {ts : List ByteArray} {bs : List IB} (hb : uO ts bs = true) : CG ts bs = BA ts bs bs.length [] := by
 cases h : CG ts bs with
 | true => exact (Gq (Q3 h) bs.length 0 (by omega)).symm
 | false =>
  cases h2 : BA ts bs bs.length [] with
  | false => rfl
  | true => rw [SV _ _ h2] at h; exact absurd h (by simp)
theorem NF (bs : List IB) : ∀ (d : Nat) (x : List ByteArray), (nN bs d x).1.length ≤ d + x.length
  | 0, x => by simp [nN]
  | d + 1, x => by
    unfold nN
    split
    · simp
    · refine Nat.le_trans (NF bs d _) ?_
      simp; omega
theorem JB (ts : List ByteArray) (bs : List IB) : (sZ ts bs).1.length ≤ bs.length := by
 unfold sZ
 split
 ·exact NF bs bs.length []
 simp
theorem Fu (l : List ByteArray) (s : ByteArray) (hl : l.length ≤ 9223372036854775807) : Ev (fun k => lC.f k l s) (hasS l s) := by
 unfold lC.f
 have E := Ev.OM (f := fun k i => lC.l0 k l s (i : Int)) (P := fun j => s.toList == (gS l j).toList) l.length
   (Ev.step (fun k => lC.l0.eq_2 _ _ _ k) (Ev.neg (by omega) (Ev.ret rfl)))
   (fun i r hi hp H => by
     refine Ev.step (fun k => lC.l0.eq_2 _ _ _ k) (Ev.pos (by omega) (Ev.pos (by omega) ?_))
     rw [lY, jB hi hl]
     refine Ev.neg (fun e => ?_) H
     rw [e] at hp; simp at hp)
   (fun i hi hp => by
     refine Ev.step (fun k => lC.l0.eq_2 _ _ _ k) (Ev.pos (by omega) (Ev.pos (by omega) ?_))
     rw [lY]
     exact Ev.pos (beq_iff_eq.1 hp).symm (Ev.ret rfl)) 0 (by omega)
 rw [show hasS l s = anyR (fun j => s.toList == (gS l j).toList) l.length 0 from (LQ (fun x : ByteArray => s.toList == x.toList) ByteArray.empty l).symm]
 exact E
theorem Ht (l : List ByteArray) (hl : l.length ≤ 9223372036854775807) : Ev (fun k => jF.f k l l) true := by
 unfold jF.f
 refine Ev.pos rfl ?_
 refine Ev.loop (f := fun k i => jF.l0 k l l (i : Int)) (val := fun _ => true) l.length ?_ ?_ 0 (by omega)
 ·exact Ev.step (fun k => jF.l0.eq_2 _ _ _ k) (Ev.neg (by omega) (Ev.ret rfl))
 intro i hi H
 refine Ev.step (fun k => jF.l0.eq_2 _ _ _ k) (Ev.pos (by omega) (Ev.pos (by omega) (Ev.pos (by omega) (Ev.pos rfl ?_))))
 rw [jB hi hl]; exact H
theorem Sp.sz {ts : List ByteArray} {bs : List IB} (h : Sp ts bs) : ts.length + jE bs ≤ 1048576 := by have := h.1; have := h.2; omega
theorem Sp.ts' {ts : List ByteArray} {bs : List IB} (h : Sp ts bs) : ts.length ≤ 9223372036854775807 := by have := h.1; omega
theorem Sp.bs' {ts : List ByteArray} {bs : List IB} (h : Sp ts bs) : bs.length ≤ 9223372036854775807 := by have := h.2; have := rZ bs; omega
theorem Sp.bok {ts : List ByteArray} {bs : List IB} (h : Sp ts bs) : Bok bs := (NC h.sz).bok
theorem Tot.then {α : Type} {g : Nat → Option α} {f : Nat → α → Option Bool} {P : α → Prop} (H : Tot g P) (K : ∀ x, P x → Ev (fun k => f k x) true) : Ev (fun k => (g k).bind fun x => f k x) true := by
 obtain ⟨x, h1, h2⟩ := H
 exact Ev.bind h1 (K x h2)
theorem YG {ts : List ByteArray} {bs : List IB} (hs : Sp ts bs) : ∀ (d : Nat) (gone : List ByteArray), gone.length + d = bs.length → Ev (fun k => eB.f k ts bs gone) (BA ts bs d gone)
 | 0, gone, h => by
  have := hs.bs'
  exact Ev.step (fun k => eB.f.eq_2 _ _ _ k) (Ev.pos (by omega) (Ev.bind (wJ ts bs gone hs.ts' hs.bs' hs.bok (by omega)) (Ev.ret rfl)))
 | d + 1, gone, h => by
  have hl : bs.length ≤ 10000 := Nat.le_trans (rZ bs) hs.2
  have more : ∀ i, i < bs.length → hasS gone (gB bs i).f0 = false → ∀ r, ((BA ts bs d (gone ++ [(gB bs i).f0]) = true → r = true) ∧ (BA ts bs d (gone ++ [(gB bs i).f0]) = false → Ev (fun k => eB.l0 k gone ((i + 1 : Nat) : Int) ts bs) r)) → Ev (fun k => eB.l0 k gone (i : Int) ts bs) r := by
   intro i hi hn r hr
   refine Ev.step (fun k => eB.l0.eq_2 _ _ _ _ k) (Ev.pos (by omega) (Ev.pos (by omega) ?_))
   rw [jI, jB hi hs.bs']
   refine Ev.bind (Fu _ _ (by omega)) ?_
   rw [hn]
   refine Ev.neg (by simp) (Ev.bind (Ev.ret rfl) (Ev.pos (by simp only [List.length_nil]; omega) (Ev.bind (Ev.ret rfl) (Ev.bind (Ev.ret rfl) (Ev.pos (by simp only [List.length_append, List.length_nil, List.length_singleton]; omega) ?_)))))
   refine Ev.bind (show Ev (fun k => eB.f k ts bs ((([] : List ByteArray) ++ gone) ++ [(gB bs i).f0])) (BA ts bs d (gone ++ [(gB bs i).f0])) from YG hs d _ (by simp only [List.length_append, List.nil_append, List.length_singleton]; omega)) ?_
   refine Ev.test _ (fun e => Ev.ret (hr.1 e).symm) (fun e => hr.2 e)
  refine Ev.step (fun k => eB.f.eq_2 _ _ _ k) (Ev.neg (by omega) ?_)
  unfold BA
  refine Ev.OM (f := fun k i => eB.l0 k gone (i : Int) ts bs) (P := fun i => !hasS gone (gB bs i).f0 && BA ts bs d (gone ++ [(gB bs i).f0])) bs.length ?_ ?_ ?_ 0 (by omega)
  ·exact Ev.step (fun k => eB.l0.eq_2 _ _ _ _ k) (Ev.neg (by omega) (Ev.ret rfl))
  ·intro i r hi hp H
   cases hn : hasS gone (gB bs i).f0 with
   | true =>
    refine Ev.step (fun k => eB.l0.eq_2 _ _ _ _ k) (Ev.pos (by omega) (Ev.pos (by omega) ?_))
    rw [jI, jB hi hs.bs']
    refine Ev.bind (Fu _ _ (by omega)) ?_
    rw [hn]
    exact Ev.pos rfl H
   | false =>
    rw [hn] at hp
    have hp2 : BA ts bs d (gone ++ [(gB bs i).f0]) = false := by simpa using hp
    exact more i hi hn r ⟨fun e => absurd (hp2.symm.trans e) (by simp), fun _ => H⟩
  ·intro i hi hp
   rw [Bool.and_eq_true] at hp
   obtain ⟨h1, h2⟩ := hp
   have hn : hasS gone (gB bs i).f0 = false := by simpa using h1
   exact more i hi hn true ⟨fun _ => rfl, fun e => absurd (h2.symm.trans e) (by simp)⟩
theorem Dx {s : List Int} (Hs : Bs s) {p : Int} (h0 : 0 ≤ p) (h1 : p ≤ 900000) (ts : List ByteArray) (bs : List IB) {out : List ByteArray} (b : Bool) (hb : b = true → 0 < out.length) : Tot (fun k => aZ.j3 k out b s p ts bs) (fun r => r.1 = ts ∧ r.2.1 = bs ∧ r.2.2.length = out.length) := by
 refine Tot.step (fun k => aZ.j3.eq_2 _ _ _ _ _ _ k) (Tot.prop (fun h => ?_) (fun _ => Tot.ret ⟨rfl, rfl, rfl⟩))
 have hp := hb h
 refine Tot.bind (lX Hs h0 (by omega) _) (fun x hx => Tot.bind (F4 Hs (by omega) (by omega) (by decide)) (fun y _ => Tot.pos hx.1 (Tot.pos (hx.2.1 (by omega)) (Tot.ret ⟨rfl, rfl, ?_⟩))))
 exact List.length_set
theorem Dw {s : List Int} (Hs : Bs s) {p : Int} (h0 : 0 ≤ p) (h1 : p ≤ 800000) (ts : List ByteArray) (bs : List IB) (out : List ByteArray) : Tot (fun k => aZ.j2 k out s p ts bs) (fun r => r.1 = ts ∧ r.2.1 = bs ∧ r.2.2.length = out.length) := by
 refine Tot.step (fun k => aZ.j2.eq_2 _ _ _ _ _ k) (Tot.prop (fun h => Tot.bind (lX Hs h0 (by omega) 12) (fun x hx => Dx Hs (by omega) (by omega) ts bs _ (fun _ => by omega))) (fun _ => Dx Hs h0 (by omega) ts bs false (by simp)))
theorem Dy {s : List Int} (Hs : Bs s) (ts : List ByteArray) {bs : List IB} (hl : bs.length ≤ 10000) : ∀ (d i : Nat) (out : List ByteArray) (p : Int), i + d = bs.length → out.length = i → 0 ≤ p → p ≤ 10000 + i → Tot (fun k => aZ.l0 k out (i : Int) s p ts bs) (fun r => r.1 = ts ∧ r.2.1 = bs ∧ r.2.2.length = bs.length)
  | 0, i, out, p, hi, ho, h0, h1 => by
    refine Tot.step (fun k => aZ.l0.eq_2 _ _ _ _ _ _ k) (Tot.neg (by omega) ?_)
    exact Tot.weak (Dw Hs h0 (by omega) ts bs out) (fun r hr => ⟨hr.1, hr.2.1, by rw [hr.2.2]; omega⟩)
  | d + 1, i, out, p, hi, ho, h0, h1 => by
    have hw : wrap64 ((out.length : Int) + 1) = (out.length : Int) + 1 := lD _ (by omega)
    refine Tot.step (fun k => aZ.l0.eq_2 _ _ _ _ _ _ k) (Tot.pos (by omega) ?_)
    rw [hw]
    refine Tot.bind (lX Hs h0 (by omega) _) (fun x hx => ?_)
    obtain ⟨x1, x2, x3⟩ := hx
    have x2' := x2 (by omega)
    have ht : (out.take x.1.toNat).length = x.1.toNat := by rw [List.length_take]; omega
    have hd : (out.drop x.1.toNat).length = out.length - x.1.toNat := List.length_drop
    refine Tot.vL (Ev.ret rfl) (Tot.pos x1 (Tot.pos (by omega) (Tot.vL (Ev.ret rfl) (Tot.pos (by rw [ht]; simp only [List.length_nil]; omega) (Tot.vL (Ev.ret rfl) (Tot.pos (by omega) (Tot.vL (Ev.ret rfl) (Tot.pos ?_ (Tot.vL (Ev.ret rfl) (Tot.vL (Ev.ret rfl) (Tot.pos ?_ ?_)))))))))))
    · simp only [List.length_append, List.length_nil, List.length_singleton, ht]; omega
    · simp only [List.length_append, List.length_nil, List.length_singleton, ht, hd]; omega
    · rw [jB (by omega : i < bs.length) (by omega)]
      exact Dy Hs ts hl d (i + 1) _ _ (by omega) (by simp only [List.length_append, List.length_nil, List.length_singleton, ht, hd]; omega) (by omega) (by omega)
theorem UN {l : List Int} (h : ∀ x ∈ l, (Lit.int .u8 x).wf = true) : Tot (fun k => aZ.f k l) (fun r => Sp r.1 r.2.1 ∧ r.2.2.length ≤ 10000) := by
 obtain ⟨s, Hs, e⟩ := Y5 h
 unfold aZ.f
 refine Tot.vL (e ▸ Ev.ret rfl) (Tot.bind (Dn Hs) (fun x hx => ?_))
 obtain ⟨hs, x3, x4⟩ := hx
 have hl : x.2.1.length ≤ 10000 := Nat.le_trans (rZ _) hs.2
 have ho := JB x.1 x.2.1
 have go : ∀ (b : Bool) (p : Int), 0 ≤ p → p ≤ 7000 → Tot (fun k => aZ.j0 k (sZ x.1 x.2.1).1 b s p x.1 x.2.1) (fun r => Sp r.1 r.2.1 ∧ r.2.2.length ≤ 10000) := by
  intro b p h0 h1
  refine Tot.step (fun k => aZ.j0.eq_2 _ _ _ _ _ _ k) (Tot.prop (fun _ => ?_) (fun _ => ?_))
  ·exact Tot.weak (Dy Hs x.1 hl x.2.1.length 0 [] p (by omega) rfl h0 (by omega)) (fun r hr => ⟨by rw [hr.1, hr.2.1]; exact hs, by rw [hr.2.2]; omega⟩)
  ·exact Tot.weak (Dw Hs h0 (by omega) x.1 x.2.1 _) (fun r hr => ⟨by rw [hr.1, hr.2.1]; exact hs, by rw [hr.2.2]; omega⟩)
 refine Tot.vL (vC x.1 x.2.1 hs.ts' hs.bs' hs.bok) (Tot.prop (fun _ => Tot.bind (lX Hs x3 (by omega) 2) (fun y hy => go _ _ (by omega) (by omega))) (fun _ => go _ _ x3 (by omega)))
theorem Bd {l : List Int} (h : ∀ x ∈ l, (Lit.int .u8 x).wf = true) : Tot (fun k => lF.f k l) (fun r => Sp r.1 r.2) := by
 unfold lF.f
 exact Lp h
theorem SQ {m : List Int} (hv : ∀ x ∈ m, (Lit.int .u8 x).wf = true) : Ev (fun k => bP.j2 k m false) true := by
 refine Ev.step (fun k => bP.j2.eq_2 _ _ k) (Ev.neg (by simp) (Tot.then (UN hv) (fun x hx => ?_)))
 obtain ⟨ts, bs, o⟩ := x
 replace hx : Sp ts bs ∧ o.length ≤ 10000 := hx
 obtain ⟨hs, ho⟩ := hx
 refine Ev.bind (wJ ts bs o hs.ts' hs.bs' hs.bok (by omega)) (Ev.bind (KX ts bs o hs.ts' hs.bs' hs.bok (by omega)) (Ev.pos (by simp) ?_))
 refine Ev.test _ (fun h => Ev.bind (C8 ts bs hs.ts' hs.bs' hs.bok) (Ev.ret ?_)) (fun _ => Ev.ret rfl)
 exact SA h
theorem Gw {ts : List ByteArray} {bs : List IB} (hs : Sp ts bs) {m : List Int} (hv : ∀ x ∈ m, (Lit.int .u8 x).wf = true) : Ev (fun k => bP.j1 k m (sZ ts bs).1 (sZ ts bs).2 false ts bs) true := by
 have hl : bs.length ≤ 10000 := Nat.le_trans (rZ _) hs.2
 have ho := JB ts bs
 have fin : Ev (fun k => if (sZ ts bs).2 = true then (bQ.f k ts bs (sZ ts bs).1).bind fun t => bP.j2 k m (!t) else bP.j2 k m false) true := by
  refine Ev.test _ (fun h => Ev.bind (wJ ts bs _ hs.ts' hs.bs' hs.bok (by omega)) ?_) (fun _ => SQ hv)
  rw [Q3 h]
  exact SQ hv
 refine Ev.step (fun k => bP.j1.eq_2 _ _ _ _ _ _ k) (Ev.neg (by simp) (Ev.bind (kG ts bs hs.ts' hs.bs' hs.bok) (Ev.test _ (fun hb => Ev.bind (YG hs bs.length [] (by simp)) (Ev.neg ?_ fin)) (fun _ => fin))))
 rw [← Hm hb]
 simp [CG]
theorem TM : bP.Pure := by
 intro l m _ _ hw _ _ hv
 refine Ev.rounds (g := fun k => bP.f k l m) ?_
 have J0 : ∀ b, Ev (fun k => bP.j0 k l m b) true := by
  intro b
  refine Ev.step (fun k => bP.j0.eq_2 _ _ _ k) (Ev.prop (fun _ => Ev.ret rfl) (fun _ => Tot.then (Bd hw) (fun x hx => ?_)))
  obtain ⟨ts, bs⟩ := x
  replace hx : Sp ts bs := hx
  have hl : (sZ ts bs).1.length ≤ 9223372036854775807 := by have := JB ts bs; have := hx.bs'; omega
  refine Ev.bind (AU ts bs hx.ts' hx.bs' hx.bok) (Ev.bind (vC ts bs hx.ts' hx.bs' hx.bok) (Ev.neg (by simp) (Ev.bind (Ht _ hl) (Ev.pos rfl ?_))))
  refine Ev.bind (C8 ts bs hx.ts' hx.bs' hx.bok) (Ev.neg (by simp [CG]) (Ev.bind (uJ ts bs hx.ts' hx.bs' hx.bok) (Ev.bind (kG ts bs hx.ts' hx.bs' hx.bok) ?_)))
  rw [show (uO ts bs != uO ts bs) = false by simp]
  exact Gw hx hv
 unfold bP.f
 exact Ev.prop (fun _ => J0 _) (fun _ => J0 _)
end Go.Proofs.Ytaofjgnhapnndaa.Q
