/- Texts that the row needs: words on memory and rows, the contracts of the functions it reaches, and the plain lemmas on what they compute. -/
import Derived.Test.YtaofjgnhapnndaaGreatDoorXksan
open Go.Proofs.YtaofjgnhapnndaaGreatDoorFks
namespace Go.Proofs.YtaofjgnhapnndaaGreatDoor.Q
open Go.RowKit Go.Proofs.YtaofjgnhapnndaaGreatDoorW.PrintWords Go.Proofs.YtaofjgnhapnndaaGreatDoorW.PrintLast Go.Proofs.YtaofjgnhapnndaaGreatDoorW.PrintMore
set_option linter.unusedVariables false
set_option linter.unusedSimpArgs false
def vE (bs : List IB) (at_ : Nat) (things : List ByteArray) (q : Nat) : Bool := !decide (q = at_) && kH (gB bs q).f1 things
def P8 (bs : List IB) (at_ : Nat) (things : List ByteArray) : Bool := anyR (vE bs at_ things) bs.length 0
def zY (bs : List IB) (i : Nat) (things : List ByteArray) : List IB := setN bs i (lZ (gB bs i).f1 things) (gB bs i).f2
def askB (ts : List ByteArray) (bs : List IB) (n : ByteArray) (things : List ByteArray) : List ByteArray × List IB × Int :=
  if iY ts bs = true then
    (if atI bs n < 0 then (ts, bs, 3) else if kG things (gB bs (atI bs n).toNat).f2 = true then
      (if P8 bs (atI bs n).toNat things = true then (ts, bs, 5) else if (F6 ts bs && !F6 ts (zY bs (atI bs n).toNat things)) = true then (ts, bs, 6) else (ts, zY bs (atI bs n).toNat things, 0)) else (ts, bs, 2))
  else ([], [], 1)
theorem Od {bs : List IB} {i : Nat} (hi : i < bs.length) (things : List ByteArray) : kM (zY bs i things) ≤ kM bs + things.length := by
 have h1 := RU hi ⟨(gB bs i).f0, lZ (gB bs i).f1 things, (gB bs i).f2⟩
 have h2 := G6 things (gB bs i).f1
 unfold zY setN; simp only at h1; omega
theorem Bl {ts : List ByteArray} {bs : List IB} {i : Nat} (hi : i < bs.length) {things : List ByteArray} (h : ts.length + kM bs ≤ 1048576) (hn : things.length ≤ 1048576) : Bz ts (zY bs i things) := by
 have := Od hi things
 unfold Bz; omega
theorem Pp (l : List ByteArray) (h : l.length ≤ 67108864) : Ev (fun _ => sort_Strings.f l) (wN l) := ⟨0, fun _ _ => by unfold sort_Strings.f; rw [if_pos (by omega)]⟩
theorem WO (l : List ByteArray) (a : ByteArray) (hl : l.length ≤ 67108864) (hf : insF a l = false) : Ev (fun k => cK.f k l a) (insL a l) := by
 unfold cK.f
 have go : ∀ (d i : Nat), l.length - i = d → i ≤ l.length → insF a (l.drop i) = false → Ev (fun k => cK.l0 k l a (i : Int)) (l.take i ++ insL a (l.drop i)) := by
  intro d
  induction d with
  | zero =>
   intro i hd hi _
   have hie : i = l.length := by omega
   refine Ev.step (fun k => cK.l0.eq_2 _ _ _ k) (Ev.neg (by omega) ?_)
   refine Ev.bind (Ev.ret rfl) (Ev.pos (by omega) (Ev.pos (by omega) ?_))
   rw [Int.toNat_natCast]
   refine Ev.pos (by simp only [List.length_nil, List.length_take]; omega) (Ev.bind (Ev.ret rfl) (Ev.bind (Ev.ret rfl) ?_))
   refine Ev.pos (by simp only [List.nil_append, List.length_take, List.length_cons, List.length_nil]; omega) (Ev.bind (Ev.ret rfl) (Ev.pos (by simp only [List.nil_append, List.length_append, List.length_take, List.length_drop, List.length_cons, List.length_nil]; omega) (Ev.ret ?_)))
   rw [hie, List.drop_eq_nil_of_le (Nat.le_refl _), List.nil_append, List.append_nil]; rfl
  | succ d ih =>
   intro i hd hi hf
   have hlt : i < l.length := by omega
   rw [List.drop_eq_getElem_cons hlt] at hf ⊢
   unfold insF at hf
   unfold insL
   refine Ev.step (fun k => cK.l0.eq_2 _ _ _ k) (Ev.pos (by omega) (Ev.pos (by omega) ?_))
   rw [kY, show gS l i = l[i] from getD_lt _ _ hlt, iQ hlt (by omega)]
   refine Ev.prop (fun hp => ?_) (fun hp => ?_)
   ·rw [if_pos hp] at hf
    rw [show (if Op.bytesLess l[i].toList a.toList = true then l[i] :: insL a (l.drop (i + 1)) else if (l[i].toList == a.toList) = true then l[i] :: l.drop (i + 1) else a :: l[i] :: l.drop (i + 1)) = l[i] :: insL a (l.drop (i + 1)) from if_pos hp]
    have := ih (i + 1) (by omega) (by omega) hf
    rw [List.take_succ_eq_append_getElem hlt, List.append_assoc] at this
    exact this
   ·rw [if_neg hp] at hf
    have hres : (if Op.bytesLess l[i].toList a.toList = true then l[i] :: insL a (l.drop (i + 1)) else if (l[i].toList == a.toList) = true then l[i] :: l.drop (i + 1) else a :: l[i] :: l.drop (i + 1)) = a :: l[i] :: l.drop (i + 1) := by
     rw [if_neg hp, if_neg (by rw [hf]; simp)]
    rw [hres]
    refine Ev.neg (by simpa using hf) ?_
    refine Ev.bind (Ev.ret rfl) (Ev.pos (by omega) ?_)
    rw [Int.toNat_natCast]
    refine Ev.pos (by simp only [List.length_nil, List.length_take]; omega) (Ev.bind (Ev.ret rfl) (Ev.bind (Ev.ret rfl) ?_))
    refine Ev.pos (by simp only [List.nil_append, List.length_take, List.length_cons, List.length_nil]; omega) (Ev.bind (Ev.ret rfl) (Ev.pos (by simp only [List.nil_append, List.length_append, List.length_take, List.length_drop, List.length_cons, List.length_nil]; omega) (Ev.ret ?_)))
    rw [List.nil_append, List.append_assoc, List.drop_eq_getElem_cons hlt]; rfl
 have := go l.length 0 (by omega) (by omega) hf
 exact this
theorem LW (ts : List ByteArray) (bs : List IB) (at_ : Nat) (things : List ByteArray) (h : Bz ts bs) (hn : things.length ≤ 1048576) : Ev (fun k => iJ.f k ts bs (at_ : Int) things) (P8 bs at_ things) := by
 have hl := h.bs
 unfold iJ.f
 refine Ev.loop (f := fun k i => iJ.l0 k (at_ : Int) things (i : Int) ts bs) (val := anyR (vE bs at_ things) bs.length) bs.length ?_ ?_ 0 (by omega)
 ·rw [NQ]
  refine Ev.step (fun k => iJ.l0.eq_2 _ _ _ _ _ k) ?_
  exact Ev.neg (by omega) (Ev.ret rfl)
 intro i hi H
 rw [JW _ hi]
 refine Ev.step (fun k => iJ.l0.eq_2 _ _ _ _ _ k) (Ev.pos (by omega) ?_)
 rw [iQ hi (by omega), gF]
 refine Ev.prop (fun e => Ev.sub H (by simp [vE, show i = at_ by omega])) (fun e => Ev.pos (by omega) (Ev.bind (sI _ _ (by have := h.at_ hi; omega) (by omega)) ?_))
 have hne : decide (i = at_) = false := decide_eq_false (by omega)
 refine Ev.test _ (fun h2 => Ev.ret (by simp [vE, h2, hne])) (fun h2 => Ev.sub H (by simp [vE, h2]))
theorem Po {bs : List IB} {i : Nat} (hi : i < bs.length) (h n : List ByteArray) : gB (setN bs i h n) i = ⟨(gB bs i).f0, h, n⟩ := by
 unfold setN gB
 rw [List.getD_eq_getElem?_getD, List.getElem?_set_self hi]; rfl
theorem KF (ts : List ByteArray) (bs : List IB) (n : ByteArray) (things : List ByteArray) (h : ts.length + kM bs ≤ 1048576) (hn : things.length ≤ 1048576) : Ev (fun k => eT.f k ts bs n things) (askB ts bs n things) := by
 have hz := J4 h
 have hl := hz.bs
 have ht := hz.ts
 unfold eT.f askB
 refine Ev.bind (iW ts bs (by omega) (by omega) hz.bok) (Ev.test _ (fun hb => ?_) (fun hb => Ev.ret (by simp [hb])))
 rw [if_pos hb]
 refine Ev.bind (kC ts bs hz) (Ev.bind (uG ts bs n (by omega)) ?_)
 refine Ev.prop (fun hc => Ev.ret (by rw [if_pos hc])) (fun hc => ?_)
 rw [if_neg hc]
 obtain ⟨i, e, hi⟩ := CO bs n hc
 rw [e, Int.toNat_natCast]
 have hii := hz.at_ hi
 dsimp only
 refine Ev.pos (by omega) (Ev.pos (by omega) ?_)
 rw [gF]
 refine Ev.bind (nU things _ (by omega) (by omega)) (Ev.test _ (fun hq => ?_) (fun hq => Ev.ret (by simp [hq])))
 rw [if_pos hq]
 refine Ev.bind (LW ts bs i things hz hn) (Ev.test _ (fun hk => Ev.ret (by simp [hk])) (fun hk => ?_))
 rw [if_neg (by simp [hk])]
 refine Ev.bind (kC ts bs hz) ?_
 dsimp only
 have hself : setN bs i (lZ (gB bs i).f1 (things.take 0)) (gB bs i).f2 = bs := by
  unfold setN lZ
  rw [List.take_zero, List.foldl_nil]
  refine List.ext_getElem (by rw [List.length_set]) fun j h1 h2 => ?_
  rw [List.getElem_set]
  by_cases hj : i = j
  ·subst hj; rw [if_pos rfl]; unfold gB; rw [getD_lt bs _ hi]
  ·rw [if_neg hj]
 have go : ∀ (d j : Nat), things.length - j = d → j ≤ things.length → Ev (fun k => eT.l0 k things (i : Int) (j : Int) ts bs ts bs ts (setN bs i (lZ (gB bs i).f1 (things.take j)) (gB bs i).f2)) (if (F6 ts bs && !F6 ts (zY bs i things)) = true then (ts, bs, 6) else (ts, zY bs i things, 0)) := by
  intro d
  induction d with
  | zero =>
   intro j hd hj
   rw [List.take_of_length_le (by omega), show setN bs i (lZ (gB bs i).f1 things) (gB bs i).f2 = zY bs i things from rfl]
   have hg := Bl hi h hn
   have hgl := hg.bs
   refine Ev.step (fun k => eT.l0.eq_2 _ _ _ _ _ _ _ _ _ k) (Ev.neg (by omega) (Ev.bind (yU ts bs (by omega) (by omega) hz.bok) ?_))
   refine Ev.test _ (fun h1 => ?_) (fun h1 => ?_)
   ·refine Ev.bind (yU ts _ (by omega) (by omega) hg.bok) (Ev.test _ (fun h2 => ?_) (fun h2 => Ev.ret (by simp [h1, h2])))
    exact Ev.bind (kC ts _ hg) (Ev.ret (by simp [h1, h2]))
   ·exact Ev.bind (kC ts _ hg) (Ev.ret (by simp [h1]))
  | succ d ih =>
   intro j hd hj
   have hlt : j < things.length := by omega
   have hsn : lZ (gB bs i).f1 (things.take (j + 1)) = insL things[j] (lZ (gB bs i).f1 (things.take j)) := by
    rw [List.take_succ_eq_append_getElem hlt, WG]
   have hlen : (setN bs i (lZ (gB bs i).f1 (things.take j)) (gB bs i).f2).length = bs.length := by unfold setN; rw [List.length_set]
   have hil := G6 (things.take j) (gB bs i).f1
   rw [List.length_take] at hil
   have next := ih (j + 1) (by omega) (by omega)
   refine Ev.step (fun k => eT.l0.eq_2 _ _ _ _ _ _ _ _ _ k) (Ev.pos (by omega) (Ev.pos (by omega) (Ev.pos (by rw [hlen]; omega) (Ev.pos (by omega) ?_))))
   rw [gF, Po hi, kY, show gS things j = things[j] from getD_lt _ _ hlt, iQ hlt (by omega)]
   dsimp only
   refine Ev.test _ (fun hf => ?_) (fun hf => ?_)
   ·rw [hsn, R6 _ _ hf] at next
    exact next
   ·refine Ev.bind (WO _ _ (by omega) hf) ?_
    rw [Int.toNat_natCast]
    have e2 : (setN bs i (lZ (gB bs i).f1 (things.take j)) (gB bs i).f2).set i ⟨(gB bs i).f0, insL things[j] (lZ (gB bs i).f1 (things.take j)), (gB bs i).f2⟩ = setN bs i (lZ (gB bs i).f1 (things.take (j + 1))) (gB bs i).f2 := by
     rw [hsn]; unfold setN; rw [List.set_set]
    rw [e2]
    exact next
 have := go things.length 0 (by omega) (by omega)
 rw [hself] at this
 exact this
theorem JY (ts : List ByteArray) (bs : List IB) (n : ByteArray) (things : List ByteArray) (h : ts.length + kM bs ≤ 1048576) (hn : things.length ≤ 1048576) : Ev (fun k => eB.f k ts bs n things) (askB ts bs n things) := by
 have hz := J4 h
 have hl := hz.bs
 have ht := hz.ts
 unfold eB.f askB
 refine Ev.bind (iV ts bs (by omega) (by omega) hz.bok) (Ev.test _ (fun hb => ?_) (fun hb => Ev.ret (by simp [hb])))
 rw [if_pos hb]
 refine Ev.bind (oL ts bs hz) (Ev.bind (Ev.ret (s := atI bs n) rfl) ?_)
 refine Ev.prop (fun hc => Ev.ret (by rw [if_pos hc])) (fun hc => ?_)
 rw [if_neg hc]
 obtain ⟨i, e, hi⟩ := CO bs n hc
 rw [e, Int.toNat_natCast]
 have hii := hz.at_ hi
 dsimp only
 refine Ev.pos (by omega) (Ev.pos (by omega) ?_)
 rw [gF]
 refine Ev.bind (uY things _ (by omega) (by omega)) (Ev.test _ (fun hq => ?_) (fun hq => Ev.ret (by simp [hq])))
 rw [if_pos hq]
 have hg := Bl hi h hn
 have hgl := hg.bs
 refine Ev.loop (f := fun k j => eB.l0 k things (i : Int) bs (bs.length : Int) (j : Int) ts bs ts bs) (val := fun j => if anyR (vE bs i things) bs.length j = true then (ts, bs, 5) else if (F6 ts bs && !F6 ts (zY bs i things)) = true then (ts, bs, 6) else (ts, zY bs i things, 0)) bs.length ?_ ?_ 0 (by omega)
 ·rw [NQ, if_neg (by simp)]
  refine Ev.step (fun k => eB.l0.eq_2 _ _ _ _ _ _ _ _ _ k) (Ev.neg (by omega) (Ev.bind (oL ts bs hz) (Ev.pos (by omega) (Ev.pos (by omega) ?_))))
  rw [gF]
  dsimp only
  refine Ev.bind (zR _ hii.1) (Ev.pos (by omega) (Ev.bind (Pp _ (by rw [List.length_append]; omega)) ?_))
  refine Ev.bind (Ev.ret rfl) (Ev.pos (by omega) (Ev.bind (Ev.ret rfl) ?_))
  rw [WH (Hy hb hi), Int.toNat_natCast, show bs.set i (⟨(gB bs i).f0, lZ (gB bs i).f1 things, (gB bs i).f2⟩ : IB) = zY bs i things from rfl]
  refine Ev.bind (yM ts bs (by omega) (by omega) hz.bok) (Ev.test _ (fun h1 => ?_) (fun h1 => Ev.ret (by simp [h1])))
  exact Ev.bind (yM ts _ (by omega) (by omega) hg.bok) (Ev.test _ (fun h2 => Ev.ret (by simp [h1, h2])) (fun h2 => Ev.ret (by simp [h1, h2])))
 intro j hj H
 rw [JW _ hj]
 refine Ev.step (fun k => eB.l0.eq_2 _ _ _ _ _ _ _ _ _ k) (Ev.pos (by omega) (Ev.pos (by omega) (Ev.pos (by omega) ?_)))
 rw [iQ hj (by omega), gF]
 refine Ev.prop (fun e => Ev.sub H (by simp [vE, show j = i by omega])) (fun e => ?_)
 have hne : decide (j = i) = false := decide_eq_false (by omega)
 simp only [iT.f, Option.bind_some]
 refine Ev.test _ (fun h2 => Ev.ret ?_) (fun h2 => Ev.sub H ?_)
 ·rw [show vE bs i things j = true by unfold vE; rw [hne, show kH (gB bs j).f1 things = true from h2]; rfl]; simp
 rw [show vE bs i things j = false by unfold vE; rw [show kH (gB bs j).f1 things = false from h2]; simp]; simp
theorem CU {l : List ByteArray} {s : ByteArray} : hasS l s = true ↔ s ∈ l := by
 unfold hasS; rw [List.any_eq_true]
 constructor
 ·rintro ⟨x, hx, h⟩; rw [toList_inj.1 (beq_iff_eq.1 h)]; exact hx
 intro h; exact ⟨s, h, by simp⟩
theorem ZG {a b : List ByteArray} : kH a b = true ↔ ∃ s, s ∈ a ∧ s ∈ b := by
 unfold kH; rw [List.any_eq_true]
 constructor
 ·rintro ⟨s, h1, h2⟩; exact ⟨s, h1, CU.1 h2⟩
 rintro ⟨s, h1, h2⟩; exact ⟨s, h1, CU.2 h2⟩
theorem vD {a b : List ByteArray} : kH a b = false ↔ ∀ s, s ∈ a → s ∉ b := by
 rw [← Bool.not_eq_true, ZG]
 constructor
 ·intro h s h1 h2; exact h ⟨s, h1, h2⟩
 rintro h ⟨s, h1, h2⟩; exact h s h1 h2
theorem ZH {a b c d : List ByteArray} (h : kH a b = false) (h1 : ∀ s, s ∈ c → s ∈ a) (h2 : ∀ s, s ∈ d → s ∈ b) : kH c d = false := by
 rw [vD] at *
 intro s hs ht; exact h s (h1 s hs) (h2 s ht)
theorem DC {a b : List ByteArray} (h : kH a b = false) : kH b a = false := by
 rw [vD] at *
 intro s hs ht; exact h s ht hs
theorem CB {bs : List IB} {i : Nat} (hi : i < bs.length) : gB bs i = bs[i] := getD_lt bs _ hi
theorem OJ {bs : List IB} {b : IB} (h : b ∈ bs) : ∃ i, i < bs.length ∧ gB bs i = b := by
 obtain ⟨i, hi, rfl⟩ := List.getElem_of_mem h
 exact ⟨i, hi, CB hi⟩
theorem Y1 (a : List UInt8) : Op.bytesLess a a = false := by
 rw [bytesLess_eq, decide_eq_false_iff_not]; exact List.lt_irrefl a
theorem Hl {bs : List IB} (ha : Asc bs) {i j : Nat} (hi : i < bs.length) (hj : j < bs.length) (h : (gB bs i).f0 = (gB bs j).f0) : i = j := by
 rw [CB hi, CB hj] at h
 have hp := List.pairwise_iff_getElem.1 ha
 rcases Nat.lt_trichotomy i j with q | q | q
 ·have := hp i j hi hj q; rw [h, Y1] at this; exact absurd this (by simp)
 ·exact q
 have := hp j i hj hi q; rw [h, Y1] at this; exact absurd this (by simp)
theorem EX : ∀ {l m : List ByteArray}, l.Nodup → (∀ s, s ∈ l → s ∈ m) → l.length ≤ m.length
  | [], m, _, _ => Nat.zero_le _
  | a :: l, m, hn, hs => by
    rw [List.nodup_cons] at hn
    have ha := hs a (List.mem_cons_self ..)
    obtain ⟨m1, m2, rfl⟩ := List.append_of_mem ha
    have h := EX (l := l) (m := m1 ++ m2) hn.2 fun s h => by
      rcases List.mem_append.1 (hs s (List.mem_cons_of_mem _ h)) with h1 | h1
      · exact List.mem_append.2 (.inl h1)
      · rcases List.mem_cons.1 h1 with e | h1
        · exact absurd (e ▸ h) hn.1
        · exact List.mem_append.2 (.inr h1)
    rw [List.length_append] at h
    rw [List.length_append, List.length_cons, List.length_cons]; omega
theorem pX {l all : List ByteArray} : kG l all = true ↔ (∀ s, s ∈ l → s ∈ all) ∧ AscS l := by
 constructor
 ·intro h
  refine ⟨fun s hs => ?_, RA h⟩
  unfold kG at h
  obtain ⟨i, hi, rfl⟩ := List.getElem_of_mem hs
  have q := (pO _ _ _).1 h i (by omega) hi
  unfold wB at q
  rw [Bool.and_eq_true, CU, show gS l i = l[i] from getD_lt _ _ hi] at q
  exact q.1
 rintro ⟨h1, h2⟩
 unfold kG
 rw [pO]
 intro j _ hj
 unfold wB
 rw [Bool.and_eq_true, CU, Bool.or_eq_true, decide_eq_true_eq, show gS l j = l[j] from getD_lt _ _ hj]
 refine ⟨h1 _ (List.getElem_mem hj), ?_⟩
 by_cases h0 : j = 0
 ·exact .inl h0
 refine .inr ?_
 rw [show gS l (j - 1) = l[j - 1] from getD_lt _ _ (by omega)]
 exact List.pairwise_iff_getElem.1 h2 (j - 1) j (by omega) hj (by omega)
structure Bk (ts : List ByteArray) (bs : List IB) : Prop where
  things : uH ts = true
  five : bs.length ≤ 5
  asc : Asc bs
  each : ∀ i, i < bs.length → qU (gB bs i).f0 = true ∧ kG (gB bs i).f2 ts = true ∧ kG (gB bs i).f1 (gB bs i).f2 = true
  free : ∀ i j, i < bs.length → j < bs.length → i ≠ j → kH (gB bs i).f1 (gB bs j).f1 = false
theorem tY {ts : List ByteArray} {bs : List IB} : iY ts bs = true ↔ Bk ts bs := by
 constructor
 ·intro hb
  have ha := VH hb
  have hf := sV hb
  unfold iY at hb
  rw [Bool.and_eq_true, Bool.and_eq_true, pO] at hb
  obtain ⟨h1, _, h3⟩ := hb
  have hall : ∀ j, j < bs.length → q8 ts bs j = true ∧ uM bs j = true := fun j hj => by
   have := h3 j (by omega) hj; rwa [Bool.and_eq_true] at this
  refine ⟨h1, hf, ha, fun i hi => ?_, fun i j hi hj hij => ?_⟩
  ·have q := (hall i hi).1
   unfold q8 at q
   simp only [Bool.and_eq_true] at q
   exact ⟨q.1, q.2.2.1, q.2.2.2⟩
  have low : ∀ i j, i < bs.length → j < i → kH (gB bs i).f1 (gB bs j).f1 = false := fun i j hi hj => by
   have q := (hall i hi).2
   unfold uM at q
   have := (pO _ _ _).1 q j (by omega) hj
   simpa using this
  by_cases h : j < i
  ·exact low i j hi h
  exact DC (low j i hj (by omega))
 rintro ⟨h1, h2, h3, h4, h5⟩
 unfold iY
 rw [Bool.and_eq_true, Bool.and_eq_true, pO, decide_eq_true_eq]
 refine ⟨h1, h2, fun j _ hj => ?_⟩
 obtain ⟨q1, q2, q3⟩ := h4 j hj
 rw [Bool.and_eq_true]
 constructor
 ·unfold q8
  simp only [Bool.and_eq_true, Bool.or_eq_true, decide_eq_true_eq]
  refine ⟨q1, ?_, q2, q3⟩
  by_cases h0 : j = 0
  ·exact .inl h0
  refine .inr ?_
  rw [CB hj, CB (show j - 1 < bs.length by omega)]
  exact List.pairwise_iff_getElem.1 h3 (j - 1) j (by omega) hj (by omega)
 unfold uM
 rw [pO]
 intro q _ hq
 rw [h5 j q hj (by omega) (by omega)]; rfl
theorem TP {bs : List IB} {i j : Nat} (x : IB) (hj : j < bs.length) : gB (bs.set i x) j = if i = j then x else gB bs j := by
 rw [CB (show j < (bs.set i x).length by rw [List.length_set]; exact hj), List.getElem_set, CB hj]
theorem Nn {bs : List IB} (ha : Asc bs) {i : Nat} {x : IB} (hx : x.f0 = (gB bs i).f0) (hi : i < bs.length) : Asc (bs.set i x) := by
 have hn : ∀ j, (hj : j < bs.length) → (gB (bs.set i x) j).f0 = (gB bs j).f0 := fun j hj => by
  rw [TP x hj]
  split
  ·rename_i e; subst e; exact hx
  ·rfl
 unfold Asc
 rw [List.pairwise_iff_getElem]
 intro a b h1 h2 hab
 rw [List.length_set] at h1 h2
 rw [← CB (bs := bs.set i x) (by rw [List.length_set]; exact h1), ← CB (bs := bs.set i x) (by rw [List.length_set]; exact h2), hn a h1, hn b h2, CB h1, CB h2]
 exact List.pairwise_iff_getElem.1 ha a b h1 h2 hab
theorem Hw {ts : List ByteArray} {bs : List IB} (h : Bk ts bs) {i : Nat} (hi : i < bs.length) {has needs : List ByteArray} (h1 : kG needs ts = true) (h2 : kG has needs = true)
  (h3 : ∀ j, j < bs.length → j ≠ i → kH has (gB bs j).f1 = false) : Bk ts (setN bs i has needs) := by
 obtain ⟨a1, a2, a3, a4, a5⟩ := h
 unfold setN
 refine ⟨a1, by rw [List.length_set]; exact a2, Nn a3 rfl hi, fun j hj => ?_, fun j k hj hk hjk => ?_⟩
 ·rw [List.length_set] at hj
  rw [TP _ hj]
  split
  ·exact ⟨(a4 i hi).1, h1, h2⟩
  exact a4 j hj
 rw [List.length_set] at hj hk
 rw [TP _ hj, TP _ hk]
 split
 ·rename_i e; subst e
  rw [if_neg hjk]
  exact h3 k hk (fun e => hjk e.symm)
 split
 ·rename_i e; subst e
  exact DC (h3 j hj hjk)
 exact a5 j k hj hk hjk
theorem Hu {ts : List ByteArray} {bs : List IB} (h : Bk ts bs) (i : Nat) : Bk ts (bs.eraseIdx i) := by
 obtain ⟨a1, a2, a3, a4, a5⟩ := h
 have hs : List.Sublist (bs.eraseIdx i) bs := List.eraseIdx_sublist ..
 have hl := hs.length_le
 have hat : ∀ j, j < (bs.eraseIdx i).length → ∃ k, k < bs.length ∧ gB (bs.eraseIdx i) j = gB bs k := fun j hj => by
  obtain ⟨k, hk, e⟩ := OJ (hs.subset (CS hj)); exact ⟨k, hk, e.symm⟩
 have ha : Asc (bs.eraseIdx i) := List.Pairwise.sublist hs a3
 refine ⟨a1, by omega, ha, fun j hj => ?_, fun j k hj hk hjk => ?_⟩
 ·obtain ⟨q, hq, e⟩ := hat j hj
  rw [e]; exact a4 q hq
 obtain ⟨q, hq, e⟩ := hat j hj
 obtain ⟨p, hp, e2⟩ := hat k hk
 rw [e, e2]
 refine a5 q p hq hp fun h => hjk ?_
 exact Hl ha hj hk (by rw [e, e2, h])
theorem Jo {bs : List IB} {x b : IB} : b ∈ insB bs x ↔ b = x ∨ b ∈ bs := by
 have e : bs = bs.take (insK bs x.f0) ++ bs.drop (insK bs x.f0) := (List.take_append_drop ..).symm
 unfold insB
 rw [List.mem_append, List.mem_cons]
 constructor
 ·rintro (h | h | h)
  ·exact .inr (List.mem_of_mem_take h)
  ·exact .inl h
  exact .inr (List.mem_of_mem_drop h)
 rintro (h | h)
 ·exact .inr (.inl h)
 rw [e, List.mem_append] at h
 rcases h with h | h
 ·exact .inl h
 exact .inr (.inr h)
theorem Jn {bs : List IB} {x : IB} : (insB bs x).length = bs.length + 1 := by
 have e := congrArg List.length (List.take_append_drop (insK bs x.f0) bs)
 unfold insB
 rw [List.length_append] at e
 rw [List.length_append, List.length_cons]; omega
theorem Uz {ts : List ByteArray} {bs : List IB} (h : Bk ts bs) {n : ByteArray} {needs : List ByteArray} (hn : qU n = true) (h1 : kG needs ts = true) (h2 : ∀ b ∈ bs, b.f0.toList ≠ n.toList) (hl : bs.length < 5) : Bk ts (insB bs ⟨n, [], needs⟩) := by
 obtain ⟨a1, a2, a3, a4, a5⟩ := h
 have ha : Asc (insB bs ⟨n, [], needs⟩) := WI a3 h2
 have hat : ∀ j, j < (insB bs ⟨n, [], needs⟩).length → gB (insB bs ⟨n, [], needs⟩) j = ⟨n, [], needs⟩ ∨ ∃ k, k < bs.length ∧ gB (insB bs ⟨n, [], needs⟩) j = gB bs k := fun j hj => by
  rcases Jo.1 (CS hj) with h | h
  ·exact .inl h
  ·obtain ⟨k, hk, e⟩ := OJ h; exact .inr ⟨k, hk, e.symm⟩
 refine ⟨a1, by rw [Jn]; omega, ha, fun j hj => ?_, fun j k hj hk hjk => ?_⟩
 ·rcases hat j hj with e | ⟨q, hq, e⟩
  ·rw [e]; exact ⟨hn, h1, pX.2 ⟨by simp, List.Pairwise.nil⟩⟩
  rw [e]; exact a4 q hq
 rcases hat j hj with e | ⟨q, hq, e⟩
 ·rw [e]; exact vD.2 (by simp)
 rcases hat k hk with e2 | ⟨p, hp, e2⟩
 ·rw [e2]; exact DC (vD.2 (by simp))
 rw [e, e2]
 refine a5 q p hq hp fun h => hjk ?_
 exact Hl ha hj hk (by rw [e, e2, h])
theorem Dz {ts : List ByteArray} {bs : List IB} {i : Nat} {needs : List ByteArray} (hi : i < bs.length) (hn : kG needs (gB bs i).f2 = true) (hb : iY ts bs = true) :
  iY ts (setN bs i ((gB bs i).f1.filter (hasS needs)) needs) = true := by
 have h := tY.1 hb
 obtain ⟨q1, q2, q3⟩ := h.each i hi
 rw [pX] at hn q2 q3
 refine tY.2 (Hw h hi (pX.2 ⟨fun s hs => q2.1 s (hn.1 s hs), hn.2⟩) (pX.2 ⟨fun s hs => ?_, List.Pairwise.filter _ q3.2⟩) fun j hj hji => ZH (h.free i j hi hj (fun e => hji e.symm)) (fun s hs => (List.mem_filter.1 hs).1) fun s hs => hs)
 exact CU.1 (List.mem_filter.1 hs).2
theorem YP {ts : List ByteArray} {bs : List IB} (i : Nat) (hb : iY ts bs = true) : iY ts (bs.eraseIdx i) = true := tY.2 (Hu (tY.1 hb) i)
theorem Y8 {ts : List ByteArray} {bs : List IB} {n : ByteArray} {needs : List ByteArray} (hb : iY ts bs = true) (hn : qU n = true) (h1 : kG needs ts = true) (h2 : ¬ 0 ≤ atI bs n) (hl : ¬ 5 ≤ bs.length) : iY ts (insB bs ⟨n, [], needs⟩) = true :=
  tY.2 (Uz (tY.1 hb) hn h1 (Au h2) (by omega))
theorem Dp {ts : List ByteArray} {bs : List IB} {i : Nat} {things : List ByteArray} (hi : i < bs.length) (hn : kG things (gB bs i).f2 = true) (ht : P8 bs i things = false) (hb : iY ts bs = true) : iY ts (zY bs i things) = true := by
 have h := tY.1 hb
 obtain ⟨q1, q2, q3⟩ := h.each i hi
 rw [pX] at hn q3
 have hfree : ∀ j, j < bs.length → j ≠ i → kH (gB bs j).f1 things = false := fun j hj hji => by
  have := mt (VF (vE bs i things) bs.length 0).2 (by unfold P8 at ht; rw [ht]; simp)
  cases hc : kH (gB bs j).f1 things with
  | false => rfl
  | true => exact absurd ⟨j, by omega, hj, by unfold vE; rw [hc, decide_eq_false hji]; rfl⟩ this
 refine tY.2 (Hw h hi q2 (pX.2 ⟨fun s hs => ?_, G5 _ _ q3.2⟩) fun j hj hji => vD.2 fun s hs CX => ?_)
 ·rcases (BQ s things _).1 hs with h | h
  ·exact q3.1 s h
  exact hn.1 s h
 rcases (BQ s things _).1 hs with h2 | h2
 ·exact vD.1 (h.free i j hi hj (fun e => hji e.symm)) s h2 CX
 exact vD.1 (hfree j hj hji) s CX h2
theorem XW {l : List ByteArray} (h : AscS l) : l.Nodup :=
  List.Pairwise.imp (fun {a b} h e => by rw [e, Y1] at h; exact absurd h (by simp)) h
theorem OO {l all : List ByteArray} (h : kG l all = true) : l.length ≤ all.length :=
  EX (XW (pX.1 h).2) (pX.1 h).1
theorem E9 {s : ByteArray} (h : qU s = true) : 1 ≤ s.size ∧ s.size ≤ 8 := by
 unfold qU at h
 simp only [Bool.and_eq_true, decide_eq_true_eq] at h
 exact h.1
theorem ZM {l : List ByteArray} (h : uH l = true) : l.length ≤ 8 := by
 unfold uH at h
 simp only [Bool.and_eq_true, decide_eq_true_eq] at h
 exact h.1
theorem LH {l : List ByteArray} (h : uH l = true) {s : ByteArray} (hs : s ∈ l) : qU s = true := by
 unfold uH at h
 rw [Bool.and_eq_true, pO] at h
 obtain ⟨i, hi, rfl⟩ := List.getElem_of_mem hs
 have q := h.2 i (by omega) hi
 unfold yV at q
 rw [Bool.and_eq_true, show gS l i = l[i] from getD_lt _ _ hi] at q
 exact q.1
structure Bd (ts : List ByteArray) (bs : List IB) : Prop where
  ok : iY ts bs = true
  five : bs.length ≤ 5
  things : ts.length ≤ 8
  each : ∀ b ∈ bs, b.f0.size ≤ 8 ∧ b.f1.length ≤ 8 ∧ b.f2.length ≤ 8 ∧ (∀ s ∈ b.f2, s.size ≤ 8)
  name : ∀ b ∈ bs, 1 ≤ b.f0.size
theorem QU {ts : List ByteArray} {bs : List IB} (h : iY ts bs = true) : Bd ts bs := by
 have k := tY.1 h
 have ht := ZM k.things
 refine ⟨h, k.five, ht, fun b hb => ?_, fun b hb => ?_⟩
 ·obtain ⟨i, hi, rfl⟩ := OJ hb
  obtain ⟨h1, h2, h3⟩ := k.each i hi
  have l2 := OO h2
  have l3 := OO h3
  exact ⟨(E9 h1).2, by omega, by omega, fun s hs => (E9 (LH k.things ((pX.1 h2).1 s hs))).2⟩
 obtain ⟨i, hi, rfl⟩ := OJ hb
 exact (E9 (k.each i hi).1).1
theorem Bd.w {ts : List ByteArray} {bs : List IB} (h : Bd ts bs) : ts.length + kM bs ≤ 1048576 := by
 have go : ∀ l : List IB, (∀ b ∈ l, b.f1.length ≤ 8 ∧ b.f2.length ≤ 8) → kM l ≤ 17 * l.length := by
  intro l
  induction l with
  | nil => intro _; simp [kM]
  | cons b r ih =>
   intro hl
   have h1 := hl b (List.mem_cons_self ..)
   have h2 := ih fun x hx => hl x (List.mem_cons_of_mem _ hx)
   rw [xX, List.length_cons]; omega
 have := go bs fun b hb => ⟨(h.each b hb).2.1, (h.each b hb).2.2.1⟩
 have := h.five
 have := h.things
 omega
theorem Bd.bz {ts : List ByteArray} {bs : List IB} (h : Bd ts bs) : Bz ts bs := J4 h.w
theorem Db : iY [] [] = true := by
 rw [tY]
 refine ⟨by unfold uH; rw [Bool.and_eq_true, decide_eq_true_eq]; exact ⟨by simp, vP _ _⟩, by simp, List.Pairwise.nil, fun i hi => ?_, fun i j hi => ?_⟩ <;> simp at hi
theorem O0 {ts : List ByteArray} {bs : List IB} (h : iY ts bs = true) (n : ByteArray) (l : List ByteArray) : iY (jL ts bs n l).1 (jL ts bs n l).2.1 = true ∧ 0 ≤ (jL ts bs n l).2.2 ∧ (jL ts bs n l).2.2 < 10 ∧ ((jL ts bs n l).2.2 ≠ 0 → (jL ts bs n l).1 = ts ∧ (jL ts bs n l).2.1 = bs) := by
 unfold jL
 rw [if_pos h]
 by_cases h1 : qU n = true
 ·rw [if_pos h1]
  by_cases h2 : kG l ts = true
  ·rw [if_pos h2]
   by_cases h3 : 0 ≤ atI bs n
   ·rw [if_pos h3]; exact ⟨h, by simp, by simp, fun _ => ⟨rfl, rfl⟩⟩
   rw [if_neg h3]
   by_cases h4 : 5 ≤ bs.length
   ·rw [if_pos h4]; exact ⟨h, by simp, by simp, fun _ => ⟨rfl, rfl⟩⟩
   rw [if_neg h4]; exact ⟨Y8 h h1 h2 h3 h4, by simp, by simp, fun e => absurd rfl e⟩
  rw [if_neg h2]; exact ⟨h, by simp, by simp, fun _ => ⟨rfl, rfl⟩⟩
 rw [if_neg h1]; exact ⟨h, by simp, by simp, fun _ => ⟨rfl, rfl⟩⟩
theorem U6 {ts : List ByteArray} {bs : List IB} (h : iY ts bs = true) (n : ByteArray) (l : List ByteArray) : iY (lI ts bs n l).1 (lI ts bs n l).2.1 = true ∧ 0 ≤ (lI ts bs n l).2.2 ∧ (lI ts bs n l).2.2 < 10 ∧ ((lI ts bs n l).2.2 ≠ 0 → (lI ts bs n l).1 = ts ∧ (lI ts bs n l).2.1 = bs) := by
 unfold lI
 rw [if_pos h]
 by_cases h1 : atI bs n < 0
 ·rw [if_pos h1]; exact ⟨h, by simp, by simp, fun _ => ⟨rfl, rfl⟩⟩
 rw [if_neg h1]
 obtain ⟨i, e, hi⟩ := CO bs n h1
 rw [e, Int.toNat_natCast]
 by_cases h2 : kG l (gB bs i).f2 = true
 ·rw [if_pos h2]; exact ⟨Dz hi h2 h, by simp, by simp, fun e => absurd rfl e⟩
 rw [if_neg h2]; exact ⟨h, by simp, by simp, fun _ => ⟨rfl, rfl⟩⟩
theorem OH {ts : List ByteArray} {bs : List IB} (h : iY ts bs = true) (n : ByteArray) : iY (jN ts bs n).1 (jN ts bs n).2.1 = true ∧ 0 ≤ (jN ts bs n).2.2 ∧ (jN ts bs n).2.2 < 10 ∧ ((jN ts bs n).2.2 ≠ 0 → (jN ts bs n).1 = ts ∧ (jN ts bs n).2.1 = bs) := by
 unfold jN
 rw [if_pos h]
 by_cases h1 : atI bs n < 0
 ·rw [if_pos h1]; exact ⟨h, by simp, by simp, fun _ => ⟨rfl, rfl⟩⟩
 rw [if_neg h1]; exact ⟨YP _ h, by simp, by simp, fun e => absurd rfl e⟩
theorem XY {ts : List ByteArray} {bs : List IB} (h : iY ts bs = true) (n : ByteArray) (l : List ByteArray) : iY (askB ts bs n l).1 (askB ts bs n l).2.1 = true ∧ 0 ≤ (askB ts bs n l).2.2 ∧ (askB ts bs n l).2.2 < 10 ∧ ((askB ts bs n l).2.2 ≠ 0 → (askB ts bs n l).1 = ts ∧ (askB ts bs n l).2.1 = bs) := by
 unfold askB
 rw [if_pos h]
 by_cases h1 : atI bs n < 0
 ·rw [if_pos h1]; exact ⟨h, by simp, by simp, fun _ => ⟨rfl, rfl⟩⟩
 rw [if_neg h1]
 obtain ⟨i, e, hi⟩ := CO bs n h1
 rw [e, Int.toNat_natCast]
 by_cases h2 : kG l (gB bs i).f2 = true
 ·rw [if_pos h2]
  by_cases h3 : P8 bs i l = true
  ·rw [if_pos h3]; exact ⟨h, by simp, by simp, fun _ => ⟨rfl, rfl⟩⟩
  rw [if_neg h3]
  by_cases h4 : (F6 ts bs && !F6 ts (zY bs i l)) = true
  ·rw [if_pos h4]; exact ⟨h, by simp, by simp, fun _ => ⟨rfl, rfl⟩⟩
  rw [if_neg h4]; exact ⟨Dp hi h2 (by simpa using h3) h, by simp, by simp, fun e => absurd rfl e⟩
 rw [if_neg h2]; exact ⟨h, by simp, by simp, fun _ => ⟨rfl, rfl⟩⟩
end Go.Proofs.YtaofjgnhapnndaaGreatDoor.Q
