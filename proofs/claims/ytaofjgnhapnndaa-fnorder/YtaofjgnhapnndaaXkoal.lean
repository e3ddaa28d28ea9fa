/- Texts that the row needs: words on memory and rows, the contracts of the functions it reaches, and the plain lemmas on what they compute. -/
import Derived.Shelf.GgSortFunc.Tiny
import Derived.Ground.GgsProg
import Derived.Test.YtaofjgnhapnndaaXkoak
open Go.Proofs.YtaofjgnhapnndaaFko
namespace Go.Proofs.Ytaofjgnhapnndaa.Q
open Go.RowKit Go.Proofs.YtaofjgnhapnndaaW.PrintWords Go.Proofs.YtaofjgnhapnndaaW.PrintLast Go.Proofs.YtaofjgnhapnndaaW.PrintMore
set_option linter.unusedVariables false
set_option linter.unusedSimpArgs false
open Go.Shelf Go.Lib Go.Sort
def insK (l : List S56) (n : ByteArray) : Nat := (l.takeWhile fun b => Op.bytesLess b.f0.toList n.toList).length
def insB (l : List S56) (x : S56) : List S56 := l.take (insK l x.f0) ++ x :: l.drop (insK l x.f0)
def Asc (l : List S56) : Prop := l.Pairwise fun a b => Op.bytesLess a.f0.toList b.f0.toList = true
theorem PY {α : Type} (f : α → Nat) : ∀ {l : List α} {x : α}, x ∈ l → f x ≤ (l.map f).sum
  | a :: l, x, h => by
    rw [List.map_cons, List.sum_cons]
    rcases List.mem_cons.1 h with rfl | h
    · omega
    · have := PY f h; omega
def Bz (ts : List ByteArray) (bs : List IB) : Prop := ts.length + jE bs ≤ 8388608
theorem T9 {bs : List IB} {b : IB} (h : b ∈ bs) : 1 + b.f1.length + b.f2.length ≤ jE bs := by
 unfold jE; exact PY (fun b => 1 + b.f1.length + b.f2.length) h
theorem rZ : ∀ bs : List IB, bs.length ≤ jE bs
  | [] => by simp [jE]
  | b :: r => by have := rZ r; rw [qD, List.length_cons]; omega
theorem rT (a b : List IB) : jE (a ++ b) = jE a + jE b := by simp [jE]
theorem Bz.ts {ts : List ByteArray} {bs : List IB} (h : Bz ts bs) : ts.length ≤ 8388608 := by unfold Bz at h; omega
theorem Bz.bs {ts : List ByteArray} {bs : List IB} (h : Bz ts bs) : bs.length ≤ 8388608 := by have := rZ bs; unfold Bz at h; omega
theorem Bz.mem {ts : List ByteArray} {bs : List IB} (h : Bz ts bs) {b : IB} (hb : b ∈ bs) : b.f1.length ≤ 8388608 ∧ b.f2.length ≤ 8388608 := by have := T9 hb; unfold Bz at h; omega
theorem Bz.bok {ts : List ByteArray} {bs : List IB} (h : Bz ts bs) : Bok bs := fun b hb => by have := h.mem hb; omega
theorem M4 {bs : List IB} {i : Nat} (h : i < bs.length) : gB bs i ∈ bs := by unfold gB; rw [getD_lt bs _ h]; exact List.getElem_mem h
theorem Bz.at_ {ts : List ByteArray} {bs : List IB} (h : Bz ts bs) {i : Nat} (hi : i < bs.length) : (gB bs i).f1.length ≤ 8388608 ∧ (gB bs i).f2.length ≤ 8388608 := h.mem (M4 hi)
theorem xD (l : List ByteArray) (h : l.length ≤ 8388608) : Ev (fun _ => iA.f l) l := by
 unfold iA.f
 exact Ev.bind (Ev.ret rfl) (Ev.pos (by simp only [List.length_nil]; omega) (Ev.ret rfl))
theorem Tt {bs : List IB} {i : Nat} (h : i < bs.length) : bs.take i ++ [gB bs i] = bs.take (i + 1) := by
 rw [List.take_succ_eq_append_getElem h]; unfold gB; rw [getD_lt bs _ h]
theorem lK (ts : List ByteArray) (bs : List IB) (h : Bz ts bs) : Ev (fun k => dG.f k ts bs) (ts, bs) := by
 unfold dG.f
 have hl := h.bs
 have go : ∀ (d i : Nat), bs.length - i = d → i ≤ bs.length → Ev (fun k => dG.l0 k (i : Int) ts bs ts (bs.take i)) (ts, bs) := by
  intro d
  induction d with
  | zero =>
   intro i hd hi
   refine Ev.step (fun k => dG.l0.eq_2 _ _ _ _ _ k) (Ev.neg (by omega) (Ev.ret ?_))
   rw [List.take_of_length_le (by omega)]
  | succ d ih =>
   intro i hd hi
   have hlt : i < bs.length := by omega
   refine Ev.step (fun k => dG.l0.eq_2 _ _ _ _ _ k) (Ev.pos (by omega) (Ev.pos (by omega) ?_))
   rw [jI, jB hlt (by omega)]
   refine Ev.bind (xD _ (h.at_ hlt).1) (Ev.bind (xD _ (h.at_ hlt).2) (Ev.pos (by rw [List.length_take]; omega) ?_))
   have := ih (i + 1) (by omega) (by omega)
   rw [← Tt hlt] at this
   exact this
 exact Ev.bind (xD ts h.ts) (go bs.length 0 (by omega) (by omega))
theorem Bz.nil : Bz [] [] := by simp [Bz, jE]
theorem NC {ts : List ByteArray} {bs : List IB} (h : ts.length + jE bs ≤ 1048576) : Bz ts bs := by unfold Bz; omega
def atI (bs : List IB) (n : ByteArray) : Int := idxI (fun s => s.toList == n.toList) bs 0
theorem P8 {bs : List IB} {n : ByteArray} (h : ¬ atI bs n < 0) : ∃ a : Nat, atI bs n = (a : Int) ∧ a < bs.length ∧ (gB bs a).f0.toList = n.toList := by
 unfold atI idxI at h ⊢
 cases hf : yR (fun i => (gB bs i).f0.toList == n.toList) bs.length 0 with
 | none => rw [hf] at h; simp at h
 | some a =>
  obtain ⟨_, h2, h3⟩ := G9 hf
  exact ⟨a, rfl, h2, beq_iff_eq.mp h3⟩
theorem uA (ts : List ByteArray) (bs : List IB) (n : ByteArray) (hl : bs.length ≤ 9223372036854775807) : Ev (fun k => fT.f k ts bs n) (atI bs n) := by
 unfold fT.f atI
 refine Ev.loop (f := fun k i => fT.l0 k n (i : Int) ts bs) (val := fun i => idxI (fun s => s.toList == n.toList) bs i) bs.length ?_ ?_ 0 (by omega)
 ·simp only [XX]
  exact Ev.step (fun k => fT.l0.eq_2 n _ ts bs k) (Ev.neg (by omega) (Ev.ret rfl))
 intro i hi H
 simp only [SH (fun s => s.toList == n.toList) hi]
 refine Ev.step (fun k => fT.l0.eq_2 n _ ts bs k) (Ev.pos (by omega) (Ev.pos (by omega) ?_))
 rw [jI, jB hi hl]
 refine Ev.prop (fun h => Ev.ret (by rw [if_pos (beq_iff_eq.mpr h)])) (fun h => Ev.sub H (by rw [if_neg (fun e => h (beq_iff_eq.mp e))]))
def fitP (bs : List IB) (order : List ByteArray) (i : Nat) : Bool :=
  !decide (atI bs (gS order i) < 0) && (!hasS (order.take i) (gS order i) && canB bs (atI bs (gS order i)).toNat (order.take i))
def DI (ts : List ByteArray) (bs : List IB) (order : List ByteArray) : Bool := uO ts bs && (decide (order.length = bs.length) && allR (fitP bs order) order.length 0)
theorem KX (ts : List ByteArray) (bs : List IB) (order : List ByteArray) (ht : ts.length ≤ 9223372036854775807) (hl : bs.length ≤ 9223372036854775807) (hb : Bok bs) (ho : order.length ≤ 9223372036854775807) : Ev (fun k => cK.f k ts bs order) (DI ts bs order) := by
 unfold cK.f DI
 have loop : Ev (fun k => cK.l0 k order ((0 : Nat) : Int) ts bs) (allR (fitP bs order) order.length 0) := by
  refine Ev.loop (f := fun k i => cK.l0 k order (i : Int) ts bs) (val := allR (fitP bs order) order.length) order.length ?_ ?_ 0 (by omega)
  ·rw [wC]
   exact Ev.step (fun k => cK.l0.eq_2 order _ ts bs k) (Ev.neg (by omega) (Ev.ret rfl))
  ·intro i hi H
   rw [tX _ hi]
   refine Ev.step (fun k => cK.l0.eq_2 order _ ts bs k) (Ev.pos (by omega) (Ev.pos (by omega) ?_))
   rw [lY, jB hi ho, Int.toNat_natCast]
   refine Ev.bind (uA ts bs _ hl) (Ev.prop (fun h => Ev.ret (by simp [fitP, h])) (fun h => Ev.pos (by omega) ?_))
   obtain ⟨a, ha, hlt, _⟩ := P8 h
   refine Ev.bind (nP _ _ (by simp; omega)) (Ev.test _ (fun h1 => Ev.ret (by simp [fitP, h1])) (fun h1 => ?_))
   rw [ha]
   refine Ev.bind (IQ ts bs a _ hl hb hlt (by simp; omega)) ?_
   have e : fitP bs order i = canB bs a (order.take i) := by simp [fitP, h1, ha]
   rw [e]
   refine Ev.test _ (fun h2 => Ev.sub H (by rw [h2]; rfl)) (fun h2 => Ev.ret (by rw [h2]; rfl))
 have j0 : ∀ b, Ev (fun k => cK.j0 k order b ts bs) (!b && allR (fitP bs order) order.length 0) := fun b =>
  Ev.step (fun k => cK.j0.eq_2 order _ ts bs k) (Ev.test _ (fun h => Ev.ret (by rw [h]; rfl)) (fun h => Ev.sub loop (by rw [h]; rfl)))
 refine Ev.bind (kG ts bs ht hl hb) (Ev.test _ (fun h => Ev.sub (j0 _) ?_) (fun h => Ev.sub (j0 _) (by simp [h])))
 rw [h, show (!((order.length : Int) != (bs.length : Int))) = decide (order.length = bs.length) from by rw [Bool.eq_iff_iff]; simp; omega]
 rfl
theorem wJ (ts : List ByteArray) (bs : List IB) (order : List ByteArray) (ht : ts.length ≤ 9223372036854775807) (hl : bs.length ≤ 9223372036854775807) (hb : Bok bs) (ho : order.length ≤ 9223372036854775807) : Ev (fun k => bQ.f k ts bs order) (DI ts bs order) := by
 unfold bQ.f DI
 have loop : Ev (fun k => bQ.l0 k order order (order.length : Int) ((0 : Nat) : Int) ts bs) (allR (fitP bs order) order.length 0) := by
  refine Ev.loop (f := fun k i => bQ.l0 k order order (order.length : Int) (i : Int) ts bs) (val := allR (fitP bs order) order.length) order.length ?_ ?_ 0 (by omega)
  ·rw [wC]
   exact Ev.step (fun k => bQ.l0.eq_2 order order _ _ ts bs k) (Ev.neg (by omega) (Ev.ret rfl))
  ·intro i hi H
   rw [tX _ hi]
   refine Ev.step (fun k => bQ.l0.eq_2 order order _ _ ts bs k) (Ev.pos (by omega) (Ev.pos (by omega) (Ev.pos (by omega) ?_)))
   rw [lY, jB hi ho, Int.toNat_natCast]
   simp only [q8.f, Option.bind_some]
   refine Ev.prop (fun h => Ev.ret (by simp [fitP, show atI bs (gS order i) < 0 from h])) (fun h => Ev.pos (by omega) ?_)
   obtain ⟨a, ha, hlt, _⟩ := P8 h
   refine Ev.bind (xV _ _ (by simp; omega)) (Ev.test _ (fun h1 => Ev.ret (by simp [fitP, h1])) (fun h1 => ?_))
   rw [show idxI (fun s => s.toList == (gS order i).toList) bs 0 = (a : Int) from ha]
   refine Ev.bind (NA ts bs a _ hl hlt (by simp; omega)) ?_
   have e : fitP bs order i = canB bs a (order.take i) := by simp [fitP, h1, ha]
   rw [e]
   refine Ev.test _ (fun h2 => Ev.sub H (by rw [h2]; rfl)) (fun h2 => Ev.ret (by rw [h2]; rfl))
 have j0 : ∀ b, Ev (fun k => bQ.j0 k order b ts bs) (!b && allR (fitP bs order) order.length 0) := fun b =>
  Ev.step (fun k => bQ.j0.eq_2 order _ ts bs k) (Ev.test _ (fun h => Ev.ret (by rw [h]; rfl)) (fun h => Ev.sub loop (by rw [h]; rfl)))
 refine Ev.bind (uJ ts bs ht hl hb) (Ev.test _ (fun h => Ev.sub (j0 _) ?_) (fun h => Ev.sub (j0 _) (by simp [h])))
 rw [h, show (!((order.length : Int) != (bs.length : Int))) = decide (order.length = bs.length) from by rw [Bool.eq_iff_iff]; simp; omega]
 rfl
abbrev MB := S56
section
variable {w0 w w' : World} {lo hi n : Nat} {v0 v1 v : Value} {l0 l r1 : List ByteArray} {l1 r2 : List MB} {S : Nat → Prop}
end
def PP (ts : List ByteArray) (bs : List IB) (n : ByteArray) (needs : List ByteArray) : List ByteArray × List IB × Int :=
  if uO ts bs = true then
    (if yT n = true then (if wK needs ts = true then (if 0 ≤ atI bs n then (ts, bs, 3) else if 5 ≤ bs.length then (ts, bs, 4) else (ts, insB bs ⟨n, [], needs⟩, 0)) else (ts, bs, 2)) else (ts, bs, 2))
  else ([], [], 1)
theorem Na (l : List IB) (x : IB) : jE (insB l x) = jE l + (1 + x.f1.length + x.f2.length) := by
 unfold insB
 rw [rT, qD]
 have : jE l = jE (l.take (insK l x.f0)) + jE (l.drop (insK l x.f0)) := by rw [← rT, List.take_append_drop]
 omega
theorem Kr {a b c : List UInt8} (h1 : Op.bytesLess a b = true) (h2 : Op.bytesLess b c = true) : Op.bytesLess a c = true := by
 rw [bytesLess_eq, decide_eq_true_eq] at *
 exact List.lt_trans h1 h2
theorem PE {ts : List ByteArray} {bs : List IB} (h : uO ts bs = true) : Asc bs := by
 unfold uO at h
 simp only [Bool.and_eq_true, decide_eq_true_eq] at h
 have hall := (AA _ _ _).1 h.2.2
 have hstep : ∀ i (hi : i + 1 < bs.length), Op.bytesLess (bs[i]'(by omega)).f0.toList bs[i + 1].f0.toList = true := by
  intro i hi
  have q := hall (i + 1) (by omega) hi
  simp only [Bool.and_eq_true] at q
  have q2 := q.1
  unfold wD at q2
  simp only [Bool.and_eq_true, Bool.or_eq_true, decide_eq_true_eq] at q2
  have q3 := q2.2.1
  rcases q3 with q3 | q3
  ·omega
  ·unfold ltB gB at q3
   rw [getD_lt bs _ (show i + 1 - 1 < bs.length by omega), getD_lt bs _ hi] at q3
   exact q3
 unfold Asc
 rw [List.pairwise_iff_getElem]
 have go : ∀ (d i : Nat) (hd : i + d + 1 < bs.length), Op.bytesLess (bs[i]'(by omega)).f0.toList (bs[i + d + 1]'hd).f0.toList = true := by
  intro d
  induction d with
  | zero => intro i hd; exact hstep i hd
  | succ d ih => intro i hd; exact Kr (ih i (by omega)) (hstep (i + d + 1) (by omega))
 intro i j hi hj hij
 have := go (j - i - 1) i (by omega)
 simpa only [show i + (j - i - 1) + 1 = j by omega] using this
theorem Rj {bs : List IB} {n : ByteArray} (h : ¬ 0 ≤ atI bs n) : ∀ b ∈ bs, b.f0.toList ≠ n.toList := by
 intro b hb e
 unfold atI idxI at h
 cases hf : yR (fun i => (fun s => s.toList == n.toList) (gB bs i).f0) bs.length 0 with
 | some i => rw [hf] at h; simp at h
 | none =>
  unfold yR at hf
  rw [List.find?_eq_none] at hf
  obtain ⟨i, hi, rfl⟩ := List.getElem_of_mem hb
  have q := hf i (by rw [List.mem_range'_1]; omega)
  unfold gB at q
  rw [getD_lt bs _ hi] at q
  simp [e] at q
def kfrom (bs : List IB) (n : ByteArray) (i : Nat) : Nat := i + ((bs.drop i).takeWhile fun b => Op.bytesLess b.f0.toList n.toList).length
theorem Gs (bs : List IB) (n : ByteArray) : kfrom bs n bs.length = bs.length := by simp [kfrom]
theorem Ay {bs : List IB} {n : ByteArray} {i : Nat} (hi : i < bs.length) : kfrom bs n i = if Op.bytesLess (gB bs i).f0.toList n.toList = true then kfrom bs n (i + 1) else i := by
 have e : gB bs i = bs[i] := by unfold gB; rw [getD_lt bs _ hi]
 unfold kfrom
 rw [List.drop_eq_getElem_cons hi, List.takeWhile_cons, e]
 cases hp : Op.bytesLess bs[i].f0.toList n.toList with
 | true => rw [if_pos rfl, if_pos rfl, List.length_cons]; omega
 | false => rw [if_neg (by simp), if_neg (by simp), List.length_nil]; omega
theorem Am (ts : List ByteArray) (bs : List IB) (n : ByteArray) (needs : List ByteArray) (h : ts.length + jE bs ≤ 1048576) (hn : needs.length ≤ 1048576) : Ev (fun k => dB.l0 k n needs 0 ts bs) (ts, insB bs ⟨n, [], needs⟩, 0) := by
 have hz := NC h
 have hl := hz.bs
 have hw := Na bs ⟨n, [], needs⟩
 have hcopy : Ev (fun k => dG.f k ts (insB bs ⟨n, [], needs⟩)) (ts, insB bs ⟨n, [], needs⟩) := lK ts _ (by unfold Bz; rw [hw]; simp only [List.length_nil]; omega)
 have hend : ∀ i, i ≤ bs.length → kfrom bs n i = i → kfrom bs n 0 = i → bs.take i ++ [(⟨n, [], needs⟩ : IB)] ++ bs.drop i = insB bs ⟨n, [], needs⟩ := by
  intro i hi _ h0
  have e : insK bs n = i := by rw [← h0]; unfold kfrom insK; rw [List.drop_zero, Nat.zero_add]
  unfold insB
  rw [show insK bs (⟨n, [], needs⟩ : IB).f0 = i from e, List.append_assoc]; rfl
 have go : ∀ (d i : Nat), bs.length - i = d → i ≤ bs.length → kfrom bs n i = kfrom bs n 0 → Ev (fun k => dB.l0 k n needs (i : Int) ts bs) (ts, insB bs ⟨n, [], needs⟩, 0) := by
  intro d
  induction d with
  | zero =>
   intro i hd hi hk
   have hie : i = bs.length := by omega
   have hke : kfrom bs n i = i := by rw [hie]; exact Gs bs n
   have he := hend i hi hke (by rw [← hk]; exact hke)
   refine Ev.step (fun k => dB.l0.eq_2 _ _ _ _ _ k) (Ev.neg (by omega) ?_)
   refine Ev.bind (Ev.ret rfl) (Ev.pos (by omega) (Ev.pos (by omega) (Ev.bind (Ev.ret rfl) ?_)))
   rw [Int.toNat_natCast]
   refine Ev.pos (by simp only [List.length_nil, List.length_take]; omega) (Ev.bind (Ev.ret rfl) (Ev.bind (xD needs (by omega)) ?_))
   refine Ev.pos (by simp only [List.nil_append, List.length_take]; omega) (Ev.bind (Ev.ret rfl) (Ev.bind (Ev.ret rfl) (Ev.pos (by simp only [List.nil_append, List.length_append, List.length_take, List.length_drop, List.length_cons, List.length_nil]; omega) ?_)))
   rw [List.nil_append, he]
   exact Ev.bind hcopy (Ev.ret rfl)
  | succ d ih =>
   intro i hd hi hk
   have hlt : i < bs.length := by omega
   have hs := Ay (n := n) hlt
   refine Ev.step (fun k => dB.l0.eq_2 _ _ _ _ _ k) (Ev.pos (by omega) (Ev.pos (by omega) ?_))
   rw [jI, jB hlt (by omega)]
   refine Ev.prop (fun hp => ?_) (fun hp => ?_)
   ·rw [if_pos hp] at hs
    exact ih (i + 1) (by omega) (by omega) (by rw [← hs]; exact hk)
   ·rw [if_neg hp] at hs
    have he := hend i hi hs (by rw [← hk]; exact hs)
    refine Ev.bind (Ev.ret rfl) (Ev.pos (by omega) (Ev.bind (Ev.ret rfl) ?_))
    rw [Int.toNat_natCast]
    refine Ev.pos (by simp only [List.length_nil, List.length_take]; omega) (Ev.bind (Ev.ret rfl) (Ev.bind (xD needs (by omega)) ?_))
    refine Ev.pos (by simp only [List.nil_append, List.length_take]; omega) (Ev.bind (Ev.ret rfl) (Ev.bind (Ev.ret rfl) (Ev.pos (by simp only [List.nil_append, List.length_append, List.length_take, List.length_drop, List.length_cons, List.length_nil]; omega) ?_)))
    rw [List.nil_append, he]
    exact Ev.bind hcopy (Ev.ret rfl)
 exact go bs.length 0 (by omega) (by omega) rfl
theorem XI (ts : List ByteArray) (bs : List IB) (n : ByteArray) (needs : List ByteArray) (b : Bool) (h : ts.length + jE bs ≤ 1048576) (hn : needs.length ≤ 1048576) : Ev (fun k => dB.j0 k n needs b ts bs ts bs) (if b = true then (ts, bs, 2) else if 0 ≤ atI bs n then (ts, bs, 3) else if 5 ≤ bs.length then (ts, bs, 4) else (ts, insB bs ⟨n, [], needs⟩, 0)) := by
 have hz := NC h
 have hl := hz.bs
 refine Ev.step (fun k => dB.j0.eq_2 _ _ _ _ _ _ _ k) (Ev.test b (fun hb => Ev.ret (by rw [if_pos hb])) (fun hb => ?_))
 rw [if_neg (by simp [hb])]
 refine Ev.bind (uA ts bs n (by omega)) (Ev.prop (fun hc => Ev.ret (by rw [if_pos hc])) (fun hc => ?_))
 rw [if_neg hc]
 refine Ev.prop (fun h5 => Ev.ret (by rw [if_pos (by omega)])) (fun h5 => ?_)
 rw [if_neg (by omega)]
 exact Am ts bs n needs h hn
theorem JF (ts : List ByteArray) (bs : List IB) (n : ByteArray) (needs : List ByteArray) (h : ts.length + jE bs ≤ 1048576) (hn : needs.length ≤ 1048576) : Ev (fun k => dB.f k ts bs n needs) (PP ts bs n needs) := by
 have hz := NC h
 have hl := hz.bs
 have ht := hz.ts
 unfold dB.f PP
 refine Ev.bind (kG ts bs (by omega) (by omega) hz.bok) (Ev.test _ (fun hb => ?_) (fun hb => Ev.ret (by simp [hb])))
 rw [if_pos hb]
 refine Ev.bind (lK ts bs hz) (Ev.bind (uB n) ?_)
 dsimp only
 refine Ev.test _ (fun hnm => ?_) (fun hnm => ?_)
 ·rw [if_pos hnm]
  refine Ev.bind (qA needs ts (by omega) (by omega)) ?_
  refine Ev.sub (XI ts bs n needs _ h hn) ?_
  cases wK needs ts <;> rfl
 exact Ev.sub (XI ts bs n needs true h hn) (by simp [hnm])
end Go.Proofs.Ytaofjgnhapnndaa.Q
