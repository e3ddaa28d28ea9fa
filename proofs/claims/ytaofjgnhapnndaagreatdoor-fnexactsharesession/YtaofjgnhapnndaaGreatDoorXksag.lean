/- Texts that the row needs: words on memory and rows, the contracts of the functions it reaches, and the plain lemmas on what they compute. -/
import Derived.Shelf.Abstract
import Derived.Test.YtaofjgnhapnndaaGreatDoorXksaf
set_option maxHeartbeats 8000000
set_option maxRecDepth 100000
open Go.Proofs.YtaofjgnhapnndaaGreatDoorFks
namespace Go.Proofs.YtaofjgnhapnndaaGreatDoor.Q
open Go.RowKit Go.Proofs.YtaofjgnhapnndaaGreatDoorW.PrintWords Go.Proofs.YtaofjgnhapnndaaGreatDoorW.PrintLast Go.Proofs.YtaofjgnhapnndaaGreatDoorW.PrintMore
set_option linter.unusedVariables false
set_option linter.unusedSimpArgs false
def Rh (g : Nat) (lb : Array Value) (p : ByteArray → Bool) (w : World) : Prop :=
  ∀ (W : World) (s : ByteArray), Below w.heap.size w W → Calls Tryz.prog g (#[.string s] ++ lb) W fun e w' => e = .returned (.bool (p s)) ∧ Below w.heap.size w w'
theorem QG {α : Type} {d : Kd α} {w : World} {A : Option Addr} {n : Nat} {xs : List α} (h : d.C w A n xs) : n ≤ 9223372036854775807 := h.2.1
def idxP (p : ByteArray → Bool) : List ByteArray → Nat → Int
  | [], _ => -1
  | x :: xs, i => if p x = true then (i : Int) else idxP p xs (i + 1)
theorem WF (p : ByteArray → Bool) : ∀ (l : List ByteArray) (i : Nat), decide (0 ≤ idxP p l i) = l.any p := by
 intro l
 induction l with
 | nil => intro i; simp [idxP]
 | cons x xs ih =>
  intro i
  unfold idxP
  cases h : p x with
  | true => simp [h]
  | false => simp [h, ih]
set_option maxHeartbeats 2000000 in
theorem EW (g : Nat) (lb : Array Value) (eg : ∀ args w, (callFunc g args).run Tryz.prog w = .ok (.enter g args) w) (p : ByteArray → Bool) (A0 : Option Addr) (c0 : Nat) (l0 : List ByteArray) (w : World)
  (mO : Kd.C Kd.string w A0 l0.length l0) (hp : Rh g lb p w) :
  Calls Tryz.prog 89 #[.slice A0 l0.length c0, .func (.func g) #[] lb] w fun e w' => e = .returned (.int .i64 (idxP p l0 0)) ∧ Below w.heap.size w w' := by
 have hbig := QG mO
 have lH := aD.mk mO
 clear mO
 have HP := aD.mk hp
 clear hp
 go_enter Tryz.func89, Tryz.ntmps89
 go_wp2
 go_loopg [5, 8] l0.length (fun gg _ s8 wr => ∃ kk : Nat, kk ≤ l0.length ∧ l0.length - kk ≤ gg ∧ s8 = .int .i64 kk ∧ aD (Below w.heap.size w wr) ∧ aD (idxP p l0 0 = idxP p (l0.drop kk) kk))
 case atStart => exact ⟨0, Nat.zero_le _, by omega, rfl, ⟨Below.refl _ w⟩, ⟨by rw [List.drop_zero]⟩⟩
 obtain ⟨kk, hkk, hg, rfl, BW, A⟩ := hrel
 by_cases hlt : kk < l0.length
 ·have hltz : (kk : Int) < (l0.length : Int) := by omega
  have e1 := A.out
  rw [List.drop_eq_getElem_cons hlt, idxP] at e1
  have E1 := aD.mk e1
  clear e1
  obtain ⟨ad, rfl, hx⟩ := Kd.uX lH.1 (kk : Int) (by omega) (by omega)
  rw [X0 _ _ _ hlt, Int.toNat_natCast] at hx
  have hcall := HP.out wr l0[kk] BW.out
  replace hx := (BW.out.cell (World.block_lt_of_cell? w _ hx)).trans hx
  generalize hy : l0[kk] = y at hx hcall E1
  clear hy
  cases hq : p y with
  | true =>
   rw [hq] at hcall
   have E2 : aD (idxP p l0 0 = kk) := ⟨by rw [E1.out, if_pos hq]⟩
   clear hq
   go_wp2_with (go_at_fn g; refine hcall.mono ?_; rintro e w' ⟨rfl, hb'⟩)
   go_ret
   exact ⟨by rw [E2.out]; rfl, hb'⟩
  | false =>
   rw [hq] at hcall
   have E2 : aD (idxP p l0 0 = idxP p (l0.drop (kk + 1)) (kk + 1)) := ⟨by rw [E1.out, if_neg (by simp [hq])]⟩
   clear hq
   go_wp2_with (go_at_fn g; refine hcall.mono ?_; rintro e w' ⟨rfl, hb'⟩)
   go_roundg (l0.length - (kk + 1))
   case measure => omega
   case rel => exact ⟨kk + 1, by omega, by omega, by go_num, ⟨hb'⟩, E2⟩
 have hltz : ¬ (kk : Int) < (l0.length : Int) := by omega
 have hk2 : kk = l0.length := by omega
 have E2 : aD (idxP p l0 0 = -1) := ⟨by rw [A.out, hk2, List.drop_length]; rfl⟩
 subst hk2
 go_wp2
 go_ret
 exact ⟨by rw [E2.out]; rfl, BW.out⟩
theorem zT (g : Nat) (lb : Array Value) (eg : ∀ args w, (callFunc g args).run Tryz.prog w = .ok (.enter g args) w) (p : ByteArray → Bool) (A0 : Option Addr) (c0 : Nat) (l0 : List ByteArray) (w : World)
  (mO : Kd.C Kd.string w A0 l0.length l0) (hp : Rh g lb p w) :
  Calls Tryz.prog 66 #[.slice A0 l0.length c0, .func (.func g) #[] lb] w fun e w' => e = .returned (.bool (l0.any p)) ∧ Below w.heap.size w w' := by
 have HC := aD.mk (EW g lb eg p A0 c0 l0 w mO hp)
 have HN := aD.mk (WF p l0 0)
 clear mO hp eg
 generalize idxP p l0 0 = q at HC HN
 go_enter Tryz.func66, Tryz.ntmps66
 go_wp2_with (go_at_call 89; refine HC.out.mono ?_; rintro e w' ⟨rfl, hb'⟩)
 go_ret
 exact ⟨by rw [← HN.out]; rfl, hb'⟩
def l6.f (k : Nat) (a0 : ByteArray) : Option (Bool) := (dC.f k a0).bind fun a => (some (!a))
theorem l6.calls (k : Nat) (a0 : ByteArray) (r : Bool) (w : World) (h : l6.f k a0 = some r) :
  Calls Tryz.prog 67 #[.string a0] w fun e w' => e = .returned (.bool r) ∧ jA w w' := by
 unfold l6.f at h
 have H := h
 clear h
 obtain ⟨Ew, A2, H⟩ := bd H
 obtain rfl := Option.some.inj H
 repeat clear H
 go_enter Tryz.func67, Tryz.ntmps67
 go_wp2_with (first | ((with_reducible refine gC 68 ?_); refine cQ (some 4) Tryz.func68 (dC.calls k a0 Ew _ A2.out) ?_; rintro w' ⟨nd, rfl⟩))
 go_ret
 exact ⟨by first | rfl | (simp; done) | (simp [*]; done), jI⟩
theorem YT (s : ByteArray) : l6.f 10 s = some (!qU s) := by
 unfold l6.f
 rw [Ce]
 rfl
def iK.f (l0 : List ByteArray) : Option (Bool) := some (l0.any fun s => !qU s)
theorem iK.calls (A0 : Option Addr) (c0 : Nat) (l0 : List ByteArray) (r : Bool) (w : World) (mO : Kd.C Kd.string w A0 l0.length l0) (nE : l0.length ≤ c0) (h : iK.f l0 = some r) :
  Calls Tryz.prog 66 #[.slice A0 l0.length c0, .func (.func 67) #[] #[]] w fun e w' => e = .returned (.bool r) ∧ Below w.heap.size w w' := by
 obtain rfl := Option.some.inj h
 refine zT 67 #[] (enters_of Tryz.func67 (by kernel_rfl) rfl) (fun s => !qU s) A0 c0 l0 w mO (fun W s hb => ?_)
 exact (l6.calls 10 s (!qU s) W (YT s)).mono fun e w' ⟨he, hd⟩ => ⟨he, sM hb hb.size hd.below⟩
theorem VQ (s : ByteArray) (gb : Nat) (A1 : Option Addr) (c1 : Nat) (l1 : List ByteArray) (W : World) (nY : l1.length ≤ c1) (hcell : W.cell? ⟨gb, 0, none⟩ = some (.slice A1 l1.length c1)) (sG : Kd.C Kd.string W A1 l1.length l1) :
  Calls Tryz.prog 90 #[.string s, .pointer (some ⟨gb, 0, none⟩)] W fun e w' => e = .returned (.bool (hasS l1 s)) ∧ jA W w' := by
 have rU := am sG
 have rW := am nY
 have HK := am (yJ l1 s (QG sG))
 clear sG nY
 generalize hasS l1 s = b at HK
 go_enter Tryz.func90, Tryz.ntmps90
 go_wp2_with ((go_at_call 42; refine (aW.calls (l1.length + 1) A1 c1 l1 s b _ ?s1 rW.1 HK.out).mono ?_; (case s1 => repeat (first | exact rU.1 | (with_reducible refine Kd.l7 ?_ _) | (with_reducible refine Kd.l8 ?_ _) | (with_reducible refine Kd.mK ?_))); rintro e w' ⟨rfl, ⟨nd, rfl⟩⟩))
 go_ret
 exact ⟨rfl, jI⟩
def iT.f (l0 : List ByteArray) (l1 : List ByteArray) : Option (Bool) := some (l0.any (hasS l1))
theorem iT.calls (A0 : Option Addr) (c0 : Nat) (l0 : List ByteArray) (A1 : Option Addr) (c1 : Nat) (l1 : List ByteArray) (r : Bool) (w : World) (mO : Kd.C Kd.string w A0 l0.length l0) (nE : l0.length ≤ c0) (sG : Kd.C Kd.string w A1 l1.length l1) (nY : l1.length ≤ c1) (h : iT.f l0 l1 = some r) :
  Calls Tryz.prog 69 #[.slice A0 l0.length c0, .slice A1 l1.length c1] w fun e w' => e = .returned (.bool r) ∧ Below w.heap.size w w' := by
 obtain rfl := Option.some.inj h
 clear h
 have HW : aD (Below w.heap.size w (w.alloc (.cells #[.slice A1 l1.length c1] 27 (0, 0)))) := ⟨(Below.refl _ _).alloc (Nat.le_refl _) _⟩
 have HC : aD (Calls Tryz.prog 66 #[.slice A0 l0.length c0, .func (.func 90) #[] #[.pointer (some ⟨w.heap.size, 0, none⟩)]] (w.alloc (.cells #[.slice A1 l1.length c1] 27 (0, 0))) fun e w' => e = .returned (.bool (l0.any (hasS l1))) ∧ Below (w.alloc (.cells #[.slice A1 l1.length c1] 27 (0, 0))).heap.size (w.alloc (.cells #[.slice A1 l1.length c1] 27 (0, 0))) w') := by
  refine ⟨zT 90 _ (enters_of Tryz.func90 (by kernel_rfl) rfl) (hasS l1) A0 c0 l0 _ (Kd.aM mO HW.out) ?_⟩
  intro W s hb
  have hcell : W.cell? ⟨w.heap.size, 0, none⟩ = some (.slice A1 l1.length c1) := by
   rw [hb.cell (p := ⟨w.heap.size, 0, none⟩) (by simp)]
   simp
  exact (VQ s w.heap.size A1 c1 l1 W nY hcell (Kd.aM (Kd.aM sG HW.out) hb)).mono fun e w' ⟨he, hd⟩ => ⟨he, sM hb hb.size hd.below⟩
 generalize l0.any (hasS l1) = b at HC
 clear mO nE sG nY
 go_enter Tryz.func69, Tryz.ntmps69
 go_wp2_with ((go_at_call 66; refine HC.out.mono ?_; rintro e w' ⟨rfl, hb'⟩))
 go_ret
 exact ⟨rfl, sM HW.out HW.out.size hb'⟩
mutual
def aI.j0 : Nat → Bool → List ByteArray → List (S66) → Option (Bool)
 | 0, _, _, _ => none
 | k + 1, b, c, a => if b = true then (some false) else (aI.l0 k a (a.length : Int) 0 c a)
def aI.l0 : Nat → List (S66) → Int → Int → List ByteArray → List (S66) → Option (Bool)
 | 0, _, _, _, _, _ => none
 | k + 1, b, e, a, c, d => if a < e then (if 0 ≤ a then (if a < (b.length : Int) then ((dC.f k ((aA b a).f0)).bind fun g => (if g = true then (if a > 0 then (if 0 ≤ (wrap64 (a - 1)) then (if (wrap64 (a - 1)) < (d.length : Int) then (if ((Op.bytesLess (((aA d (wrap64 (a - 1))).f0).toList) (((aA b a).f0).toList)) = true) then ((gP.f k ((aA b a).f2) c).bind fun h => (if h = true then ((gP.f k ((aA b a).f1) ((aA b a).f2)).bind fun i => (aI.j2 k a b e a (!i) c d ((aA b a).f0) ((aA b a).f1) ((aA b a).f2))) else (aI.j2 k a b e a true c d ((aA b a).f0) ((aA b a).f1) ((aA b a).f2)))) else (aI.j2 k a b e a true c d ((aA b a).f0) ((aA b a).f1) ((aA b a).f2))) else (none)) else (none)) else ((gP.f k ((aA b a).f2) c).bind fun j => (if j = true then ((gP.f k ((aA b a).f1) ((aA b a).f2)).bind fun l => (aI.j2 k a b e a (!l) c d ((aA b a).f0) ((aA b a).f1) ((aA b a).f2))) else (aI.j2 k a b e a true c d ((aA b a).f0) ((aA b a).f1) ((aA b a).f2))))) else (aI.j2 k a b e a true c d ((aA b a).f0) ((aA b a).f1) ((aA b a).f2)))) else (none)) else (none)) else (some true)
def aI.j2 : Nat → Int → List (S66) → Int → Int → Bool → List ByteArray → List (S66) → ByteArray → List ByteArray → List ByteArray → Option (Bool)
 | 0, _, _, _, _, _, _, _, _, _, _ => none
 | k + 1, a, d, e, f, g, h, b, i, j, l => if g = true then (some false) else (if 0 ≤ a then (if a ≤ (b.length : Int) then ((some (b.take (a : Int).toNat : List (S66))).bind fun c => (aI.l1 k d e f c (c.length : Int) 0 h b i j l)) else (none)) else (none))
def aI.l1 : Nat → List (S66) → Int → Int → List (S66) → Int → Int → List ByteArray → List (S66) → ByteArray → List ByteArray → List ByteArray → Option (Bool)
 | 0, _, _, _, _, _, _, _, _, _, _, _ => none
 | k + 1, c, d, e, b, g, a, h, i, l, j, m => if a < g then (if 0 ≤ a then (if a < (b.length : Int) then ((iT.f j ((aA b a).f1)).bind fun n => (if n = true then (some false) else (aI.l1 k c d e b g (wrap64 (a + 1)) h i l j m))) else (none)) else (none)) else (aI.l0 k c d (wrap64 (e + 1)) h i)
end
def aI.f (k : Nat) (aQ : List ByteArray) (aE : List (S66)) : Option (Bool) := if (aQ.length : Int) > 8 then (aI.j0 k true aQ aE) else (if (aE.length : Int) > 5 then (aI.j0 k true aQ aE) else ((gP.f k aQ aQ).bind fun a => (if a = true then ((iK.f aQ).bind fun b => (aI.j0 k b aQ aE)) else (aI.j0 k true aQ aE))))
def aI.T6 : Bool × List (List Nat × List Nat) := (true, [([], []), ([0], [0]), ([1], [1]), ([2], [2]), ([3, 2], [3]), ([4], [4]), ([5, 4], [4, 5]), ([6, 4, 4], [4, 6]), ([7], [7]), ([8, 7], [7, 8]), ([7], [7]), ([10, 7], [7, 10]), ([9, 11, 7], [7, 9, 11]), ([12, 7], [7, 12]), ([13, 7], [7, 13]), ([7], [7]), ([15, 7], [7, 15]), ([14, 16, 7], [7, 14, 16]), ([7, 17, 4], [4, 7, 17]), ([4, 18], [4, 18]), ([19, 7], [19]), ([20], [20]), ([21, 20], [20, 21]), ([20], [20]), ([23, 20], [20, 23]), ([22, 24, 20, 20], [20, 22, 24]), ([25, 20], [20, 25]), ([20, 26], [20, 26]), ([27, 25], [27]), ([28], [28]), ([29, 28], [28, 29]), ([28], [28]), ([31, 28], [28, 31]), ([30, 32, 28, 28], [28, 30, 32]), ([33, 28], [28, 33]), ([28, 34], [28, 34])])
def aI.B6 : List Nat := [0, 1, 3, 7, 15, 31, 63, 127, 255, 511, 255, 1279, 4095, 8191, 16383, 255, 33023, 131071, 262143, 524287, 1048575, 2097151, 4194303, 2097151, 10485759, 33554431, 67108863, 134217727, 268435455, 536870911, 1073741823, 536870911, 2684354559, 8589934591, 17179869183, 34359738367]
theorem aI.tab6 : rtab .any (opsOf Tryz.f36 6) = aI.T6 := by kernel_rfl
theorem aI.I1 : nV aI.T6.2 aI.B6 = true := by kernel_rfl
theorem aI.calls (k : Nat) (dD : Option Addr) (dE : Nat) (aQ : List ByteArray) (dS : Option Addr) (dB : Nat) (aE : List (S66)) (r : Bool) (w : World) (fL : Kd.C Kd.string w dD aQ.length aQ) (fJ : aQ.length ≤ dE) (fH : Kd.C k66 w dS aE.length aE) (fK : aE.length ≤ dB) (h : aI.f k aQ aE = some r) :
  Calls Tryz.prog 36 #[.agg #[.slice dD aQ.length dE, .slice dS aE.length dB]] w fun e w' => e = .returned (.bool r) ∧ Below w.heap.size w w' := by
 have hu31 := Tryz.underlying31
 have hu66 := Tryz.underlying66
 obtain ⟨cS, cO⟩ := mZ2 fL fJ
 obtain ⟨bE, dL⟩ := mZ2 fH fK
 clear fL fJ fH fK
 have HB := am (Below.refl w.heap.size w)
 unfold aI.f at h
 have H := h
 clear h
 have pK := am H
 clear H
 go_enter Tryz.func36, Tryz.ntmps36
 go_upto_region 1 with (first | ((with_reducible refine gD 1 ?_); (try (refine xN (by rfl) ?_; dsimp only)); refine bX 1 #[.slice dD aQ.length dE, .slice dS aE.length dB] 31 ?_; intro aZ hg w3 hbox hb; have aC := am hbox; have gU := am (nS : w.heap.size ≤ aZ); have iL := gU; replace HB := bS gL hb; clear hb hbox hg))
 (try simp only [Act.put, List.setIfInBounds_toArray, List.set_cons_zero, List.set_cons_succ])
 go_cut [29] (fun v29 wc => ∃ (kq : Nat) (Ls : Bool), v29 = .bool Ls ∧ aD (aI.j0 kq Ls aQ aE = some r) ∧ aD (kq ≤ k) ∧ aD (wc.heap[aZ]? = some (.cells #[(.slice dD aQ.length dE), (.slice dS aE.length dB)] 31 (0, 0))) ∧ aD (Below w.heap.size w wc))
 case first =>
  have H := pK.1
  clear pK
  by_cases c4 : (aQ.length : Int) > 8
  ·rw [if_pos c4] at H
   have zQ : decide (8 < (aQ.length : Int)) = true := decide_eq_true c4
   have Vk : decide (8 < aQ.length) = true := decide_eq_true (by omega)
   clear c4
   (first | rw [zQ] | (simp only [rZ, xP]; rw [zQ]) | skip)
   have H' := am H
   repeat clear H
   have Z5 := cz2 aC
   go_wp2
   go_meet
   exact ⟨_, (true), eS, H', ⟨by first | omega | exact Nat.le_refl _⟩, ⟨rB aC.1⟩, ⟨dQ⟩⟩
  rw [if_neg c4] at H
  have zQ : decide (8 < (aQ.length : Int)) = false := decide_eq_false c4
  have Vk : decide (8 < aQ.length) = false := decide_eq_false (by omega)
  clear c4
  (first | rw [zQ] | (simp only [rZ, xP]; rw [zQ]) | skip)
  by_cases c6 : (aE.length : Int) > 5
  ·rw [if_pos c6] at H
   have CC : decide (5 < (aE.length : Int)) = true := decide_eq_true c6
   have VO : decide (5 < aE.length) = true := decide_eq_true (by omega)
   clear c6
   have H' := am H
   repeat clear H
   have Z7 := cz2 aC
   go_wp2
   go_meet
   exact ⟨_, (true), eS, H', ⟨by first | omega | exact Nat.le_refl _⟩, ⟨rB aC.1⟩, ⟨dQ⟩⟩
  rw [if_neg c6] at H
  have CC : decide (5 < (aE.length : Int)) = false := decide_eq_false c6
  have VO : decide (5 < aE.length) = false := decide_eq_false (by omega)
  clear c6
  obtain ⟨wE, A8, H⟩ := bd H
  refine tC H ?_ ?_ <;> clear H <;> intro c9 H <;> subst c9
  ·obtain ⟨mQ, ki, H⟩ := bd H
   have H' := am H
   repeat clear H
   have Lz := cz2 aC
   go_wp2_with (first | (go_at_call 65; refine cM (gP.calls k _ _ aQ _ _ aQ true _ (pB cS) cO.1 (pB cS) cO.1 A8.out) ?_; rintro w' ⟨nd, rfl⟩) | (go_at_call 66; refine cM (iK.calls _ _ aQ  mQ _ ((Kd.aM cS.1 dQ)) cO.1 ki.out) ?_; rintro w12 hb; replace aC := bB bJ hb; replace HB := bS dQ hb; clear hb))
   go_meet
   exact ⟨_, (mQ), eS, H', ⟨by first | omega | exact Nat.le_refl _⟩, ⟨rB aC.1⟩, ⟨dQ⟩⟩
  have H' := am H
  repeat clear H
  have Nl := cz2 aC
  go_wp2_with (first | (go_at_call 65; refine cM (gP.calls k _ _ aQ _ _ aQ false _ (pB cS) cO.1 (pB cS) cO.1 A8.out) ?_; rintro w' ⟨nd, rfl⟩))
  go_meet
  exact ⟨_, (true), eS, H', ⟨by first | omega | exact Nat.le_refl _⟩, ⟨rB aC.1⟩, ⟨dQ⟩⟩
 clear pK
 obtain ⟨kq, Ls, rfl, HA, HJ1, aC, HB⟩ := hcut
 cases kq with
 | zero => exact absurd HA.out (by simp [aI.j0])
 | succ kj1 =>
  have H := HA.out
  clear HA
  simp only [aI.j0] at H
  refine tC H ?_ ?_ <;> (repeat clear H) <;> intro XJ H <;> subst XJ
  ·obtain rfl := Option.some.inj H
   repeat clear H
   go_wp2
   go_ret
   exact ⟨eR, dQ⟩
  ·have H' := am H
   repeat clear H
   have dy := cz2 aC
   go_wp2
   go_loopg [33] kj1 (fun kq v33 w' => ∃ (eQ : Int), v33 = .int .i64 eQ ∧ aD (aI.l0 kq aE (aE.length : Int) eQ aQ aE = some r) ∧ aD (kq ≤ kj1) ∧ aD (w'.heap[aZ]? = some (.cells #[(.slice dD aQ.length dE), (.slice dS aE.length dB)] 31 (0, 0))) ∧ aD (Below w.heap.size w w'))
   case atStart => exact ⟨(0), eS, H', ⟨Nat.le_refl _⟩, ⟨rB aC.1⟩, ⟨dQ⟩⟩
   case round =>
    clear H'
    try clear XJ
    try clear dy
    obtain ⟨eQ, rfl, HA, HK2, aC, HB⟩ := hrel
    cases gk with
    | zero => exact absurd HA.out (by simp [aI.l0])
    | succ k2 =>
     have H := HA.out
     clear HA
     simp only [aI.l0] at H
     refine ic H ?_ ?_ <;> clear H <;> intro Ih H
     ·obtain ⟨Rl, H⟩ := cN H
      obtain ⟨ET, H⟩ := cN H
      have Tx := am H
      clear H
      obtain ⟨kK, pZ, q9, q5, qA, sO, pI, vJ, vK, p8, oY, tQ, tM, GA, GC⟩ := aT66 bE HB eQ
      cases sO
      go_upto_region 6 with (first | ((with_reducible refine gD 4 ?_); (try (refine xN (by rfl) ?_; dsimp only)); refine bX 4 #[.string (⟨#[]⟩ : ByteArray), .slice none 0 0, .slice none 0 0] 66 ?_; intro wL hg Li hbox hb; have iB := am hbox; have Zx := am (vA : w.heap.size ≤ wL); have GV := Zx; replace HB := bS dQ hb; have qZ := nL bJ hg; have JK := nG bJ hg; replace aC := bB bJ hb; clear hb hbox hg; have ow := nZ1 JK qZ; have uw := cz3 iB))
      (try simp only [Act.put, List.setIfInBounds_toArray, List.set_cons_zero, List.set_cons_succ])
      go_cut [73] (fun v73 wc => ∃ (kq : Nat) (ZP : Bool), v73 = .bool ZP ∧ aD (aI.j2 kq eQ aE (aE.length : Int) eQ ZP aQ aE ((aA aE eQ).f0) ((aA aE eQ).f1) ((aA aE eQ).f2) = some r) ∧ aD (kq ≤ k2) ∧ aD (wc.heap[aZ]? = some (.cells #[(.slice dD aQ.length dE), (.slice (some kK) aE.length dB)] 31 (0, 0))) ∧ aD (wc.heap[wL]? = some (.cells #[.string ((aA aE eQ).f0), (.slice pZ ((aA aE eQ).f1).length q9), (.slice q5 ((aA aE eQ).f2).length qA)] 66 (0, 0))) ∧ aD (Below w.heap.size w wc))
      case first =>
       have H := Tx.1
       clear Tx
       obtain ⟨JB, S4, H⟩ := bd H
       refine tC H ?_ ?_ <;> clear H <;> intro VL H <;> subst VL
       ·by_cases Rp : eQ > 0
        ·rw [if_pos Rp] at H
         have QV : decide (0 < eQ) = true := decide_eq_true Rp
         clear Rp
         (first | rw [QV] | (simp only [rZ, xP]; rw [QV]) | skip)
         obtain ⟨ji26, hji26⟩ : ∃ j_ : Int, (wrap64 (eQ - 1)) = j_ := ⟨_, rfl⟩
         replace H : (if 0 ≤ (ji26) then (if (ji26) < (aE.length : Int) then (if ((Op.bytesLess (((aA aE (ji26)).f0).toList) (((aA aE eQ).f0).toList)) = true) then ((gP.f k2 ((aA aE eQ).f2) aQ).bind fun US => (if US = true then ((gP.f k2 ((aA aE eQ).f1) ((aA aE eQ).f2)).bind fun wX => (aI.j2 k2 eQ aE (aE.length : Int) eQ (!wX) aQ aE ((aA aE eQ).f0) ((aA aE eQ).f1) ((aA aE eQ).f2))) else (aI.j2 k2 eQ aE (aE.length : Int) eQ true aQ aE ((aA aE eQ).f0) ((aA aE eQ).f1) ((aA aE eQ).f2)))) else (aI.j2 k2 eQ aE (aE.length : Int) eQ true aQ aE ((aA aE eQ).f0) ((aA aE eQ).f1) ((aA aE eQ).f2))) else (none)) else (none)) = some r := by first | (rw [hji26] at H; exact H) | (simp only [hji26] at H ⊢; exact H)
         (try rw [hji26] at S4)
         have hji26w : (IntKind.i64.wrap (eQ - 1)) = ji26 := (rZ _).trans hji26
         obtain ⟨KX, H⟩ := cN H
         obtain ⟨fv, H⟩ := cN H
         refine tC H ?_ ?_ <;> clear H <;> intro fw H
         ·obtain ⟨US, Zf, H⟩ := bd H
          refine tC H ?_ ?_ <;> clear H <;> intro kz H <;> subst kz
          ·obtain ⟨wX, kj, H⟩ := bd H
           have H' := am H
           repeat clear H
           try go_wp2
           obtain ⟨w33, eW_⟩ := eW3 Li wL (.string ((aA aE eQ).f0)) (.slice pZ ((aA aE eQ).f1).length q9) (.slice q5 ((aA aE eQ).f2).length qA)
           rw [← eW_]
           replace aC := uF3 eW_ aC qZ
           replace iB := uP3 eW_ iB
           replace HB := uC3 eW_ HB GV
           clear eW_
           replace aC := BD aC
           replace iB := BD iB
           replace HB := am (aU HB.1)
           obtain ⟨rY, tJ, tZ, tK, u4, BH, mW, mX, mY, rH, n4, n5, kV, mU, qE, vG, U9, UL⟩ := xG bE HB (ji26)
           obtain rfl : kK = rY := (by injection BH)
           refine sT [] 36 (uB3 iB (uB2 aC (uBx HB mW (uBx HB mX (uAx HB mY))))) (fun hHeld => ?_)
           refine gH aI.tab6 aI.I1 (fun HT_ HW_ => ?_)
           generalize w33.drew = w34 at aC iB HB kV qE rH n4 n5 hHeld ⊢
           refine pU1 0 ?_
           refine tK8 1 (some 39) ?_
           refine oN 2 (some 40) fun K hK => ?_
           refine gQ Tryz.func68 (dC.calls k2 ((aA aE eQ).f0) true _ S4.out) ?_
           rintro w' ⟨nd, rfl⟩
           refine nK hK (uB3 iB (uB2 aC (uBx HB mW (uBx HB mX (uAx HB mY))))).1 fun hHeld => ?_
           clear hK K
           refine pU8 3 4 5 6 7 8 10 11 ?_
           refine pU1 15 ?_
           refine tK8 9 (some 47) ?_
           refine pU2 12 13 ?_
           refine tK8 14 (some 52) ?_
           refine tK8 16 (some 54) ?_
           refine pU6 17 18 19 20 21 23 ?_
           refine tK8 22 (some 60) ?_
           refine tK8 24 (some 62) ?_
           refine oN 25 (some 63) fun K hK => ?_
           refine gQ Tryz.func65 (gP.calls k2 _ _ ((aA aE eQ).f2) _ _ aQ true _ ((Kd.aM tQ.1 y5)) tM.1 ((Kd.aM cS.1 y5)) cO.1 Zf.out) ?_
           rintro w' ⟨nd, rfl⟩
           refine nK hK (uB3 iB (uB2 aC (uBx HB mW (uBx HB mX (uAx HB mY))))).1 fun hHeld => ?_
           clear hK K
           refine pU5 26 27 28 29 31 ?_
           refine tK8 30 (some 68) ?_
           refine tK8 32 (some 70) ?_
           refine oN 33 (some 71) fun K hK => ?_
           refine gQ Tryz.func65 (gP.calls k2 _ _ ((aA aE eQ).f1) _ _ ((aA aE eQ).f2) wX _ ((Kd.aM p8.1 y5)) oY.1 ((Kd.aM tQ.1 y5)) tM.1 kj.out) ?_
           rintro w' ⟨nd, rfl⟩
           refine nK hK (uB3 iB (uB2 aC (uBx HB mW (uBx HB mX (uAx HB mY))))).1 fun hHeld => ?_
           clear hK K
           refine pU2 34 35 ?_
           refine dN ?_
           try go_wp2
           go_meet
           case rel => exact ⟨_, (!wX), eS, H', ⟨by have := HJ1.out; have := HK2.out; first | omega | exact Nat.le_refl _⟩, ⟨rB aC.1⟩, ⟨rB iB.1⟩, ⟨y5⟩⟩
          ·have H' := am H
           repeat clear H
           try go_wp2
           obtain ⟨Sv, eW_⟩ := eW3 Li wL (.string ((aA aE eQ).f0)) (.slice pZ ((aA aE eQ).f1).length q9) (.slice q5 ((aA aE eQ).f2).length qA)
           rw [← eW_]
           replace aC := uF3 eW_ aC qZ
           replace iB := uP3 eW_ iB
           replace HB := uC3 eW_ HB GV
           clear eW_
           replace aC := BD aC
           replace iB := BD iB
           replace HB := am (aU HB.1)
           obtain ⟨rY, tJ, tZ, tK, u4, BH, mW, mX, mY, rH, n4, n5, kV, mU, qE, vG, U9, UL⟩ := xG bE HB (ji26)
           obtain rfl : kK = rY := (by injection BH)
           refine sT [] 36 (uB3 iB (uB2 aC (uBx HB mW (uBx HB mX (uAx HB mY))))) (fun hHeld => ?_)
           refine gH aI.tab6 aI.I1 (fun HT_ HW_ => ?_)
           generalize Sv.drew = Zb at aC iB HB kV qE rH n4 n5 hHeld ⊢
           refine pU1 0 ?_
           refine tK8 1 (some 39) ?_
           refine oN 2 (some 40) fun K hK => ?_
           refine gQ Tryz.func68 (dC.calls k2 ((aA aE eQ).f0) true _ S4.out) ?_
           rintro w' ⟨nd, rfl⟩
           refine nK hK (uB3 iB (uB2 aC (uBx HB mW (uBx HB mX (uAx HB mY))))).1 fun hHeld => ?_
           clear hK K
           refine pU8 3 4 5 6 7 8 10 11 ?_
           refine pU1 15 ?_
           refine tK8 9 (some 47) ?_
           refine pU2 12 13 ?_
           refine tK8 14 (some 52) ?_
           refine tK8 16 (some 54) ?_
           refine pU6 17 18 19 20 21 23 ?_
           refine tK8 22 (some 60) ?_
           refine tK8 24 (some 62) ?_
           refine oN 25 (some 63) fun K hK => ?_
           refine gQ Tryz.func65 (gP.calls k2 _ _ ((aA aE eQ).f2) _ _ aQ false _ ((Kd.aM tQ.1 y5)) tM.1 ((Kd.aM cS.1 y5)) cO.1 Zf.out) ?_
           rintro w' ⟨nd, rfl⟩
           refine nK hK (uB3 iB (uB2 aC (uBx HB mW (uBx HB mX (uAx HB mY))))).1 fun hHeld => ?_
           clear hK K
           refine pU3 26 27 28 ?_
           refine pV6 29 30 31 32 33 34 ?_
           refine pU1 35 ?_
           refine dN ?_
           try go_wp2
           go_meet
           case rel => exact ⟨_, (true), eS, H', ⟨by have := HJ1.out; have := HK2.out; first | omega | exact Nat.le_refl _⟩, ⟨rB aC.1⟩, ⟨rB iB.1⟩, ⟨y5⟩⟩
         ·have H' := am H
          repeat clear H
          try go_wp2
          obtain ⟨Zc, eW_⟩ := eW3 Li wL (.string ((aA aE eQ).f0)) (.slice pZ ((aA aE eQ).f1).length q9) (.slice q5 ((aA aE eQ).f2).length qA)
          rw [← eW_]
          replace aC := uF3 eW_ aC qZ
          replace iB := uP3 eW_ iB
          replace HB := uC3 eW_ HB GV
          clear eW_
          replace aC := BD aC
          replace iB := BD iB
          replace HB := am (aU HB.1)
          obtain ⟨rY, tJ, tZ, tK, u4, BH, mW, mX, mY, rH, n4, n5, kV, mU, qE, vG, U9, UL⟩ := xG bE HB (ji26)
          obtain rfl : kK = rY := (by injection BH)
          refine sT [] 36 (uB3 iB (uB2 aC (uBx HB mW (uBx HB mX (uAx HB mY))))) (fun hHeld => ?_)
          refine gH aI.tab6 aI.I1 (fun HT_ HW_ => ?_)
          generalize Zc.drew = mo at aC iB HB kV qE rH n4 n5 hHeld ⊢
          refine pU1 0 ?_
          refine tK8 1 (some 39) ?_
          refine oN 2 (some 40) fun K hK => ?_
          refine gQ Tryz.func68 (dC.calls k2 ((aA aE eQ).f0) true _ S4.out) ?_
          rintro w' ⟨nd, rfl⟩
          refine nK hK (uB3 iB (uB2 aC (uBx HB mW (uBx HB mX (uAx HB mY))))).1 fun hHeld => ?_
          clear hK K
          refine pU8 3 4 5 6 7 8 10 11 ?_
          refine pU1 15 ?_
          refine tK8 9 (some 47) ?_
          refine pU2 12 13 ?_
          refine tK8 14 (some 52) ?_
          refine tK8 16 (some 54) ?_
          refine pU4 17 18 19 20 ?_
          refine pV6 21 22 23 24 25 26 ?_
          refine pU2 27 28 ?_
          refine pV6 29 30 31 32 33 34 ?_
          refine pU1 35 ?_
          refine dN ?_
          try go_wp2
          go_meet
          case rel => exact ⟨_, (true), eS, H', ⟨by have := HJ1.out; have := HK2.out; first | omega | exact Nat.le_refl _⟩, ⟨rB aC.1⟩, ⟨rB iB.1⟩, ⟨y5⟩⟩
        ·rw [if_neg Rp] at H
         have QV : decide (0 < eQ) = false := decide_eq_false Rp
         clear Rp
         (first | rw [QV] | (simp only [rZ, xP]; rw [QV]) | skip)
         obtain ⟨Pr, tm, H⟩ := bd H
         refine tC H ?_ ?_ <;> clear H <;> intro c40 H <;> subst c40
         ·obtain ⟨bO, A41, H⟩ := bd H
          have H' := am H
          repeat clear H
          try go_wp2
          obtain ⟨w42, eW_⟩ := eW3 Li wL (.string ((aA aE eQ).f0)) (.slice pZ ((aA aE eQ).f1).length q9) (.slice q5 ((aA aE eQ).f2).length qA)
          rw [← eW_]
          replace aC := uF3 eW_ aC qZ
          replace iB := uP3 eW_ iB
          replace HB := uC3 eW_ HB GV
          clear eW_
          replace aC := BD aC
          replace iB := BD iB
          replace HB := am (aU HB.1)
          refine sT [] 36 (uB3 iB (uA2 aC)) (fun hHeld => ?_)
          refine gH aI.tab6 aI.I1 (fun HT_ HW_ => ?_)
          generalize w42.drew = ms at aC iB HB hHeld ⊢
          refine pU1 0 ?_
          refine tK5 1 (some 39) ?_
          refine oN 2 (some 40) fun K hK => ?_
          refine gQ Tryz.func68 (dC.calls k2 ((aA aE eQ).f0) true _ S4.out) ?_
          rintro w' ⟨nd, rfl⟩
          refine nK hK (uB3 iB (uA2 aC)).1 fun hHeld => ?_
          clear hK K
          refine pU5 3 4 5 6 7 ?_
          refine pV8 8 9 10 11 12 13 14 15 ?_
          refine pV2 16 17 ?_
          refine pU5 18 19 20 21 23 ?_
          refine tK5 22 (some 60) ?_
          refine tK5 24 (some 62) ?_
          refine oN 25 (some 63) fun K hK => ?_
          refine gQ Tryz.func65 (gP.calls k2 _ _ ((aA aE eQ).f2) _ _ aQ true _ ((Kd.aM tQ.1 y5)) tM.1 ((Kd.aM cS.1 y5)) cO.1 tm.out) ?_
          rintro w' ⟨nd, rfl⟩
          refine nK hK (uB3 iB (uA2 aC)).1 fun hHeld => ?_
          clear hK K
          refine pU5 26 27 28 29 31 ?_
          refine tK5 30 (some 68) ?_
          refine tK5 32 (some 70) ?_
          refine oN 33 (some 71) fun K hK => ?_
          refine gQ Tryz.func65 (gP.calls k2 _ _ ((aA aE eQ).f1) _ _ ((aA aE eQ).f2) bO _ ((Kd.aM p8.1 y5)) oY.1 ((Kd.aM tQ.1 y5)) tM.1 A41.out) ?_
          rintro w' ⟨nd, rfl⟩
          refine nK hK (uB3 iB (uA2 aC)).1 fun hHeld => ?_
          clear hK K
          refine pU2 34 35 ?_
          refine dN ?_
          try go_wp2
          go_meet
          case rel => exact ⟨_, (!bO), eS, H', ⟨by have := HJ1.out; have := HK2.out; first | omega | exact Nat.le_refl _⟩, ⟨rB aC.1⟩, ⟨rB iB.1⟩, ⟨y5⟩⟩
         ·have H' := am H
          repeat clear H
          try go_wp2
          obtain ⟨mu, eW_⟩ := eW3 Li wL (.string ((aA aE eQ).f0)) (.slice pZ ((aA aE eQ).f1).length q9) (.slice q5 ((aA aE eQ).f2).length qA)
          rw [← eW_]
          replace aC := uF3 eW_ aC qZ
          replace iB := uP3 eW_ iB
          replace HB := uC3 eW_ HB GV
          clear eW_
          replace aC := BD aC
          replace iB := BD iB
          replace HB := am (aU HB.1)
          refine sT [] 36 (uB3 iB (uA2 aC)) (fun hHeld => ?_)
          refine gH aI.tab6 aI.I1 (fun HT_ HW_ => ?_)
          generalize mu.drew = w45 at aC iB HB hHeld ⊢
          refine pU1 0 ?_
          refine tK5 1 (some 39) ?_
          refine oN 2 (some 40) fun K hK => ?_
          refine gQ Tryz.func68 (dC.calls k2 ((aA aE eQ).f0) true _ S4.out) ?_
          rintro w' ⟨nd, rfl⟩
          refine nK hK (uB3 iB (uA2 aC)).1 fun hHeld => ?_
          clear hK K
          refine pU5 3 4 5 6 7 ?_
          refine pV8 8 9 10 11 12 13 14 15 ?_
          refine pV2 16 17 ?_
          refine pU5 18 19 20 21 23 ?_
          refine tK5 22 (some 60) ?_
          refine tK5 24 (some 62) ?_
          refine oN 25 (some 63) fun K hK => ?_
          refine gQ Tryz.func65 (gP.calls k2 _ _ ((aA aE eQ).f2) _ _ aQ false _ ((Kd.aM tQ.1 y5)) tM.1 ((Kd.aM cS.1 y5)) cO.1 tm.out) ?_
          rintro w' ⟨nd, rfl⟩
          refine nK hK (uB3 iB (uA2 aC)).1 fun hHeld => ?_
          clear hK K
          refine pU3 26 27 28 ?_
          refine pV6 29 30 31 32 33 34 ?_
          refine pU1 35 ?_
          refine dN ?_
          try go_wp2
          go_meet
          case rel => exact ⟨_, (true), eS, H', ⟨by have := HJ1.out; have := HK2.out; first | omega | exact Nat.le_refl _⟩, ⟨rB aC.1⟩, ⟨rB iB.1⟩, ⟨y5⟩⟩
       ·have H' := am H
        repeat clear H
        try go_wp2
        obtain ⟨w46, eW_⟩ := eW3 Li wL (.string ((aA aE eQ).f0)) (.slice pZ ((aA aE eQ).f1).length q9) (.slice q5 ((aA aE eQ).f2).length qA)
        rw [← eW_]
        replace aC := uF3 eW_ aC qZ
        replace iB := uP3 eW_ iB
        replace HB := uC3 eW_ HB GV
        clear eW_
        replace aC := BD aC
        replace iB := BD iB
        replace HB := am (aU HB.1)
        refine sT [] 36 (uA3 iB) (fun hHeld => ?_)
        refine gH aI.tab6 aI.I1 (fun HT_ HW_ => ?_)
        generalize w46.drew = th at aC iB HB hHeld ⊢
        refine pU1 0 ?_
        refine tK3 1 (some 39) ?_
        refine oN 2 (some 40) fun K hK => ?_
        refine gQ Tryz.func68 (dC.calls k2 ((aA aE eQ).f0) false _ S4.out) ?_
        rintro w' ⟨nd, rfl⟩
        refine nK hK (uA3 iB).1 fun hHeld => ?_
        clear hK K
        refine pU2 3 4 ?_
        refine pV8 5 6 7 8 9 10 11 12 ?_
        refine pV6 13 14 15 16 17 18 ?_
        refine pU2 19 20 ?_
        refine pV6 21 22 23 24 25 26 ?_
        refine pU2 27 28 ?_
        refine pV6 29 30 31 32 33 34 ?_
        refine pU1 35 ?_
        refine dN ?_
        try go_wp2
        go_meet
        case rel => exact ⟨_, (true), eS, H', ⟨by have := HJ1.out; have := HK2.out; first | omega | exact Nat.le_refl _⟩, ⟨rB aC.1⟩, ⟨rB iB.1⟩, ⟨y5⟩⟩
      case rest =>
       clear Tx
       obtain ⟨kq, ZP, rfl, HA, Mq, aC, iB, HB⟩ := hcut
       cases kq with
       | zero => exact absurd HA.out (by simp [aI.j2])
       | succ kj18 =>
        have H := HA.out
        clear HA
        simp only [aI.j2] at H
        refine tC H ?_ ?_ <;> (repeat clear H) <;> intro yu H <;> subst yu
        ·obtain rfl := Option.some.inj H
         repeat clear H
         go_wp2
         go_ret
         exact ⟨eR, y5⟩
        ·obtain ⟨VN, Bb, H⟩ := cP H
         obtain ⟨Ru, ga, H⟩ := cP H
         obtain ⟨C0, V7, H⟩ := bY H
         have H' := am H
         repeat clear H
         have Z51 := nZ1 qZ JK
         have Z52 := cz2 aC
         have jq : (eQ : Int) ≤ ((aE.length : Int) : Int) := oT
         obtain ⟨i053, Se, _, hsz53, _⟩ := info_parts pJ
         have hroom53 : aE.length ≤ dB := dL.1
         have hC53 : Kd.C k66 _ (some kK) aE.length aE := bE.1
         have hcut53 := CQ (P := Tryz.prog) 29 66 .i64 Tryz.underlying29 Se (some kK) aE.length dB eQ (oT) jq hroom53
         have Xj := Kd.Fq (m := (eQ : Int).toNat) hC53 (by omega)
         have hy53 : C0.length = (eQ : Int).toNat := (by rw [V7.out, List.length_take]; omega)
         rw [← V7.out] at Xj
         rw [← hy53] at hcut53
         have Qs := am Xj
         have tx := am (show C0.length ≤ dB from by omega)
         clear Xj hC53 hroom53 Se hsz53
         have KY53 := am hy53
         clear hy53
         replace jq := eq_true jq
         go_wp2
         go_loopg [79] kj18 (fun kq v79 w' => ∃ (vR : Int), v79 = .int .i64 vR ∧ aD (aI.l1 kq aE (aE.length : Int) eQ C0 (C0.length : Int) vR aQ aE ((aA aE eQ).f0) ((aA aE eQ).f1) ((aA aE eQ).f2) = some r) ∧ aD (kq ≤ kj18) ∧ aD (w'.heap[aZ]? = some (.cells #[(.slice dD aQ.length dE), (.slice (some kK) aE.length dB)] 31 (0, 0))) ∧ aD (w'.heap[wL]? = some (.cells #[.string ((aA aE eQ).f0), (.slice pZ ((aA aE eQ).f1).length q9), (.slice q5 ((aA aE eQ).f2).length qA)] 66 (0, 0))) ∧ aD (Below w.heap.size w w'))
         case atStart => exact ⟨(0), eS, H', ⟨Nat.le_refl _⟩, ⟨rB aC.1⟩, ⟨rB iB.1⟩, ⟨y5⟩⟩
         case round =>
          clear H'
          try clear yu
          try clear VN
          try clear Bb
          try clear Ru
          try clear ga
          try clear jq jq
          try clear Z52
          obtain ⟨vR, rfl, HA, HK4, aC, iB, HB⟩ := hrel
          cases gk with
          | zero => exact absurd HA.out (by simp [aI.l1])
          | succ k4 =>
           have H := HA.out
           clear HA
           simp only [aI.l1] at H
           refine ic H ?_ ?_ <;> clear H <;> intro yx H
           obtain ⟨yy, H⟩ := cN H
           obtain ⟨gf, H⟩ := cN H
           obtain ⟨Ps, tq, H⟩ := bd H
           refine tC H ?_ ?_ <;> clear H <;> intro c58 H <;> subst c58
           obtain rfl := Option.some.inj H
           repeat clear H
           obtain ⟨Hi, S3, TG, XK, Y2, Vx, Ot, Ou, Ov, SC, S8, Mr, Ml, re, rt⟩ := aT66 Qs HB vR
           obtain rfl : kK = Hi := (by injection Vx)
           have Ug := trivial
           have bg := trivial
           rotate_left
           have H' := am H
           repeat clear H
           obtain ⟨Hi, S3, TG, XK, Y2, Vx, Ot, Ou, Ov, SC, S8, Mr, Ml, re, rt⟩ := aT66 Qs HB vR
           obtain rfl : kK = Hi := (by injection Vx)
           have Ug := trivial
           have bh := trivial
           rotate_left
           have H' := am H
           repeat clear H
           rotate_left
           all_goals
            go_wp2_with (first | ((with_reducible refine gD 6 ?_); revert Ug; intro Ug; (try (refine xN (by rfl) ?_; dsimp only)); refine bX 6 #[.string (⟨#[]⟩ : ByteArray), .slice none 0 0, .slice none 0 0] 66 ?_; intro VW hg a06 hbox hb; have ZS := am hbox; have Zz := am (rm : w.heap.size ≤ VW); have Zv := Zz; replace HB := bS y5 hb; have JG := nL bJ hg; have Cu := nG bJ hg; replace aC := bB bJ hb; have JL := am (by rw [hg]; exact Nat.ne_of_lt (dU (g := wL) (o := .cells #[.string ((aA aE eQ).f0), .slice pZ ((aA aE eQ).f1).length q9, .slice q5 ((aA aE eQ).f2).length qA] 66 (0, 0)) (rB iB.1)) : wL ≠ VW); have Cv := am (by rw [hg]; exact Nat.ne_of_gt (dU (g := wL) (o := .cells #[.string ((aA aE eQ).f0), .slice pZ ((aA aE eQ).f1).length q9, .slice q5 ((aA aE eQ).f2).length qA] 66 (0, 0)) (rB iB.1)) : VW ≠ wL); replace iB := am (aV (g := wL) (o := .cells #[.string ((aA aE eQ).f0), .slice pZ ((aA aE eQ).f1).length q9, .slice q5 ((aA aE eQ).f2).length qA] 66 (0, 0)) (rB iB.1) hb); clear hb hbox hg; have uq := nZ2 Cu JG Cv JL; have ur := cz3 ZS; have ut := nZ1 JK qZ; have uu := cz3 iB) | ((with_reducible refine gC 69 ?_); revert bg; intro bg; refine cQ (some 87) Tryz.func69 (iT.calls _ _ ((aA aE eQ).f1) _ _ ((aA C0 vR).f1) true _ (Kd.aM p8.1 WX) oY.1 (Kd.aM SC.1 WX) S8.1 tq.out) ?_; rintro a07 hb; replace aC := am (aV (g := aZ) (o := .cells #[.slice dD aQ.length dE, .slice (some kK) aE.length dB] 31 (0, 0)) (qF aC JG) hb); replace iB := am (aV (g := wL) (o := .cells #[.string ((aA aE eQ).f0), .slice pZ ((aA aE eQ).f1).length q9, .slice q5 ((aA aE eQ).f2).length qA] 66 (0, 0)) (qF iB JL) hb); replace ZS := am (aV (g := VW) (o := .cells #[.string ((aA C0 vR).f0), .slice S3 ((aA C0 vR).f1).length TG, .slice XK ((aA C0 vR).f2).length Y2] 66 (0, 0)) pY0 hb); replace HB := bS WX hb; clear hb) | ((with_reducible refine gC 69 ?_); revert bh; intro bh; refine cQ (some 87) Tryz.func69 (iT.calls _ _ ((aA aE eQ).f1) _ _ ((aA C0 vR).f1) false _ (Kd.aM p8.1 WX) oY.1 (Kd.aM SC.1 WX) S8.1 tq.out) ?_; rintro a08 hb; replace aC := am (aV (g := aZ) (o := .cells #[.slice dD aQ.length dE, .slice (some kK) aE.length dB] 31 (0, 0)) (qF aC JG) hb); replace iB := am (aV (g := wL) (o := .cells #[.string ((aA aE eQ).f0), .slice pZ ((aA aE eQ).f1).length q9, .slice q5 ((aA aE eQ).f2).length qA] 66 (0, 0)) (qF iB JL) hb); replace ZS := am (aV (g := VW) (o := .cells #[.string ((aA C0 vR).f0), .slice S3 ((aA C0 vR).f1).length TG, .slice XK ((aA C0 vR).f2).length Y2] 66 (0, 0)) pY0 hb); replace HB := bS WX hb; clear hb))
           ·go_ret
            exact ⟨eR, WX⟩
           ·go_roundg k4
            case measure => have := HJ1.out; have := HK2.out; have := Mq.out; have := HK4.out; omega
            case rel => exact ⟨(wrap64 (vR + 1)), eS, H', ⟨by have := HJ1.out; have := HK2.out; have := Mq.out; have := HK4.out; omega⟩, ⟨rB aC.1⟩, ⟨rB iB.1⟩, ⟨WX⟩⟩
           ·go_roundg k4
            case measure => have := HJ1.out; have := HK2.out; have := Mq.out; have := HK4.out; omega
            case rel => exact ⟨(wrap64 (eQ + 1)), eS, H', ⟨by have := HJ1.out; have := HK2.out; have := Mq.out; have := HK4.out; omega⟩, ⟨rB aC.1⟩, ⟨y5⟩⟩
     ·obtain rfl := Option.some.inj H
      repeat clear H
      go_wp2
      go_ret
      exact ⟨eR, dQ⟩
end Go.Proofs.YtaofjgnhapnndaaGreatDoor.Q
namespace Go.Proofs.YtaofjgnhapnndaaGreatDoor.Q
open Go.RowKit Go.Proofs.YtaofjgnhapnndaaGreatDoorW.PrintWords Go.Proofs.YtaofjgnhapnndaaGreatDoorW.PrintLast Go.Proofs.YtaofjgnhapnndaaGreatDoorW.PrintMore
set_option linter.unusedVariables false
set_option linter.unusedSimpArgs false
def Bok (bs : List IB) : Prop := ∀ b ∈ bs, b.f1.length ≤ 9223372036854775807 ∧ b.f2.length ≤ 9223372036854775807
theorem Bok.at_ {bs : List IB} (h : Bok bs) {i : Nat} (hi : i < bs.length) : (gB bs i).f1.length ≤ 9223372036854775807 ∧ (gB bs i).f2.length ≤ 9223372036854775807 := by
 rw [show gB bs i = bs[i] from getD_lt bs _ hi]; exact h _ (List.getElem_mem hi)
def q8 (ts : List ByteArray) (bs : List IB) (i : Nat) : Bool :=
  qU (gB bs i).f0 && ((decide (i = 0) || ltB (gB bs (i - 1)).f0 (gB bs i).f0) && (kG (gB bs i).f2 ts && kG (gB bs i).f1 (gB bs i).f2))
def uM (bs : List IB) (i : Nat) : Bool := allR (fun q => !kH (gB bs i).f1 (gB bs q).f1) i 0
def iY (ts : List ByteArray) (bs : List IB) : Bool := uH ts && (decide (bs.length ≤ 5) && allR (fun i => q8 ts bs i && uM bs i) bs.length 0)
theorem QS {α : Type} {bs : List IB} {i : Nat} (hi : i < bs.length) (hl : bs.length ≤ 9223372036854775807) {a b : Nat → Option α} {r s : α} (H1 : Ev a r) (H2 : Ev b s) :
  Ev (fun k => if (i : Int) > 0 then (if 0 ≤ (wrap64 ((i : Int) - 1)) then (if (wrap64 ((i : Int) - 1)) < (bs.length : Int) then (if ((Op.bytesLess (((aA bs (wrap64 ((i : Int) - 1))).f0).toList) (((aA bs (i : Int)).f0).toList)) = true) then a k else b k) else none) else none) else a k)
   (if (decide (i = 0) || ltB (gB bs (i - 1)).f0 (gB bs i).f0) = true then r else s) := by
 by_cases h0 : i = 0
 ·rw [if_pos (by simp [h0])]; exact Ev.neg (by omega) H1
 rw [RV (by omega) (by omega), gF, gF, show (decide (i = 0) || ltB (gB bs (i - 1)).f0 (gB bs i).f0) = ltB (gB bs (i - 1)).f0 (gB bs i).f0 from by simp [h0]]
 refine Ev.pos (by omega) (Ev.pos (by omega) (Ev.pos (by omega) (Ev.test _ (fun h => ?_) (fun h => ?_))))
 ·rw [if_pos (show ltB (gB bs (i - 1)).f0 (gB bs i).f0 = true from h)]; exact H1
 rw [if_neg (by rw [show ltB (gB bs (i - 1)).f0 (gB bs i).f0 = false from h]; simp)]; exact H2
theorem iW (ts : List ByteArray) (bs : List IB) (ht : ts.length ≤ 9223372036854775807) (hl : bs.length ≤ 9223372036854775807) (hb : Bok bs) : Ev (fun k => aG.f k ts bs) (iY ts bs) := by
 unfold aG.f iY
 have loop : Ev (fun k => aG.l0 k ((0 : Nat) : Int) ts bs) (allR (fun i => q8 ts bs i && uM bs i) bs.length 0) := by
   refine Ev.loop (f := fun k i => aG.l0 k (i : Int) ts bs) (val := allR (fun i => q8 ts bs i && uM bs i) bs.length) bs.length ?_ ?_ 0 (by omega)
   · rw [vP]
     refine Ev.step (fun k => aG.l0.eq_2 _ ts bs k) ?_
     exact Ev.neg (by omega) (Ev.ret rfl)
   · intro i hi H
     rw [uW _ hi]
     generalize allR (fun i => q8 ts bs i && uM bs i) bs.length (i + 1) = r at H
     obtain ⟨b1, b2⟩ := hb.at_ hi
     have inner : Ev (fun k => aG.l1 k (i : Int) ((0 : Nat) : Int) ts bs (gB bs i).f0 (gB bs i).f1 (gB bs i).f2) (uM bs i && r) := by
       refine Ev.loop (f := fun k j => aG.l1 k (i : Int) (j : Int) ts bs (gB bs i).f0 (gB bs i).f1 (gB bs i).f2) (val := fun j => allR (fun q => !kH (gB bs i).f1 (gB bs q).f1) i j && r) i ?_ ?_ 0 (by omega)
       · simp only [vP, Bool.true_and]
         refine Ev.step (fun k => aG.l1.eq_2 _ _ ts bs _ _ _ k) ?_
         refine Ev.neg (by omega) ?_
         rw [iQ hi hl]; exact H
       · intro j hj H2
         simp only [uW (fun q => !kH (gB bs i).f1 (gB bs q).f1) hj]
         refine Ev.step (fun k => aG.l1.eq_2 _ _ ts bs _ _ _ k) ?_
         refine Ev.pos (by omega) (Ev.pos (by omega) (Ev.pos (by omega) ?_))
         rw [gF, iQ hj (by omega)]
         refine Ev.bind (sI _ _ b1 (hb.at_ (show j < bs.length by omega)).1) ?_
         refine Ev.test _ (fun h => Ev.ret (by rw [h]; rfl)) (fun h => Ev.sub H2 (by rw [h]; rfl))
     have j2 : ∀ b, Ev (fun k => aG.j2 k (i : Int) b ts bs (gB bs i).f0 (gB bs i).f1 (gB bs i).f2) (!b && (uM bs i && r)) := by
       intro b
       refine Ev.step (fun k => aG.j2.eq_2 _ _ ts bs _ _ _ k) ?_
       refine Ev.test _ (fun h => Ev.ret (by rw [h]; rfl)) (fun h => Ev.sub inner (by rw [h]; rfl))
     have X : Ev (fun k => (bV.f k (gB bs i).f2 ts).bind fun t => if t = true then ((bV.f k (gB bs i).f1 (gB bs i).f2).bind fun t2 => aG.j2 k (i : Int) (!t2) ts bs (gB bs i).f0 (gB bs i).f1 (gB bs i).f2) else aG.j2 k (i : Int) true ts bs (gB bs i).f0 (gB bs i).f1 (gB bs i).f2)
         (kG (gB bs i).f2 ts && kG (gB bs i).f1 (gB bs i).f2 && (uM bs i && r)) := by
       refine Ev.bind (nU _ _ b2 ht) ?_
       refine Ev.test _ (fun h => Ev.bind (nU _ _ b1 b2) (Ev.sub (j2 _) (by rw [h]; simp))) (fun h => Ev.sub (j2 _) (by rw [h]; simp))
     refine Ev.step (fun k => aG.l0.eq_2 _ ts bs k) ?_
     refine Ev.pos (by omega) (Ev.pos (by omega) (Ev.bind (rO _) ?_))
     have A := QS hi hl X (j2 true)
     rw [gF] at *
     refine Ev.test _ (fun h => Ev.sub A ?_) (fun h => Ev.sub (j2 true) ?_)
     · simp only [q8, h, Bool.true_and]
       cases (decide (i = 0) || ltB (gB bs (i - 1)).f0 (gB bs i).f0) <;> simp [Bool.and_assoc]
     · simp [q8, h]
 have j0 : ∀ b, Ev (fun k => aG.j0 k b ts bs) (!b && allR (fun i => q8 ts bs i && uM bs i) bs.length 0) := by
   intro b
   refine Ev.step (fun k => aG.j0.eq_2 _ ts bs k) ?_
   refine Ev.test _ (fun h => Ev.ret (by rw [h]; rfl)) (fun h => Ev.sub loop (by rw [h]; rfl))
 refine Ev.bind (GK ts) ?_
 refine Ev.test _ (fun h => Ev.sub (j0 _) ?_) (fun h => Ev.sub (j0 _) (by rw [h]; simp))
 rw [h, show (!decide ((bs.length : Int) > 5)) = decide (bs.length ≤ 5) from by rw [Bool.eq_iff_iff]; simp; omega]
 rfl
theorem ZL (ts : List ByteArray) : (decide (ts.length ≤ 8) && (kG ts ts && !(ts.any fun s => !qU s))) = uH ts := by
 unfold uH
 congr 1
 rw [Bool.eq_iff_iff, Bool.and_eq_true, kG, pO, pO]
 have hany : ((!(ts.any fun s => !qU s)) = true) ↔ ∀ s ∈ ts, qU s = true := by simp
 rw [hany]
 constructor
 ·rintro ⟨h1, h2⟩ j h0 hj
  have := h1 j h0 hj
  simp only [wB, Bool.and_eq_true] at this
  simp only [yV, Bool.and_eq_true]
  exact ⟨h2 _ (by rw [show gS ts j = ts[j] from getD_lt ts _ hj]; exact List.getElem_mem hj), this.2⟩
 intro h
 refine ⟨fun j h0 hj => ?_, fun s hs => ?_⟩
 ·have := h j h0 hj
  simp only [yV, Bool.and_eq_true] at this
  simp only [wB, Bool.and_eq_true]
  refine ⟨?_, this.2⟩
  unfold hasS
  rw [List.any_eq_true]
  exact ⟨gS ts j, by rw [show gS ts j = ts[j] from getD_lt ts _ hj]; exact List.getElem_mem hj, by simp⟩
 obtain ⟨j, hj, rfl⟩ := List.getElem_of_mem hs
 have := h j (by omega) hj
 simp only [yV, Bool.and_eq_true] at this
 rw [← show gS ts j = ts[j] from getD_lt ts _ hj]
 exact this.1
theorem iV (ts : List ByteArray) (bs : List IB) (ht : ts.length ≤ 9223372036854775807) (hl : bs.length ≤ 9223372036854775807) (hb : Bok bs) : Ev (fun k => aI.f k ts bs) (iY ts bs) := by
 unfold aI.f iY
 have loop : Ev (fun k => aI.l0 k bs (bs.length : Int) ((0 : Nat) : Int) ts bs) (allR (fun i => q8 ts bs i && uM bs i) bs.length 0) := by
   refine Ev.loop (f := fun k i => aI.l0 k bs (bs.length : Int) (i : Int) ts bs) (val := allR (fun i => q8 ts bs i && uM bs i) bs.length) bs.length ?_ ?_ 0 (by omega)
   · rw [vP]
     refine Ev.step (fun k => aI.l0.eq_2 bs _ _ ts bs k) ?_
     exact Ev.neg (by omega) (Ev.ret rfl)
   · intro i hi H
     rw [uW _ hi]
     generalize allR (fun i => q8 ts bs i && uM bs i) bs.length (i + 1) = r at H
     obtain ⟨b1, b2⟩ := hb.at_ hi
     have inner : Ev (fun k => aI.l1 k bs (bs.length : Int) (i : Int) (bs.take i) ((bs.take i).length : Int) ((0 : Nat) : Int) ts bs (gB bs i).f0 (gB bs i).f1 (gB bs i).f2) (uM bs i && r) := by
       have hlen : (bs.take i).length = i := by rw [List.length_take]; omega
       refine Ev.loop (f := fun k j => aI.l1 k bs (bs.length : Int) (i : Int) (bs.take i) ((bs.take i).length : Int) (j : Int) ts bs (gB bs i).f0 (gB bs i).f1 (gB bs i).f2) (val := fun j => allR (fun q => !kH (gB bs i).f1 (gB bs q).f1) i j && r) i ?_ ?_ 0 (by omega)
       · simp only [vP, Bool.true_and]
         refine Ev.step (fun k => aI.l1.eq_2 _ _ _ _ _ _ ts bs _ _ _ k) ?_
         refine Ev.neg (by rw [hlen]; omega) ?_
         rw [iQ hi hl]; exact H
       · intro j hj H2
         simp only [uW (fun q => !kH (gB bs i).f1 (gB bs q).f1) hj]
         refine Ev.step (fun k => aI.l1.eq_2 _ _ _ _ _ _ ts bs _ _ _ k) ?_
         refine Ev.pos (by rw [hlen]; omega) (Ev.pos (by omega) (Ev.pos (by rw [hlen]; omega) ?_))
         rw [gF, iQ hj (by omega), show gB (bs.take i) j = gB bs j from by unfold gB; rw [List.getD_eq_getElem?_getD, List.getElem?_take_of_lt hj, List.getD_eq_getElem?_getD]]
         simp only [iT.f, Option.bind_some]
         refine Ev.test _ (fun h => Ev.ret (by rw [show kH (gB bs i).f1 (gB bs j).f1 = true from h]; rfl)) (fun h => Ev.sub H2 (by rw [show kH (gB bs i).f1 (gB bs j).f1 = false from h]; rfl))
     have j2 : ∀ b, Ev (fun k => aI.j2 k (i : Int) bs (bs.length : Int) (i : Int) b ts bs (gB bs i).f0 (gB bs i).f1 (gB bs i).f2) (!b && (uM bs i && r)) := by
       intro b
       refine Ev.step (fun k => aI.j2.eq_2 _ _ _ _ _ ts bs _ _ _ k) ?_
       refine Ev.test _ (fun h => Ev.ret (by rw [h]; rfl)) (fun h => Ev.pos (by omega) (Ev.pos (by omega) ?_))
       rw [Int.toNat_natCast]
       simp only [Option.bind_some]
       exact Ev.sub inner (by rw [h]; rfl)
     have X : Ev (fun k => (gP.f k (gB bs i).f2 ts).bind fun t => if t = true then ((gP.f k (gB bs i).f1 (gB bs i).f2).bind fun t2 => aI.j2 k (i : Int) bs (bs.length : Int) (i : Int) (!t2) ts bs (gB bs i).f0 (gB bs i).f1 (gB bs i).f2) else aI.j2 k (i : Int) bs (bs.length : Int) (i : Int) true ts bs (gB bs i).f0 (gB bs i).f1 (gB bs i).f2)
         (kG (gB bs i).f2 ts && kG (gB bs i).f1 (gB bs i).f2 && (uM bs i && r)) := by
       refine Ev.bind (uY _ _ b2 ht) ?_
       refine Ev.test _ (fun h => Ev.bind (uY _ _ b1 b2) (Ev.sub (j2 _) (by rw [h]; simp))) (fun h => Ev.sub (j2 _) (by rw [h]; simp))
     refine Ev.step (fun k => aI.l0.eq_2 _ _ _ ts bs k) ?_
     refine Ev.pos (by omega) (Ev.pos (by omega) (Ev.pos (by omega) (Ev.bind (Cf _) ?_)))
     have A := QS hi hl X (j2 true)
     rw [gF] at *
     refine Ev.test _ (fun h => Ev.sub A ?_) (fun h => Ev.sub (j2 true) ?_)
     · simp only [q8, h, Bool.true_and]
       cases (decide (i = 0) || ltB (gB bs (i - 1)).f0 (gB bs i).f0) <;> simp [Bool.and_assoc]
     · simp [q8, h]
 have j0 : ∀ b, Ev (fun k => aI.j0 k b ts bs) (!b && allR (fun i => q8 ts bs i && uM bs i) bs.length 0) := by
   intro b
   refine Ev.step (fun k => aI.j0.eq_2 _ ts bs k) ?_
   refine Ev.test _ (fun h => Ev.ret (by rw [h]; rfl)) (fun h => Ev.sub loop (by rw [h]; rfl))
 rw [← ZL]
 refine Ev.prop (fun h => Ev.sub (j0 _) ?_) (fun h => Ev.prop (fun h2 => Ev.sub (j0 _) ?_) (fun h2 => Ev.bind (uY ts ts ht ht) ?_))
 ·rw [show decide (ts.length ≤ 8) = false from decide_eq_false (by omega)]; rfl
 ·rw [show decide (bs.length ≤ 5) = false from decide_eq_false (by omega)]; simp
 rw [show decide (bs.length ≤ 5) = true from decide_eq_true (by omega), show decide (ts.length ≤ 8) = true from decide_eq_true (by omega)]
 simp only [iK.f, Option.bind_some]
 refine Ev.test _ (fun h => Ev.sub (j0 _) (by rw [h]; simp)) (fun h => Ev.sub (j0 _) (by rw [h]; simp))
theorem OG {α : Type} (f : α → Nat) : ∀ {l : List α} {x : α}, x ∈ l → f x ≤ (l.map f).sum
  | a :: l, x, h => by
    rw [List.map_cons, List.sum_cons]
    rcases List.mem_cons.1 h with rfl | h
    · omega
    · have := OG f h; omega
def iD.f (l0 : List ByteArray) : Option (List ByteArray) := (some (([] : List ByteArray) : List ByteArray)).bind fun a => (if a.length + l0.length < 8796093022208 then (some (a ++ l0)) else (none))
theorem iD.calls (A0 : Option Addr) (c0 : Nat) (l0 : List ByteArray) (r : List ByteArray) (w : World) (mO : Kd.C Kd.string w A0 l0.length l0) (nE : l0.length ≤ c0) (h : iD.f l0 = some r) :
  Calls Tryz.prog 54 #[.slice A0 l0.length c0] w fun e w' => ∃ v0_ : Value, e = .returned (v0_) ∧ Kd.R Kd.string 9 w' w.heap.size (fun _ => True) v0_ r ∧ Below w.heap.size w w' := by
 obtain ⟨lH, uR⟩ := mZ2 mO nE
 clear mO nE
 have HB := am (Below.refl w.heap.size w)
 unfold iD.f at h
 have H := h
 clear h
 obtain ⟨XF, hy101⟩ : ∃ y_ : List ByteArray, y_ = (([] : List ByteArray)) := ⟨_, rfl⟩
 replace H : (if XF.length + l0.length < 8796093022208 then (some (XF ++ l0)) else (none)) = some r := by first | (rw [hy101]; with_reducible exact H) | (have H2_ := (Option.bind_some _ _).symm.trans H; rw [hy101]; with_reducible exact H2_) | (have H2_ := (Option.bind_some _ _).symm.trans H; with_reducible exact H2_) | with_reducible exact H | (rw [hy101]; exact H) | exact H
 have KQ := am hy101
 clear hy101
 obtain ⟨oe, H⟩ := cL H
 obtain ⟨Lt, H3⟩ := yv (XF ++ l0); first | replace H := bW H3 H | rw [← H3.1] at H
 obtain rfl := Option.some.inj H
 repeat clear H
 go_enter Tryz.func54, Tryz.ntmps54
 go_wp2_with (first | ((with_reducible refine dF (N := 3) rfl ?_); refine lS 9 3 KQ ?_; intro Lf w3 IE hb; have GW := am (Kd.eF IE (aK gL)); replace HB := bS gL hb; clear hb IE) | ((with_reducible refine fA (b := .append) (xs := #[.tmp 3, .tmp 4]) rfl ?_); at_builtin; refine Kd.yZ Kd.string (w0 := w) w.heap.size rfl (.tmp 3) (.tmp 4) 27 9 (.string ⟨#[]⟩) 16 rfl Tryz.underlying27 jP rfl (by decide) (by omega) Lf XF l0 _ _ _ (fun _ => True) (fun _ => False) rfl rfl ?aO ?aR (fun _ _ h => h) (fun _ h => h.elim) ?aF ?aB ?aS ?aL ?_; (case aR => repeat (first | exact (Kd.aM lH.1 HB.1) | (with_reducible refine Kd.l7 ?_ _) | (with_reducible refine Kd.l8 ?_ _) | (with_reducible refine Kd.mK ?_))); (case aB => exact gL); (case aF => exact (fun _ _ => trivial)); (case aO => exact (rR GW.1)); (case aS => exact (aK gL)); (case aL => have := oe.out; omega); intro v105 w5 ho hb hg hat; rw [← H3.out] at ho; replace HB := am hb; have fQ := am ho; clear GW; clear ho hb hg hat))
 go_ret
 exact ⟨_, eR, rR fQ.1, gL⟩
def dA.l0 : Nat → Int → List ByteArray → List (S66) → List ByteArray → List (S66) → Option (List ByteArray × (List (S66)))
 | 0, _, _, _, _, _ => none
 | k + 1, a, e, b, d, c => if a < (b.length : Int) then (if 0 ≤ a then ((iD.f ((aA b a).f1)).bind fun g => ((iD.f ((aA b a).f2)).bind fun h => (if c.length < 2199023255552 then (dA.l0 k (wrap64 (a + 1)) e b d (c ++ [(⟨(aA b a).f0, g, h⟩ : S66)])) else (none)))) else (none)) else (some (d, c))
def dA.f (k : Nat) (aQ : List ByteArray) (aE : List (S66)) : Option (List ByteArray × (List (S66))) := (iD.f aQ).bind fun a => (dA.l0 k 0 aQ aE a ([] : List (S66)))
def dA.T5 : Bool × List (List Nat × List Nat) := (true, [([], []), ([0], [0]), ([], []), ([2], [2]), ([], []), ([3, 4], [3, 4]), ([5], [5]), ([6], [6]), ([], []), ([8], [8]), ([], []), ([9, 10], [9, 10]), ([11], [11]), ([12], [12]), ([13], [13]), ([], []), ([15], [15]), ([], []), ([16, 17], [16, 17]), ([18], [18]), ([19], [19]), ([20, 14], [20]), ([7, 14, 21], [7, 14, 21]), ([22], [22]), ([1, 23, 21], [1, 23]), ([0, 1, 2, 3, 4, 5, 6, 7, 8, 9, 10, 11, 12, 13, 14, 15, 16, 17, 18, 19, 20, 21, 22, 23, 24], []), ([25, 24, 24, 0, 1, 2, 3, 4, 5, 6, 7, 8, 9, 10, 11, 12, 13, 14, 15, 16, 17, 18, 19, 20, 21, 22, 23, 24], [24, 25])])
def dA.B5 : List Nat := [0, 1, 0, 4, 0, 28, 60, 124, 0, 256, 0, 1792, 3840, 7936, 16128, 0, 32768, 0, 229376, 491520, 1015808, 2096896, 4194300, 8388604, 16777215, 33554431, 67108863]
theorem dA.tab5 : rtab .any (opsOf Tryz.f22 5) = dA.T5 := by kernel_rfl
theorem dA.Hr : nV dA.T5.2 dA.B5 = true := by kernel_rfl
theorem dA.calls (k : Nat) (dD : Option Addr) (dE : Nat) (aQ : List ByteArray) (dS : Option Addr) (dB : Nat) (aE : List (S66)) (r1 : List ByteArray) (r2 : List (S66)) (w : World) (fL : Kd.C Kd.string w dD aQ.length aQ) (fJ : aQ.length ≤ dE) (fH : Kd.C k66 w dS aE.length aE) (fK : aE.length ≤ dB) (h : dA.f k aQ aE = some (r1, r2)) :
  Calls Tryz.prog 22 #[.agg #[.slice dD aQ.length dE, .slice dS aE.length dB]] w fun e w' => ∃ v0_ v1_ : Value, e = .returned (.agg #[v0_, v1_]) ∧ Kd.R Kd.string 9 w' w.heap.size (fun _ => True) v0_ r1 ∧ Kd.S k66 66 w' w.heap.size (fun k_ => some k_ ≠ (v0_ : Value).ownBlock) v1_ r2 ∧ Below w.heap.size w w' := by
 have hu31 := Tryz.underlying31
 have hu66 := Tryz.underlying66
 obtain ⟨cS, cO⟩ := mZ2 fL fJ
 obtain ⟨bE, dL⟩ := mZ2 fH fK
 clear fL fJ fH fK
 have HB := am (Below.refl w.heap.size w)
 unfold dA.f at h
 have H := h
 clear h
 obtain ⟨mQ, A2, H⟩ := bd H
 have H' := am H
 repeat clear H
 go_enter Tryz.func22, Tryz.ntmps22
 go_wp2_with (first | ((with_reducible refine gD 1 ?_); refine bX 1 #[.slice dD aQ.length dE, .slice dS aE.length dB] 31 ?_; intro aZ hg w3 hbox hb; have aC := am hbox; have gU := am (nS : w.heap.size ≤ aZ); have iL := gU; replace HB := bS gL hb; clear hb hbox hg) | ((with_reducible refine gD 2 ?_); refine bX 2 #[.slice none 0 0, .slice none 0 0] 31 ?_; intro bF hg w4 hbox hb; have aT := am hbox; have qC := am (vA : w.heap.size ≤ bF); have pM := qC; replace HB := bS dQ hb; have dY := nL bJ hg; have eI := nG bJ hg; replace aC := bB bJ hb; clear hb hbox hg; have Z5 := nZ1 dY eI; have Z6 := cz2 aC) | ((with_reducible refine gC 54 ?_); refine cE (some 7) Tryz.func54 (iD.calls _ _ aQ mQ _ (pB cS) cO.1 A2.out) ?_; rintro e w7 ⟨LX, rfl, hD, hb⟩; refine ⟨_, rfl, ?_⟩; have qD := am (Kd.eF hD (aK jY)); replace aC := bB bJ hb; replace aT := bB fF hb; replace HB := bS jY hb; clear hb hD; obtain ⟨MZ, NX, ql⟩ := Kd.cB qD.1; subst ql) | ((with_reducible refine gD 3 ?_); refine bX 3 #[.slice none 0 0, .slice none 0 0] 31 ?_; intro O7 hg w9 hbox hb; replace qD := am (Kd.iI (rR qD.1) hb); have j5 := am hbox; have Ga := am (UC : w.heap.size ≤ O7); have Fy := Ga; replace HB := bS jY hb; have nF := nL bJ hg; have sR := nG bJ hg; replace aC := bB bJ hb; have oF := nL fF hg; have uT := nG fF hg; replace aT := bB fF hb; clear hb hbox hg; have kw := nZ2 sR nF uT oF; have Nk := cz2 j5))
 go_loopg [4] k (fun kq v4 w' => ∃ (eH : Int) (lR : List (S66)) (kX : Value), v4 = .int .i64 eH ∧ aD (dA.l0 kq eH aQ aE mQ lR = some (r1, r2)) ∧ aD (kq ≤ k) ∧ aD (Kd.R Kd.string 9 w' w.heap.size (fun _ => True) (.slice MZ mQ.length NX) mQ) ∧ aD (Kd.S k66 66 w' w.heap.size (fun k_ => some k_ ≠ ((.slice MZ mQ.length NX) : Value).ownBlock) kX lR) ∧ aD (w'.heap[aZ]? = some (.cells #[(.slice dD aQ.length dE), (.slice dS aE.length dB)] 31 (0, 0))) ∧ aD (w'.heap[bF]? = some (.cells #[(.slice none 0 0), (.slice none 0 0)] 31 (0, 0))) ∧ aD (w'.heap[O7]? = some (.cells #[(.slice MZ mQ.length NX), kX] 31 (0, 0))) ∧ aD (Below w.heap.size w w'))
 case atStart => exact ⟨(0), (([] : List (S66))), (.slice none 0 0), eS, H', ⟨Nat.le_refl _⟩, ⟨mR qD j5⟩, ⟨eN⟩, ⟨qF aC nF⟩, ⟨qF aT oF⟩, ⟨qP j5⟩, ⟨K4⟩⟩
 clear H'
 try clear Nk
 try clear Z6
 obtain ⟨eH, lR, kX, rfl, HA, HK1, j7, fC, aC, aT, j5, HB⟩ := hrel
 cases gk with
 | zero => exact absurd HA.out (by simp [dA.l0])
 | succ k1 =>
  have H := HA.out
  clear HA
  simp only [dA.l0] at H
  refine ic H ?_ ?_ <;> clear H <;> intro VJ H
  ·obtain ⟨KW, H⟩ := cN H
   obtain ⟨wX, Ly, H⟩ := bd H
   obtain ⟨EM, V0, H⟩ := bd H
   obtain ⟨ak, H⟩ := cL H
   obtain ⟨kf, Gs⟩ := yv (lR ++ [(⟨(aA aE eH).f0, wX, EM⟩ : S66)]); first | replace H := bW Gs H | rw [← Gs.1] at H
   have H' := am H
   repeat clear H
   have ot := nZ2 dY eI nF sR
   have uv := cz2 aC
   try go_wp2
   replace j7 := RD j7
   replace fC := SD fC
   replace aC := BD aC
   replace aT := BD aT
   replace j5 := BD j5
   replace HB := am (aU HB.1)
   obtain ⟨rY, tJ, tZ, tK, u4, BH, mW, mX, mY, rH, n4, n5, kV, mU, qE, vG, U9, UL⟩ := xG bE HB eH
   cases BH
   obtain ⟨VB, Fe, Ia, Ff, Ib, Im, DV, DW, DX, TW, MR, MS, ME, S5, wQ, y9, jk, jo⟩ := xG bE HB eH
   obtain rfl : rY = VB := (by injection Im)
   obtain ⟨ea_, ec_⟩ := eZ2 n4 MR
   subst ea_
   subst ec_
   obtain ⟨ea_, ec_⟩ := eZ2 n5 MS
   subst ea_
   subst ec_
   obtain ⟨mL, S0, TE, S1, TF, TM, DY, DZ, E0, yK, wU, wV, H0, M9, sC, tN, YZ, ZD⟩ := xG bE HB eH
   obtain rfl : rY = mL := (by injection TM)
   obtain ⟨ea_, ec_⟩ := eZ2 n4 wU
   subst ea_
   subst ec_
   obtain ⟨ea_, ec_⟩ := eZ2 n5 wV
   subst ea_
   subst ec_
   refine sT [26] 27 (uB2 j5 (uB2 aC (uBx HB mW (uBx HB mX (uBx HB mY (uBx HB DV (uBx HB DW (uBx HB DX (uBx HB DY (uBx HB DZ (uAx HB E0))))))))))) (fun hHeld => ?_)
   refine gH dA.tab5 dA.Hr (fun HT_ HW_ => ?_)
   generalize wr.drew = ml at j7 fC aC aT j5 HB kV qE ME wQ H0 sC rH n4 n5 TW MR MS yK wU wV hHeld ⊢
   refine pU7 0 2 4 8 10 15 17 ?_
   refine tK13 1 (some 17) ?_
   refine tK13 3 (some 19) ?_
   refine pU2 5 6 ?_
   refine tK13 7 (some 23) ?_
   refine tK13 9 (some 25) ?_
   refine pU2 11 12 ?_
   refine tK13 13 (some 29) ?_
   refine tK13 16 (some 32) ?_
   refine pU2 18 19 ?_
   refine tK13 20 (some 36) ?_
   refine oN 14 (some 30) fun K hK => ?_
   refine gE Tryz.func54 (iD.calls _ _ ((aA aE eH).f1) wX _ (pB ME) S5.1 Ly.out) ?_
   rintro e Ss ⟨jz, rfl, hD, hb⟩
   refine ⟨_, rfl, ?_⟩
   replace fC := am (Kd.zK ZB (Kd.eO hD) hb)
   have tO := am (Kd.eF (Kd.jQ hD (Kd.R_lt K5)) (aK K4))
   replace j7 := am (Kd.gZ K5 (Kd.eO hD) hb)
   replace aC := bB bJ hb
   replace aT := bB fF hb
   replace j5 := bB UE hb
   replace HB := bS K4 hb
   clear hb hD
   refine nK hK (uB2 j5 (uB2 aC (uBx HB mW (uBx HB mX (uBx HB mY (uBx HB DV (uBx HB DW (uBx HB DX (uBx HB DY (uBx HB DZ (uAx HB E0))))))))))).1 fun hHeld => ?_
   clear hK K
   refine oN 21 (some 37) fun K hK => ?_
   refine gE Tryz.func54 (iD.calls _ _ ((aA aE eH).f2) EM _ (pB sC) tN.1 V0.out) ?_
   rintro e tg ⟨ka, rfl, hD, hb⟩
   refine ⟨_, rfl, ?_⟩
   replace fC := am (Kd.zK ZB (Kd.eO hD) hb)
   have KM := am (Kd.eF (Kd.jQ (Kd.jQ hD (Kd.R_lt K5)) (Kd.R_lt (rR tO.1))) (aK K4))
   replace j7 := am (Kd.gZ K5 (Kd.eO hD) hb)
   replace tO := am (Kd.gZ (rR tO.1) (Kd.eO hD) hb)
   replace aC := bB bJ hb
   replace aT := bB fF hb
   replace j5 := bB UE hb
   replace HB := bS K4 hb
   clear hb hD
   obtain ⟨Fi, Ij, Is⟩ := Kd.cB KM.1
   (first | subst Is | (obtain ⟨f4_, f5_⟩ := sj Is; subst f4_; subst f5_))
   obtain ⟨Td, Vl, Ob⟩ := Kd.cB tO.1
   (first | subst Ob | (obtain ⟨f4_, f5_⟩ := sj Ob; subst f4_; subst f5_))
   refine nK hK (uB2 j5 (uB2 aC (uBx HB mW (uBx HB mX (uBx HB mY (uBx HB DV (uBx HB DW (uBx HB DX (uBx HB DY (uBx HB DZ (uAx HB E0))))))))))).1 fun hHeld => ?_
   clear hK K
   refine pU1 22 ?_
   refine oN 23 (some 39) fun K hK => ?_
   refine P9 (w1 := ?_) (v := ?_) (by rfl) rfl ?_ ?_
   rotate_left 2
   ·go_simp
    constructor
    ·rfl
    ·rfl
   refine hK.out _ _ ⟨(aH (bP j5.1 _) 0).trans rfl, (aH (bP j5.1 _) 1).trans rfl, (aH (bP aC.1 _) 0).trans rfl, (aH (bP aC.1 _) 1).trans rfl, (World.cell?_alloc_lt _ _ _ (World.block_lt_of_cell? _ _ ((hX HB mW)))).trans ((hX HB mW)), (World.cell?_alloc_lt _ _ _ (World.block_lt_of_cell? _ _ ((hX HB mX)))).trans ((hX HB mX)), (World.cell?_alloc_lt _ _ _ (World.block_lt_of_cell? _ _ ((hX HB mY)))).trans ((hX HB mY)), (World.cell?_alloc_lt _ _ _ (World.block_lt_of_cell? _ _ ((hX HB DV)))).trans ((hX HB DV)), (World.cell?_alloc_lt _ _ _ (World.block_lt_of_cell? _ _ ((hX HB DW)))).trans ((hX HB DW)), (World.cell?_alloc_lt _ _ _ (World.block_lt_of_cell? _ _ ((hX HB DX)))).trans ((hX HB DX)), (World.cell?_alloc_lt _ _ _ (World.block_lt_of_cell? _ _ ((hX HB DY)))).trans ((hX HB DY)), (World.cell?_alloc_lt _ _ _ (World.block_lt_of_cell? _ _ ((hX HB DZ)))).trans ((hX HB DZ)), (World.cell?_alloc_lt _ _ _ (World.block_lt_of_cell? _ _ ((hX HB E0)))).trans ((hX HB E0))⟩ (fun hHeld => ?_)
   clear hK K
   refine nM ?_
   refine oN 24 (some 40) fun K hK => ?_
   refine Kd.z8 k66 (w0 := w) w.heap.size (by rfl) (.tmp 17) (.tmp 39) 29 66 Ag0 64 rfl Tryz.underlying29 pJ rfl (by decide) (by omega) kX lR (⟨(aA aE eH).f0, wX, EM⟩ : S66) [.string ((aA aE eH).f0), .slice Td wX.length Vl, .slice Fi EM.length Ij] (fun k_ => some k_ ≠ (.slice MZ mQ.length NX : Value).ownBlock) (fun k_ => some k_ = (.slice Td wX.length Vl : Value).ownBlock ∨ some k_ = (.slice Fi EM.length Ij : Value).ownBlock) rfl rfl ?aP (fun k_ hk_ => hk_.elim (fun h_ => ((Kd.bG (ok' := fun k_ => ((fun k_ => some k_ ≠ (.slice MZ mQ.length NX : Value).ownBlock)) k_ ∧ some k_ ≠ (kX : Value).ownBlock) (Kd.iR (tO.1) (Kd.kQ fC.1) (by decide)) (fun k_ hk => ⟨hk.1.1.2, hk.2⟩))).1 k_ h_.symm) (fun h_ => ((Kd.bG (ok' := fun k_ => ((fun k_ => some k_ ≠ (.slice MZ mQ.length NX : Value).ownBlock)) k_ ∧ some k_ ≠ (kX : Value).ownBlock) (Kd.iR (KM.1) (Kd.kQ fC.1) (by decide)) (fun k_ hk => ⟨hk.1.1.2, hk.2⟩))).1 k_ h_.symm)) ?aF ?aO ?aB ?aS ?aL ?_
   (case aP => exact yO _ _ _ (⟨(aA aE eH).f0, wX, EM⟩ : S66) (Kd.bG (Kd.kP rfl (Kd.bG (ok' := fun k_ => ((fun k_ => some k_ ≠ (.slice MZ mQ.length NX : Value).ownBlock)) k_ ∧ some k_ ≠ (kX : Value).ownBlock) (Kd.iR (tO.1) (Kd.kQ fC.1) (by decide)) (fun k_ hk => ⟨hk.1.1.2, hk.2⟩))) (fun _ h_ => Or.inl h_)) (Kd.bG (Kd.kP rfl (Kd.bG (ok' := fun k_ => ((fun k_ => some k_ ≠ (.slice MZ mQ.length NX : Value).ownBlock)) k_ ∧ some k_ ≠ (kX : Value).ownBlock) (Kd.iR (KM.1) (Kd.kQ fC.1) (by decide)) (fun k_ hk => ⟨hk.1.1.2, hk.2⟩))) (fun _ h_ => Or.inr (h_))) (Ku tO.1 KM.1))
   (case aB => exact K4)
   (case aF => exact (fun k_ hk => Kd.fresh' (Kd.R_lt K5) k_ hk))
   (case aO => exact (by refine rS ?_; exact Kd.fU fC.1 (fun k_ hk => ⟨hk.1.1, fun e_ => e_.elim (fun h_ => hk.1.2 h_) (fun h_ => hk.2 h_)⟩)))
   (case aS => exact (aK K4))
   (case aL => have := ak.out; omega)
   intro a6G Su ho hb hg hat
   rw [← Gs.out] at ho
   replace j7 := am (Kd.tV K5 (Kd.kQ ZB) (by decide) hg)
   replace aC := gkS bJ hg fC aC
   replace aT := gkS fF hg fC aT
   replace j5 := gkS UE hg fC j5
   replace HB := am hb
   have Qj := am ho
   clear fC
   clear tO
   clear KM
   clear ho hb hg hat
   obtain ⟨Zk, gq, Oc⟩ := Kd.yH Qj.1
   (first | subst Oc | (obtain ⟨f4_, f5_⟩ := sj Oc; subst f4_; subst f5_))
   refine nK hK (uB2 j5 (uB2 aC (uBx HB mW (uBx HB mX (uBx HB mY (uBx HB DV (uBx HB DW (uBx HB DX (uBx HB DY (uBx HB DZ (uAx HB E0))))))))))).1 fun hHeld => ?_
   clear hK K
   refine pU1 25 ?_
   refine lN 26 none fun K hK => ?_
   have a5S : Su.cell? ⟨O7, 1, none⟩ = some (kX) := (aH j5.1 1).trans rfl
   have zu := bL j5.1 1
   have ly := nF.1
   have lz := oF.1
   have lh := sR.1
   have ll := uT.1
   refine qJ (w1 := ?_) (by rfl) rfl ?_ ?_
   rotate_left
   ·go_simp
    rfl
   refine hK.out _ _ ?_
   clear hK K
   refine dN ?_
   try go_wp2
   go_roundg k1
   case measure => have := HK1.out; omega
   case rel => exact ⟨(wrap64 (eH + 1)), (kf), (.slice Zk kf.length gq), eS, H', ⟨by have := HK1.out; omega⟩, ⟨mR j7 j5⟩, ⟨mS Qj j5⟩, ⟨qF aC nF⟩, ⟨qF aT oF⟩, ⟨by refine rB ?_; refine bD (cs := #[.slice MZ mQ.length NX, kX]) ?_ 1 _ rfl; refine rB ?_; exact j5.1⟩, ⟨K4⟩⟩
  ·obtain ⟨rfl, rfl⟩ := sZ2 H
   repeat clear H
   have Z29 := nZ2 dY eI nF sR
   have vh := cz2 aC
   have vi := nZ1 uT oF
   have vj := cz2 j5
   have Z34 := cz2 aT
   obtain ⟨np, pl, qd⟩ := Kd.yH fC.1
   subst qd
   go_wp2
   refine cR bF 31 #[.slice MZ mQ.length NX, .slice np lR.length pl] (qP aT) Tryz.underlying31 ?_
   exact ⟨_, _, eR, mR j7 aT, mS fC aT, K4⟩
end Go.Proofs.YtaofjgnhapnndaaGreatDoor.Q
