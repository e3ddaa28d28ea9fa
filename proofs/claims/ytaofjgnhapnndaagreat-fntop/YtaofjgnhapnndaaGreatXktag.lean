/- Texts that the row needs: words on memory and rows, the contracts of the functions it reaches, and the plain lemmas on what they compute. -/
import Derived.Lib.SliceRun
import Derived.Test.YtaofjgnhapnndaaGreatXktaf
set_option maxHeartbeats 8000000
set_option maxRecDepth 100000
open Go.Proofs.YtaofjgnhapnndaaGreatFkt
namespace Go.Proofs.YtaofjgnhapnndaaGreat.Q
open Go.RowKit Go.Proofs.YtaofjgnhapnndaaGreatW.PrintWords Go.Proofs.YtaofjgnhapnndaaGreatW.PrintLast Go.Proofs.YtaofjgnhapnndaaGreatW.PrintMore
set_option linter.unusedVariables false
set_option linter.unusedSimpArgs false
theorem gp {α : Type} {d : Kd α} {w : World} {l : List α} (h : d.C w none l.length l) : l = [] := by
 cases l with
 | nil => rfl
 | cons a l =>
  obtain ⟨ad, he, _⟩ := h.2.2 (by simp)
  cases he
def dW.f (l0 : List ByteArray) : Option (List ByteArray) := if l0.length < 8796093022208 then some l0 else none
set_option maxHeartbeats 2000000 in
theorem dW.calls (A0 : Option Addr) (c0 : Nat) (l0 : List ByteArray) (r : List ByteArray) (w : World) (tM : Kd.C Kd.string w A0 l0.length l0) (yO : l0.length ≤ c0) (h : dW.f l0 = some r) :
  Calls Tryz.prog 28 #[.slice A0 l0.length c0] w fun e w' => ∃ v0_ : Value, e = .returned (v0_) ∧ Kd.R Kd.string 9 w' w.heap.size (fun _ => True) v0_ r ∧ Below w.heap.size w w' := by
 unfold dW.f at h
 by_cases c2 : l0.length < 8796093022208
 ·rw [if_pos c2] at h
  obtain rfl := Option.some.inj h
  clear h
  have LM := am c2
  clear c2
  have hnil := fun (W : World) (a : Option Addr) (n c : Nat) => Lib.run_eql_slice_nil (P := Tryz.prog) W 23 9 a n c 0 0 Tryz.underlying23
  cases A0 with
  | none =>
   obtain rfl := gp tM
   clear tM yO
   go_enter Tryz.func28, Tryz.ntmps28
   go_wp2
   go_ret
   exact ⟨_, rfl, Kd.sP _ _ _ _ _, Below.refl _ _⟩
  | some a0 =>
   obtain ⟨tV, S0⟩ := mZ2 tM yO
   clear tM yO
   have HB := am (Below.refl w.heap.size w)
   go_enter Tryz.func28, Tryz.ntmps28
   go_wp2_with (first
    | ((with_reducible refine jW (N := 5) rfl ?_); refine Kd.SI Kd.string _ 9 ?hg (N := 5) ?hd (xs := ([] : List ByteArray)) (inner := []) (ok := fun _ => True) (okp := fun _ => True) ?hr ?hp (fun _ hk => hk) trivial (Below.refl _ _) (Nat.le_refl _) (by simp) ?_; (case hd => rfl); (case hg => rfl); (case hr => first | (go_simp; done) | (go_simp; rfl)); (case hp => exact (Reps.none _ _)); intro Cz w3 ho4 hb hg_ hnew_; clear hg_ hnew_; have n0_ := am (Kd.dO ho4 (aG iJ)); have n1_ := bS iJ hb; clear HB; have DC := n0_; have HB := n1_; clear n0_ n1_; clear hb ho4)
    | ((with_reducible refine lQ (b := .append) (xs := #[.tmp 5, .tmp 6]) rfl ?_); at_builtin; refine Kd.E5 Kd.string (w0 := w) w.heap.size rfl (.tmp 5) (.tmp 6) 23 9 (.string ⟨#[]⟩) 16 rfl Tryz.underlying23 sQ rfl (by decide) (by omega) Cz [] l0 _ _ _ (fun _ => True) (fun _ => False) rfl rfl ?aO ?aR (fun _ _ h => h) (fun _ h => h.elim) ?aF ?aB ?aS ?aL ?_; (case aR => repeat (first | exact (Kd.aU tV.1 HB.1) | (with_reducible refine Kd.nW ?_ _) | (with_reducible refine Kd.nX ?_ _) | (with_reducible refine Kd.pO ?_))); (case aB => exact iJ); (case aF => exact (fun _ _ => trivial)); (case aO => exact (rR DC.1)); (case aS => exact (aG iJ)); (case aL => have := LM.out; simp; omega); intro H6 w5 ho hb hg hat; have n0_ := am hb; have n1_ := am ho; clear HB; clear DC; have HB := n0_; have gG := n1_; clear n0_ n1_; clear ho hb hg hat))
   go_ret
   exact ⟨_, by first | rfl | (simp; done) | (simp [*]; done), rR gG.1, iJ⟩
 rw [if_neg c2] at h
 exact absurd h (by simp)
def dM.l0 : Nat → List (S52) → Int → Int → List ByteArray → List (S52) → Option (List ByteArray × (List (S52)))
 | 0, _, _, _, _, _ => none
 | k + 1, b, d, a, e, c => if a < d then (if 0 ≤ a then (if a < (b.length : Int) then ((dW.f ((aA b a).f1)).bind fun g => ((dW.f ((aA b a).f2)).bind fun h => (if c.length < 2199023255552 then (dM.l0 k b d (wrap64 (a + 1)) e (c ++ [(⟨(aA b a).f0, g, h⟩ : S52)])) else (none)))) else (none)) else (none)) else (some (e, c))
def dM.f (k : Nat) (aZ : List ByteArray) (aI : List (S52)) : Option (List ByteArray × (List (S52))) := (dW.f aZ).bind fun a => (dM.l0 k aI (aI.length : Int) 0 a ([] : List (S52)))
def dM.T5 : Bool × List (List Nat × List Nat) := (true, [([], []), ([0], [0]), ([], []), ([2], [2]), ([], []), ([4], [4]), ([5], [5]), ([], []), ([7], [7]), ([8, 6], [8]), ([3, 6, 9], [3, 6, 9]), ([10], [10]), ([1, 11, 9], [1, 11]), ([0, 1, 2, 3, 4, 5, 6, 7, 8, 9, 10, 11, 12], []), ([13, 12, 12, 0, 1, 2, 3, 4, 5, 6, 7, 8, 9, 10, 11, 12], [12, 13])])
def dM.B5 : List Nat := [0, 1, 0, 4, 0, 16, 48, 0, 128, 496, 1020, 2044, 4095, 8191, 16383]
theorem dM.tab5 : rtab .any (opsOf Tryz.f24 5) = dM.T5 := by kernel_rfl
theorem dM.Qe : o5 dM.T5.2 dM.B5 = true := by kernel_rfl
theorem dM.calls (k : Nat) (eE : Option Addr) (eF : Nat) (aZ : List ByteArray) (eV : Option Addr) (eC : Nat) (aI : List (S52)) (r1 : List ByteArray) (r2 : List (S52)) (w : World) (gP : Kd.C Kd.string w eE aZ.length aZ) (gN : aZ.length ≤ eF) (gK : Kd.C k52 w eV aI.length aI) (gO : aI.length ≤ eC) (h : dM.f k aZ aI = some (r1, r2)) :
  Calls Tryz.prog 24 #[.agg #[.slice eE aZ.length eF, .slice eV aI.length eC]] w fun e w' => ∃ v0_ v1_ : Value, e = .returned (.agg #[v0_, v1_]) ∧ Kd.R Kd.string 9 w' w.heap.size (fun _ => True) v0_ r1 ∧ Kd.S k52 52 w' w.heap.size (fun k_ => some k_ ≠ (v0_ : Value).ownBlock) v1_ r2 ∧ Below w.heap.size w w' := by
 have hu26 := Tryz.underlying26
 have hu52 := Tryz.underlying52
 obtain ⟨dT, dS⟩ := mZ2 gP gN
 obtain ⟨bV, eS⟩ := mZ2 gK gO
 clear gP gN gK gO
 have HB := am (Below.refl w.heap.size w)
 unfold dM.f at h
 have H := h
 clear h
 obtain ⟨pN, A2, H⟩ := bd H
 have H' := am H
 repeat clear H
 go_enter Tryz.func24, Tryz.ntmps24
 go_wp2_with (first | ((with_reducible refine gD 1 ?_); refine bX 1 #[.slice eE aZ.length eF, .slice eV aI.length eC] 26 ?_; intro aW hg w3 hbox hb; have a6 := am hbox; have iS := am (u4 : w.heap.size ≤ aW); have j5 := iS; replace HB := bS iJ hb; clear hb hbox hg) | ((with_reducible refine gD 2 ?_); refine bX 2 #[.slice none 0 0, .slice none 0 0] 26 ?_; intro bK hg w4 hbox hb; have aQ := am hbox; have qJ := am (EF : w.heap.size ≤ bK); have oI := qJ; replace HB := bS fH hb; have dJ := nL d3 hg; have dL := nG d3 hg; replace a6 := bB d3 hb; clear hb hbox hg; have Z5 := nZ1 dJ dL; have Z6 := cz2 a6) | ((with_reducible refine gC 28 ?_); refine cE (some 8) Tryz.func28 (dW.calls _ _ aZ pN _ (pB dT) dS.1 A2.out) ?_; rintro e w7 ⟨IV, rfl, eH, hb⟩; refine ⟨_, rfl, ?_⟩; have mX := am (Kd.dO eH (aG kO)); replace a6 := bB d3 hb; replace aQ := bB eW hb; replace HB := bS kO hb; clear hb eH; obtain ⟨QF, QJ, eo8⟩ := Kd.cZ mX.1; subst eo8) | ((with_reducible refine gD 3 ?_); refine bX 3 #[.slice none 0 0, .slice none 0 0] 26 ?_; intro TH hg w9 hbox hb; replace mX := am (Kd.jA (rR mX.1) hb); have kL := am hbox; have Og := am (UN : w.heap.size ≤ TH); have Of := Og; replace HB := bS kO hb; have rH := nL d3 hg; have xM := nG d3 hg; replace a6 := bB d3 hb; have tA := nL eW hg; have z6 := nG eW hg; replace aQ := bB eW hb; clear hb hbox hg; have Z10 := nZ2 xM rH z6 tA; have Ur := cz2 kL; have Us := cz2 a6))
 go_loopg [13] k (fun kq v13 w' => ∃ (mL : Int) (oX : List (S52)) (o3 : Value), v13 = .int .i64 mL ∧ aC (dM.l0 kq aI (aI.length : Int) mL pN oX = some (r1, r2)) ∧ aC (kq ≤ k) ∧ aC (Kd.R Kd.string 9 w' w.heap.size (fun _ => True) (.slice QF pN.length QJ) pN) ∧ aC (Kd.S k52 52 w' w.heap.size (fun k_ => some k_ ≠ ((.slice QF pN.length QJ) : Value).ownBlock) o3 oX) ∧ aC (w'.heap[aW]? = some (.cells #[(.slice eE aZ.length eF), (.slice eV aI.length eC)] 26 (0, 0))) ∧ aC (w'.heap[bK]? = some (.cells #[(.slice none 0 0), (.slice none 0 0)] 26 (0, 0))) ∧ aC (w'.heap[TH]? = some (.cells #[(.slice QF pN.length QJ), o3] 26 (0, 0))) ∧ aC (Below w.heap.size w w'))
 case atStart => exact ⟨(0), (([] : List (S52))), (.slice none 0 0), dU, H', ⟨Nat.le_refl _⟩, ⟨mR mX kL⟩, ⟨eN⟩, ⟨qF a6 rH⟩, ⟨qF aQ tA⟩, ⟨qP kL⟩, ⟨P8⟩⟩
 clear H'
 try clear Ur
 try clear Us
 try clear Z6
 obtain ⟨mL, oX, o3, rfl, HA, HK1, kQ, fQ, a6, aQ, kL, HB⟩ := hrel
 cases gk with
 | zero => exact absurd HA.out (by simp [dM.l0])
 | succ k1 =>
  have H := HA.out
  clear HA
  simp only [dM.l0] at H
  refine ic H ?_ ?_ <;> clear H <;> intro Aj H
  ·obtain ⟨Ak, H⟩ := cN H
   obtain ⟨GY, H⟩ := cN H
   obtain ⟨CY, A17, H⟩ := bd H
   obtain ⟨PK, A18, H⟩ := bd H
   obtain ⟨Ow, H⟩ := cL H
   obtain ⟨M8, MO⟩ := yv (oX ++ [(⟨(aA aI mL).f0, CY, PK⟩ : S52)]); first | replace H := bW MO H | rw [← MO.1] at H
   have H' := am H
   repeat clear H
   obtain ⟨wN, BU, CF, BV, CG, FW, t6, m0, m3, lY, pQ, rU, zP, YQ, YX⟩ := aT52 bV HB mL
   cases FW
   try go_wp2_with (first | ((with_reducible refine gD 5 ?_); refine bX 5 #[.string (⟨#[]⟩ : ByteArray), .slice none 0 0, .slice none 0 0] 52 ?_; intro o8 hg Nk hbox hb; replace kQ := RB P9 hb; replace fQ := am (Kd.wB (Kd.Ab TS o8 (Nat.le_of_eq hg.symm)) hb); have fE := am hbox; have C0 := am (by rw [hg]; exact (aG P8) : w.heap.size ≤ o8); have Hb := C0; replace HB := bS P8 hb; have gV := nL d3 hg; have nQ := nG d3 hg; replace a6 := bB d3 hb; have iK := nL eW hg; have qB := nG eW hg; replace aQ := bB eW hb; have OJ := nL YU hg; have VA := nG YU hg; replace kL := bB YU hb; clear hb hbox hg; have yq := nZ3 nQ gV qB iK VA OJ; have Z24 := cz3 fE))
   obtain ⟨ug, eW_⟩ := eW3 Nk o8 (.string ((aA aI mL).f0)) (.slice BU ((aA aI mL).f1).length CF) (.slice BV ((aA aI mL).f2).length CG)
   rw [← eW_]
   replace kQ : aC (Kd.R Kd.string 9 ug w.heap.size (fun _ => True) (.slice QF pN.length QJ) pN) := by rw [eW_]; exact ⟨mR kQ fE⟩
   replace fQ : aC (Kd.S k52 52 ug w.heap.size (fun k_ => some k_ ≠ (.slice QF pN.length QJ : Value).ownBlock ∧ k_ ≠ o8) o3 oX) := by rw [eW_]; exact ⟨by refine rS ?_; exact Kd.gX (fS (fS (fS (Kd.gX fQ.1 (fun k_ hk => (⟨hk, hk.2⟩ : _ ∧ k_ ≠ o8)))))) (fun _ hk => ⟨hk.1.1, hk.1.2⟩)⟩
   replace a6 := uF3 eW_ a6 gV
   replace aQ := uF3 eW_ aQ iK
   replace kL := uF3 eW_ kL OJ
   replace fE := uP3 eW_ fE
   replace HB := uC3 eW_ HB Hb
   clear eW_
   replace kQ := RD kQ
   replace fQ := SD fQ
   replace a6 := BD a6
   replace aQ := BD aQ
   replace kL := BD kL
   replace fE := BD fE
   replace HB := am (aY HB.1)
   refine sT [14] 15 (uB2 kL (uA3 fE)) (fun hHeld => ?_)
   refine fP dM.tab5 dM.Qe (fun HT_ HW_ => ?_)
   generalize ug.drew = w26 at kQ fQ a6 aQ kL fE HB hHeld ⊢
   refine pU4 0 2 4 7 ?_
   refine tK5 1 (some 18) ?_
   refine tK5 3 (some 20) ?_
   refine tK5 5 (some 22) ?_
   refine tK5 8 (some 25) ?_
   refine oN 6 (some 23) fun K hK => ?_
   refine gE Tryz.func28 (dW.calls _ _ ((aA aI mL).f1) CY _ (pB lY) pQ.1 A17.out) ?_
   rintro e w27 ⟨sc, rfl, eH, hb⟩
   refine ⟨_, rfl, ?_⟩
   replace fQ := am (Kd.EQ TS (Kd.bT eH) hb)
   have wM := am (Kd.dO (Kd.fF eH (Kd.R_lt P9)) (aG Gc))
   replace kQ := am (Kd.dV P9 (Kd.bT eH) hb)
   replace a6 := bB d3 hb
   replace aQ := bB eW hb
   replace kL := bB YU hb
   replace fE := bB K3 hb
   replace HB := bS Gc hb
   clear hb eH
   refine nK hK (uB2 kL (uA3 fE)).1 fun hHeld => ?_
   clear hK K
   refine oN 9 (some 26) fun K hK => ?_
   refine gE Tryz.func28 (dW.calls _ _ ((aA aI mL).f2) PK _ (pB rU) zP.1 A18.out) ?_
   rintro e w28 ⟨Yp, rfl, eH, hb⟩
   refine ⟨_, rfl, ?_⟩
   replace fQ := am (Kd.EQ TS (Kd.bT eH) hb)
   have GS := am (Kd.dO (Kd.fF (Kd.fF eH (Kd.R_lt P9)) (Kd.R_lt (rR wM.1))) (aG Gc))
   replace kQ := am (Kd.dV P9 (Kd.bT eH) hb)
   replace wM := am (Kd.dV (rR wM.1) (Kd.bT eH) hb)
   replace a6 := bB d3 hb
   replace aQ := bB eW hb
   replace kL := bB YU hb
   replace fE := bB K3 hb
   replace HB := bS Gc hb
   clear hb eH
   obtain ⟨BH, AM, Ww⟩ := Kd.cZ GS.1
   (first | subst Ww | (obtain ⟨f4_, f5_⟩ := sj Ww; subst f4_; subst f5_))
   obtain ⟨K0, IC, Wx⟩ := Kd.cZ wM.1
   (first | subst Wx | (obtain ⟨f4_, f5_⟩ := sj Wx; subst f4_; subst f5_))
   refine nK hK (uB2 kL (uA3 fE)).1 fun hHeld => ?_
   clear hK K
   refine pU1 10 ?_
   refine oN 11 (some 28) fun K hK => ?_
   refine M6 (w1 := ?_) (v := ?_) (by rfl) rfl ?_ ?_
   rotate_left 2
   ·go_simp
    constructor
    ·rfl
    ·rfl
   refine hK.out _ _ ⟨(bP (bF kL.1 _) 0).trans rfl, (bP (bF kL.1 _) 1).trans rfl, (bP (bF fE.1 _) 0).trans rfl, (bP (bF fE.1 _) 1).trans rfl, (bP (bF fE.1 _) 2).trans rfl⟩ (fun hHeld => ?_)
   clear hK K
   refine nM ?_
   refine oN 12 (some 29) fun K hK => ?_
   refine Kd.E8 k52 (w0 := w) w.heap.size (by rfl) (.tmp 18) (.tmp 28) 24 52 Ag0 64 rfl Tryz.underlying24 tZ rfl (by decide) (by omega) o3 oX (⟨(aA aI mL).f0, CY, PK⟩ : S52) [.string ((aA aI mL).f0), .slice K0 CY.length IC, .slice BH PK.length AM] (fun k_ => some k_ ≠ (.slice QF pN.length QJ : Value).ownBlock ∧ k_ ≠ o8) (fun k_ => some k_ = (.slice K0 CY.length IC : Value).ownBlock ∨ some k_ = (.slice BH PK.length AM : Value).ownBlock) rfl rfl ?aP (fun k_ hk_ => hk_.elim (fun h_ => ((Kd.aT (ok' := fun k_ => ((fun k_ => some k_ ≠ (.slice QF pN.length QJ : Value).ownBlock ∧ k_ ≠ o8)) k_ ∧ some k_ ≠ (o3 : Value).ownBlock) (Kd.gZ (Kd.iU (wM.1) (Kd.nC fQ.1) (by decide)) fE.1 (by decide)) (fun k_ hk => ⟨⟨hk.1.1.1.2, hk.2⟩, hk.1.2⟩))).1 k_ h_.symm) (fun h_ => ((Kd.aT (ok' := fun k_ => ((fun k_ => some k_ ≠ (.slice QF pN.length QJ : Value).ownBlock ∧ k_ ≠ o8)) k_ ∧ some k_ ≠ (o3 : Value).ownBlock) (Kd.gZ (Kd.iU (GS.1) (Kd.nC fQ.1) (by decide)) fE.1 (by decide)) (fun k_ hk => ⟨⟨hk.1.1.1.2, hk.2⟩, hk.1.2⟩))).1 k_ h_.symm)) ?aF ?aO ?aB ?aS ?aL ?_
   (case aP => exact DR _ _ _ (⟨(aA aI mL).f0, CY, PK⟩ : S52) (Kd.aT (Kd.nA rfl (Kd.aT (ok' := fun k_ => ((fun k_ => some k_ ≠ (.slice QF pN.length QJ : Value).ownBlock ∧ k_ ≠ o8)) k_ ∧ some k_ ≠ (o3 : Value).ownBlock) (Kd.gZ (Kd.iU (wM.1) (Kd.nC fQ.1) (by decide)) fE.1 (by decide)) (fun k_ hk => ⟨⟨hk.1.1.1.2, hk.2⟩, hk.1.2⟩))) (fun _ h_ => Or.inl h_)) (Kd.aT (Kd.nA rfl (Kd.aT (ok' := fun k_ => ((fun k_ => some k_ ≠ (.slice QF pN.length QJ : Value).ownBlock ∧ k_ ≠ o8)) k_ ∧ some k_ ≠ (o3 : Value).ownBlock) (Kd.gZ (Kd.iU (GS.1) (Kd.nC fQ.1) (by decide)) fE.1 (by decide)) (fun k_ hk => ⟨⟨hk.1.1.1.2, hk.2⟩, hk.1.2⟩))) (fun _ h_ => Or.inr (h_))) (Tp wM.1 GS.1))
   (case aB => exact Gc)
   (case aF => exact (fun k_ hk => ⟨Kd.fresh' (Kd.R_lt P9) k_ hk, fB K3 k_ hk⟩))
   (case aO => exact (by refine rS ?_; exact Kd.gX fQ.1 (fun k_ hk => ⟨⟨hk.1.1.1, hk.1.1.2⟩, fun e_ => e_.elim (fun h_ => hk.1.2 h_) (fun h_ => hk.2 h_)⟩)))
   (case aS => exact (aG Gc))
   (case aL => have := Ow.out; omega)
   intro Da se ho hb hg hat
   rw [← MO.out] at ho
   replace kQ := am (Kd.uQ P9 (Kd.nC TS) (by decide) hg)
   replace a6 := gkS d3 hg fQ a6
   replace aQ := gkS eW hg fQ aQ
   replace kL := gkS YU hg fQ kL
   replace fE := am (wC (g := o8) (o := .cells #[.string ((aA aI mL).f0), .slice BU ((aA aI mL).f1).length CF, .slice BV ((aA aI mL).f2).length CG] 52 (0, 0)) K3 hg (Kd.jq fQ.1 (fun _ hk => hk.1.1.2)))
   replace HB := am hb
   have wR := am ho
   clear fQ
   clear wM
   clear GS
   clear ho hb hg hat
   obtain ⟨aAN, aCL, a1M⟩ := Kd.FN wR.1
   (first | subst a1M | (obtain ⟨f4_, f5_⟩ := sj a1M; subst f4_; subst f5_))
   refine nK hK (uB2 kL (uA3 fE)).1 fun hHeld => ?_
   clear hK K
   refine pU1 13 ?_
   refine lN 14 none fun K hK => ?_
   have aSX : se.cell? ⟨TH, 1, none⟩ = some (o3) := (bP kL.1 1).trans rfl
   have aLJ := gF kL.1 1
   have a94 := rH.1
   have a95 := tA.1
   have a96 := VA.1
   have a7Y := xM.1
   have a7Z := z6.1
   have a81 := OJ.1
   refine AC (w1 := ?_) (by rfl) rfl ?_ ?_
   rotate_left
   ·go_simp
    rfl
   refine hK.out _ _ ?_
   clear hK K
   refine dN ?_
   try go_wp2
   go_roundg k1
   case measure => have := HK1.out; omega
   case rel => exact ⟨(wrap64 (mL + 1)), (M8), (.slice aAN M8.length aCL), dU, H', ⟨by have := HK1.out; omega⟩, ⟨mR kQ kL⟩, ⟨mS wR kL⟩, ⟨qF a6 rH⟩, ⟨qF aQ tA⟩, ⟨by refine rB ?_; refine cO (cs := #[.slice QF pN.length QJ, o3]) ?_ 1 _ rfl; refine rB ?_; exact kL.1⟩, ⟨Gc⟩⟩
  ·obtain ⟨rfl, rfl⟩ := sZ2 H
   repeat clear H
   have Z34 := nZ2 xM rH z6 tA
   have Z36 := cz2 kL
   have Z37 := nZ1 dL dJ
   have Z38 := cz2 aQ
   obtain ⟨aAQ, aCO, aDC⟩ := Kd.FN fQ.1
   subst aDC
   go_wp2
   refine cR bK 26 #[.slice QF pN.length QJ, .slice aAQ oX.length aCO] (qP aQ) Tryz.underlying26 ?_
   exact ⟨_, _, eR, mR kQ aQ, mS fQ aQ, P8⟩
abbrev IB := S52
def gB (l : List IB) (i : Nat) : IB := l.getD i z52
theorem iV (l : List IB) (i : Nat) : aA l (i : Int) = gB l i := by unfold aA gB; rw [Int.toNat_natCast]
theorem getD_lt {α : Type} (l : List α) (z : α) {i : Nat} (h : i < l.length) : l.getD i z = l[i] := by rw [List.getD_eq_getElem?_getD, List.getElem?_eq_getElem h]; rfl
theorem mE (n : Int) (h : -9223372036854775808 ≤ n ∧ n ≤ 9223372036854775807) : wrap64 n = n := by unfold wrap64; omega
def kJ (l : List IB) : Nat := (l.map fun b => 1 + b.f1.length + b.f2.length).sum
theorem vR (b : IB) (r : List IB) : kJ (b :: r) = 1 + b.f1.length + b.f2.length + kJ r := by simp [kJ]
theorem Ev.pos {α : Type} {c : Prop} [Decidable c] {a b : Nat → Option α} {r : α} (h : c) (H : Ev a r) : Ev (fun k => if c then a k else b k) r := by
 obtain ⟨K, hK⟩ := H
 exact ⟨K, fun k hk => by simp only [if_pos h]; exact hK k hk⟩
theorem Ev.neg {α : Type} {c : Prop} [Decidable c] {a b : Nat → Option α} {r : α} (h : ¬ c) (H : Ev b r) : Ev (fun k => if c then a k else b k) r := by
 obtain ⟨K, hK⟩ := H
 exact ⟨K, fun k hk => by simp only [if_neg h]; exact hK k hk⟩
theorem Ev.ret {α : Type} {r s : α} (h : r = s) : Ev (fun _ => some r) s := ⟨0, fun _ _ => by rw [h]⟩
theorem Ev.sub {α : Type} {g : Nat → Option α} {r s : α} (H : Ev g r) (h : r = s) : Ev g s := h ▸ H
theorem Ev.test {α : Type} {a b : Nat → Option α} {r : α} (t : Bool) (H1 : t = true → Ev a r) (H2 : t = false → Ev b r) : Ev (fun k => if t = true then a k else b k) r := by
 cases t with
 | true => exact Ev.pos rfl (H1 rfl)
 | false => exact Ev.neg (by simp) (H2 rfl)
theorem Ev.prop {α : Type} {c : Prop} [Decidable c] {a b : Nat → Option α} {r : α} (H1 : c → Ev a r) (H2 : ¬ c → Ev b r) : Ev (fun k => if c then a k else b k) r := by
 by_cases h : c
 ·exact Ev.pos h (H1 h)
 exact Ev.neg h (H2 h)
theorem Ev.loop {α : Type} {f : Nat → Nat → Option α} {val : Nat → α} (n : Nat) (hend : Ev (fun k => f k n) (val n))
    (hstep : ∀ i, i < n → Ev (fun k => f k (i + 1)) (val (i + 1)) → Ev (fun k => f k i) (val i)) : ∀ i, i ≤ n → Ev (fun k => f k i) (val i) := by
 intro i hi
 obtain ⟨d, hd⟩ : ∃ d, n - i = d := ⟨_, rfl⟩
 induction d generalizing i with
 | zero => have : i = n := by omega
           subst this; exact hend
 | succ d ih => exact hstep i (by omega) (ih (i + 1) (by omega) (by omega))
def allR (P : Nat → Bool) (n i : Nat) : Bool := (List.range' i (n - i)).all P
def anyR (P : Nat → Bool) (n i : Nat) : Bool := (List.range' i (n - i)).any P
theorem C9 (P : Nat → Bool) (n : Nat) : allR P n n = true := by simp [allR]
theorem SQ (P : Nat → Bool) (n : Nat) : anyR P n n = false := by simp [anyR]
theorem zD (P : Nat → Bool) {n i : Nat} (h : i < n) : allR P n i = (P i && allR P n (i + 1)) := by
 unfold allR; rw [show n - i = (n - (i + 1)) + 1 by omega, List.range'_succ, List.all_cons]
theorem OU (P : Nat → Bool) {n i : Nat} (h : i < n) : anyR P n i = (P i || anyR P n (i + 1)) := by
 unfold anyR; rw [show n - i = (n - (i + 1)) + 1 by omega, List.range'_succ, List.any_cons]
theorem uA (P : Nat → Bool) (n i : Nat) : allR P n i = true ↔ ∀ j, i ≤ j → j < n → P j = true := by
 unfold allR; rw [List.all_eq_true]
 constructor
 ·intro h j h1 h2; exact h j (by rw [List.mem_range'_1]; omega)
 intro h j hj; rw [List.mem_range'_1] at hj; exact h j (by omega) (by omega)
theorem SS (P : Nat → Bool) (n i : Nat) : anyR P n i = true ↔ ∃ j, i ≤ j ∧ j < n ∧ P j = true := by
 unfold anyR; rw [List.any_eq_true]
 constructor
 ·rintro ⟨j, hj, h⟩; rw [List.mem_range'_1] at hj; exact ⟨j, by omega, by omega, h⟩
 rintro ⟨j, h1, h2, h⟩; exact ⟨j, by rw [List.mem_range'_1]; omega, h⟩
theorem Ev.RN {f : Nat → Nat → Option Bool} {P : Nat → Bool} (n : Nat) (hend : Ev (fun k => f k n) true)
    (hyes : ∀ i r, i < n → P i = true → Ev (fun k => f k (i + 1)) r → Ev (fun k => f k i) r) (hno : ∀ i, i < n → P i = false → Ev (fun k => f k i) false) : ∀ i, i ≤ n → Ev (fun k => f k i) (allR P n i) :=
  Ev.loop (val := allR P n) n (by rw [C9]; exact hend) fun i hi H => by
    rw [zD P hi]
    cases h : P i with
    | true => exact hyes i _ hi h H
    | false => exact hno i hi h
theorem Ev.YM {f : Nat → Nat → Option Bool} {P : Nat → Bool} (n : Nat) (hend : Ev (fun k => f k n) false)
    (hno : ∀ i r, i < n → P i = false → Ev (fun k => f k (i + 1)) r → Ev (fun k => f k i) r) (hyes : ∀ i, i < n → P i = true → Ev (fun k => f k i) true) : ∀ i, i ≤ n → Ev (fun k => f k i) (anyR P n i) :=
  Ev.loop (val := anyR P n) n (by rw [SQ]; exact hend) fun i hi H => by
    rw [OU P hi]
    cases h : P i with
    | false => exact hno i _ hi h H
    | true => exact hyes i hi h
theorem OT {α : Type} (p : α → Bool) (z : α) (l : List α) : anyR (fun j => p (l.getD j z)) l.length 0 = l.any p := by
 rw [Bool.eq_iff_iff, SS, List.any_eq_true]
 constructor
 ·rintro ⟨j, _, h, hp⟩; exact ⟨l.getD j z, by rw [List.getD_eq_getElem?_getD, List.getElem?_eq_getElem h]; exact List.getElem_mem h, hp⟩
 rintro ⟨x, hx, hp⟩; obtain ⟨j, h, rfl⟩ := List.getElem_of_mem hx; exact ⟨j, by omega, h, by rw [List.getD_eq_getElem?_getD, List.getElem?_eq_getElem h]; exact hp⟩
theorem Mr {α : Type} (d : α) (l : List α) (i : Nat) : rdOf d l (i : Int) = l.getD i d := by
 unfold rdOf; rw [Int.toNat_natCast]
theorem jR {i n : Nat} (h : i < n) (hn : n ≤ 9223372036854775807) : wrap64 ((i : Int) + 1) = ((i + 1 : Nat) : Int) := by
 unfold wrap64; omega
theorem WF {i : Nat} (h : 0 < i) (hn : i ≤ 9223372036854775807) : wrap64 ((i : Int) - 1) = ((i - 1 : Nat) : Int) := by
 unfold wrap64; omega
theorem toList_inj {a b : ByteArray} : a.toList = b.toList ↔ a = b := by
 constructor
 ·intro h
  rw [ByteArray.toList_eq, ByteArray.toList_eq] at h
  cases a; cases b
  simpa using h
 intro h; rw [h]
def gS (l : List ByteArray) (i : Nat) : ByteArray := l.getD i ByteArray.empty
def ltB (a b : ByteArray) : Bool := Op.bytesLess a.toList b.toList
theorem mQ (l : List ByteArray) (i : Nat) : rdOf ByteArray.empty l (i : Int) = gS l i := Mr _ _ _
def AR (l all : List ByteArray) (j : Nat) : Bool := hasS all (gS l j) && (decide (j = 0) || ltB (gS l (j - 1)) (gS l j))
def mM (l all : List ByteArray) : Bool := allR (AR l all) l.length 0
def nV (a b : List ByteArray) : Bool := a.any (hasS b)
def GH (l : List ByteArray) (j : Nat) : Bool := wW (gS l j) && (decide (j = 0) || ltB (gS l (j - 1)) (gS l j))
def GG (l : List ByteArray) : Bool := decide (l.length ≤ 8) && allR (GH l) l.length 0
theorem ER {α : Type} {l : List ByteArray} {i : Nat} (hi : i < l.length) (hl : l.length ≤ 9223372036854775807) {a b : Nat → Option α} {r : α}
  (H1 : (decide (i = 0) || ltB (gS l (i - 1)) (gS l i)) = true → Ev a r) (H2 : (decide (i = 0) || ltB (gS l (i - 1)) (gS l i)) = false → Ev b r) :
  Ev (fun k => if (i : Int) > 0 then (if 0 ≤ (wrap64 ((i : Int) - 1)) then (if (wrap64 ((i : Int) - 1)) < (l.length : Int) then (if ((Op.bytesLess ((rdOf ByteArray.empty l (wrap64 ((i : Int) - 1))).toList) ((rdOf ByteArray.empty l (i : Int)).toList)) = true) then a k else b k) else none) else none) else a k) r := by
 by_cases h0 : i = 0
 ·exact Ev.neg (by omega) (H1 (by simp [h0]))
 rw [WF (by omega) (by omega), mQ, mQ]
 refine Ev.pos (by omega) (Ev.pos (by omega) (Ev.pos (by omega) (Ev.test _ (fun h => H1 ?_) (fun h => H2 ?_))))
 ·simp only [ltB, h, Bool.or_true]
 simp only [ltB, h, h0, decide_false, Bool.or_false]
theorem Z0 (n low high : Int) : xU.f n low high = some (decide (low ≤ n) && decide (n ≤ high)) := by
 unfold xU.f
 by_cases h : n ≥ low
 ·rw [if_pos h, show decide (low ≤ n) = true from decide_eq_true h]; rfl
 rw [if_neg h, show decide (low ≤ n) = false from decide_eq_false h]; rfl
theorem wJ (s : ByteArray) : Ev (fun k => dF.f k s) (wW s) := by
 unfold dF.f
 simp only [Z0, Option.bind_some]
 refine Ev.test _ (fun h => ?_) (fun h => ?_)
 ·simp only [Bool.and_eq_true, decide_eq_true_eq] at h
  have E := Ev.RN (f := fun k i => dF.l0 k s (i : Int)) (P := fun j => okc (bt s (j : Int))) s.size
    (by refine Ev.step (fun k => dF.l0.eq_2 s _ k) ?_
        exact Ev.neg (by omega) (Ev.ret rfl))
    (fun i r hi hp H => by
      refine Ev.step (fun k => dF.l0.eq_2 s _ k) ?_
      refine Ev.pos (by omega) (Ev.pos (by omega) ?_)
      simp only [YP]
      rw [jR hi (by omega)]
      exact Ev.pos hp H)
    (fun i hi hp => by
      refine Ev.step (fun k => dF.l0.eq_2 s _ k) ?_
      refine Ev.pos (by omega) (Ev.pos (by omega) ?_)
      simp only [YP]
      exact Ev.neg (by simp [hp]) (Ev.ret rfl)) 0 (by omega)
  refine Ev.sub E ?_
  unfold wW allR
  rw [show decide (1 ≤ s.size) = true from decide_eq_true (by omega), show decide (s.size ≤ 8) = true from decide_eq_true (by omega)]
  rfl
 refine Ev.ret ?_
 unfold wW
 by_cases h1 : 1 ≤ s.size
 ·by_cases h2 : s.size ≤ 8
  ·have : (decide ((1 : Int) ≤ (s.size : Int)) && decide ((s.size : Int) ≤ 8)) = true := by simp; omega
   rw [this] at h; cases h
  simp [h2]
 simp [h1]
theorem sM (l : List ByteArray) (s : ByteArray) (hl : l.length ≤ 9223372036854775807) : Ev (fun k => eP.f k l s) (hasS l s) := by
 unfold eP.f
 have E := Ev.YM (f := fun k i => eP.l0 k l s (i : Int)) (P := fun j => (fun x : ByteArray => s.toList == x.toList) (l.getD j ByteArray.empty)) l.length
   (by refine Ev.step (fun k => eP.l0.eq_2 l s _ k) ?_
       exact Ev.neg (by omega) (Ev.ret rfl))
   (fun i r hi hp H => by
     refine Ev.step (fun k => eP.l0.eq_2 l s _ k) ?_
     refine Ev.pos (by omega) (Ev.pos (by omega) ?_)
     rw [jR hi hl, mQ]
     exact Ev.neg (fun e => by simp [← e, gS] at hp) H)
   (fun i hi hp => by
     refine Ev.step (fun k => eP.l0.eq_2 l s _ k) ?_
     refine Ev.pos (by omega) (Ev.pos (by omega) ?_)
     rw [mQ]
     exact Ev.pos (beq_iff_eq.mp (show (s.toList == (gS l i).toList) = true from hp)).symm (Ev.ret rfl)) 0 (by omega)
 exact Ev.sub E (OT (fun x : ByteArray => s.toList == x.toList) ByteArray.empty l)
theorem DN (l : List ByteArray) (s : ByteArray) (hl : l.length ≤ 9223372036854775807) : Ev (fun k => bJ.f k l s) (hasS l s) :=
  Ev.of (bJ.mono l s) (IE l s hl)
theorem Jw (s : ByteArray) : Ev (fun k => dX.f k s) (wW s) := Ev.of (dX.mono s) (Jv s)
theorem sF (l all : List ByteArray) (hl : l.length ≤ 9223372036854775807) (ha : all.length ≤ 9223372036854775807) : Ev (fun k => dI.f k l all) (mM l all) := by
 unfold dI.f
 refine Ev.RN (f := fun k i => dI.l0 k l all (i : Int)) (P := AR l all) l.length
   (by refine Ev.step (fun k => dI.l0.eq_2 l all _ k) ?_
       exact Ev.neg (by omega) (Ev.ret rfl))
   (fun i r hi hp H => by
     simp only [AR, Bool.and_eq_true] at hp
     refine Ev.step (fun k => dI.l0.eq_2 l all _ k) ?_
     refine Ev.pos (by omega) (Ev.pos (by omega) (Ev.bind (sM all _ ha) ?_))
     rw [mQ, hp.1]
     refine Ev.pos rfl (ER hi hl (fun _ => ?_) (fun h => by rw [hp.2] at h; cases h))
     rw [jR hi hl]
     exact H)
   (fun i hi hp => by
     refine Ev.step (fun k => dI.l0.eq_2 l all _ k) ?_
     refine Ev.pos (by omega) (Ev.pos (by omega) (Ev.bind (sM all _ ha) ?_))
     rw [mQ]
     refine Ev.test _ (fun h1 => ER hi hl (fun h2 => ?_) (fun h => Ev.ret rfl)) (fun _ => Ev.ret rfl)
     simp only [AR, h1, h2, Bool.and_true] at hp
     cases hp) 0 (by omega)
theorem zI (l all : List ByteArray) (hl : l.length ≤ 9223372036854775807) (ha : all.length ≤ 9223372036854775807) : Ev (fun k => iC.f k l all) (mM l all) := by
 unfold iC.f
 refine Ev.RN (f := fun k i => iC.l0 k l all l (l.length : Int) (i : Int)) (P := AR l all) l.length
   (by refine Ev.step (fun k => iC.l0.eq_2 l all l _ _ k) ?_
       exact Ev.neg (by omega) (Ev.ret rfl))
   (fun i r hi hp H => by
     simp only [AR, Bool.and_eq_true] at hp
     refine Ev.step (fun k => iC.l0.eq_2 l all l _ _ k) ?_
     refine Ev.pos (by omega) (Ev.pos (by omega) (Ev.pos (by omega) (Ev.bind (DN all _ ha) ?_)))
     rw [mQ, hp.1]
     refine Ev.pos rfl (ER hi hl (fun _ => ?_) (fun h => by rw [hp.2] at h; cases h))
     rw [jR hi hl]
     exact H)
   (fun i hi hp => by
     refine Ev.step (fun k => iC.l0.eq_2 l all l _ _ k) ?_
     refine Ev.pos (by omega) (Ev.pos (by omega) (Ev.pos (by omega) (Ev.bind (DN all _ ha) ?_)))
     rw [mQ]
     refine Ev.test _ (fun h1 => ER hi hl (fun h2 => ?_) (fun h => Ev.ret rfl)) (fun _ => Ev.ret rfl)
     simp only [AR, h1, h2, Bool.and_true] at hp
     cases hp) 0 (by omega)
theorem LY (l : List ByteArray) : Ev (fun k => fV.f k l) (GG l) := by
 unfold fV.f GG
 refine Ev.prop (fun h => Ev.ret (by rw [show decide (l.length ≤ 8) = false from decide_eq_false (by omega)]; rfl)) (fun h => ?_)
 rw [show decide (l.length ≤ 8) = true from decide_eq_true (by omega), Bool.true_and]
 have hl : l.length ≤ 9223372036854775807 := by omega
 refine Ev.RN (f := fun k i => fV.l0 k l (i : Int)) (P := GH l) l.length
   (by refine Ev.step (fun k => fV.l0.eq_2 l _ k) ?_
       exact Ev.neg (by omega) (Ev.ret rfl))
   (fun i r hi hp H => by
     simp only [GH, Bool.and_eq_true] at hp
     refine Ev.step (fun k => fV.l0.eq_2 l _ k) ?_
     refine Ev.pos (by omega) (Ev.pos (by omega) (Ev.bind (wJ _) ?_))
     rw [mQ, hp.1]
     refine Ev.pos rfl (ER hi hl (fun _ => ?_) (fun h => by rw [hp.2] at h; cases h))
     rw [jR hi hl]
     exact H)
   (fun i hi hp => by
     refine Ev.step (fun k => fV.l0.eq_2 l _ k) ?_
     refine Ev.pos (by omega) (Ev.pos (by omega) (Ev.bind (wJ _) ?_))
     rw [mQ]
     refine Ev.test _ (fun h1 => ER hi hl (fun h2 => ?_) (fun h => Ev.ret rfl)) (fun _ => Ev.ret rfl)
     simp only [GH, h1, h2, Bool.and_true] at hp
     cases hp) 0 (by omega)
theorem AV (a b : List ByteArray) (ha : a.length ≤ 9223372036854775807) (hb : b.length ≤ 9223372036854775807) : Ev (fun k => fI.f k a b) (nV a b) := by
 unfold fI.f
 have E := Ev.YM (f := fun k i => fI.l0 k a b (i : Int)) (P := fun j => hasS b (a.getD j ByteArray.empty)) a.length
   (by refine Ev.step (fun k => fI.l0.eq_2 a b _ k) ?_
       exact Ev.neg (by omega) (Ev.ret rfl))
   (fun i r hi hp H => by
     refine Ev.step (fun k => fI.l0.eq_2 a b _ k) ?_
     refine Ev.pos (by omega) (Ev.pos (by omega) (Ev.bind (sM b _ hb) ?_))
     rw [mQ, jR hi ha]
     exact Ev.neg (by rw [show hasS b (gS a i) = false from hp]; simp) H)
   (fun i hi hp => by
     refine Ev.step (fun k => fI.l0.eq_2 a b _ k) ?_
     refine Ev.pos (by omega) (Ev.pos (by omega) (Ev.bind (sM b _ hb) ?_))
     rw [mQ]
     exact Ev.pos hp (Ev.ret rfl)) 0 (by omega)
 exact Ev.sub E (OT (hasS b) ByteArray.empty a)
def Bok (bs : List IB) : Prop := ∀ b ∈ bs, b.f1.length ≤ 9223372036854775807 ∧ b.f2.length ≤ 9223372036854775807
theorem Bok.at_ {bs : List IB} (h : Bok bs) {i : Nat} (hi : i < bs.length) : (gB bs i).f1.length ≤ 9223372036854775807 ∧ (gB bs i).f2.length ≤ 9223372036854775807 := by
 rw [show gB bs i = bs[i] from getD_lt bs _ hi]; exact h _ (List.getElem_mem hi)
def uL (ts : List ByteArray) (bs : List IB) (i : Nat) : Bool :=
  wW (gB bs i).f0 && ((decide (i = 0) || ltB (gB bs (i - 1)).f0 (gB bs i).f0) && (mM (gB bs i).f2 ts && mM (gB bs i).f1 (gB bs i).f2))
def yU (bs : List IB) (i : Nat) : Bool := allR (fun q => !nV (gB bs i).f1 (gB bs q).f1) i 0
def q8 (ts : List ByteArray) (bs : List IB) : Bool := GG ts && (decide (bs.length ≤ 5) && allR (fun i => uL ts bs i && yU bs i) bs.length 0)
theorem VH {α : Type} {bs : List IB} {i : Nat} (hi : i < bs.length) (hl : bs.length ≤ 9223372036854775807) {a b : Nat → Option α} {r s : α} (H1 : Ev a r) (H2 : Ev b s) :
  Ev (fun k => if (i : Int) > 0 then (if 0 ≤ (wrap64 ((i : Int) - 1)) then (if (wrap64 ((i : Int) - 1)) < (bs.length : Int) then (if ((Op.bytesLess (((aA bs (wrap64 ((i : Int) - 1))).f0).toList) (((aA bs (i : Int)).f0).toList)) = true) then a k else b k) else none) else none) else a k)
   (if (decide (i = 0) || ltB (gB bs (i - 1)).f0 (gB bs i).f0) = true then r else s) := by
 by_cases h0 : i = 0
 ·rw [if_pos (by simp [h0])]; exact Ev.neg (by omega) H1
 rw [WF (by omega) (by omega), iV, iV, show (decide (i = 0) || ltB (gB bs (i - 1)).f0 (gB bs i).f0) = ltB (gB bs (i - 1)).f0 (gB bs i).f0 from by simp [h0]]
 refine Ev.pos (by omega) (Ev.pos (by omega) (Ev.pos (by omega) (Ev.test _ (fun h => ?_) (fun h => ?_))))
 ·rw [if_pos (show ltB (gB bs (i - 1)).f0 (gB bs i).f0 = true from h)]; exact H1
 rw [if_neg (by rw [show ltB (gB bs (i - 1)).f0 (gB bs i).f0 = false from h]; simp)]; exact H2
theorem pM (ts : List ByteArray) (bs : List IB) (ht : ts.length ≤ 9223372036854775807) (hl : bs.length ≤ 9223372036854775807) (hb : Bok bs) : Ev (fun k => aN.f k ts bs) (q8 ts bs) := by
 unfold aN.f q8
 have loop : Ev (fun k => aN.l0 k ((0 : Nat) : Int) ts bs) (allR (fun i => uL ts bs i && yU bs i) bs.length 0) := by
   refine Ev.loop (f := fun k i => aN.l0 k (i : Int) ts bs) (val := allR (fun i => uL ts bs i && yU bs i) bs.length) bs.length ?_ ?_ 0 (by omega)
   · rw [C9]
     refine Ev.step (fun k => aN.l0.eq_2 _ ts bs k) ?_
     exact Ev.neg (by omega) (Ev.ret rfl)
   · intro i hi H
     rw [zD _ hi]
     generalize allR (fun i => uL ts bs i && yU bs i) bs.length (i + 1) = r at H
     obtain ⟨b1, b2⟩ := hb.at_ hi
     have inner : Ev (fun k => aN.l1 k (i : Int) ((0 : Nat) : Int) ts bs (gB bs i).f0 (gB bs i).f1 (gB bs i).f2) (yU bs i && r) := by
       refine Ev.loop (f := fun k j => aN.l1 k (i : Int) (j : Int) ts bs (gB bs i).f0 (gB bs i).f1 (gB bs i).f2) (val := fun j => allR (fun q => !nV (gB bs i).f1 (gB bs q).f1) i j && r) i ?_ ?_ 0 (by omega)
       · simp only [C9, Bool.true_and]
         refine Ev.step (fun k => aN.l1.eq_2 _ _ ts bs _ _ _ k) ?_
         refine Ev.neg (by omega) ?_
         rw [jR hi hl]; exact H
       · intro j hj H2
         simp only [zD (fun q => !nV (gB bs i).f1 (gB bs q).f1) hj]
         refine Ev.step (fun k => aN.l1.eq_2 _ _ ts bs _ _ _ k) ?_
         refine Ev.pos (by omega) (Ev.pos (by omega) (Ev.pos (by omega) ?_))
         rw [iV, jR hj (by omega)]
         refine Ev.bind (AV _ _ b1 (hb.at_ (show j < bs.length by omega)).1) ?_
         refine Ev.test _ (fun h => Ev.ret (by rw [h]; rfl)) (fun h => Ev.sub H2 (by rw [h]; rfl))
     have j2 : ∀ b, Ev (fun k => aN.j2 k (i : Int) b ts bs (gB bs i).f0 (gB bs i).f1 (gB bs i).f2) (!b && (yU bs i && r)) := by
       intro b
       refine Ev.step (fun k => aN.j2.eq_2 _ _ ts bs _ _ _ k) ?_
       refine Ev.test _ (fun h => Ev.ret (by rw [h]; rfl)) (fun h => Ev.sub inner (by rw [h]; rfl))
     have X : Ev (fun k => (dI.f k (gB bs i).f2 ts).bind fun t => if t = true then ((dI.f k (gB bs i).f1 (gB bs i).f2).bind fun t2 => aN.j2 k (i : Int) (!t2) ts bs (gB bs i).f0 (gB bs i).f1 (gB bs i).f2) else aN.j2 k (i : Int) true ts bs (gB bs i).f0 (gB bs i).f1 (gB bs i).f2)
         (mM (gB bs i).f2 ts && mM (gB bs i).f1 (gB bs i).f2 && (yU bs i && r)) := by
       refine Ev.bind (sF _ _ b2 ht) ?_
       refine Ev.test _ (fun h => Ev.bind (sF _ _ b1 b2) (Ev.sub (j2 _) (by rw [h]; simp))) (fun h => Ev.sub (j2 _) (by rw [h]; simp))
     refine Ev.step (fun k => aN.l0.eq_2 _ ts bs k) ?_
     refine Ev.pos (by omega) (Ev.pos (by omega) (Ev.bind (wJ _) ?_))
     have A := VH hi hl X (j2 true)
     rw [iV] at *
     refine Ev.test _ (fun h => Ev.sub A ?_) (fun h => Ev.sub (j2 true) ?_)
     · simp only [uL, h, Bool.true_and]
       cases (decide (i = 0) || ltB (gB bs (i - 1)).f0 (gB bs i).f0) <;> simp [Bool.and_assoc]
     · simp [uL, h]
 have j0 : ∀ b, Ev (fun k => aN.j0 k b ts bs) (!b && allR (fun i => uL ts bs i && yU bs i) bs.length 0) := by
   intro b
   refine Ev.step (fun k => aN.j0.eq_2 _ ts bs k) ?_
   refine Ev.test _ (fun h => Ev.ret (by rw [h]; rfl)) (fun h => Ev.sub loop (by rw [h]; rfl))
 refine Ev.bind (LY ts) ?_
 refine Ev.test _ (fun h => Ev.sub (j0 _) ?_) (fun h => Ev.sub (j0 _) (by rw [h]; simp))
 rw [h, show (!decide ((bs.length : Int) > 5)) = decide (bs.length ≤ 5) from by rw [Bool.eq_iff_iff]; simp; omega]
 rfl
theorem U5 (ts : List ByteArray) : (decide (ts.length ≤ 8) && (mM ts ts && !(ts.any fun s => !wW s))) = GG ts := by
 unfold GG
 congr 1
 rw [Bool.eq_iff_iff, Bool.and_eq_true, mM, uA, uA]
 have hany : ((!(ts.any fun s => !wW s)) = true) ↔ ∀ s ∈ ts, wW s = true := by simp
 rw [hany]
 constructor
 ·rintro ⟨h1, h2⟩ j h0 hj
  have := h1 j h0 hj
  simp only [AR, Bool.and_eq_true] at this
  simp only [GH, Bool.and_eq_true]
  exact ⟨h2 _ (by rw [show gS ts j = ts[j] from getD_lt ts _ hj]; exact List.getElem_mem hj), this.2⟩
 intro h
 refine ⟨fun j h0 hj => ?_, fun s hs => ?_⟩
 ·have := h j h0 hj
  simp only [GH, Bool.and_eq_true] at this
  simp only [AR, Bool.and_eq_true]
  refine ⟨?_, this.2⟩
  unfold hasS
  rw [List.any_eq_true]
  exact ⟨gS ts j, by rw [show gS ts j = ts[j] from getD_lt ts _ hj]; exact List.getElem_mem hj, by simp⟩
 obtain ⟨j, hj, rfl⟩ := List.getElem_of_mem hs
 have := h j (by omega) hj
 simp only [GH, Bool.and_eq_true] at this
 rw [← show gS ts j = ts[j] from getD_lt ts _ hj]
 exact this.1
theorem kW (ts : List ByteArray) (bs : List IB) (ht : ts.length ≤ 9223372036854775807) (hl : bs.length ≤ 9223372036854775807) (hb : Bok bs) : Ev (fun k => aM.f k ts bs) (q8 ts bs) := by
 unfold aM.f q8
 have loop : Ev (fun k => aM.l0 k bs (bs.length : Int) ((0 : Nat) : Int) ts bs) (allR (fun i => uL ts bs i && yU bs i) bs.length 0) := by
   refine Ev.loop (f := fun k i => aM.l0 k bs (bs.length : Int) (i : Int) ts bs) (val := allR (fun i => uL ts bs i && yU bs i) bs.length) bs.length ?_ ?_ 0 (by omega)
   · rw [C9]
     refine Ev.step (fun k => aM.l0.eq_2 bs _ _ ts bs k) ?_
     exact Ev.neg (by omega) (Ev.ret rfl)
   · intro i hi H
     rw [zD _ hi]
     generalize allR (fun i => uL ts bs i && yU bs i) bs.length (i + 1) = r at H
     obtain ⟨b1, b2⟩ := hb.at_ hi
     have inner : Ev (fun k => aM.l1 k bs (bs.length : Int) (i : Int) (bs.take i) ((bs.take i).length : Int) ((0 : Nat) : Int) ts bs (gB bs i).f0 (gB bs i).f1 (gB bs i).f2) (yU bs i && r) := by
       have hlen : (bs.take i).length = i := by rw [List.length_take]; omega
       refine Ev.loop (f := fun k j => aM.l1 k bs (bs.length : Int) (i : Int) (bs.take i) ((bs.take i).length : Int) (j : Int) ts bs (gB bs i).f0 (gB bs i).f1 (gB bs i).f2) (val := fun j => allR (fun q => !nV (gB bs i).f1 (gB bs q).f1) i j && r) i ?_ ?_ 0 (by omega)
       · simp only [C9, Bool.true_and]
         refine Ev.step (fun k => aM.l1.eq_2 _ _ _ _ _ _ ts bs _ _ _ k) ?_
         refine Ev.neg (by rw [hlen]; omega) ?_
         rw [jR hi hl]; exact H
       · intro j hj H2
         simp only [zD (fun q => !nV (gB bs i).f1 (gB bs q).f1) hj]
         refine Ev.step (fun k => aM.l1.eq_2 _ _ _ _ _ _ ts bs _ _ _ k) ?_
         refine Ev.pos (by rw [hlen]; omega) (Ev.pos (by omega) (Ev.pos (by rw [hlen]; omega) ?_))
         rw [iV, jR hj (by omega), show gB (bs.take i) j = gB bs j from by unfold gB; rw [List.getD_eq_getElem?_getD, List.getElem?_take_of_lt hj, List.getD_eq_getElem?_getD]]
         simp only [mD.f, Option.bind_some]
         refine Ev.test _ (fun h => Ev.ret (by rw [show nV (gB bs i).f1 (gB bs j).f1 = true from h]; rfl)) (fun h => Ev.sub H2 (by rw [show nV (gB bs i).f1 (gB bs j).f1 = false from h]; rfl))
     have j2 : ∀ b, Ev (fun k => aM.j2 k (i : Int) bs (bs.length : Int) (i : Int) b ts bs (gB bs i).f0 (gB bs i).f1 (gB bs i).f2) (!b && (yU bs i && r)) := by
       intro b
       refine Ev.step (fun k => aM.j2.eq_2 _ _ _ _ _ ts bs _ _ _ k) ?_
       refine Ev.test _ (fun h => Ev.ret (by rw [h]; rfl)) (fun h => Ev.pos (by omega) (Ev.pos (by omega) ?_))
       rw [Int.toNat_natCast]
       simp only [Option.bind_some]
       exact Ev.sub inner (by rw [h]; rfl)
     have X : Ev (fun k => (iC.f k (gB bs i).f2 ts).bind fun t => if t = true then ((iC.f k (gB bs i).f1 (gB bs i).f2).bind fun t2 => aM.j2 k (i : Int) bs (bs.length : Int) (i : Int) (!t2) ts bs (gB bs i).f0 (gB bs i).f1 (gB bs i).f2) else aM.j2 k (i : Int) bs (bs.length : Int) (i : Int) true ts bs (gB bs i).f0 (gB bs i).f1 (gB bs i).f2)
         (mM (gB bs i).f2 ts && mM (gB bs i).f1 (gB bs i).f2 && (yU bs i && r)) := by
       refine Ev.bind (zI _ _ b2 ht) ?_
       refine Ev.test _ (fun h => Ev.bind (zI _ _ b1 b2) (Ev.sub (j2 _) (by rw [h]; simp))) (fun h => Ev.sub (j2 _) (by rw [h]; simp))
     refine Ev.step (fun k => aM.l0.eq_2 _ _ _ ts bs k) ?_
     refine Ev.pos (by omega) (Ev.pos (by omega) (Ev.pos (by omega) (Ev.bind (Jw _) ?_)))
     have A := VH hi hl X (j2 true)
     rw [iV] at *
     refine Ev.test _ (fun h => Ev.sub A ?_) (fun h => Ev.sub (j2 true) ?_)
     · simp only [uL, h, Bool.true_and]
       cases (decide (i = 0) || ltB (gB bs (i - 1)).f0 (gB bs i).f0) <;> simp [Bool.and_assoc]
     · simp [uL, h]
 have j0 : ∀ b, Ev (fun k => aM.j0 k b ts bs) (!b && allR (fun i => uL ts bs i && yU bs i) bs.length 0) := by
   intro b
   refine Ev.step (fun k => aM.j0.eq_2 _ ts bs k) ?_
   refine Ev.test _ (fun h => Ev.ret (by rw [h]; rfl)) (fun h => Ev.sub loop (by rw [h]; rfl))
 rw [← U5]
 refine Ev.prop (fun h => Ev.sub (j0 _) ?_) (fun h => Ev.prop (fun h2 => Ev.sub (j0 _) ?_) (fun h2 => Ev.bind (zI ts ts ht ht) ?_))
 ·rw [show decide (ts.length ≤ 8) = false from decide_eq_false (by omega)]; rfl
 ·rw [show decide (bs.length ≤ 5) = false from decide_eq_false (by omega)]; simp
 rw [show decide (bs.length ≤ 5) = true from decide_eq_true (by omega), show decide (ts.length ≤ 8) = true from decide_eq_true (by omega)]
 simp only [jJ.f, Option.bind_some]
 refine Ev.test _ (fun h => Ev.sub (j0 _) (by rw [h]; simp)) (fun h => Ev.sub (j0 _) (by rw [h]; simp))
def kG.l0 : Nat → Int → List ByteArray → Int → List ByteArray → List (S52) → Option (Bool)
 | 0, _, _, _, _, _ => none
 | k + 1, c, d, a, e, b => if a < (b.length : Int) then (if a = c then (kG.l0 k c d (wrap64 (a + 1)) e b) else (if 0 ≤ a then ((eP.f k d ((aA b a).f0)).bind fun g => (if g = true then (kG.l0 k c d (wrap64 (a + 1)) e b) else (if 0 ≤ c then (if c < (b.length : Int) then ((fI.f k ((aA b a).f1) ((aA b c).f2)).bind fun h => (if h = true then (some false) else (kG.l0 k c d (wrap64 (a + 1)) e b))) else (none)) else (none)))) else (none))) else (some true)
def kG.f (k : Nat) (aZ : List ByteArray) (aI : List (S52)) (a1 : Int) (l2 : List ByteArray) : Option (Bool) := kG.l0 k a1 l2 0 aZ aI
theorem kG.calls (k : Nat) (eE : Option Addr) (eF : Nat) (aZ : List ByteArray) (eV : Option Addr) (eC : Nat) (aI : List (S52)) (a1 : Int) (A2 : Option Addr) (c2 : Nat) (l2 : List ByteArray) (r : Bool) (w : World) (gP : Kd.C Kd.string w eE aZ.length aZ) (gN : aZ.length ≤ eF) (gK : Kd.C k52 w eV aI.length aI) (gO : aI.length ≤ eC) (Q7 : Kd.C Kd.string w A2 l2.length l2) (MA : l2.length ≤ c2) (h : kG.f k aZ aI a1 l2 = some r) :
  Calls Tryz.prog 107 #[.agg #[.slice eE aZ.length eF, .slice eV aI.length eC], .int .i64 a1, .slice A2 l2.length c2] w fun e w' => e = .returned (.bool r) ∧ Below w.heap.size w w' := by
 have hu26 := Tryz.underlying26
 obtain ⟨dT, dS⟩ := mZ2 gP gN
 obtain ⟨bV, eS⟩ := mZ2 gK gO
 obtain ⟨B0, yN⟩ := mZ2 Q7 MA
 clear gP gN gK gO Q7 MA
 have HB := am (Below.refl w.heap.size w)
 unfold kG.f at h
 have H := h
 clear h
 have H' := am H
 repeat clear H
 go_enter Tryz.func107, Tryz.ntmps107
 go_wp2_with (first | ((with_reducible refine gD 3 ?_); refine bX 3 #[.slice eE aZ.length eF, .slice eV aI.length eC] 26 ?_; intro aW hg w4 hbox hb; have a6 := am hbox; have iS := am (u4 : w.heap.size ≤ aW); have j5 := iS; replace HB := bS iJ hb; clear hb hbox hg))
 repeat (go_quiet (first | ((with_reducible refine gD 3 ?_); refine bX 3 #[.slice eE aZ.length eF, .slice eV aI.length eC] 26 ?_; intro aW hg w4 hbox hb; have a6 := am hbox; have iS := am (u4 : w.heap.size ≤ aW); have j5 := am (u4 : w.heap.size ≤ aW); replace HB := bS iJ hb; clear hb hbox hg)); try go_wp2_with (first | ((with_reducible refine gD 3 ?_); refine bX 3 #[.slice eE aZ.length eF, .slice eV aI.length eC] 26 ?_; intro aW hg w4 hbox hb; have a6 := am hbox; have iS := am (u4 : w.heap.size ≤ aW); have j5 := am (u4 : w.heap.size ≤ aW); replace HB := bS iJ hb; clear hb hbox hg)))
 go_loopg [7] k (fun kq v7 w' => ∃ (oG : Int), v7 = .int .i64 oG ∧ aC (kG.l0 kq a1 l2 oG aZ aI = some r) ∧ aC (kq ≤ k) ∧ aC (w'.heap[aW]? = some (.cells #[(.slice eE aZ.length eF), (.slice eV aI.length eC)] 26 (0, 0))) ∧ aC (Below w.heap.size w w'))
 case atStart => exact ⟨(0), dU, H', ⟨Nat.le_refl _⟩, ⟨rB a6.1⟩, ⟨fH⟩⟩
 clear H'
 try clear c2
 obtain ⟨oG, rfl, HA, HK1, a6, HB⟩ := hrel
 cases gk with
 | zero => exact absurd HA.out (by simp [kG.l0])
 | succ k1 =>
  have H := HA.out
  clear HA
  simp only [kG.l0] at H
  refine ic H ?_ ?_ <;> clear H <;> intro FT H
  refine iq H ?_ ?_ <;> clear H <;> intro c6 MQ En H
  have H' := am H
  repeat clear H
  have Z7 := cz2 a6
  rotate_left
  obtain ⟨H3, H⟩ := cN H
  obtain ⟨pN, A9, H⟩ := bd H
  refine tC H ?_ ?_ <;> clear H <;> intro Ai H <;> subst Ai
  have H' := am H
  repeat clear H
  have Uq := cz2 a6
  obtain ⟨pJ, vD, vI, vE, vJ, uM, oW, qT, qU, rT, rP, vU, vT, EE, EH⟩ := aT52 bV HB oG
  cases uM
  have xd := trivial
  rotate_left
  obtain ⟨SU, H⟩ := cN H
  obtain ⟨VI, H⟩ := cN H
  obtain ⟨BO, Nd, H⟩ := bd H
  refine tC H ?_ ?_ <;> clear H <;> intro ls H <;> subst ls
  obtain rfl := Option.some.inj H
  repeat clear H
  have Z16 := cz2 a6
  obtain ⟨pJ, vD, vI, vE, vJ, uM, oW, qT, qU, rT, rP, vU, vT, EE, EH⟩ := aT52 bV HB oG
  cases uM
  have jd := trivial
  have xe := trivial
  rotate_left
  have H' := am H
  repeat clear H
  have Z17 := cz2 a6
  obtain ⟨pJ, vD, vI, vE, vJ, uM, oW, qT, qU, rT, rP, vU, vT, EE, EH⟩ := aT52 bV HB oG
  cases uM
  have jd := trivial
  have xf := trivial
  rotate_left
  obtain rfl := Option.some.inj H
  repeat clear H
  have Z18 := cz2 a6
  rotate_left
  all_goals
   go_wp2_with (first | (go_at_call 46; revert xd; intro xd; revert A9; intro A9; refine cM (eP.calls k1 _ _ l2 ((aA aI oG).f0) true _ (pB B0) yN.1 A9.out) ?_; rintro w' ⟨nd, rfl⟩; (try exact dR); clear A9) | (go_at_call 46; revert jd; intro jd; revert A9; intro A9; refine cM (eP.calls k1 _ _ l2 ((aA aI oG).f0) false _ (pB B0) yN.1 A9.out) ?_; rintro w' ⟨nd, rfl⟩; (try exact dR); obtain ⟨kS, rA, rD, rC, rE, tY, nD, nE, nF, mY, pP, pR, tT, G8, GB⟩ := aT52 bV HB oG; obtain rfl : pJ = kS := (by injection tY); obtain ⟨ea_, ec_⟩ := eZ2 qT nE; subst ea_; subst ec_; obtain ⟨ea_, ec_⟩ := eZ2 qU nF; subst ea_; subst ec_; obtain ⟨u9, AF, AK, AG, AL, AO, qV, mT, mU, qR, wZ, lX, oJ, QK, K4⟩ := aT52 bV HB a1; obtain rfl : pJ = u9 := (by injection AO); clear A9) | (go_at_call 65; revert xe; intro xe; revert Nd; intro Nd; refine cM (fI.calls k1 _ _ ((aA aI oG).f1) _ _ ((aA aI a1).f2) true _ ((Kd.aU mY.1 fH)) pP.1 ((Kd.aU lX.1 fH)) oJ.1 Nd.out) ?_; rintro w' ⟨nd, rfl⟩; (try exact dR); clear Nd) | (go_at_call 65; revert xf; intro xf; revert Nd; intro Nd; refine cM (fI.calls k1 _ _ ((aA aI oG).f1) _ _ ((aA aI a1).f2) false _ ((Kd.aU mY.1 fH)) pP.1 ((Kd.aU lX.1 fH)) oJ.1 Nd.out) ?_; rintro w' ⟨nd, rfl⟩; (try exact dR); clear Nd))
  ·repeat (go_quiet (fail); try go_wp2)
   go_roundg k1
   case measure => have := HK1.out; omega
   case rel => exact ⟨(wrap64 (oG + 1)), dU, H', ⟨by have := HK1.out; omega⟩, ⟨rB a6.1⟩, ⟨fH⟩⟩
  ·repeat (go_quiet (first | (go_at_call 46; refine cM (eP.calls k1 _ _ l2 ((aA aI oG).f0) true _ (pB B0) yN.1 A9.out) ?_; rintro w' ⟨nd, rfl⟩; (try exact dR))); try go_wp2_with (first | (go_at_call 46; refine cM (eP.calls k1 _ _ l2 ((aA aI oG).f0) true _ (pB B0) yN.1 A9.out) ?_; rintro w' ⟨nd, rfl⟩; (try exact dR))))
   go_roundg k1
   case measure => have := HK1.out; omega
   case rel => exact ⟨(wrap64 (oG + 1)), dU, H', ⟨by have := HK1.out; omega⟩, ⟨rB a6.1⟩, ⟨fH⟩⟩
  ·repeat (go_quiet (first | (go_at_call 46; refine cM (eP.calls k1 _ _ l2 ((aA aI oG).f0) false _ (pB B0) yN.1 A9.out) ?_; rintro w' ⟨nd, rfl⟩; (try exact dR); obtain ⟨kS, rA, rD, rC, rE, tY, nD, nE, nF, mY, pP, pR, tT, G8, GB⟩ := aT52 bV HB oG; obtain rfl : pJ = kS := (by injection tY); have ea_ := Option.some.inj (qT.symm.trans nE); injection ea_ with ea_ en_ ec_; subst ea_; subst ec_; clear en_; have ea_ := Option.some.inj (qU.symm.trans nF); injection ea_ with ea_ en_ ec_; subst ea_; subst ec_; clear en_; obtain ⟨u9, AF, AK, AG, AL, AO, qV, mT, mU, qR, wZ, lX, oJ, QK, K4⟩ := aT52 bV HB a1; obtain rfl : pJ = u9 := (by injection AO)) | (go_at_call 65; refine cM (fI.calls k1 _ _ ((aA aI oG).f1) _ _ ((aA aI a1).f2) true _ ((Kd.aU mY.1 fH)) pP.1 ((Kd.aU lX.1 fH)) oJ.1 Nd.out) ?_; rintro w' ⟨nd, rfl⟩; (try exact dR))); try go_wp2_with (first | (go_at_call 46; refine cM (eP.calls k1 _ _ l2 ((aA aI oG).f0) false _ (pB B0) yN.1 A9.out) ?_; rintro w' ⟨nd, rfl⟩; (try exact dR); obtain ⟨kS, rA, rD, rC, rE, tY, nD, nE, nF, mY, pP, pR, tT, G8, GB⟩ := aT52 bV HB oG; obtain rfl : pJ = kS := (by injection tY); have ea_ := Option.some.inj (qT.symm.trans nE); injection ea_ with ea_ en_ ec_; subst ea_; subst ec_; clear en_; have ea_ := Option.some.inj (qU.symm.trans nF); injection ea_ with ea_ en_ ec_; subst ea_; subst ec_; clear en_; obtain ⟨u9, AF, AK, AG, AL, AO, qV, mT, mU, qR, wZ, lX, oJ, QK, K4⟩ := aT52 bV HB a1; obtain rfl : pJ = u9 := (by injection AO)) | (go_at_call 65; refine cM (fI.calls k1 _ _ ((aA aI oG).f1) _ _ ((aA aI a1).f2) true _ ((Kd.aU mY.1 fH)) pP.1 ((Kd.aU lX.1 fH)) oJ.1 Nd.out) ?_; rintro w' ⟨nd, rfl⟩; (try exact dR))))
   go_ret
   exact ⟨eR, fH⟩
  ·repeat (go_quiet (first | (go_at_call 46; refine cM (eP.calls k1 _ _ l2 ((aA aI oG).f0) false _ (pB B0) yN.1 A9.out) ?_; rintro w' ⟨nd, rfl⟩; (try exact dR); obtain ⟨kS, rA, rD, rC, rE, tY, nD, nE, nF, mY, pP, pR, tT, G8, GB⟩ := aT52 bV HB oG; obtain rfl : pJ = kS := (by injection tY); have ea_ := Option.some.inj (qT.symm.trans nE); injection ea_ with ea_ en_ ec_; subst ea_; subst ec_; clear en_; have ea_ := Option.some.inj (qU.symm.trans nF); injection ea_ with ea_ en_ ec_; subst ea_; subst ec_; clear en_; obtain ⟨u9, AF, AK, AG, AL, AO, qV, mT, mU, qR, wZ, lX, oJ, QK, K4⟩ := aT52 bV HB a1; obtain rfl : pJ = u9 := (by injection AO)) | (go_at_call 65; refine cM (fI.calls k1 _ _ ((aA aI oG).f1) _ _ ((aA aI a1).f2) false _ ((Kd.aU mY.1 fH)) pP.1 ((Kd.aU lX.1 fH)) oJ.1 Nd.out) ?_; rintro w' ⟨nd, rfl⟩; (try exact dR))); try go_wp2_with (first | (go_at_call 46; refine cM (eP.calls k1 _ _ l2 ((aA aI oG).f0) false _ (pB B0) yN.1 A9.out) ?_; rintro w' ⟨nd, rfl⟩; (try exact dR); obtain ⟨kS, rA, rD, rC, rE, tY, nD, nE, nF, mY, pP, pR, tT, G8, GB⟩ := aT52 bV HB oG; obtain rfl : pJ = kS := (by injection tY); have ea_ := Option.some.inj (qT.symm.trans nE); injection ea_ with ea_ en_ ec_; subst ea_; subst ec_; clear en_; have ea_ := Option.some.inj (qU.symm.trans nF); injection ea_ with ea_ en_ ec_; subst ea_; subst ec_; clear en_; obtain ⟨u9, AF, AK, AG, AL, AO, qV, mT, mU, qR, wZ, lX, oJ, QK, K4⟩ := aT52 bV HB a1; obtain rfl : pJ = u9 := (by injection AO)) | (go_at_call 65; refine cM (fI.calls k1 _ _ ((aA aI oG).f1) _ _ ((aA aI a1).f2) false _ ((Kd.aU mY.1 fH)) pP.1 ((Kd.aU lX.1 fH)) oJ.1 Nd.out) ?_; rintro w' ⟨nd, rfl⟩; (try exact dR))))
   go_roundg k1
   case measure => have := HK1.out; omega
   case rel => exact ⟨(wrap64 (oG + 1)), dU, H', ⟨by have := HK1.out; omega⟩, ⟨rB a6.1⟩, ⟨fH⟩⟩
  ·repeat (go_quiet (fail); try go_wp2)
   go_ret
   exact ⟨eR, fH⟩
def bU.l0 : Nat → Int → List ByteArray → List (S52) → Int → Int → List ByteArray → List (S52) → Option (Bool)
 | 0, _, _, _, _, _, _, _ => none
 | k + 1, b, e, c, g, a, h, d => if a < g then (if 0 ≤ a then (if a < (c.length : Int) then (if a = b then (bU.l0 k b e c g (wrap64 (a + 1)) h d) else ((bJ.f k e ((aA c a).f0)).bind fun i => (if i = true then (bU.l0 k b e c g (wrap64 (a + 1)) h d) else (if 0 ≤ b then (if b < (d.length : Int) then ((mD.f ((aA c a).f1) ((aA d b).f2)).bind fun j => (if j = true then (some false) else (bU.l0 k b e c g (wrap64 (a + 1)) h d))) else (none)) else (none))))) else (none)) else (none)) else (some true)
def bU.f (k : Nat) (aZ : List ByteArray) (aI : List (S52)) (a1 : Int) (l2 : List ByteArray) : Option (Bool) := bU.l0 k a1 l2 aI (aI.length : Int) 0 aZ aI
def bU.T4 : Bool × List (List Nat × List Nat) := (true, [([], []), ([], []), ([0, 1], [0, 1]), ([2], [2]), ([3], [3]), ([3], [3]), ([5, 3], [3, 5]), ([4, 6, 3, 3], [3, 4, 6]), ([7, 3], [3, 7]), ([3, 8], [3, 8]), ([9, 7], [9]), ([10], [10]), ([11, 10], [10, 11]), ([10], [10]), ([13, 10], [10, 13]), ([10], [10]), ([14, 15, 10], [10, 14, 15]), ([16, 10], [10, 16]), ([17, 10], [10, 17]), ([12, 18, 10, 10], [10, 12, 18]), ([10, 19], [10, 19])])
def bU.B4 : List Nat := [0, 0, 3, 7, 15, 15, 47, 127, 255, 511, 1023, 2047, 4095, 2047, 10239, 2047, 59391, 124927, 255999, 524287, 1048575]
theorem bU.tab4 : rtab .any (opsOf Tryz.f52 4) = bU.T4 := by kernel_rfl
theorem bU.Ie : o5 bU.T4.2 bU.B4 = true := by kernel_rfl
theorem bU.calls (k : Nat) (eE : Option Addr) (eF : Nat) (aZ : List ByteArray) (eV : Option Addr) (eC : Nat) (aI : List (S52)) (a1 : Int) (A2 : Option Addr) (c2 : Nat) (l2 : List ByteArray) (r : Bool) (w : World) (gP : Kd.C Kd.string w eE aZ.length aZ) (gN : aZ.length ≤ eF) (gK : Kd.C k52 w eV aI.length aI) (gO : aI.length ≤ eC) (Q7 : Kd.C Kd.string w A2 l2.length l2) (MA : l2.length ≤ c2) (h : bU.f k aZ aI a1 l2 = some r) :
  Calls Tryz.prog 52 #[.agg #[.slice eE aZ.length eF, .slice eV aI.length eC], .int .i64 a1, .slice A2 l2.length c2] w fun e w' => e = .returned (.bool r) ∧ Below w.heap.size w w' := by
 have hu26 := Tryz.underlying26
 have hu52 := Tryz.underlying52
 obtain ⟨dT, dS⟩ := mZ2 gP gN
 obtain ⟨bV, eS⟩ := mZ2 gK gO
 obtain ⟨B0, yN⟩ := mZ2 Q7 MA
 clear gP gN gK gO Q7 MA
 have HB := am (Below.refl w.heap.size w)
 unfold bU.f at h
 have H := h
 clear h
 have H' := am H
 repeat clear H
 go_enter Tryz.func52, Tryz.ntmps52
 go_wp2_with (first | ((with_reducible refine gD 3 ?_); refine bX 3 #[.slice eE aZ.length eF, .slice eV aI.length eC] 26 ?_; intro aW hg w4 hbox hb; have a6 := am hbox; have iS := am (u4 : w.heap.size ≤ aW); have j5 := iS; replace HB := bS iJ hb; clear hb hbox hg; have Z5 := cz2 a6))
 go_loopg [12] k (fun kq v12 w' => ∃ (qQ : Int), v12 = .int .i64 qQ ∧ aC (bU.l0 kq a1 l2 aI (aI.length : Int) qQ aZ aI = some r) ∧ aC (kq ≤ k) ∧ aC (w'.heap[aW]? = some (.cells #[(.slice eE aZ.length eF), (.slice eV aI.length eC)] 26 (0, 0))) ∧ aC (Below w.heap.size w w'))
 case atStart => exact ⟨(0), dU, H', ⟨Nat.le_refl _⟩, ⟨rB a6.1⟩, ⟨fH⟩⟩
 clear H'
 try clear c2
 try clear Z5
 obtain ⟨qQ, rfl, HA, HK1, a6, HB⟩ := hrel
 cases gk with
 | zero => exact absurd HA.out (by simp [bU.l0])
 | succ k1 =>
  have H := HA.out
  clear HA
  simp only [bU.l0] at H
  refine ic H ?_ ?_ <;> clear H <;> intro MQ H
  obtain ⟨XF, H⟩ := cN H
  obtain ⟨H3, H⟩ := cN H
  refine iq H ?_ ?_ <;> clear H <;> intro c9 FU Qv H
  have H' := am H
  repeat clear H
  obtain ⟨pJ, vD, vI, vE, vJ, uM, oW, qT, qU, rT, rP, vU, vT, EE, EH⟩ := aT52 bV HB qQ
  cases uM
  have Pb := trivial
  rotate_left
  obtain ⟨dB, Uo, H⟩ := bd H
  refine tC H ?_ ?_ <;> clear H <;> intro Al H <;> subst Al
  have H' := am H
  repeat clear H
  obtain ⟨pJ, vD, vI, vE, vJ, uM, oW, qT, qU, rT, rP, vU, vT, EE, EH⟩ := aT52 bV HB qQ
  cases uM
  have Pb := trivial
  rotate_left
  obtain ⟨a02, H⟩ := cN H
  obtain ⟨aK2, H⟩ := cN H
  obtain ⟨BO, A24, H⟩ := bd H
  refine tC H ?_ ?_ <;> clear H <;> intro bh H <;> subst bh
  obtain rfl := Option.some.inj H
  repeat clear H
  obtain ⟨pJ, vD, vI, vE, vJ, uM, oW, qT, qU, rT, rP, vU, vT, EE, EH⟩ := aT52 bV HB qQ
  cases uM
  have Pb := trivial
  rotate_left
  have H' := am H
  repeat clear H
  obtain ⟨pJ, vD, vI, vE, vJ, uM, oW, qT, qU, rT, rP, vU, vT, EE, EH⟩ := aT52 bV HB qQ
  cases uM
  have Pb := trivial
  rotate_left
  obtain rfl := Option.some.inj H
  repeat clear H
  rotate_left
  all_goals
   try go_wp2_with (first | ((with_reducible refine gD 8 ?_); revert Pb; intro Pb; refine bX 8 #[.string (⟨#[]⟩ : ByteArray), .slice none 0 0, .slice none 0 0] 52 ?_; intro uT hg Kh hbox hb; have kK := am hbox; have ZS := am (EF : w.heap.size ≤ uT); have K9 := ZS; replace HB := bS fH hb; have yY := nL d3 hg; have tB := nG d3 hg; replace a6 := bB d3 hb; clear hb hbox hg; have aHF := nZ1 tB yY; have aHG := cz3 kK))
  ·obtain ⟨Na, eW_⟩ := eW3 Kh uT (.string ((aA aI qQ).f0)) (.slice vD ((aA aI qQ).f1).length vI) (.slice vE ((aA aI qQ).f2).length vJ)
   rw [← eW_]
   replace a6 := uF3 eW_ a6 yY
   replace kK := uP3 eW_ kK
   replace HB := uC3 eW_ HB K9
   clear eW_
   replace a6 := BD a6
   replace kK := BD kK
   replace HB := am (aY HB.1)
   refine sT (S := fun w' => True) [] 21 ⟨trivial⟩ (fun hHeld => ?_)
   refine fP bU.tab4 bU.Ie (fun HT_ HW_ => ?_)
   generalize Na.drew = w14 at a6 kK HB hHeld ⊢
   refine pU4 0 1 2 3 ?_
   refine pV5 4 5 6 7 8 ?_
   refine pU2 9 10 ?_
   refine pV8 11 12 13 14 15 16 17 18 ?_
   refine pV1 19 ?_
   refine pU1 20 ?_
   refine dN ?_
   try go_wp2
   go_roundg k1
   case measure => have := HK1.out; omega
   case rel => exact ⟨(wrap64 (qQ + 1)), dU, H', ⟨by have := HK1.out; omega⟩, ⟨rB a6.1⟩, ⟨UO⟩⟩
  ·obtain ⟨Nk, eW_⟩ := eW3 Kh uT (.string ((aA aI qQ).f0)) (.slice vD ((aA aI qQ).f1).length vI) (.slice vE ((aA aI qQ).f2).length vJ)
   rw [← eW_]
   replace a6 := uF3 eW_ a6 yY
   replace kK := uP3 eW_ kK
   replace HB := uC3 eW_ HB K9
   clear eW_
   replace a6 := BD a6
   replace kK := BD kK
   replace HB := am (aY HB.1)
   refine sT [] 21 (uA3 kK) (fun hHeld => ?_)
   refine fP bU.tab4 bU.Ie (fun HT_ HW_ => ?_)
   generalize Nk.drew = w21 at a6 kK HB hHeld ⊢
   refine pU6 0 1 2 3 4 5 ?_
   refine tK3 6 (some 23) ?_
   refine oN 7 (some 24) fun K hK => ?_
   refine gQ Tryz.func45 (bJ.calls k1 _ _ l2 ((aA aI qQ).f0) true _ (pB B0) yN.1 Uo.out) ?_
   rintro w' ⟨nd, rfl⟩
   refine nK hK (uA3 kK).1 fun hHeld => ?_
   clear hK K
   refine pU3 8 9 10 ?_
   refine pV8 11 12 13 14 15 16 17 18 ?_
   refine pV1 19 ?_
   refine pU1 20 ?_
   refine dN ?_
   try go_wp2
   go_roundg k1
   case measure => have := HK1.out; omega
   case rel => exact ⟨(wrap64 (qQ + 1)), dU, H', ⟨by have := HK1.out; omega⟩, ⟨rB a6.1⟩, ⟨UO⟩⟩
  ·obtain ⟨w29, eW_⟩ := eW3 Kh uT (.string ((aA aI qQ).f0)) (.slice vD ((aA aI qQ).f1).length vI) (.slice vE ((aA aI qQ).f2).length vJ)
   rw [← eW_]
   replace a6 := uF3 eW_ a6 yY
   replace kK := uP3 eW_ kK
   replace HB := uC3 eW_ HB K9
   clear eW_
   replace a6 := BD a6
   replace kK := BD kK
   replace HB := am (aY HB.1)
   obtain ⟨u9, AF, AK, AG, AL, AO, oS, oU, oV, qV, mT, mU, qR, wZ, lX, oJ, QK, K4⟩ := qK bV HB a1
   obtain rfl : pJ = u9 := (by injection AO)
   refine sT [] 21 (uB3 kK (uB2 a6 (uBx HB oS (uBx HB oU (uAx HB oV))))) (fun hHeld => ?_)
   refine fP bU.tab4 bU.Ie (fun HT_ HW_ => ?_)
   generalize w29.drew = w30 at a6 kK HB qR lX qV mT mU hHeld ⊢
   refine pU6 0 1 2 3 4 5 ?_
   refine tK8 6 (some 23) ?_
   refine oN 7 (some 24) fun K hK => ?_
   refine gQ Tryz.func45 (bJ.calls k1 _ _ l2 ((aA aI qQ).f0) false _ (pB B0) yN.1 Uo.out) ?_
   rintro w' ⟨nd, rfl⟩
   refine nK hK (uB3 kK (uB2 a6 (uBx HB oS (uBx HB oU (uAx HB oV))))).1 fun hHeld => ?_
   clear hK K
   refine pU6 8 9 10 11 13 15 ?_
   refine tK8 12 (some 29) ?_
   refine tK8 14 (some 31) ?_
   refine pU2 16 17 ?_
   refine tK8 18 (some 35) ?_
   refine oN 19 (some 36) fun K hK => ?_
   refine gQ Tryz.func37 (mD.calls _ _ ((aA aI qQ).f1) _ _ ((aA aI a1).f2) true _ ((Kd.aU rT.1 UO)) rP.1 ((Kd.aU lX.1 UO)) oJ.1 A24.out) ?_
   rintro se hb
   replace a6 := bB d3 hb
   replace kK := bB UP hb
   replace HB := bS UO hb
   clear hb
   refine nK hK (uB3 kK (uB2 a6 (uBx HB oS (uBx HB oU (uAx HB oV))))).1 fun hHeld => ?_
   clear hK K
   refine pU1 20 ?_
   refine dN ?_
   try go_wp2
   go_ret
   exact ⟨eR, UO⟩
  ·obtain ⟨w35, eW_⟩ := eW3 Kh uT (.string ((aA aI qQ).f0)) (.slice vD ((aA aI qQ).f1).length vI) (.slice vE ((aA aI qQ).f2).length vJ)
   rw [← eW_]
   replace a6 := uF3 eW_ a6 yY
   replace kK := uP3 eW_ kK
   replace HB := uC3 eW_ HB K9
   clear eW_
   replace a6 := BD a6
   replace kK := BD kK
   replace HB := am (aY HB.1)
   obtain ⟨u9, AF, AK, AG, AL, AO, oS, oU, oV, qV, mT, mU, qR, wZ, lX, oJ, QK, K4⟩ := qK bV HB a1
   obtain rfl : pJ = u9 := (by injection AO)
   refine sT [] 21 (uB3 kK (uB2 a6 (uBx HB oS (uBx HB oU (uAx HB oV))))) (fun hHeld => ?_)
   refine fP bU.tab4 bU.Ie (fun HT_ HW_ => ?_)
   generalize w35.drew = w36 at a6 kK HB qR lX qV mT mU hHeld ⊢
   refine pU6 0 1 2 3 4 5 ?_
   refine tK8 6 (some 23) ?_
   refine oN 7 (some 24) fun K hK => ?_
   refine gQ Tryz.func45 (bJ.calls k1 _ _ l2 ((aA aI qQ).f0) false _ (pB B0) yN.1 Uo.out) ?_
   rintro w' ⟨nd, rfl⟩
   refine nK hK (uB3 kK (uB2 a6 (uBx HB oS (uBx HB oU (uAx HB oV))))).1 fun hHeld => ?_
   clear hK K
   refine pU6 8 9 10 11 13 15 ?_
   refine tK8 12 (some 29) ?_
   refine tK8 14 (some 31) ?_
   refine pU2 16 17 ?_
   refine tK8 18 (some 35) ?_
   refine oN 19 (some 36) fun K hK => ?_
   refine gQ Tryz.func37 (mD.calls _ _ ((aA aI qQ).f1) _ _ ((aA aI a1).f2) false _ ((Kd.aU rT.1 UO)) rP.1 ((Kd.aU lX.1 UO)) oJ.1 A24.out) ?_
   rintro w37 hb
   replace a6 := bB d3 hb
   replace kK := bB UP hb
   replace HB := bS UO hb
   clear hb
   refine nK hK (uB3 kK (uB2 a6 (uBx HB oS (uBx HB oU (uAx HB oV))))).1 fun hHeld => ?_
   clear hK K
   refine pU1 20 ?_
   refine dN ?_
   try go_wp2
   go_roundg k1
   case measure => have := HK1.out; omega
   case rel => exact ⟨(wrap64 (qQ + 1)), dU, H', ⟨by have := HK1.out; omega⟩, ⟨rB a6.1⟩, ⟨UO⟩⟩
  ·go_ret
   exact ⟨eR, fH⟩
mutual
def eO.l0 : Nat → List ByteArray → List ByteArray → List (S52) → Option (List ByteArray × Bool)
 | 0, _, _, _ => none
 | k + 1, a, c, b => if (a.length : Int) < (b.length : Int) then (eO.l1 k a (a.length : Int) b (b.length : Int) 0 c b) else (some (a, true))
def eO.l1 : Nat → List ByteArray → Int → List (S52) → Int → Int → List ByteArray → List (S52) → Option (List ByteArray × Bool)
 | 0, _, _, _, _, _, _, _ => none
 | k + 1, a, g, c, h, b, d, e => if b < h then (if 0 ≤ b then (if b < (c.length : Int) then ((bJ.f k a ((aA c b).f0)).bind fun j => (if j = true then (eO.l1 k a g c h (wrap64 (b + 1)) d e) else ((bU.f k d e b a).bind fun l => (if l = true then (if a.length < 8796093022208 then ((some (a ++ [(aA c b).f0] : List ByteArray)).bind fun i => (if (i.length : Int) = g then (some (([] : List ByteArray), false)) else (eO.l0 k i d e))) else (none)) else (eO.l1 k a g c h (wrap64 (b + 1)) d e))))) else (none)) else (none)) else (if (a.length : Int) = g then (some (([] : List ByteArray), false)) else (eO.l0 k a d e))
end
def eO.f (k : Nat) (aZ : List ByteArray) (aI : List (S52)) : Option (List ByteArray × Bool) := (aM.f k aZ aI).bind fun a => (if a = true then (eO.l0 k (([] : List ByteArray)) aZ aI) else (some (([] : List ByteArray), false)))
theorem eO.calls (k : Nat) (eE : Option Addr) (eF : Nat) (aZ : List ByteArray) (eV : Option Addr) (eC : Nat) (aI : List (S52)) (r1 : List ByteArray) (r2 : Bool) (w : World) (gP : Kd.C Kd.string w eE aZ.length aZ) (gN : aZ.length ≤ eF) (gK : Kd.C k52 w eV aI.length aI) (gO : aI.length ≤ eC) (h : eO.f k aZ aI = some (r1, r2)) :
  Calls Tryz.prog 51 #[.agg #[.slice eE aZ.length eF, .slice eV aI.length eC]] w fun e w' => ∃ v0_ : Value, e = .returned (.tuple #[v0_, .bool r2]) ∧ Kd.R Kd.string 9 w' w.heap.size (fun _ => True) v0_ r1 ∧ Below w.heap.size w w' := by
 have hu26 := Tryz.underlying26
 have hu52 := Tryz.underlying52
 obtain ⟨dT, dS⟩ := mZ2 gP gN
 obtain ⟨bV, eS⟩ := mZ2 gK gO
 clear gP gN gK gO
 have HB := am (Below.refl w.heap.size w)
 unfold eO.f at h
 have H := h
 clear h
 obtain ⟨vA, A2, H⟩ := bd H
 refine tC H ?_ ?_ <;> clear H <;> intro c3 H <;> subst c3
 ·obtain ⟨GO, hy103⟩ : ∃ y_ : List ByteArray, y_ = (([] : List ByteArray)) := ⟨_, rfl⟩
  replace H : (eO.l0 k GO aZ aI) = some (r1, r2) := by first | (rw [hy103]; with_reducible exact H) | (have H2_ := (Option.bind_some _ _).symm.trans H; rw [hy103]; with_reducible exact H2_) | (have H2_ := (Option.bind_some _ _).symm.trans H; with_reducible exact H2_) | with_reducible exact H | (rw [hy103]; exact H) | exact H
  have KI := am hy103
  clear hy103
  have H' := am H
  repeat clear H
  go_enter Tryz.func51, Tryz.ntmps51
  go_wp2_with (first | ((with_reducible refine gD 1 ?_); refine bX 1 #[.slice eE aZ.length eF, .slice eV aI.length eC] 26 ?_; intro aW hg w4 hbox hb; have a6 := am hbox; have iS := am (u4 : w.heap.size ≤ aW); have j5 := iS; replace HB := bS iJ hb; clear hb hbox hg; have Z5 := cz2 a6) | ((with_reducible refine gC 14 ?_); refine cQ (some 9) Tryz.func14 (aM.calls k _ _ aZ _ _ aI true _ (pB dT) dS.1 (pB bV) eS.1 A2.out) ?_; rintro w6 hb; replace a6 := bB d3 hb; replace HB := bS fH hb; clear hb) | ((with_reducible refine jW (N := 11) rfl ?_); refine lS 9 11 KI ?_; intro IV w7 dw hb; have mX := am (Kd.dO dw (aG fH)); replace a6 := bB d3 hb; replace HB := bS fH hb; clear hb dw))
  go_loopg [4] k (fun kq v4 w' => ∃ (oF : List ByteArray), aC (eO.l0 kq oF aZ aI = some (r1, r2)) ∧ aC (kq ≤ k) ∧ aC (Kd.R Kd.string 9 w' w.heap.size (fun _ => True) v4 oF) ∧ aC (w'.heap[aW]? = some (.cells #[(.slice eE aZ.length eF), (.slice eV aI.length eC)] 26 (0, 0))) ∧ aC (Below w.heap.size w w'))
  case atStart => exact ⟨(GO), H', ⟨Nat.le_refl _⟩, ⟨rR mX.1⟩, ⟨rB a6.1⟩, ⟨fH⟩⟩
  clear H'
  try clear c3
  try clear Z5
  obtain ⟨oF, HA, HK1, iG, a6, HB⟩ := hrel
  cases gk with
  | zero => exact absurd HA.out (by simp [eO.l0])
  | succ k1 =>
   have H := HA.out
   clear HA
   simp only [eO.l0] at H
   by_cases c9 : (oF.length : Int) < (aI.length : Int)
   ·rw [if_pos c9] at H
    have FU : decide ((oF.length : Int) < (aI.length : Int)) = true := decide_eq_true c9
    have Qv : decide (oF.length < aI.length) = true := decide_eq_true (Int.ofNat_lt.mp c9)
    clear c9
    have H' := am H
    repeat clear H
    obtain ⟨aQJ, aSL, aD2⟩ := Kd.cZ iG.1
    subst aD2
    have Uq := cz2 a6
    go_wp2
    go_loopg [4, 23] k1 (fun kq v4 v23 w' => ∃ (vS : List ByteArray) (lV : Int), v23 = .int .i64 lV ∧ aC (eO.l1 kq vS (oF.length : Int) aI (aI.length : Int) lV aZ aI = some (r1, r2)) ∧ aC (kq ≤ k1) ∧ aC (Kd.R Kd.string 9 w' w.heap.size (fun _ => True) v4 vS) ∧ aC (w'.heap[aW]? = some (.cells #[(.slice eE aZ.length eF), (.slice eV aI.length eC)] 26 (0, 0))) ∧ aC (Below w.heap.size w w'))
    case atStart => exact ⟨(oF), (0), dU, H', ⟨Nat.le_refl _⟩, ⟨rR iG.1⟩, ⟨rB a6.1⟩, ⟨fH⟩⟩
    case round =>
     clear H'
     try clear c3
     try clear c9
     try clear FU
     try clear Qv
     try clear Uq
     try clear Z5
     obtain ⟨vS, lV, rfl, HA, HK2, iG, a6, HB⟩ := hrel
     cases gk with
     | zero => exact absurd HA.out (by simp [eO.l1])
     | succ k2 =>
      have H := HA.out
      clear HA
      simp only [eO.l1] at H
      refine ic H ?_ ?_ <;> clear H <;> intro SU H
      ·obtain ⟨VI, H⟩ := cN H
       obtain ⟨Aj, H⟩ := cN H
       obtain ⟨QQ, Uo, H⟩ := bd H
       refine tC H ?_ ?_ <;> clear H <;> intro Al H <;> subst Al
       ·have H' := am H
        repeat clear H
        obtain ⟨tO, qG, qL, sK, sL, zH, oA, o1, o2, o9, tU, qS, x5, K1, F9⟩ := aT52 bV HB lV
        cases zH
        go_wp2_with (first | ((with_reducible refine gD 7 ?_); refine bX 7 #[.string (⟨#[]⟩ : ByteArray), .slice none 0 0, .slice none 0 0] 52 ?_; intro xR hg w17 hbox hb; replace iG := RB F7 hb; have pY := am hbox; have MG := am (EF : w.heap.size ≤ xR); have ZQ := MG; replace HB := bS fH hb; have qA := nL d3 hg; have vW := nG d3 hg; replace a6 := bB d3 hb; clear hb hbox hg; have Z18 := nZ1 vW qA; have Z19 := cz3 pY; obtain ⟨zV, p1, Fg⟩ := Kd.cZ iG.1; subst Fg) | ((with_reducible refine kV (f := 45) rfl ?_); refine uN (some 31) rfl rfl Tryz.func45 (by kernel_rfl) rfl #[.slice zV vS.length p1, .string ((aA aI lV).f0)] rfl AS ?_; (with_reducible refine (bJ.calls k2 _ _ vS ((aA aI lV).f0) true _ ?side1 ?side2 Uo.out).mono ?_); (case side1 => refine (Kd.bH (e := 9) (base := w.heap.size) (ok := fun k_ => True) (n := vS.length) (c := p1) ?_).2.2; exact Uv); (case side2 => exact (Kd.bH iG.1).2.1); rintro e w' ⟨rfl, ⟨nd, rfl⟩⟩; refine ⟨_, rfl, ?_⟩))
        go_roundg k2
        case measure => have := HK1.out; have := HK2.out; omega
        case rel => exact ⟨(vS), (wrap64 (lV + 1)), dU, H', ⟨by have := HK1.out; have := HK2.out; omega⟩, ⟨mR iG pY⟩, ⟨qF a6 qA⟩, ⟨zM⟩⟩
       ·obtain ⟨CY, Uy, H⟩ := bd H
        refine tC H ?_ ?_ <;> clear H <;> intro c22 H <;> subst c22
        ·obtain ⟨Zx, H⟩ := cL H
         obtain ⟨IX, VD, H⟩ := bY H
         by_cases El : (IX.length : Int) = (oF.length : Int)
         ·rw [if_pos El] at H
          have a03 : ((IX.length : Int) == (oF.length : Int)) = true := beq_iff_eq.mpr El
          have a04 : ((IX.length : Int) != (oF.length : Int)) = false := bne_eq_false_iff_eq.mpr El
          have a05 : (IX.length == oF.length) = true := by first | simpa using El | (simp at El ⊢; omega)
          clear El
          obtain ⟨rfl, rfl⟩ := sZ2 H
          repeat clear H
          obtain ⟨tO, qG, qL, sK, sL, zH, oA, o1, o2, o9, tU, qS, x5, K1, F9⟩ := aT52 bV HB lV
          cases zH
          go_wp2_with (first | ((with_reducible refine gD 7 ?_); refine bX 7 #[.string (⟨#[]⟩ : ByteArray), .slice none 0 0, .slice none 0 0] 52 ?_; intro xR hg ug hbox hb; replace iG := RB F7 hb; have pY := am hbox; have MG := am (EF : w.heap.size ≤ xR); have ZQ := MG; replace HB := bS fH hb; have qA := nL d3 hg; have vW := nG d3 hg; replace a6 := bB d3 hb; clear hb hbox hg; have Z26 := nZ1 vW qA; have Z27 := cz3 pY; obtain ⟨uw, Wo, aD8⟩ := Kd.cZ iG.1; subst aD8) | ((with_reducible refine kV (f := 45) rfl ?_); refine uN (some 31) rfl rfl Tryz.func45 (by kernel_rfl) rfl #[.slice uw vS.length Wo, .string ((aA aI lV).f0)] rfl AS ?_; (with_reducible refine (bJ.calls k2 _ _ vS ((aA aI lV).f0) false _ ?side1 ?side2 Uo.out).mono ?_); (case side1 => refine (Kd.bH (e := 9) (base := w.heap.size) (ok := fun k_ => True) (n := vS.length) (c := Wo) ?_).2.2; exact Uv); (case side2 => exact (Kd.bH iG.1).2.1); rintro e w' ⟨rfl, ⟨nd, rfl⟩⟩; refine ⟨_, rfl, ?_⟩; have Z29 := cz2 a6) | (go_at_call 52; (with_reducible refine (bU.calls k2 _ _ aZ _ _ aI lV _ _ vS true _ ?side1 ?side2 ?side3 ?side4 ?side5 ?side6 Uy.out).mono ?_); (case side1 => exact Kd.aU dT.1 zM); (case side2 => exact dS.1); (case side3 => exact Kd.aU bV.1 zM); (case side4 => exact eS.1); (case side5 => refine (Kd.bH (e := 9) (base := w.heap.size) (ok := fun k_ => True) (n := vS.length) (c := Wo) ?_).2.2; exact Uv); (case side6 => exact (Kd.bH iG.1).2.1); rintro e w30 ⟨rfl, hb⟩; replace iG := RB Uv hb; replace a6 := am (aX (g := aW) (o := .cells #[.slice eE aZ.length eF, .slice (some tO) aI.length eC] 26 (0, 0)) pY6 hb); replace pY := am (aX (g := xR) (o := .cells #[.string ((aA aI lV).f0), .slice qG ((aA aI lV).f1).length qL, .slice sK ((aA aI lV).f2).length sL] 52 (0, 0)) pY1 hb); replace HB := bS zM hb; clear hb; have Z31 := cz3 pY) | ((with_reducible refine lQ (b := .append) (xs := #[.tmp 39, .tmp 42]) rfl ?_); at_builtin; refine Kd.wT Kd.string (w0 := w) w.heap.size rfl (.tmp 39) (.tmp 42) 23 9 (.string ⟨#[]⟩) 16 rfl Tryz.underlying23 sQ rfl (by decide) (by omega) (.slice uw vS.length Wo) vS ((aA aI lV).f0) [.string ((aA aI lV).f0)] (fun _ => True) (fun _ => False) rfl rfl ?aP (fun _ hk => hk.elim) ?aF ?aO ?aB ?aS ?aL ?_; (case aP => exact rfl); (case aB => exact zM); (case aF => exact (fun _ _ => trivial)); (case aO => exact F7); (case aS => exact (aG zM)); (case aL => have := Zx.out; omega); intro QR w32 ho hb hg hat; rw [← VD.out] at ho; replace a6 := gkR d3 hg iG a6; replace pY := am (wC (g := xR) (o := .cells #[.string ((aA aI lV).f0), .slice qG ((aA aI lV).f1).length qL, .slice sK ((aA aI lV).f2).length sL] 52 (0, 0)) (rB pY.1) hg (Kd.R_ne iG.1 pY.1 (by decide))); replace HB := am hb; have xL := am ho; clear iG; clear ho hb hg hat; obtain ⟨aQL, aSM, aD9⟩ := Kd.cZ xL.1; subst aD9))
          go_ret2
          exact ⟨_, eR, by first | exact Kd.sP _ _ _ _ _ | exact Kd.yR _ _ _ _ _ | exact Kd.yT _ _ _ _ _ | exact Kd.yS _ _ _ _ _ | exact Kd.wU _ _ _ _ _, zM⟩
         ·rw [if_neg El] at H
          have a03 : ((IX.length : Int) == (oF.length : Int)) = false := beq_eq_false_iff_ne.mpr El
          have a04 : ((IX.length : Int) != (oF.length : Int)) = true := bne_iff_ne.mpr El
          have a05 : (IX.length == oF.length) = false := by first | simpa using El | (simp at El ⊢; omega)
          have H' := am H
          repeat clear H
          obtain ⟨tO, qG, qL, sK, sL, zH, oA, o1, o2, o9, tU, qS, x5, K1, F9⟩ := aT52 bV HB lV
          cases zH
          go_wp2_with (first | ((with_reducible refine gD 7 ?_); refine bX 7 #[.string (⟨#[]⟩ : ByteArray), .slice none 0 0, .slice none 0 0] 52 ?_; intro xR hg w34 hbox hb; replace iG := RB F7 hb; have pY := am hbox; have MG := am (EF : w.heap.size ≤ xR); have ZQ := MG; replace HB := bS fH hb; have qA := nL d3 hg; have vW := nG d3 hg; replace a6 := bB d3 hb; clear hb hbox hg; have Z35 := nZ1 vW qA; have Z36 := cz3 pY; obtain ⟨ux, Wp, aDB⟩ := Kd.cZ iG.1; subst aDB) | ((with_reducible refine kV (f := 45) rfl ?_); refine uN (some 31) rfl rfl Tryz.func45 (by kernel_rfl) rfl #[.slice ux vS.length Wp, .string ((aA aI lV).f0)] rfl AS ?_; (with_reducible refine (bJ.calls k2 _ _ vS ((aA aI lV).f0) false _ ?side1 ?side2 Uo.out).mono ?_); (case side1 => refine (Kd.bH (e := 9) (base := w.heap.size) (ok := fun k_ => True) (n := vS.length) (c := Wp) ?_).2.2; exact Uv); (case side2 => exact (Kd.bH iG.1).2.1); rintro e w' ⟨rfl, ⟨nd, rfl⟩⟩; refine ⟨_, rfl, ?_⟩; have Z38 := cz2 a6) | (go_at_call 52; (with_reducible refine (bU.calls k2 _ _ aZ _ _ aI lV _ _ vS true _ ?side1 ?side2 ?side3 ?side4 ?side5 ?side6 Uy.out).mono ?_); (case side1 => exact Kd.aU dT.1 zM); (case side2 => exact dS.1); (case side3 => exact Kd.aU bV.1 zM); (case side4 => exact eS.1); (case side5 => refine (Kd.bH (e := 9) (base := w.heap.size) (ok := fun k_ => True) (n := vS.length) (c := Wp) ?_).2.2; exact Uv); (case side6 => exact (Kd.bH iG.1).2.1); rintro e w39 ⟨rfl, hb⟩; replace iG := RB Uv hb; replace a6 := am (aX (g := aW) (o := .cells #[.slice eE aZ.length eF, .slice (some tO) aI.length eC] 26 (0, 0)) pY6 hb); replace pY := am (aX (g := xR) (o := .cells #[.string ((aA aI lV).f0), .slice qG ((aA aI lV).f1).length qL, .slice sK ((aA aI lV).f2).length sL] 52 (0, 0)) pY1 hb); replace HB := bS zM hb; clear hb; have Z40 := cz3 pY) | ((with_reducible refine lQ (b := .append) (xs := #[.tmp 39, .tmp 42]) rfl ?_); at_builtin; refine Kd.wT Kd.string (w0 := w) w.heap.size rfl (.tmp 39) (.tmp 42) 23 9 (.string ⟨#[]⟩) 16 rfl Tryz.underlying23 sQ rfl (by decide) (by omega) (.slice ux vS.length Wp) vS ((aA aI lV).f0) [.string ((aA aI lV).f0)] (fun _ => True) (fun _ => False) rfl rfl ?aP (fun _ hk => hk.elim) ?aF ?aO ?aB ?aS ?aL ?_; (case aP => exact rfl); (case aB => exact zM); (case aF => exact (fun _ _ => trivial)); (case aO => exact F7); (case aS => exact (aG zM)); (case aL => have := Zx.out; omega); intro QR w41 ho hb hg hat; rw [← VD.out] at ho; replace a6 := gkR d3 hg iG a6; replace pY := am (wC (g := xR) (o := .cells #[.string ((aA aI lV).f0), .slice qG ((aA aI lV).f1).length qL, .slice sK ((aA aI lV).f2).length sL] 52 (0, 0)) (rB pY.1) hg (Kd.R_ne iG.1 pY.1 (by decide))); replace HB := am hb; have xL := am ho; clear iG; clear ho hb hg hat; obtain ⟨Nv, MT, nk⟩ := Kd.cZ xL.1; subst nk))
          go_roundg k2
          case measure => have := HK1.out; have := HK2.out; omega
          case rel => exact ⟨(IX), H', ⟨by have := HK1.out; have := HK2.out; omega⟩, ⟨rR xL.1⟩, ⟨rB a6.1⟩, ⟨zM⟩⟩
        ·have H' := am H
         repeat clear H
         obtain ⟨tO, qG, qL, sK, sL, zH, oA, o1, o2, o9, tU, qS, x5, K1, F9⟩ := aT52 bV HB lV
         cases zH
         go_wp2_with (first | ((with_reducible refine gD 7 ?_); refine bX 7 #[.string (⟨#[]⟩ : ByteArray), .slice none 0 0, .slice none 0 0] 52 ?_; intro xR hg w43 hbox hb; replace iG := RB F7 hb; have pY := am hbox; have MG := am (EF : w.heap.size ≤ xR); have ZQ := MG; replace HB := bS fH hb; have qA := nL d3 hg; have vW := nG d3 hg; replace a6 := bB d3 hb; clear hb hbox hg; have Z44 := nZ1 vW qA; have zd := cz3 pY; obtain ⟨aAR, mc, aDE⟩ := Kd.cZ iG.1; subst aDE) | ((with_reducible refine kV (f := 45) rfl ?_); refine uN (some 31) rfl rfl Tryz.func45 (by kernel_rfl) rfl #[.slice aAR vS.length mc, .string ((aA aI lV).f0)] rfl AS ?_; (with_reducible refine (bJ.calls k2 _ _ vS ((aA aI lV).f0) false _ ?side1 ?side2 Uo.out).mono ?_); (case side1 => refine (Kd.bH (e := 9) (base := w.heap.size) (ok := fun k_ => True) (n := vS.length) (c := mc) ?_).2.2; exact Uv); (case side2 => exact (Kd.bH iG.1).2.1); rintro e w' ⟨rfl, ⟨nd, rfl⟩⟩; refine ⟨_, rfl, ?_⟩; have Z47 := cz2 a6) | (go_at_call 52; (with_reducible refine (bU.calls k2 _ _ aZ _ _ aI lV _ _ vS false _ ?side1 ?side2 ?side3 ?side4 ?side5 ?side6 Uy.out).mono ?_); (case side1 => exact Kd.aU dT.1 zM); (case side2 => exact dS.1); (case side3 => exact Kd.aU bV.1 zM); (case side4 => exact eS.1); (case side5 => refine (Kd.bH (e := 9) (base := w.heap.size) (ok := fun k_ => True) (n := vS.length) (c := mc) ?_).2.2; exact Uv); (case side6 => exact (Kd.bH iG.1).2.1); rintro e w48 ⟨rfl, hb⟩; replace iG := RB Uv hb; replace a6 := am (aX (g := aW) (o := .cells #[.slice eE aZ.length eF, .slice (some tO) aI.length eC] 26 (0, 0)) pY6 hb); replace pY := am (aX (g := xR) (o := .cells #[.string ((aA aI lV).f0), .slice qG ((aA aI lV).f1).length qL, .slice sK ((aA aI lV).f2).length sL] 52 (0, 0)) pY1 hb); replace HB := bS zM hb; clear hb))
         go_roundg k2
         case measure => have := HK1.out; have := HK2.out; omega
         case rel => exact ⟨(vS), (wrap64 (lV + 1)), dU, H', ⟨by have := HK1.out; have := HK2.out; omega⟩, ⟨rR iG.1⟩, ⟨rB a6.1⟩, ⟨zM⟩⟩
      ·by_cases Em : (vS.length : Int) = (oF.length : Int)
       ·rw [if_pos Em] at H
        have Am : ((vS.length : Int) == (oF.length : Int)) = true := beq_iff_eq.mpr Em
        have Ij : ((vS.length : Int) != (oF.length : Int)) = false := bne_eq_false_iff_eq.mpr Em
        have a0C : (vS.length == oF.length) = true := by first | simpa using Em | (simp at Em ⊢; omega)
        clear Em
        obtain ⟨rfl, rfl⟩ := sZ2 H
        repeat clear H
        obtain ⟨fw, mg, nu⟩ := Kd.cZ iG.1
        subst nu
        go_wp2
        go_ret2
        exact ⟨_, eR, by first | exact Kd.sP _ _ _ _ _ | exact Kd.yR _ _ _ _ _ | exact Kd.yT _ _ _ _ _ | exact Kd.yS _ _ _ _ _ | exact Kd.wU _ _ _ _ _, fH⟩
       ·rw [if_neg Em] at H
        have Am : ((vS.length : Int) == (oF.length : Int)) = false := beq_eq_false_iff_ne.mpr Em
        have Ij : ((vS.length : Int) != (oF.length : Int)) = true := bne_iff_ne.mpr Em
        have a0C : (vS.length == oF.length) = false := by first | simpa using Em | (simp at Em ⊢; omega)
        have H' := am H
        repeat clear H
        obtain ⟨aQM, aSN, aDG⟩ := Kd.cZ iG.1
        subst aDG
        go_wp2
        go_roundg k2
        case measure => have := HK1.out; have := HK2.out; omega
        case rel => exact ⟨(vS), H', ⟨by have := HK1.out; have := HK2.out; omega⟩, ⟨rR iG.1⟩, ⟨rB a6.1⟩, ⟨fH⟩⟩
   ·rw [if_neg c9] at H
    have FU : decide ((oF.length : Int) < (aI.length : Int)) = false := decide_eq_false c9
    have Qv : decide (oF.length < aI.length) = false := decide_eq_false (fun h => c9 (Int.ofNat_lt.mpr h))
    clear c9
    obtain ⟨rfl, rfl⟩ := sZ2 H
    repeat clear H
    obtain ⟨aQN, aSO, aDH⟩ := Kd.cZ iG.1
    subst aDH
    have Z53 := cz2 a6
    go_wp2
    go_ret2
    exact ⟨_, eR, rR iG.1, fH⟩
 obtain ⟨rfl, rfl⟩ := sZ2 H
 repeat clear H
 go_enter Tryz.func51, Tryz.ntmps51
 go_wp2_with (first | ((with_reducible refine gD 1 ?_); refine bX 1 #[.slice eE aZ.length eF, .slice eV aI.length eC] 26 ?_; intro aW hg w54 hbox hb; have a6 := am hbox; have iS := am (u4 : w.heap.size ≤ aW); have j5 := iS; replace HB := bS iJ hb; clear hb hbox hg; have Z55 := cz2 a6) | ((with_reducible refine gC 14 ?_); refine cQ (some 9) Tryz.func14 (aM.calls k _ _ aZ _ _ aI false _ (pB dT) dS.1 (pB bV) eS.1 A2.out) ?_; rintro w56 hb; replace a6 := bB d3 hb; replace HB := bS fH hb; clear hb))
 go_ret2
 exact ⟨_, eR, by first | exact Kd.sP _ _ _ _ _ | exact Kd.yR _ _ _ _ _ | exact Kd.yT _ _ _ _ _ | exact Kd.yS _ _ _ _ _ | exact Kd.wU _ _ _ _ _, fH⟩
end Go.Proofs.YtaofjgnhapnndaaGreat.Q
namespace Go.Proofs.YtaofjgnhapnndaaGreat.Q
open Go.RowKit Go.Proofs.YtaofjgnhapnndaaGreatW.PrintWords Go.Proofs.YtaofjgnhapnndaaGreatW.PrintLast Go.Proofs.YtaofjgnhapnndaaGreatW.PrintMore
set_option linter.unusedVariables false
set_option linter.unusedSimpArgs false
def jH.f (k : Nat) (aZ : List ByteArray) (aI : List (S52)) : Option (Bool) := (eO.f k aZ aI).bind fun a => (some a.2)
theorem jH.calls (k : Nat) (eE : Option Addr) (eF : Nat) (aZ : List ByteArray) (eV : Option Addr) (eC : Nat) (aI : List (S52)) (r : Bool) (w : World) (gP : Kd.C Kd.string w eE aZ.length aZ) (gN : aZ.length ≤ eF) (gK : Kd.C k52 w eV aI.length aI) (gO : aI.length ≤ eC) (h : jH.f k aZ aI = some r) :
  Calls Tryz.prog 15 #[.agg #[.slice eE aZ.length eF, .slice eV aI.length eC]] w fun e w' => e = .returned (.bool r) ∧ Below w.heap.size w w' := by
 have hu26 := Tryz.underlying26
 obtain ⟨dT, dS⟩ := mZ2 gP gN
 obtain ⟨bV, eS⟩ := mZ2 gK gO
 clear gP gN gK gO
 have HB := am (Below.refl w.heap.size w)
 unfold jH.f at h
 have H := h
 clear h
 obtain ⟨⟨vA, mV⟩, A2, H⟩ := bd H
 dsimp only at H
 obtain rfl := Option.some.inj H
 repeat clear H
 go_enter Tryz.func15, Tryz.ntmps15
 go_wp2_with (first | ((with_reducible refine gD 1 ?_); refine bX 1 #[.slice eE aZ.length eF, .slice eV aI.length eC] 26 ?_; intro aW hg w3 hbox hb; have a6 := am hbox; have iS := am (u4 : w.heap.size ≤ aW); have j5 := iS; replace HB := bS iJ hb; clear hb hbox hg; have Z4 := cz2 a6) | ((with_reducible refine gC 51 ?_); refine cE (some 7) Tryz.func51 (eO.calls k _ _ aZ _ _ aI vA mV _ (pB dT) dS.1 (pB bV) eS.1 A2.out) ?_; rintro e w5 ⟨Mx, rfl, eH, hb⟩; refine ⟨_, rfl, ?_⟩; have EL := am (Kd.dO eH (aG fH)); replace a6 := bB d3 hb; replace HB := bS fH hb; clear hb eH))
 go_ret
 exact ⟨eR, fH⟩
def fT.l0 : Nat → List ByteArray → List (S52) → Int → Int → List ByteArray → List (S52) → Option (List ByteArray)
 | 0, _, _, _, _, _, _ => none
 | k + 1, b, c, d, a, e, g => if a < d then (if 0 ≤ a then (if a < (c.length : Int) then ((bU.f k e g a ([] : List ByteArray)).bind fun h => (if h = true then (if b.length < 8796093022208 then (fT.l0 k (b ++ [(aA c a).f0]) c d (wrap64 (a + 1)) e g) else (none)) else (fT.l0 k b c d (wrap64 (a + 1)) e g))) else (none)) else (none)) else (some b)
def fT.f (k : Nat) (aZ : List ByteArray) (aI : List (S52)) : Option (List ByteArray) := (aM.f k aZ aI).bind fun a => (if a = true then (fT.l0 k (([] : List ByteArray)) aI (aI.length : Int) 0 aZ aI) else (some ([] : List ByteArray)))
theorem fT.calls (k : Nat) (eE : Option Addr) (eF : Nat) (aZ : List ByteArray) (eV : Option Addr) (eC : Nat) (aI : List (S52)) (r : List ByteArray) (w : World) (gP : Kd.C Kd.string w eE aZ.length aZ) (gN : aZ.length ≤ eF) (gK : Kd.C k52 w eV aI.length aI) (gO : aI.length ≤ eC) (h : fT.f k aZ aI = some r) :
  Calls Tryz.prog 17 #[.agg #[.slice eE aZ.length eF, .slice eV aI.length eC]] w fun e w' => ∃ v0_ : Value, e = .returned (v0_) ∧ Kd.R Kd.string 9 w' w.heap.size (fun _ => True) v0_ r ∧ Below w.heap.size w w' := by
 have hu26 := Tryz.underlying26
 have hu52 := Tryz.underlying52
 obtain ⟨dT, dS⟩ := mZ2 gP gN
 obtain ⟨bV, eS⟩ := mZ2 gK gO
 clear gP gN gK gO
 have HB := am (Below.refl w.heap.size w)
 unfold fT.f at h
 have H := h
 clear h
 obtain ⟨vA, A2, H⟩ := bd H
 refine tC H ?_ ?_ <;> clear H <;> intro c3 H <;> subst c3
 obtain ⟨GO, hy103⟩ : ∃ y_ : List ByteArray, y_ = (([] : List ByteArray)) := ⟨_, rfl⟩
 replace H : (fT.l0 k GO aI (aI.length : Int) 0 aZ aI) = some r := by first | (rw [hy103]; with_reducible exact H) | (have H2_ := (Option.bind_some _ _).symm.trans H; rw [hy103]; with_reducible exact H2_) | (have H2_ := (Option.bind_some _ _).symm.trans H; with_reducible exact H2_) | with_reducible exact H | (rw [hy103]; exact H) | exact H
 have KI := am hy103
 clear hy103
 have H' := am H
 repeat clear H
 have Vu := trivial
 rotate_left
 obtain rfl := Option.some.inj H
 repeat clear H
 have xg := trivial
 rotate_left
 all_goals
  go_enter Tryz.func17, Tryz.ntmps17
  go_wp2_with (first | ((with_reducible refine gD 1 ?_); refine bX 1 #[.slice eE aZ.length eF, .slice eV aI.length eC] 26 ?_; intro aW hg aO0 hbox hb; have a6 := am hbox; have iS := am (u4 : w.heap.size ≤ aW); have j5 := iS; replace HB := bS iJ hb; clear hb hbox hg; have yt := cz2 a6) | ((with_reducible refine gC 14 ?_); revert Vu; intro Vu; refine cQ (some 7) Tryz.func14 (aM.calls k _ _ aZ _ _ aI true _ (pB dT) dS.1 (pB bV) eS.1 A2.out) ?_; rintro aO1 hb; replace a6 := bB d3 hb; replace HB := bS fH hb; clear hb) | ((with_reducible refine jW (N := 9) rfl ?_); revert Vu; intro Vu; refine lS 9 9 KI ?_; intro IV aO2 dw hb; have mX := am (Kd.dO dw (aG fH)); replace a6 := bB d3 hb; replace HB := bS fH hb; clear hb dw; have yu := cz2 a6) | ((with_reducible refine gC 14 ?_); revert xg; intro xg; refine cQ (some 7) Tryz.func14 (aM.calls k _ _ aZ _ _ aI false _ (pB dT) dS.1 (pB bV) eS.1 A2.out) ?_; rintro aO3 hb; replace a6 := bB d3 hb; replace HB := bS fH hb; clear hb))
 ·go_loopg [3, 13] k (fun kq v3 v13 w' => ∃ (lL : List ByteArray) (mL : Int), v13 = .int .i64 mL ∧ aC (fT.l0 kq lL aI (aI.length : Int) mL aZ aI = some r) ∧ aC (kq ≤ k) ∧ aC (Kd.R Kd.string 9 w' w.heap.size (fun _ => True) v3 lL) ∧ aC (w'.heap[aW]? = some (.cells #[(.slice eE aZ.length eF), (.slice eV aI.length eC)] 26 (0, 0))) ∧ aC (Below w.heap.size w w'))
  case atStart => exact ⟨(GO), (0), dU, H', ⟨Nat.le_refl _⟩, ⟨rR mX.1⟩, ⟨rB a6.1⟩, ⟨fH⟩⟩
  clear H'
  try clear c3
  try clear yt
  try clear yu
  obtain ⟨lL, mL, rfl, HA, HK1, QG, a6, HB⟩ := hrel
  cases gk with
  | zero => exact absurd HA.out (by simp [fT.l0])
  | succ k1 =>
   have H := HA.out
   clear HA
   simp only [fT.l0] at H
   refine ic H ?_ ?_ <;> clear H <;> intro I7 H
   obtain ⟨I8, H⟩ := cN H
   obtain ⟨SU, H⟩ := cN H
   obtain ⟨QQ, A13, H⟩ := bd H
   refine tC H ?_ ?_ <;> clear H <;> intro Dl H <;> subst Dl
   obtain ⟨wi, H⟩ := cL H
   obtain ⟨Yy, SC⟩ := yv (lL ++ [(aA aI mL).f0]); first | replace H := bW SC H | rw [← SC.1] at H
   have H' := am H
   repeat clear H
   obtain ⟨tO, qG, qL, sK, sL, zH, oA, o1, o2, o9, tU, qS, x5, K1, F9⟩ := aT52 bV HB mL
   cases zH
   have je := trivial
   have Vv := trivial
   rotate_left
   have H' := am H
   repeat clear H
   obtain ⟨tO, qG, qL, sK, sL, zH, oA, o1, o2, o9, tU, qS, x5, K1, F9⟩ := aT52 bV HB mL
   cases zH
   have je := trivial
   have xh := trivial
   rotate_left
   obtain rfl := Option.some.inj H
   repeat clear H
   rotate_left
   all_goals
    go_wp2_with (first | ((with_reducible refine gD 5 ?_); revert je; intro je; refine bX 5 #[.string (⟨#[]⟩ : ByteArray), .slice none 0 0, .slice none 0 0] 52 ?_; intro xR hg aO4 hbox hb; replace QG := am (Kd.jA (rR QG.1) hb); have pY := am hbox; have MG := am (EF : w.heap.size ≤ xR); have ZQ := MG; replace HB := bS fH hb; have qA := nL d3 hg; have vW := nG d3 hg; replace a6 := bB d3 hb; clear hb hbox hg; have aHH := nZ1 vW qA; have aHI := cz3 pY; have aHJ := cz2 a6) | ((with_reducible refine gC 52 ?_); revert Vv; intro Vv; refine cQ (some 20) Tryz.func52 (bU.calls k1 _ _ aZ _ _ aI mL _ _ ([] : List ByteArray) true _ (Kd.aU dT.1 zM) dS.1 (Kd.aU bV.1 zM) eS.1 (Kd.Nw _ _) (Nat.le_refl _) A13.out) ?_; rintro aO5 hb; replace QG := am (Kd.jA (by refine rR ?_; exact (Kd.aT (fR (fR (fR (tR QG pY)))) (fun _ h_ => h_.1))) hb); replace a6 := am (aX (g := aW) (o := .cells #[.slice eE aZ.length eF, .slice (some tO) aI.length eC] 26 (0, 0)) pY6 hb); replace pY := am (aX (g := xR) (o := .cells #[.string ((aA aI mL).f0), .slice qG ((aA aI mL).f1).length qL, .slice sK ((aA aI mL).f2).length sL] 52 (0, 0)) pY2 hb); replace HB := bS zM hb; clear hb; have aHK := cz3 pY) | ((with_reducible refine lQ (b := .append) (xs := #[.tmp 21, .tmp 24]) rfl ?_); revert Vv; intro Vv; at_builtin; refine Kd.wT Kd.string (w0 := w) w.heap.size rfl (.tmp 21) (.tmp 24) 23 9 (.string ⟨#[]⟩) 16 rfl Tryz.underlying23 sQ rfl (by decide) (by omega) u3 lL ((aA aI mL).f0) [.string ((aA aI mL).f0)] (fun _ => True) (fun _ => False) rfl rfl ?aP (fun _ hk => hk.elim) ?aF ?aO ?aB ?aS ?aL ?_; (case aP => exact rfl); (case aB => exact zM); (case aF => exact (fun _ _ => trivial)); (case aO => exact (rR QG.1)); (case aS => exact (aG zM)); (case aL => have := wi.out; omega); intro sc aO6 ho hb hg hat; rw [← SC.out] at ho; replace a6 := gkR d3 hg QG a6; replace pY := am (wC (g := xR) (o := .cells #[.string ((aA aI mL).f0), .slice qG ((aA aI mL).f1).length qL, .slice sK ((aA aI mL).f2).length sL] 52 (0, 0)) (rB pY.1) hg (Kd.R_ne QG.1 pY.1 (by decide))); replace HB := am hb; have wM := am ho; clear QG; clear ho hb hg hat) | ((with_reducible refine gC 52 ?_); revert xh; intro xh; refine cQ (some 20) Tryz.func52 (bU.calls k1 _ _ aZ _ _ aI mL _ _ ([] : List ByteArray) false _ (Kd.aU dT.1 zM) dS.1 (Kd.aU bV.1 zM) eS.1 (Kd.Nw _ _) (Nat.le_refl _) A13.out) ?_; rintro aO8 hb; replace QG := am (Kd.jA (by refine rR ?_; exact (Kd.aT (fR (fR (fR (tR QG pY)))) (fun _ h_ => h_.1))) hb); replace a6 := am (aX (g := aW) (o := .cells #[.slice eE aZ.length eF, .slice (some tO) aI.length eC] 26 (0, 0)) pY6 hb); replace pY := am (aX (g := xR) (o := .cells #[.string ((aA aI mL).f0), .slice qG ((aA aI mL).f1).length qL, .slice sK ((aA aI mL).f2).length sL] 52 (0, 0)) pY2 hb); replace HB := bS zM hb; clear hb))
   ·go_roundg k1
    case measure => have := HK1.out; omega
    case rel => exact ⟨(Yy), (wrap64 (mL + 1)), dU, H', ⟨by have := HK1.out; omega⟩, ⟨rR wM.1⟩, ⟨rB a6.1⟩, ⟨zM⟩⟩
   ·go_roundg k1
    case measure => have := HK1.out; omega
    case rel => exact ⟨(lL), (wrap64 (mL + 1)), dU, H', ⟨by have := HK1.out; omega⟩, ⟨rR QG.1⟩, ⟨rB a6.1⟩, ⟨zM⟩⟩
   ·go_ret
    exact ⟨_, eR, rR QG.1, fH⟩
 go_ret
 exact ⟨_, eR, by first | exact Kd.sP _ _ _ _ _ | exact Kd.yR _ _ _ _ _ | exact Kd.yT _ _ _ _ _ | exact Kd.yS _ _ _ _ _ | exact Kd.wU _ _ _ _ _, fH⟩
def p9.f (k : Nat) (aZ : List ByteArray) (aI : List (S52)) : Option (Bool) := (aM.f k aZ aI).bind fun a => (if a = true then (if (aI.length : Int) > 0 then ((fT.f k aZ aI).bind fun b => (some ((b.length : Int) == 0))) else (some false)) else (some false))
theorem p9.calls (k : Nat) (eE : Option Addr) (eF : Nat) (aZ : List ByteArray) (eV : Option Addr) (eC : Nat) (aI : List (S52)) (r : Bool) (w : World) (gP : Kd.C Kd.string w eE aZ.length aZ) (gN : aZ.length ≤ eF) (gK : Kd.C k52 w eV aI.length aI) (gO : aI.length ≤ eC) (h : p9.f k aZ aI = some r) :
  Calls Tryz.prog 16 #[.agg #[.slice eE aZ.length eF, .slice eV aI.length eC]] w fun e w' => e = .returned (.bool r) ∧ Below w.heap.size w w' := by
 have hu26 := Tryz.underlying26
 obtain ⟨dT, dS⟩ := mZ2 gP gN
 obtain ⟨bV, eS⟩ := mZ2 gK gO
 clear gP gN gK gO
 have HB := am (Below.refl w.heap.size w)
 unfold p9.f at h
 have H := h
 clear h
 obtain ⟨vA, A2, H⟩ := bd H
 refine tC H ?_ ?_ <;> clear H <;> intro c3 H <;> subst c3
 by_cases c4 : (aI.length : Int) > 0
 rw [if_pos c4] at H
 have CH : decide (0 < (aI.length : Int)) = true := decide_eq_true c4
 have ly : decide (0 < aI.length) = true := decide_eq_true (by omega)
 clear c4
 obtain ⟨pN, A5, H⟩ := bd H
 obtain rfl := Option.some.inj H
 repeat clear H
 have jf := trivial
 have xi := trivial
 rotate_left
 rw [if_neg c4] at H
 have CH : decide (0 < (aI.length : Int)) = false := decide_eq_false c4
 have ly : decide (0 < aI.length) = false := decide_eq_false (by omega)
 clear c4
 obtain rfl := Option.some.inj H
 repeat clear H
 have jf := trivial
 rotate_left
 obtain rfl := Option.some.inj H
 repeat clear H
 have xj := trivial
 rotate_left
 all_goals
  go_enter Tryz.func16, Tryz.ntmps16
  go_wp2_with (first | ((with_reducible refine gD 1 ?_); (try (refine vL (by rfl) ?_; dsimp only)); refine bX 1 #[.slice eE aZ.length eF, .slice eV aI.length eC] 26 ?_; intro aW hg aO9 hbox hb; have a6 := am hbox; have iS := am (u4 : w.heap.size ≤ aW); have j5 := iS; replace HB := bS iJ hb; clear hb hbox hg; have aHM := cz2 a6) | ((with_reducible refine gC 14 ?_); revert jf; intro jf; refine cQ (some 4) Tryz.func14 (aM.calls k _ _ aZ _ _ aI true _ (pB dT) dS.1 (pB bV) eS.1 A2.out) ?_; rintro aOB hb; replace a6 := bB d3 hb; replace HB := bS fH hb; clear hb; have aHN := cz2 a6) | (go_at_call 17; revert xi; intro xi; (with_reducible refine (fT.calls k _ _ aZ _ _ aI pN _ ?side1 ?side2 ?side3 ?side4 A5.out).mono ?_); (case side1 => exact pC (Kd.aU dT.1 HB.1)); (case side2 => exact dS.1); (case side3 => exact pC (Kd.aU bV.1 HB.1)); (case side4 => exact eS.1); rintro e aOC ⟨IV, rfl, eH, hb⟩; have mX := am (Kd.dO eH (aG fH)); replace a6 := bB d3 hb; replace HB := bS fH hb; clear hb eH; obtain ⟨aAM, aCK, mz⟩ := Kd.cZ mX.1; subst mz) | ((with_reducible refine gC 14 ?_); revert xj; intro xj; refine cQ (some 4) Tryz.func14 (aM.calls k _ _ aZ _ _ aI false _ (pB dT) dS.1 (pB bV) eS.1 A2.out) ?_; rintro aOD hb; replace a6 := bB d3 hb; replace HB := bS fH hb; clear hb))
 ·go_ret
  exact ⟨eR, fH⟩
 ·go_ret
  exact ⟨eR, fH⟩
 go_ret
 exact ⟨eR, fH⟩
def jT.l0 : Nat → List ByteArray → Int → List ByteArray → List (S52) → Option (Int)
 | 0, _, _, _, _ => none
 | k + 1, c, a, d, b => if a < (b.length : Int) then (if 0 ≤ a then ((eP.f k c ((aA b a).f0)).bind fun e => (if e = true then (jT.l0 k c (wrap64 (a + 1)) d b) else ((kG.f k d b a c).bind fun g => (if g = true then (some a) else (jT.l0 k c (wrap64 (a + 1)) d b))))) else (none)) else (some (-1))
def jT.f (k : Nat) (aZ : List ByteArray) (aI : List (S52)) (l1 : List ByteArray) : Option (Int) := jT.l0 k l1 0 aZ aI
theorem jT.calls (k : Nat) (eE : Option Addr) (eF : Nat) (aZ : List ByteArray) (eV : Option Addr) (eC : Nat) (aI : List (S52)) (A1 : Option Addr) (c1 : Nat) (l1 : List ByteArray) (r : Int) (w : World) (gP : Kd.C Kd.string w eE aZ.length aZ) (gN : aZ.length ≤ eF) (gK : Kd.C k52 w eV aI.length aI) (gO : aI.length ≤ eC) (H5 : Kd.C Kd.string w A1 l1.length l1) (H4 : l1.length ≤ c1) (h : jT.f k aZ aI l1 = some r) :
  Calls Tryz.prog 92 #[.agg #[.slice eE aZ.length eF, .slice eV aI.length eC], .slice A1 l1.length c1] w fun e w' => e = .returned (.int .i64 r) ∧ Below w.heap.size w w' := by
 have hu26 := Tryz.underlying26
 obtain ⟨dT, dS⟩ := mZ2 gP gN
 obtain ⟨bV, eS⟩ := mZ2 gK gO
 obtain ⟨HH, KY⟩ := mZ2 H5 H4
 clear gP gN gK gO H5 H4
 have HB := am (Below.refl w.heap.size w)
 unfold jT.f at h
 have H := h
 clear h
 have H' := am H
 repeat clear H
 go_enter Tryz.func92, Tryz.ntmps92
 go_wp2_with (first | ((with_reducible refine gD 2 ?_); refine bX 2 #[.slice eE aZ.length eF, .slice eV aI.length eC] 26 ?_; intro aW hg w3 hbox hb; have a6 := am hbox; have iS := am (u4 : w.heap.size ≤ aW); have j5 := iS; replace HB := bS iJ hb; clear hb hbox hg))
 go_loopg [5] k (fun kq v5 w' => ∃ (bR : Int), v5 = .int .i64 bR ∧ aC (jT.l0 kq l1 bR aZ aI = some r) ∧ aC (kq ≤ k) ∧ aC (w'.heap[aW]? = some (.cells #[(.slice eE aZ.length eF), (.slice eV aI.length eC)] 26 (0, 0))) ∧ aC (Below w.heap.size w w'))
 case atStart => exact ⟨(0), dU, H', ⟨Nat.le_refl _⟩, ⟨rB a6.1⟩, ⟨fH⟩⟩
 clear H'
 try clear c1
 obtain ⟨bR, rfl, HA, HK1, a6, HB⟩ := hrel
 cases gk with
 | zero => exact absurd HA.out (by simp [jT.l0])
 | succ k1 =>
  have H := HA.out
  clear HA
  simp only [jT.l0] at H
  refine ic H ?_ ?_ <;> clear H <;> intro CH H
  ·obtain ⟨FT, H⟩ := cN H
   obtain ⟨pN, A6, H⟩ := bd H
   refine tC H ?_ ?_ <;> clear H <;> intro c7 H <;> subst c7
   ·have H' := am H
    repeat clear H
    have Z8 := cz2 a6
    obtain ⟨pJ, vD, vI, vE, vJ, uM, oW, qT, qU, rT, rP, vU, vT, EE, EH⟩ := aT52 bV HB bR
    cases uM
    go_wp2_with (first | ((with_reducible refine gC 46 ?_); refine cQ (some 20) Tryz.func46 (eP.calls k1 _ _ l1 ((aA aI bR).f0) true _ (pB HH) KY.1 A6.out) ?_; rintro w' ⟨nd, rfl⟩))
    go_roundg k1
    case measure => have := HK1.out; omega
    case rel => exact ⟨(wrap64 (bR + 1)), dU, H', ⟨by have := HK1.out; omega⟩, ⟨rB a6.1⟩, ⟨fH⟩⟩
   ·obtain ⟨dB, A9, H⟩ := bd H
    refine tC H ?_ ?_ <;> clear H <;> intro Ai H <;> subst Ai
    ·obtain rfl := Option.some.inj H
     repeat clear H
     have Uq := cz2 a6
     obtain ⟨pJ, vD, vI, vE, vJ, uM, oW, qT, qU, rT, rP, vU, vT, EE, EH⟩ := aT52 bV HB bR
     cases uM
     go_wp2_with (first | ((with_reducible refine gC 46 ?_); refine cQ (some 20) Tryz.func46 (eP.calls k1 _ _ l1 ((aA aI bR).f0) false _ (pB HH) KY.1 A6.out) ?_; rintro w' ⟨nd, rfl⟩) | (go_at_call 107; refine cM (kG.calls k1 _ _ aZ _ _ aI bR _ _ l1 true _ ((Kd.aU dT.1 fH)) dS.1 ((Kd.aU bV.1 fH)) eS.1 ((Kd.aU HH.1 fH)) KY.1 A9.out) ?_; rintro w12 hb; replace a6 := bB d3 hb; replace HB := bS fH hb; clear hb))
     go_ret
     exact ⟨eR, fH⟩
    ·have H' := am H
     repeat clear H
     have Us := cz2 a6
     obtain ⟨pJ, vD, vI, vE, vJ, uM, oW, qT, qU, rT, rP, vU, vT, EE, EH⟩ := aT52 bV HB bR
     cases uM
     go_wp2_with (first | ((with_reducible refine gC 46 ?_); refine cQ (some 20) Tryz.func46 (eP.calls k1 _ _ l1 ((aA aI bR).f0) false _ (pB HH) KY.1 A6.out) ?_; rintro w' ⟨nd, rfl⟩) | (go_at_call 107; refine cM (kG.calls k1 _ _ aZ _ _ aI bR _ _ l1 false _ ((Kd.aU dT.1 fH)) dS.1 ((Kd.aU bV.1 fH)) eS.1 ((Kd.aU HH.1 fH)) KY.1 A9.out) ?_; rintro w14 hb; replace a6 := bB d3 hb; replace HB := bS fH hb; clear hb))
     go_roundg k1
     case measure => have := HK1.out; omega
     case rel => exact ⟨(wrap64 (bR + 1)), dU, H', ⟨by have := HK1.out; omega⟩, ⟨rB a6.1⟩, ⟨fH⟩⟩
  ·obtain rfl := Option.some.inj H
   repeat clear H
   have yo := cz2 a6
   go_wp2
   go_ret
   exact ⟨eR, fH⟩
def iA.l0 : Nat → List ByteArray → List ByteArray → List (S52) → Option (List ByteArray × Bool)
 | 0, _, _, _ => none
 | k + 1, a, d, b => if (a.length : Int) < (b.length : Int) then ((jT.f k d b a).bind fun c => (if c < 0 then (some ((([] : List ByteArray)), false)) else (if 0 ≤ c then (if c < (b.length : Int) then (if a.length < 8796093022208 then (iA.l0 k (a ++ [(aA b c).f0]) d b) else (none)) else (none)) else (none)))) else (some (a, true))
def iA.f (k : Nat) (aZ : List ByteArray) (aI : List (S52)) : Option (List ByteArray × Bool) := (some (([] : List ByteArray) : List ByteArray)).bind fun a => ((aN.f k aZ aI).bind fun b => (if b = true then (iA.l0 k a aZ aI) else (some (a, false))))
theorem iA.calls (k : Nat) (eE : Option Addr) (eF : Nat) (aZ : List ByteArray) (eV : Option Addr) (eC : Nat) (aI : List (S52)) (r1 : List ByteArray) (r2 : Bool) (w : World) (gP : Kd.C Kd.string w eE aZ.length aZ) (gN : aZ.length ≤ eF) (gK : Kd.C k52 w eV aI.length aI) (gO : aI.length ≤ eC) (h : iA.f k aZ aI = some (r1, r2)) :
  Calls Tryz.prog 69 #[.agg #[.slice eE aZ.length eF, .slice eV aI.length eC]] w fun e w' => ∃ v0_ : Value, e = .returned (.tuple #[v0_, .bool r2]) ∧ Kd.R Kd.string 9 w' w.heap.size (fun _ => True) v0_ r1 ∧ Below w.heap.size w w' := by
 have hu26 := Tryz.underlying26
 obtain ⟨dT, dS⟩ := mZ2 gP gN
 obtain ⟨bV, eS⟩ := mZ2 gK gO
 clear gP gN gK gO
 have HB := am (Below.refl w.heap.size w)
 unfold iA.f at h
 have H := h
 clear h
 obtain ⟨Nb, hy102⟩ : ∃ y_ : List ByteArray, y_ = (([] : List ByteArray)) := ⟨_, rfl⟩
 replace H : ((aN.f k aZ aI).bind fun mV => (if mV = true then (iA.l0 k Nb aZ aI) else (some (Nb, false)))) = some (r1, r2) := by first | (rw [hy102]; with_reducible exact H) | (have H2_ := (Option.bind_some _ _).symm.trans H; rw [hy102]; with_reducible exact H2_) | (have H2_ := (Option.bind_some _ _).symm.trans H; with_reducible exact H2_) | with_reducible exact H | (rw [hy102]; exact H) | exact H
 have PX := am hy102
 clear hy102
 obtain ⟨mV, A2, H⟩ := bd H
 refine tC H ?_ ?_ <;> clear H <;> intro c3 H <;> subst c3
 ·have H' := am H
  repeat clear H
  go_enter Tryz.func69, Tryz.ntmps69
  go_wp2_with (first | ((with_reducible refine gD 1 ?_); refine bX 1 #[.slice eE aZ.length eF, .slice eV aI.length eC] 26 ?_; intro aW hg w4 hbox hb; have a6 := am hbox; have iS := am (u4 : w.heap.size ≤ aW); have j5 := iS; replace HB := bS iJ hb; clear hb hbox hg) | ((with_reducible refine jW (N := 6) rfl ?_); refine lS 9 6 PX ?_; intro Mx w5 ho6 hb; have EL := am (Kd.dO ho6 (aG fH)); replace a6 := bB d3 hb; replace HB := bS fH hb; clear hb ho6; have Z7 := cz2 a6) | ((with_reducible refine gC 31 ?_); refine cQ (some 8) Tryz.func31 (aN.calls k _ _ aZ _ _ aI true _ (pB dT) dS.1 (pB bV) eS.1 A2.out) ?_; rintro w8 hb; replace EL := am (Kd.jA (rR EL.1) hb); replace a6 := bB d3 hb; replace HB := bS fH hb; clear hb))
  go_loopg [4] k (fun kq v4 w' => ∃ (oF : List ByteArray), aC (iA.l0 kq oF aZ aI = some (r1, r2)) ∧ aC (kq ≤ k) ∧ aC (Kd.R Kd.string 9 w' w.heap.size (fun _ => True) v4 oF) ∧ aC (w'.heap[aW]? = some (.cells #[(.slice eE aZ.length eF), (.slice eV aI.length eC)] 26 (0, 0))) ∧ aC (Below w.heap.size w w'))
  case atStart => exact ⟨(Nb), H', ⟨Nat.le_refl _⟩, ⟨rR EL.1⟩, ⟨rB a6.1⟩, ⟨fH⟩⟩
  clear H'
  try clear c3
  try clear Z7
  obtain ⟨oF, HA, HK1, iG, a6, HB⟩ := hrel
  cases gk with
  | zero => exact absurd HA.out (by simp [iA.l0])
  | succ k1 =>
   have H := HA.out
   clear HA
   simp only [iA.l0] at H
   by_cases c9 : (oF.length : Int) < (aI.length : Int)
   ·rw [if_pos c9] at H
    have FU : decide ((oF.length : Int) < (aI.length : Int)) = true := decide_eq_true c9
    have Qv : decide (oF.length < aI.length) = true := decide_eq_true (Int.ofNat_lt.mp c9)
    clear c9
    obtain ⟨BO, sv, H⟩ := bd H
    refine ic H ?_ ?_ <;> clear H <;> intro I8 H
    ·obtain ⟨V0, hy107⟩ : ∃ y_ : List ByteArray, y_ = (([] : List ByteArray)) := ⟨_, rfl⟩
     replace H : (some (V0, false)) = some (r1, r2) := by first | (rw [hy107]; with_reducible exact H) | (have H2_ := (Option.bind_some _ _).symm.trans H; rw [hy107]; with_reducible exact H2_) | (have H2_ := (Option.bind_some _ _).symm.trans H; with_reducible exact H2_) | with_reducible exact H | (rw [hy107]; exact H) | exact H
     have MN := am hy107
     clear hy107
     obtain ⟨rfl, rfl⟩ := sZ2 H
     repeat clear H
     obtain ⟨aAJ, EB, mw⟩ := Kd.cZ iG.1
     subst mw
     have Us := cz2 a6
     go_wp2_with (first | ((with_reducible refine gC 92 ?_); refine cQ (some 19) Tryz.func92 (jT.calls k1 _ _ aZ _ _ aI _ _ oF BO _ (pB dT) dS.1 (pB bV) eS.1 (pC (Kd.bH iG.1).2.2) ((Kd.bH iG.1).2.1) sv.out) ?_; rintro w14 hb; replace iG := RB F7 hb; replace a6 := bB d3 hb; replace HB := bS fH hb; clear hb) | ((with_reducible refine jW (N := 22) rfl ?_); refine lS 9 22 MN ?_; intro D0 w15 pk hb; have fD := am (Kd.dO (Kd.fF pk (Kd.R_lt F7)) (aG fH)); replace iG := am (Kd.dV F7 (Kd.bT pk) hb); replace a6 := bB d3 hb; replace HB := bS fH hb; clear hb pk))
     go_ret2
     exact ⟨_, eR, by refine rR ?_; exact Kd.aT fD.1 (fun _ hk => trivial), fH⟩
    ·obtain ⟨Ii, H⟩ := cN H
     obtain ⟨I9, H⟩ := cN H
     obtain ⟨Ow, H⟩ := cL H
     obtain ⟨aG9, Pj⟩ := yv (oF ++ [(aA aI BO).f0]); first | replace H := bW Pj H | rw [← Pj.1] at H
     have H' := am H
     repeat clear H
     obtain ⟨zV, p1, Fg⟩ := Kd.cZ iG.1
     subst Fg
     have yq := cz2 a6
     go_wp2_with (first | ((with_reducible refine gC 92 ?_); refine cQ (some 19) Tryz.func92 (jT.calls k1 _ _ aZ _ _ aI _ _ oF BO _ (pB dT) dS.1 (pB bV) eS.1 (pC (Kd.bH iG.1).2.2) ((Kd.bH iG.1).2.1) sv.out) ?_; rintro uf hb; replace iG := RB F7 hb; replace a6 := bB d3 hb; replace HB := bS fH hb; clear hb; have yr := cz2 a6; obtain ⟨Ic, Nn, Ql, Np, Qm, Rc, RG, JQ, JR, R5, Hf, J3, QY, a3C, a3J⟩ := aT52 bV HB BO; cases Rc) | ((with_reducible refine lQ (b := .append) (xs := #[.tmp 23, .tmp 30]) rfl ?_); at_builtin; refine Kd.wT Kd.string (w0 := w) w.heap.size rfl (.tmp 23) (.tmp 30) 23 9 (.string ⟨#[]⟩) 16 rfl Tryz.underlying23 sQ rfl (by decide) (by omega) (.slice zV oF.length p1) oF ((aA aI BO).f0) [.string ((aA aI BO).f0)] (fun _ => True) (fun _ => False) rfl rfl ?aP (fun _ hk => hk.elim) ?aF ?aO ?aB ?aS ?aL ?_; (case aP => exact rfl); (case aB => exact fH); (case aF => exact (fun _ _ => trivial)); (case aO => exact F7); (case aS => exact (aG fH)); (case aL => have := Ow.out; omega); intro a3Y w24 ho hb hg hat; rw [← Pj.out] at ho; replace a6 := gkR d3 hg iG a6; replace HB := am hb; have Hj := am ho; clear iG; clear ho hb hg hat))
     go_roundg k1
     case measure => have := HK1.out; omega
     case rel => exact ⟨(aG9), H', ⟨by have := HK1.out; omega⟩, ⟨rR Hj.1⟩, ⟨rB a6.1⟩, ⟨fH⟩⟩
   ·rw [if_neg c9] at H
    have FU : decide ((oF.length : Int) < (aI.length : Int)) = false := decide_eq_false c9
    have Qv : decide (oF.length < aI.length) = false := decide_eq_false (fun h => c9 (Int.ofNat_lt.mpr h))
    clear c9
    obtain ⟨rfl, rfl⟩ := sZ2 H
    repeat clear H
    obtain ⟨fs, lz, Wv⟩ := Kd.cZ iG.1
    subst Wv
    have Z26 := cz2 a6
    go_wp2
    go_ret2
    exact ⟨_, eR, rR iG.1, fH⟩
 obtain ⟨rfl, rfl⟩ := sZ2 H
 repeat clear H
 go_enter Tryz.func69, Tryz.ntmps69
 go_wp2_with (first | ((with_reducible refine gD 1 ?_); refine bX 1 #[.slice eE aZ.length eF, .slice eV aI.length eC] 26 ?_; intro aW hg w27 hbox hb; have a6 := am hbox; have iS := am (u4 : w.heap.size ≤ aW); have j5 := iS; replace HB := bS iJ hb; clear hb hbox hg) | ((with_reducible refine jW (N := 6) rfl ?_); refine lS 9 6 PX ?_; intro Mx w28 a3A hb; have EL := am (Kd.dO a3A (aG fH)); replace a6 := bB d3 hb; replace HB := bS fH hb; clear hb a3A; have Z30 := cz2 a6) | ((with_reducible refine gC 31 ?_); refine cQ (some 8) Tryz.func31 (aN.calls k _ _ aZ _ _ aI false _ (pB dT) dS.1 (pB bV) eS.1 A2.out) ?_; rintro se hb; replace EL := am (Kd.jA (rR EL.1) hb); replace a6 := bB d3 hb; replace HB := bS fH hb; clear hb))
 go_ret2
 exact ⟨_, eR, rR EL.1, fH⟩
def mG.f (k : Nat) (aZ : List ByteArray) (aI : List (S52)) : Option (Bool) := (iA.f k aZ aI).bind fun a => (some a.2)
theorem mG.calls (k : Nat) (eE : Option Addr) (eF : Nat) (aZ : List ByteArray) (eV : Option Addr) (eC : Nat) (aI : List (S52)) (r : Bool) (w : World) (gP : Kd.C Kd.string w eE aZ.length aZ) (gN : aZ.length ≤ eF) (gK : Kd.C k52 w eV aI.length aI) (gO : aI.length ≤ eC) (h : mG.f k aZ aI = some r) :
  Calls Tryz.prog 42 #[.agg #[.slice eE aZ.length eF, .slice eV aI.length eC]] w fun e w' => e = .returned (.bool r) ∧ Below w.heap.size w w' := by
 have hu26 := Tryz.underlying26
 obtain ⟨dT, dS⟩ := mZ2 gP gN
 obtain ⟨bV, eS⟩ := mZ2 gK gO
 clear gP gN gK gO
 have HB := am (Below.refl w.heap.size w)
 unfold mG.f at h
 have H := h
 clear h
 obtain ⟨⟨vA, mV⟩, A2, H⟩ := bd H
 dsimp only at H
 obtain rfl := Option.some.inj H
 repeat clear H
 go_enter Tryz.func42, Tryz.ntmps42
 go_wp2_with (first | ((with_reducible refine gD 1 ?_); refine bX 1 #[.slice eE aZ.length eF, .slice eV aI.length eC] 26 ?_; intro aW hg w3 hbox hb; have a6 := am hbox; have iS := am (u4 : w.heap.size ≤ aW); have j5 := iS; replace HB := bS iJ hb; clear hb hbox hg; have Z4 := cz2 a6) | ((with_reducible refine gC 69 ?_); refine cE (some 7) Tryz.func69 (iA.calls k _ _ aZ _ _ aI vA mV _ (pB dT) dS.1 (pB bV) eS.1 A2.out) ?_; rintro e w5 ⟨Mx, rfl, eH, hb⟩; refine ⟨_, rfl, ?_⟩; have EL := am (Kd.dO eH (aG fH)); replace a6 := bB d3 hb; replace HB := bS fH hb; clear hb eH))
 go_ret
 exact ⟨eR, fH⟩
def BA (P : Nat → Bool) (n i : Nat) : Option Nat := (List.range' i (n - i)).find? P
theorem OY (P : Nat → Bool) (n : Nat) : BA P n n = none := by simp [BA]
theorem LF (P : Nat → Bool) {n i : Nat} (h : i < n) : BA P n i = if P i = true then some i else BA P n (i + 1) := by
 unfold BA; rw [show n - i = (n - (i + 1)) + 1 by omega, List.range'_succ, List.find?_cons]
 cases P i <;> rfl
def BI (P : Nat → Bool) (n i : Nat) : List Nat := (List.range' i (n - i)).filter P
theorem Ay (P : Nat → Bool) (n : Nat) : BI P n n = [] := by simp [BI]
theorem XT (P : Nat → Bool) {n i : Nat} (h : i < n) : BI P n i = if P i = true then i :: BI P n (i + 1) else BI P n (i + 1) := by
 unfold BI; rw [show n - i = (n - (i + 1)) + 1 by omega, List.range'_succ, List.filter_cons]
def canP (bs : List IB) (at_ : Nat) (gone : List ByteArray) (q : Nat) : Bool := decide (q = at_) || (hasS gone (gB bs q).f0 || !nV (gB bs q).f1 (gB bs at_).f2)
def canB (bs : List IB) (at_ : Nat) (gone : List ByteArray) : Bool := allR (canP bs at_ gone) bs.length 0
theorem UW (ts : List ByteArray) (bs : List IB) (at_ : Nat) (gone : List ByteArray) (hl : bs.length ≤ 9223372036854775807) (hb : Bok bs) (ha : at_ < bs.length) (hg : gone.length ≤ 9223372036854775807) : Ev (fun k => kG.f k ts bs (at_ : Int) gone) (canB bs at_ gone) := by
 unfold kG.f
 have b0 := hb.at_ ha
 refine Ev.loop (f := fun k i => kG.l0 k (at_ : Int) gone (i : Int) ts bs) (val := allR (canP bs at_ gone) bs.length) bs.length ?_ ?_ 0 (by omega)
 ·rw [C9]
  refine Ev.step (fun k => kG.l0.eq_2 _ gone _ ts bs k) ?_
  exact Ev.neg (by omega) (Ev.ret rfl)
 intro i hi H
 rw [zD _ hi]
 refine Ev.step (fun k => kG.l0.eq_2 _ gone _ ts bs k) ?_
 refine Ev.pos (by omega) ?_
 rw [jR hi hl, iV, iV]
 have bi := hb.at_ hi
 refine Ev.prop (fun h => Ev.sub H (by simp [canP, show i = at_ by omega])) (fun h => Ev.pos (by omega) (Ev.bind (sM gone _ hg) ?_))
 have hne : decide (i = at_) = false := decide_eq_false (by omega)
 refine Ev.test _ (fun h1 => Ev.sub H (by simp [canP, h1])) (fun h1 => Ev.pos (by omega) (Ev.pos (by omega) (Ev.bind (AV _ _ bi.1 b0.2) ?_)))
 refine Ev.test _ (fun h2 => Ev.ret (by simp [canP, h1, h2, hne])) (fun h2 => Ev.sub H (by simp [canP, h2]))
theorem Q9 (ts : List ByteArray) (bs : List IB) (at_ : Nat) (gone : List ByteArray) (hl : bs.length ≤ 9223372036854775807) (ha : at_ < bs.length) (hg : gone.length ≤ 9223372036854775807) : Ev (fun k => bU.f k ts bs (at_ : Int) gone) (canB bs at_ gone) := by
 unfold bU.f
 refine Ev.loop (f := fun k i => bU.l0 k (at_ : Int) gone bs (bs.length : Int) (i : Int) ts bs) (val := allR (canP bs at_ gone) bs.length) bs.length ?_ ?_ 0 (by omega)
 ·rw [C9]
  refine Ev.step (fun k => bU.l0.eq_2 _ gone bs _ _ ts bs k) ?_
  exact Ev.neg (by omega) (Ev.ret rfl)
 intro i hi H
 rw [zD _ hi]
 refine Ev.step (fun k => bU.l0.eq_2 _ gone bs _ _ ts bs k) ?_
 refine Ev.pos (by omega) (Ev.pos (by omega) (Ev.pos (by omega) ?_))
 rw [jR hi hl, iV, iV]
 refine Ev.prop (fun h => Ev.sub H (by simp [canP, show i = at_ by omega])) (fun h => Ev.bind (DN gone _ hg) ?_)
 have hne : decide (i = at_) = false := decide_eq_false (by omega)
 refine Ev.test _ (fun h1 => Ev.sub H (by simp [canP, h1])) (fun h1 => Ev.pos (by omega) (Ev.pos (by omega) ?_))
 simp only [mD.f, Option.bind_some]
 refine Ev.test _ (fun h2 => Ev.ret (by simp [canP, h1, hne, show nV (gB bs i).f1 (gB bs at_).f2 = true from h2])) (fun h2 => Ev.sub H (by simp [canP, show nV (gB bs i).f1 (gB bs at_).f2 = false from h2]))
def CR (bs : List IB) (i : Nat) : List ByteArray := (BI (fun i => canB bs i []) bs.length i).map fun i => (gB bs i).f0
def vM (ts : List ByteArray) (bs : List IB) : List ByteArray := if q8 ts bs = true then CR bs 0 else []
theorem Ci {bs : List IB} {i : Nat} (hi : i < bs.length) : CR bs i = if canB bs i [] = true then (gB bs i).f0 :: CR bs (i + 1) else CR bs (i + 1) := by
 unfold CR; rw [XT _ hi]; cases canB bs i [] <;> rfl
theorem Fw (bs : List IB) : CR bs bs.length = [] := by unfold CR; rw [Ay]; rfl
theorem ET {ts : List ByteArray} {bs : List IB} (h : q8 ts bs = true) : bs.length ≤ 5 := by
 unfold q8 at h; simp only [Bool.and_eq_true, decide_eq_true_eq] at h; exact h.2.1
theorem CP (ts : List ByteArray) (bs : List IB) (ht : ts.length ≤ 9223372036854775807) (hl : bs.length ≤ 9223372036854775807) (hb : Bok bs) : Ev (fun k => fT.f k ts bs) (vM ts bs) := by
 unfold fT.f vM
 refine Ev.bind (kW ts bs ht hl hb) (Ev.test _ (fun h => ?_) (fun h => Ev.ret (by simp [h])))
 have h5 := ET h
 rw [if_pos h]
 have go : ∀ (d i : Nat) (x : List ByteArray), bs.length - i = d → i ≤ bs.length → x.length ≤ i → Ev (fun k => fT.l0 k x bs (bs.length : Int) (i : Int) ts bs) (x ++ CR bs i) := by
  intro d
  induction d with
  | zero =>
   intro i x hd hi hx
   have e : i = bs.length := by omega
   refine Ev.step (fun k => fT.l0.eq_2 x bs _ _ ts bs k) (Ev.neg (by omega) (Ev.ret ?_))
   subst e
   rw [Fw, List.append_nil]
  | succ d ih =>
   intro i x hd hi hx
   have hlt : i < bs.length := by omega
   refine Ev.step (fun k => fT.l0.eq_2 x bs _ _ ts bs k) (Ev.pos (by omega) (Ev.pos (by omega) (Ev.pos (by omega) (Ev.bind (Q9 ts bs i [] hl hlt (by simp)) ?_))))
   rw [iV, jR hlt hl, Ci hlt]
   refine Ev.test _ (fun h2 => Ev.pos (by omega) ?_) (fun h2 => ?_)
   ·refine Ev.sub (ih (i + 1) (x ++ [(gB bs i).f0]) (by omega) (by omega) (by simp; omega)) ?_
    rw [if_pos h2, List.append_assoc]; rfl
   ·refine Ev.sub (ih (i + 1) x (by omega) (by omega) (by omega)) ?_
    rw [if_neg (by simp [h2])]
 exact go bs.length 0 [] (by omega) (by omega) (by simp)
def LZ (ts : List ByteArray) (bs : List IB) : Bool := q8 ts bs && (decide (0 < bs.length) && (vM ts bs).isEmpty)
theorem Bu (l : List ByteArray) : ((l.length : Int) == 0) = l.isEmpty := by cases l with
  | nil => rfl
  | cons a l => rw [List.isEmpty_cons, beq_eq_false_iff_ne, List.length_cons]; omega
theorem LP (ts : List ByteArray) (bs : List IB) (ht : ts.length ≤ 9223372036854775807) (hl : bs.length ≤ 9223372036854775807) (hb : Bok bs) : Ev (fun k => p9.f k ts bs) (LZ ts bs) := by
 unfold p9.f LZ
 refine Ev.bind (kW ts bs ht hl hb) (Ev.test _ (fun h => Ev.prop (fun h2 => Ev.bind (CP ts bs ht hl hb) (Ev.ret ?_)) (fun h2 => Ev.ret ?_)) (fun h => Ev.ret (by simp [h])))
 ·rw [h, show decide (0 < bs.length) = true from decide_eq_true (by omega), Bu]; rfl
 rw [show decide (0 < bs.length) = false from decide_eq_false (by omega)]; simp
def F4 (bs : List IB) (gone : List ByteArray) (i : Nat) : Bool := !hasS gone (gB bs i).f0 && canB bs i gone
def QB (bs : List IB) (gone : List ByteArray) : Option Nat := BA (F4 bs gone) bs.length 0
def yD (bs : List IB) : Nat → List ByteArray → List ByteArray × Bool
  | 0, gone => (gone, true)
  | d + 1, gone => match QB bs gone with
    | none => ([], false)
    | some i => yD bs d (gone ++ [(gB bs i).f0])
def P7 (ts : List ByteArray) (bs : List IB) : List ByteArray × Bool := if q8 ts bs = true then yD bs bs.length [] else ([], false)
theorem MV {P : Nat → Bool} {n i j : Nat} (h : BA P n i = some j) : i ≤ j ∧ j < n ∧ P j = true := by
 unfold BA at h
 have h1 := List.find?_some h
 have h2 := List.mem_of_find?_eq_some h
 rw [List.mem_range'_1] at h2
 exact ⟨by omega, by omega, h1⟩
theorem U4 (ts : List ByteArray) (bs : List IB) (gone : List ByteArray) (hl : bs.length ≤ 9223372036854775807) (hb : Bok bs) (hg : gone.length ≤ 9223372036854775807) : Ev (fun k => jT.f k ts bs gone) (((QB bs gone).map fun (i : Nat) => (i : Int)).getD (-1)) := by
 unfold jT.f QB
 refine Ev.loop (f := fun k i => jT.l0 k gone (i : Int) ts bs) (val := fun i => ((BA (F4 bs gone) bs.length i).map fun (i : Nat) => (i : Int)).getD (-1)) bs.length ?_ ?_ 0 (by omega)
 ·refine Ev.step (fun k => jT.l0.eq_2 gone _ ts bs k) (Ev.neg (by omega) (Ev.ret (by simp [OY])))
 intro i hi H
 simp only [LF (F4 bs gone) hi]
 refine Ev.step (fun k => jT.l0.eq_2 gone _ ts bs k) (Ev.pos (by omega) (Ev.pos (by omega) (Ev.bind (sM gone _ hg) ?_)))
 rw [iV, jR hi hl]
 refine Ev.test _ (fun h => Ev.sub H (by simp [F4, h])) (fun h => Ev.bind (UW ts bs i gone hl hb hi hg) ?_)
 refine Ev.test _ (fun h2 => Ev.ret (by simp [F4, h, h2])) (fun h2 => Ev.sub H (by simp [F4, h2]))
theorem LX (ts : List ByteArray) (bs : List IB) (ht : ts.length ≤ 9223372036854775807) (hl : bs.length ≤ 9223372036854775807) (hb : Bok bs) : Ev (fun k => iA.f k ts bs) (P7 ts bs) := by
 unfold iA.f P7
 simp only [Option.bind_some]
 refine Ev.bind (pM ts bs ht hl hb) (Ev.test _ (fun h => ?_) (fun h => Ev.ret (by simp [h])))
 have h5 := ET h
 rw [if_pos h]
 have go : ∀ (d : Nat) (x : List ByteArray), x.length + d = bs.length → Ev (fun k => iA.l0 k x ts bs) (yD bs d x) := by
  intro d
  induction d with
  | zero =>
   intro x hx
   exact Ev.step (fun k => iA.l0.eq_2 x ts bs k) (Ev.neg (by omega) (Ev.ret rfl))
  | succ d ih =>
   intro x hx
   refine Ev.step (fun k => iA.l0.eq_2 x ts bs k) (Ev.pos (by omega) (Ev.bind (U4 ts bs x hl hb (by omega)) ?_))
   unfold yD
   cases hn : QB bs x with
   | none => exact Ev.pos (by simp) (Ev.ret rfl)
   | some i =>
    have hi := (MV hn).2.1
    simp only [Option.map_some, Option.getD_some]
    refine Ev.neg (by omega) (Ev.pos (by omega) (Ev.pos (by omega) (Ev.pos (by omega) ?_)))
    rw [iV]
    exact ih _ (by simp; omega)
 exact go bs.length [] (by simp)
theorem LK (ts : List ByteArray) (bs : List IB) (ht : ts.length ≤ 9223372036854775807) (hl : bs.length ≤ 9223372036854775807) (hb : Bok bs) : Ev (fun k => eO.f k ts bs) (P7 ts bs) := by
 unfold eO.f P7
 refine Ev.bind (kW ts bs ht hl hb) (Ev.test _ (fun h => ?_) (fun h => Ev.ret (by simp [h])))
 have h5 := ET h
 rw [if_pos h]
 have go : ∀ (d : Nat) (x : List ByteArray), x.length + d = bs.length → Ev (fun k => eO.l0 k x ts bs) (yD bs d x) := by
   intro d
   induction d with
   | zero =>
     intro x hx
     exact Ev.step (fun k => eO.l0.eq_2 x ts bs k) (Ev.neg (by omega) (Ev.ret rfl))
   | succ d ih =>
     intro x hx
     refine Ev.step (fun k => eO.l0.eq_2 x ts bs k) (Ev.pos (by omega) ?_)
     unfold yD QB
     refine Ev.loop (f := fun k i => eO.l1 k x (x.length : Int) bs (bs.length : Int) (i : Int) ts bs)
       (val := fun i => match BA (F4 bs x) bs.length i with | none => ([], false) | some i => yD bs d (x ++ [(gB bs i).f0])) bs.length ?_ ?_ 0 (by omega)
     · simp only [OY]
       exact Ev.step (fun k => eO.l1.eq_2 x _ bs _ _ ts bs k) (Ev.neg (by omega) (Ev.pos rfl (Ev.ret rfl)))
     · intro i hi H
       simp only [LF (F4 bs x) hi]
       refine Ev.step (fun k => eO.l1.eq_2 x _ bs _ _ ts bs k) (Ev.pos (by omega) (Ev.pos (by omega) (Ev.pos (by omega) (Ev.bind (DN x _ (by omega)) ?_))))
       rw [iV, jR hi hl]
       refine Ev.test _ (fun h1 => Ev.sub H (by simp [F4, h1])) (fun h1 => Ev.bind (Q9 ts bs i x hl hi (by omega)) ?_)
       refine Ev.test _ (fun h2 => Ev.pos (by omega) ?_) (fun h2 => Ev.sub H (by simp [F4, h2]))
       simp only [Option.bind_some]
       refine Ev.neg (by simp; omega) (Ev.sub (ih _ (by simp; omega)) (by simp [F4, h1, h2]))
 exact go bs.length [] (by simp)
def nT (ts : List ByteArray) (bs : List IB) : Bool := (P7 ts bs).2
theorem DX (ts : List ByteArray) (bs : List IB) (ht : ts.length ≤ 9223372036854775807) (hl : bs.length ≤ 9223372036854775807) (hb : Bok bs) : Ev (fun k => mG.f k ts bs) (nT ts bs) :=
  Ev.bind (LX ts bs ht hl hb) (Ev.ret rfl)
theorem uW (ts : List ByteArray) (bs : List IB) (ht : ts.length ≤ 9223372036854775807) (hl : bs.length ≤ 9223372036854775807) (hb : Bok bs) : Ev (fun k => jH.f k ts bs) (nT ts bs) :=
  Ev.bind (LK ts bs ht hl hb) (Ev.ret rfl)
def idxI (p : ByteArray → Bool) (l : List IB) (i : Nat) : Int := ((BA (fun i => p (gB l i).f0) l.length i).map fun (i : Nat) => (i : Int)).getD (-1)
theorem Bl (p : ByteArray → Bool) (l : List IB) : idxI p l l.length = -1 := by unfold idxI; rw [OY]; rfl
theorem VR (p : ByteArray → Bool) {l : List IB} {i : Nat} (h : i < l.length) : idxI p l i = if p (gB l i).f0 = true then (i : Int) else idxI p l (i + 1) := by
 unfold idxI; rw [LF _ h]; cases p (gB l i).f0 <;> rfl
def xz (g : Nat) (lb : Array Value) (p : ByteArray → Bool) (w : World) : Prop :=
 ∀ (W : World) (s : ByteArray) (A1 : Option Addr) (n1 c1 : Nat) (A2 : Option Addr) (n2 c2 : Nat), Below w.heap.size w W → Calls Tryz.prog g (#[.agg #[.string s, .slice A1 n1 c1, .slice A2 n2 c2]] ++ lb) W fun e w' => e = .returned (.bool (p s)) ∧ Below w.heap.size w w'
set_option maxHeartbeats 2000000 in
theorem TJ (g : Nat) (lb : Array Value) (eg : ∀ args w, (callFunc g args).run Tryz.prog w = .ok (.enter g args) w) (p : ByteArray → Bool) (A0 : Option Addr) (c0 : Nat) (l0 : List IB) (w : World)
  (tM : Kd.C k52 w A0 l0.length l0) (hp : xz g lb p w) :
  Calls Tryz.prog 57 #[.slice A0 l0.length c0, .func (.func g) #[] lb] w fun e w' => e = .returned (.int .i64 (idxI p l0 0)) ∧ Below w.heap.size w w' := by
 have hbig := V3 tM
 have tV := am tM
 clear tM
 have HP := am hp
 clear hp
 have hu := Tryz.underlying52
 go_enter Tryz.func57, Tryz.ntmps57
 go_wp2
 go_loopg [5, 8] l0.length (fun gg _ s8 wr => ∃ kk : Nat, kk ≤ l0.length ∧ l0.length - kk ≤ gg ∧ s8 = .int .i64 kk ∧ aC (Below w.heap.size w wr) ∧ aC (idxI p l0 0 = idxI p l0 kk))
 case atStart => exact ⟨0, Nat.zero_le _, by omega, rfl, ⟨Below.refl _ w⟩, ⟨rfl⟩⟩
 obtain ⟨kk, hkk, hg, rfl, BW, A⟩ := hrel
 by_cases hlt : kk < l0.length
 ·have hltz : (kk : Int) < (l0.length : Int) := by omega
  have e1 := A.out
  rw [VR p hlt] at e1
  have E1 := am e1
  clear e1
  obtain ⟨ad, A1, c1, A2, c2, rfl, pq, Xh, Nh, _, _, _, _⟩ := CB tV.1 (kk : Int) (by omega) (by omega)
  have hcall := HP.out wr (gB l0 kk).f0 A1 (aA l0 (kk : Int)).f1.length c1 A2 (aA l0 (kk : Int)).f2.length c2 BW.out
  rw [← iV] at hcall E1
  rw [Int.toNat_natCast] at pq Xh Nh
  replace pq := (BW.out.cell (World.block_lt_of_cell? w _ pq)).trans pq
  replace Xh := (BW.out.cell (World.block_lt_of_cell? w _ Xh)).trans Xh
  replace Nh := (BW.out.cell (World.block_lt_of_cell? w _ Nh)).trans Nh
  generalize aA l0 (kk : Int) = y at pq Xh Nh hcall E1
  obtain ⟨y0, y1, y2⟩ := y
  cases hq : p y0 with
  | true =>
   rw [hq] at hcall
   have E2 : aC (idxI p l0 0 = kk) := ⟨by rw [E1.out, if_pos hq]⟩
   clear hq
   go_wp2_with ((go_at_fn g; refine hcall.mono ?_; rintro e w' ⟨rfl, hb'⟩))
   go_ret
   exact ⟨by rw [E2.out]; rfl, hb'⟩
  | false =>
   rw [hq] at hcall
   have E2 : aC (idxI p l0 0 = idxI p l0 (kk + 1)) := ⟨by rw [E1.out, if_neg (by simp [hq])]⟩
   clear hq
   go_wp2_with ((go_at_fn g; refine hcall.mono ?_; rintro e w' ⟨rfl, hb'⟩))
   go_roundg (l0.length - (kk + 1))
   case measure => omega
   case rel => exact ⟨kk + 1, by omega, by omega, by go_num, ⟨hb'⟩, E2⟩
 have hltz : ¬ (kk : Int) < (l0.length : Int) := by omega
 have hk2 : kk = l0.length := by omega
 have E2 : aC (idxI p l0 0 = -1) := ⟨by rw [A.out, hk2, Bl]⟩
 subst hk2
 go_wp2
 go_ret
 exact ⟨by rw [E2.out]; rfl, BW.out⟩
theorem Wm (s n : ByteArray) (A1 : Option Addr) (n1 c1 : Nat) (A2 : Option Addr) (n2 c2 : Nat) (gb : Nat) (W : World) (hg : gb < W.heap.size) (hcell : W.cell? ⟨gb, 0, none⟩ = some (.string n)) :
  Calls Tryz.prog 58 #[.agg #[.string s, .slice A1 n1 c1, .slice A2 n2 c2], .pointer (some ⟨gb, 0, none⟩)] W fun e w' => e = .returned (.bool (s.toList == n.toList)) ∧ Below W.heap.size W w' := by
 have hu := Tryz.underlying52
 have hne : gb ≠ W.heap.size := by omega
 go_enter Tryz.func58, Tryz.ntmps58
 go_wp2
 go_ret
 exact ⟨rfl, (Below.refl _ _).alloc (Nat.le_refl _) _⟩
def gH.f (aZ : List ByteArray) (aI : List IB) (a1 : ByteArray) : Option (Int) := some (idxI (fun s => s.toList == a1.toList) aI 0)
theorem gH.calls (eE : Option Addr) (eF : Nat) (aZ : List ByteArray) (eV : Option Addr) (eC : Nat) (aI : List IB) (a1 : ByteArray) (r : Int) (w : World) (gP : Kd.C Kd.string w eE aZ.length aZ) (gN : aZ.length ≤ eF) (gK : Kd.C k52 w eV aI.length aI) (gO : aI.length ≤ eC) (h : gH.f aZ aI a1 = some r) :
  Calls Tryz.prog 27 #[.agg #[.slice eE aZ.length eF, .slice eV aI.length eC], .string a1] w fun e w' => e = .returned (.int .i64 r) ∧ Below w.heap.size w w' := by
 obtain rfl := Option.some.inj h
 clear h
 have hu := Tryz.underlying26
 have HW : aC (Below w.heap.size w ((w.alloc (.cells #[.slice eE aZ.length eF, .slice eV aI.length eC] 26 (0, 0))).alloc (.cells #[.string a1] 9 (0, 0)))) := ⟨((Below.refl _ _).alloc (Nat.le_refl _) _).alloc (by simp) _⟩
 have HC : aC (Calls Tryz.prog 57 #[.slice eV aI.length eC, .func (.func 58) #[] #[.pointer (some ⟨w.heap.size + 1, 0, none⟩)]] ((w.alloc (.cells #[.slice eE aZ.length eF, .slice eV aI.length eC] 26 (0, 0))).alloc (.cells #[.string a1] 9 (0, 0))) fun e w' => e = .returned (.int .i64 (idxI (fun s => s.toList == a1.toList) aI 0)) ∧ Below ((w.alloc (.cells #[.slice eE aZ.length eF, .slice eV aI.length eC] 26 (0, 0))).alloc (.cells #[.string a1] 9 (0, 0))).heap.size ((w.alloc (.cells #[.slice eE aZ.length eF, .slice eV aI.length eC] 26 (0, 0))).alloc (.cells #[.string a1] 9 (0, 0))) w') := by
  refine ⟨TJ 58 _ (enters_of Tryz.func58 (by kernel_rfl) rfl) (fun s => s.toList == a1.toList) eV eC aI _ (Kd.aU gK HW.out) ?_⟩
  intro W s A1 n1 c1 A2 n2 c2 hb
  have hcell : W.cell? ⟨w.heap.size + 1, 0, none⟩ = some (.string a1) := by
   rw [hb.cell (p := ⟨w.heap.size + 1, 0, none⟩) (by simp)]
   simp
  exact (Wm s a1 A1 n1 c1 A2 n2 c2 (w.heap.size + 1) W (Nat.lt_of_lt_of_le (by simp) hb.size) hcell).mono fun e w' ⟨he, hd⟩ => ⟨he, xH hb hb.size hd⟩
 generalize idxI (fun s => s.toList == a1.toList) aI 0 = b at HC
 clear gP gN gK gO
 go_enter Tryz.func27, Tryz.ntmps27
 go_wp2_with ((go_at_call 57; refine HC.out.mono ?_; rintro e w' ⟨rfl, hb'⟩))
 go_ret
 exact ⟨rfl, xH HW.out HW.out.size hb'⟩
end Go.Proofs.YtaofjgnhapnndaaGreat.Q
