/- Texts that the row needs: words on memory and rows, the contracts of the functions it reaches, and the plain lemmas on what they compute. -/
import Derived.Lib.SliceRun
import Derived.Test.YtaofjgnhapnndaaGreatDoorXksag
set_option maxHeartbeats 8000000
set_option maxRecDepth 100000
open Go.Proofs.YtaofjgnhapnndaaGreatDoorFks
namespace Go.Proofs.YtaofjgnhapnndaaGreatDoor.Q
open Go.RowKit Go.Proofs.YtaofjgnhapnndaaGreatDoorW.PrintWords Go.Proofs.YtaofjgnhapnndaaGreatDoorW.PrintLast Go.Proofs.YtaofjgnhapnndaaGreatDoorW.PrintMore
set_option linter.unusedVariables false
set_option linter.unusedSimpArgs false
theorem Tn {α : Type} {d : Kd α} {w : World} {l : List α} (h : d.C w none l.length l) : l = [] := by
 cases l with
 | nil => rfl
 | cons a l =>
  obtain ⟨ad, he, _⟩ := h.2.2 (by simp)
  cases he
def bU.f (l0 : List ByteArray) : Option (List ByteArray) := if l0.length < 8796093022208 then some l0 else none
set_option maxHeartbeats 2000000 in
theorem bU.calls (A0 : Option Addr) (c0 : Nat) (l0 : List ByteArray) (r : List ByteArray) (w : World) (mO : Kd.C Kd.string w A0 l0.length l0) (nE : l0.length ≤ c0) (h : bU.f l0 = some r) :
  Calls Tryz.prog 35 #[.slice A0 l0.length c0] w fun e w' => ∃ v0_ : Value, e = .returned (v0_) ∧ Kd.R Kd.string 9 w' w.heap.size (fun _ => True) v0_ r ∧ Below w.heap.size w w' := by
 unfold bU.f at h
 by_cases c2 : l0.length < 8796093022208
 ·rw [if_pos c2] at h
  obtain rfl := Option.some.inj h
  clear h
  have LM := am c2
  clear c2
  have hnil := fun (W : World) (a : Option Addr) (n c : Nat) => Lib.run_eql_slice_nil (P := Tryz.prog) W 27 9 a n c 0 0 Tryz.underlying27
  cases A0 with
  | none =>
   obtain rfl := Tn mO
   clear mO nE
   go_enter Tryz.func35, Tryz.ntmps35
   go_wp2
   go_ret
   exact ⟨_, rfl, Kd.oQ _ _ _ _ _, Below.refl _ _⟩
  | some a0 =>
   obtain ⟨lH, uR⟩ := mZ2 mO nE
   clear mO nE
   have HB := am (Below.refl w.heap.size w)
   go_enter Tryz.func35, Tryz.ntmps35
   go_wp2_with (first
    | ((with_reducible refine dF (N := 5) rfl ?_); refine Kd.H6 Kd.string _ 9 ?hg (N := 5) ?hd (xs := ([] : List ByteArray)) (inner := []) (ok := fun _ => True) (okp := fun _ => True) ?hr ?hp (fun _ hk => hk) trivial (Below.refl _ _) (Nat.le_refl _) (by simp) ?_; (case hd => rfl); (case hg => rfl); (case hr => first | (go_simp; done) | (go_simp; rfl)); (case hp => exact (Reps.none _ _)); intro Lf w3 IE hb hg_ hnew_; clear hg_ hnew_; have n0_ := am (Kd.eF IE (aK gL)); have n1_ := bS gL hb; clear HB; have GW := n0_; have HB := n1_; clear n0_ n1_; clear hb IE)
    | ((with_reducible refine fA (b := .append) (xs := #[.tmp 5, .tmp 6]) rfl ?_); at_builtin; refine Kd.yZ Kd.string (w0 := w) w.heap.size rfl (.tmp 5) (.tmp 6) 27 9 (.string ⟨#[]⟩) 16 rfl Tryz.underlying27 jP rfl (by decide) (by omega) Lf [] l0 _ _ _ (fun _ => True) (fun _ => False) rfl rfl ?aO ?aR (fun _ _ h => h) (fun _ h => h.elim) ?aF ?aB ?aS ?aL ?_; (case aR => repeat (first | exact (Kd.aM lH.1 HB.1) | (with_reducible refine Kd.l7 ?_ _) | (with_reducible refine Kd.l8 ?_ _) | (with_reducible refine Kd.mK ?_))); (case aB => exact gL); (case aF => exact (fun _ _ => trivial)); (case aO => exact (rR GW.1)); (case aS => exact (aK gL)); (case aL => have := LM.out; simp; omega); intro v105 w5 ho hb hg hat; have n0_ := am hb; have n1_ := am ho; clear HB; clear GW; have HB := n0_; have fQ := n1_; clear n0_ n1_; clear ho hb hg hat))
   go_ret
   exact ⟨_, by first | rfl | (simp; done) | (simp [*]; done), rR fQ.1, gL⟩
 rw [if_neg c2] at h
 exact absurd h (by simp)
def d9.l0 : Nat → List (S66) → Int → Int → List ByteArray → List (S66) → Option (List ByteArray × (List (S66)))
 | 0, _, _, _, _, _ => none
 | k + 1, b, d, a, e, c => if a < d then (if 0 ≤ a then (if a < (b.length : Int) then ((bU.f ((aA b a).f1)).bind fun g => ((bU.f ((aA b a).f2)).bind fun h => (if c.length < 2199023255552 then (d9.l0 k b d (wrap64 (a + 1)) e (c ++ [(⟨(aA b a).f0, g, h⟩ : S66)])) else (none)))) else (none)) else (none)) else (some (e, c))
def d9.f (k : Nat) (aQ : List ByteArray) (aE : List (S66)) : Option (List ByteArray × (List (S66))) := (bU.f aQ).bind fun a => (d9.l0 k aE (aE.length : Int) 0 a ([] : List (S66)))
def d9.T5 : Bool × List (List Nat × List Nat) := (true, [([], []), ([0], [0]), ([], []), ([2], [2]), ([], []), ([4], [4]), ([5], [5]), ([], []), ([7], [7]), ([8, 6], [8]), ([3, 6, 9], [3, 6, 9]), ([10], [10]), ([1, 11, 9], [1, 11]), ([0, 1, 2, 3, 4, 5, 6, 7, 8, 9, 10, 11, 12], []), ([13, 12, 12, 0, 1, 2, 3, 4, 5, 6, 7, 8, 9, 10, 11, 12], [12, 13])])
def d9.B5 : List Nat := [0, 1, 0, 4, 0, 16, 48, 0, 128, 496, 1020, 2044, 4095, 8191, 16383]
theorem d9.tab5 : rtab .any (opsOf Tryz.f71 5) = d9.T5 := by kernel_rfl
theorem d9.Hr : nV d9.T5.2 d9.B5 = true := by kernel_rfl
theorem d9.calls (k : Nat) (dD : Option Addr) (dE : Nat) (aQ : List ByteArray) (dS : Option Addr) (dB : Nat) (aE : List (S66)) (r1 : List ByteArray) (r2 : List (S66)) (w : World) (fL : Kd.C Kd.string w dD aQ.length aQ) (fJ : aQ.length ≤ dE) (fH : Kd.C k66 w dS aE.length aE) (fK : aE.length ≤ dB) (h : d9.f k aQ aE = some (r1, r2)) :
  Calls Tryz.prog 71 #[.agg #[.slice dD aQ.length dE, .slice dS aE.length dB]] w fun e w' => ∃ v0_ v1_ : Value, e = .returned (.agg #[v0_, v1_]) ∧ Kd.R Kd.string 9 w' w.heap.size (fun _ => True) v0_ r1 ∧ Kd.S k66 66 w' w.heap.size (fun k_ => some k_ ≠ (v0_ : Value).ownBlock) v1_ r2 ∧ Below w.heap.size w w' := by
 have hu31 := Tryz.underlying31
 have hu66 := Tryz.underlying66
 obtain ⟨cS, cO⟩ := mZ2 fL fJ
 obtain ⟨bE, dL⟩ := mZ2 fH fK
 clear fL fJ fH fK
 have HB := am (Below.refl w.heap.size w)
 unfold d9.f at h
 have H := h
 clear h
 obtain ⟨mQ, A2, H⟩ := bd H
 have H' := am H
 repeat clear H
 go_enter Tryz.func71, Tryz.ntmps71
 go_wp2_with (first | ((with_reducible refine gD 1 ?_); refine bX 1 #[.slice dD aQ.length dE, .slice dS aE.length dB] 31 ?_; intro aZ hg w3 hbox hb; have aC := am hbox; have gU := am (nS : w.heap.size ≤ aZ); have iL := gU; replace HB := bS gL hb; clear hb hbox hg) | ((with_reducible refine gD 2 ?_); refine bX 2 #[.slice none 0 0, .slice none 0 0] 31 ?_; intro bF hg w4 hbox hb; have aT := am hbox; have qC := am (vA : w.heap.size ≤ bF); have pM := qC; replace HB := bS dQ hb; have dY := nL bJ hg; have eI := nG bJ hg; replace aC := bB bJ hb; clear hb hbox hg; have Z5 := nZ1 dY eI; have Z6 := cz2 aC) | ((with_reducible refine gC 35 ?_); refine cE (some 8) Tryz.func35 (bU.calls _ _ aQ mQ _ (pB cS) cO.1 A2.out) ?_; rintro e w7 ⟨LX, rfl, hD, hb⟩; refine ⟨_, rfl, ?_⟩; have qD := am (Kd.eF hD (aK jY)); replace aC := bB bJ hb; replace aT := bB fF hb; replace HB := bS jY hb; clear hb hD; obtain ⟨MZ, NX, ql⟩ := Kd.cB qD.1; subst ql) | ((with_reducible refine gD 3 ?_); refine bX 3 #[.slice none 0 0, .slice none 0 0] 31 ?_; intro O7 hg w9 hbox hb; replace qD := am (Kd.iI (rR qD.1) hb); have j5 := am hbox; have Ga := am (UC : w.heap.size ≤ O7); have Fy := Ga; replace HB := bS jY hb; have nF := nL bJ hg; have sR := nG bJ hg; replace aC := bB bJ hb; have oF := nL fF hg; have uT := nG fF hg; replace aT := bB fF hb; clear hb hbox hg; have kw := nZ2 sR nF uT oF; have Nk := cz2 j5; have Nl := cz2 aC))
 go_loopg [13] k (fun kq kb w' => ∃ (jH : Int) (lR : List (S66)) (kX : Value), kb = .int .i64 jH ∧ aD (d9.l0 kq aE (aE.length : Int) jH mQ lR = some (r1, r2)) ∧ aD (kq ≤ k) ∧ aD (Kd.R Kd.string 9 w' w.heap.size (fun _ => True) (.slice MZ mQ.length NX) mQ) ∧ aD (Kd.S k66 66 w' w.heap.size (fun k_ => some k_ ≠ ((.slice MZ mQ.length NX) : Value).ownBlock) kX lR) ∧ aD (w'.heap[aZ]? = some (.cells #[(.slice dD aQ.length dE), (.slice dS aE.length dB)] 31 (0, 0))) ∧ aD (w'.heap[bF]? = some (.cells #[(.slice none 0 0), (.slice none 0 0)] 31 (0, 0))) ∧ aD (w'.heap[O7]? = some (.cells #[(.slice MZ mQ.length NX), kX] 31 (0, 0))) ∧ aD (Below w.heap.size w w'))
 case atStart => exact ⟨(0), (([] : List (S66))), (.slice none 0 0), eS, H', ⟨Nat.le_refl _⟩, ⟨mR qD j5⟩, ⟨eN⟩, ⟨qF aC nF⟩, ⟨qF aT oF⟩, ⟨qP j5⟩, ⟨K4⟩⟩
 clear H'
 try clear Nk
 try clear Nl
 try clear Z6
 obtain ⟨jH, lR, kX, rfl, HA, HK1, j7, fC, aC, aT, j5, HB⟩ := hrel
 cases gk with
 | zero => exact absurd HA.out (by simp [d9.l0])
 | succ k1 =>
  have H := HA.out
  clear HA
  simp only [d9.l0] at H
  refine ic H ?_ ?_ <;> clear H <;> intro KW H
  ·obtain ⟨VK, H⟩ := cN H
   obtain ⟨Ih, H⟩ := cN H
   obtain ⟨wX, A17, H⟩ := bd H
   obtain ⟨P7, A18, H⟩ := bd H
   obtain ⟨NF, H⟩ := cL H
   obtain ⟨GM, H5⟩ := yv (lR ++ [(⟨(aA aE jH).f0, wX, P7⟩ : S66)]); first | replace H := bW H5 H | rw [← H5.1] at H
   have H' := am H
   repeat clear H
   obtain ⟨rY, tJ, tZ, tK, u4, BH, rH, n4, n5, kV, mU, qE, vG, U9, UL⟩ := aT66 bE HB jH
   cases BH
   try go_wp2_with (first | ((with_reducible refine gD 5 ?_); refine bX 5 #[.string (⟨#[]⟩ : ByteArray), .slice none 0 0, .slice none 0 0] 66 ?_; intro wM hg Li hbox hb; replace j7 := RB K5 hb; replace fC := am (Kd.rA (Kd.V9 ZB wM (Nat.le_of_eq hg.symm)) hb); have j6 := am hbox; have Gb := am (by rw [hg]; exact (aK K4) : w.heap.size ≤ wM); have N9 := Gb; replace HB := bS K4 hb; have uS := nL bJ hg; have JN := nG bJ hg; replace aC := bB bJ hb; have QN := nL fF hg; have Cq := nG fF hg; replace aT := bB fF hb; have JM := nL UE hg; have QO := nG UE hg; replace j5 := bB UE hb; clear hb hbox hg; have ow := nZ3 JN uS Cq QN QO JM; have ky := cz3 j6))
   obtain ⟨Py, eW_⟩ := eW3 Li wM (.string ((aA aE jH).f0)) (.slice tJ ((aA aE jH).f1).length tZ) (.slice tK ((aA aE jH).f2).length u4)
   rw [← eW_]
   replace j7 : aD (Kd.R Kd.string 9 Py w.heap.size (fun _ => True) (.slice MZ mQ.length NX) mQ) := by rw [eW_]; exact ⟨mR j7 j6⟩
   replace fC : aD (Kd.S k66 66 Py w.heap.size (fun k_ => some k_ ≠ (.slice MZ mQ.length NX : Value).ownBlock ∧ k_ ≠ wM) kX lR) := by rw [eW_]; exact ⟨by refine rS ?_; exact Kd.fU (fS (fS (fS (Kd.fU fC.1 (fun k_ hk => (⟨hk, hk.2⟩ : _ ∧ k_ ≠ wM)))))) (fun _ hk => ⟨hk.1.1, hk.1.2⟩)⟩
   replace aC := uF3 eW_ aC uS
   replace aT := uF3 eW_ aT QN
   replace j5 := uF3 eW_ j5 JM
   replace j6 := uP3 eW_ j6
   replace HB := uC3 eW_ HB N9
   clear eW_
   replace j7 := RD j7
   replace fC := SD fC
   replace aC := BD aC
   replace aT := BD aT
   replace j5 := BD j5
   replace j6 := BD j6
   replace HB := am (aU HB.1)
   refine sT [14] 15 (uB2 j5 (uA3 j6)) (fun hHeld => ?_)
   refine gH d9.tab5 d9.Hr (fun HT_ HW_ => ?_)
   generalize Py.drew = Su at j7 fC aC aT j5 j6 HB hHeld ⊢
   refine pU4 0 2 4 7 ?_
   refine tK5 1 (some 18) ?_
   refine tK5 3 (some 20) ?_
   refine tK5 5 (some 22) ?_
   refine tK5 8 (some 25) ?_
   refine oN 6 (some 23) fun K hK => ?_
   refine gE Tryz.func35 (bU.calls _ _ ((aA aE jH).f1) wX _ (pB kV) mU.1 A17.out) ?_
   rintro e kc ⟨jz, rfl, hD, hb⟩
   refine ⟨_, rfl, ?_⟩
   replace fC := am (Kd.zK ZB (Kd.eO hD) hb)
   have tO := am (Kd.eF (Kd.jQ hD (Kd.R_lt K5)) (aK Z0))
   replace j7 := am (Kd.gZ K5 (Kd.eO hD) hb)
   replace aC := bB bJ hb
   replace aT := bB fF hb
   replace j5 := bB UE hb
   replace j6 := bB ZA hb
   replace HB := bS Z0 hb
   clear hb hD
   refine nK hK (uB2 j5 (uA3 j6)).1 fun hHeld => ?_
   clear hK K
   refine oN 9 (some 26) fun K hK => ?_
   refine gE Tryz.func35 (bU.calls _ _ ((aA aE jH).f2) P7 _ (pB qE) vG.1 A18.out) ?_
   rintro e mm ⟨Pw, rfl, hD, hb⟩
   refine ⟨_, rfl, ?_⟩
   replace fC := am (Kd.zK ZB (Kd.eO hD) hb)
   have C2 := am (Kd.eF (Kd.jQ (Kd.jQ hD (Kd.R_lt K5)) (Kd.R_lt (rR tO.1))) (aK Z0))
   replace j7 := am (Kd.gZ K5 (Kd.eO hD) hb)
   replace tO := am (Kd.gZ (rR tO.1) (Kd.eO hD) hb)
   replace aC := bB bJ hb
   replace aT := bB fF hb
   replace j5 := bB UE hb
   replace j6 := bB ZA hb
   replace HB := bS Z0 hb
   clear hb hD
   obtain ⟨Zm, gr, il⟩ := Kd.cB C2.1
   (first | subst il | (obtain ⟨f4_, f5_⟩ := sj il; subst f4_; subst f5_))
   obtain ⟨Zn, gt, im⟩ := Kd.cB tO.1
   (first | subst im | (obtain ⟨f4_, f5_⟩ := sj im; subst f4_; subst f5_))
   refine nK hK (uB2 j5 (uA3 j6)).1 fun hHeld => ?_
   clear hK K
   refine pU1 10 ?_
   refine oN 11 (some 28) fun K hK => ?_
   refine P9 (w1 := ?_) (v := ?_) (by rfl) rfl ?_ ?_
   rotate_left 2
   ·go_simp
    constructor
    ·rfl
    ·rfl
   refine hK.out _ _ ⟨(aH (bP j5.1 _) 0).trans rfl, (aH (bP j5.1 _) 1).trans rfl, (aH (bP j6.1 _) 0).trans rfl, (aH (bP j6.1 _) 1).trans rfl, (aH (bP j6.1 _) 2).trans rfl⟩ (fun hHeld => ?_)
   clear hK K
   refine nM ?_
   refine oN 12 (some 29) fun K hK => ?_
   refine Kd.z8 k66 (w0 := w) w.heap.size (by rfl) (.tmp 18) (.tmp 28) 29 66 Ag0 64 rfl Tryz.underlying29 pJ rfl (by decide) (by omega) kX lR (⟨(aA aE jH).f0, wX, P7⟩ : S66) [.string ((aA aE jH).f0), .slice Zn wX.length gt, .slice Zm P7.length gr] (fun k_ => some k_ ≠ (.slice MZ mQ.length NX : Value).ownBlock ∧ k_ ≠ wM) (fun k_ => some k_ = (.slice Zn wX.length gt : Value).ownBlock ∨ some k_ = (.slice Zm P7.length gr : Value).ownBlock) rfl rfl ?aP (fun k_ hk_ => hk_.elim (fun h_ => ((Kd.bG (ok' := fun k_ => ((fun k_ => some k_ ≠ (.slice MZ mQ.length NX : Value).ownBlock ∧ k_ ≠ wM)) k_ ∧ some k_ ≠ (kX : Value).ownBlock) (Kd.iX (Kd.iR (tO.1) (Kd.kQ fC.1) (by decide)) j6.1 (by decide)) (fun k_ hk => ⟨⟨hk.1.1.1.2, hk.2⟩, hk.1.2⟩))).1 k_ h_.symm) (fun h_ => ((Kd.bG (ok' := fun k_ => ((fun k_ => some k_ ≠ (.slice MZ mQ.length NX : Value).ownBlock ∧ k_ ≠ wM)) k_ ∧ some k_ ≠ (kX : Value).ownBlock) (Kd.iX (Kd.iR (C2.1) (Kd.kQ fC.1) (by decide)) j6.1 (by decide)) (fun k_ hk => ⟨⟨hk.1.1.1.2, hk.2⟩, hk.1.2⟩))).1 k_ h_.symm)) ?aF ?aO ?aB ?aS ?aL ?_
   (case aP => exact yO _ _ _ (⟨(aA aE jH).f0, wX, P7⟩ : S66) (Kd.bG (Kd.kP rfl (Kd.bG (ok' := fun k_ => ((fun k_ => some k_ ≠ (.slice MZ mQ.length NX : Value).ownBlock ∧ k_ ≠ wM)) k_ ∧ some k_ ≠ (kX : Value).ownBlock) (Kd.iX (Kd.iR (tO.1) (Kd.kQ fC.1) (by decide)) j6.1 (by decide)) (fun k_ hk => ⟨⟨hk.1.1.1.2, hk.2⟩, hk.1.2⟩))) (fun _ h_ => Or.inl h_)) (Kd.bG (Kd.kP rfl (Kd.bG (ok' := fun k_ => ((fun k_ => some k_ ≠ (.slice MZ mQ.length NX : Value).ownBlock ∧ k_ ≠ wM)) k_ ∧ some k_ ≠ (kX : Value).ownBlock) (Kd.iX (Kd.iR (C2.1) (Kd.kQ fC.1) (by decide)) j6.1 (by decide)) (fun k_ hk => ⟨⟨hk.1.1.1.2, hk.2⟩, hk.1.2⟩))) (fun _ h_ => Or.inr (h_))) (Ku tO.1 C2.1))
   (case aB => exact Z0)
   (case aF => exact (fun k_ hk => ⟨Kd.fresh' (Kd.R_lt K5) k_ hk, fB ZA k_ hk⟩))
   (case aO => exact (by refine rS ?_; exact Kd.fU fC.1 (fun k_ hk => ⟨⟨hk.1.1.1, hk.1.1.2⟩, fun e_ => e_.elim (fun h_ => hk.1.2 h_) (fun h_ => hk.2 h_)⟩)))
   (case aS => exact (aK Z0))
   (case aL => have := NF.out; omega)
   intro Ex kd ho hb hg hat
   rw [← H5.out] at ho
   replace j7 := am (Kd.tV K5 (Kd.kQ ZB) (by decide) hg)
   replace aC := gkS bJ hg fC aC
   replace aT := gkS fF hg fC aT
   replace j5 := gkS UE hg fC j5
   replace j6 := am (mG (g := wM) (o := .cells #[.string ((aA aE jH).f0), .slice tJ ((aA aE jH).f1).length tZ, .slice tK ((aA aE jH).f2).length u4] 66 (0, 0)) ZA hg (Kd.Us fC.1 (fun _ hk => hk.1.1.2)))
   replace HB := am hb
   have yB := am ho
   clear fC
   clear tO
   clear C2
   clear ho hb hg hat
   obtain ⟨nl, pk, io⟩ := Kd.yH yB.1
   (first | subst io | (obtain ⟨f4_, f5_⟩ := sj io; subst f4_; subst f5_))
   refine nK hK (uB2 j5 (uA3 j6)).1 fun hHeld => ?_
   clear hK K
   refine pU1 13 ?_
   refine lN 14 none fun K hK => ?_
   have a5T : kd.cell? ⟨O7, 1, none⟩ = some (kX) := (aH j5.1 1).trans rfl
   have zv := bL j5.1 1
   have ma := nF.1
   have mb := oF.1
   have mc := QO.1
   have lm := sR.1
   have ln := uT.1
   have lp := JM.1
   refine qJ (w1 := ?_) (by rfl) rfl ?_ ?_
   rotate_left
   ·go_simp
    rfl
   refine hK.out _ _ ?_
   clear hK K
   refine dN ?_
   try go_wp2
   go_roundg k1
   case measure => have := HK1.out; omega
   case rel => exact ⟨(wrap64 (jH + 1)), (GM), (.slice nl GM.length pk), eS, H', ⟨by have := HK1.out; omega⟩, ⟨mR j7 j5⟩, ⟨mS yB j5⟩, ⟨qF aC nF⟩, ⟨qF aT oF⟩, ⟨by refine rB ?_; refine bD (cs := #[.slice MZ mQ.length NX, kX]) ?_ 1 _ rfl; refine rB ?_; exact j5.1⟩, ⟨Z0⟩⟩
  ·obtain ⟨rfl, rfl⟩ := sZ2 H
   repeat clear H
   have Z34 := nZ2 sR nF uT oF
   have Z36 := cz2 j5
   have Z37 := nZ1 eI dY
   have wb := cz2 aT
   obtain ⟨nr, pm, qg⟩ := Kd.yH fC.1
   subst qg
   go_wp2
   refine cR bF 31 #[.slice MZ mQ.length NX, .slice nr lR.length pm] (qP aT) Tryz.underlying31 ?_
   exact ⟨_, _, eR, mR j7 aT, mS fC aT, K4⟩
def Bz (ts : List ByteArray) (bs : List IB) : Prop := ts.length + kM bs ≤ 8388608
theorem Ey {bs : List IB} {b : IB} (h : b ∈ bs) : 1 + b.f1.length + b.f2.length ≤ kM bs := by
 unfold kM; exact OG (fun b => 1 + b.f1.length + b.f2.length) h
theorem RS : ∀ bs : List IB, bs.length ≤ kM bs
  | [] => by simp [kM]
  | b :: r => by have := RS r; rw [xX, List.length_cons]; omega
theorem wY (a b : List IB) : kM (a ++ b) = kM a + kM b := by simp [kM]
theorem Bz.ts {ts : List ByteArray} {bs : List IB} (h : Bz ts bs) : ts.length ≤ 8388608 := by unfold Bz at h; omega
theorem Bz.bs {ts : List ByteArray} {bs : List IB} (h : Bz ts bs) : bs.length ≤ 8388608 := by have := RS bs; unfold Bz at h; omega
theorem Bz.mem {ts : List ByteArray} {bs : List IB} (h : Bz ts bs) {b : IB} (hb : b ∈ bs) : b.f1.length ≤ 8388608 ∧ b.f2.length ≤ 8388608 := by have := Ey hb; unfold Bz at h; omega
theorem Bz.bok {ts : List ByteArray} {bs : List IB} (h : Bz ts bs) : Bok bs := fun b hb => by have := h.mem hb; omega
theorem CS {bs : List IB} {i : Nat} (h : i < bs.length) : gB bs i ∈ bs := by unfold gB; rw [getD_lt bs _ h]; exact List.getElem_mem h
theorem Bz.at_ {ts : List ByteArray} {bs : List IB} (h : Bz ts bs) {i : Nat} (hi : i < bs.length) : (gB bs i).f1.length ≤ 8388608 ∧ (gB bs i).f2.length ≤ 8388608 := h.mem (CS hi)
theorem uZ (l : List ByteArray) (h : l.length ≤ 8388608) : Ev (fun _ => iD.f l) l := by
 unfold iD.f
 exact Ev.bind (Ev.ret rfl) (Ev.pos (by simp only [List.length_nil]; omega) (Ev.ret rfl))
theorem zR (l : List ByteArray) (h : l.length ≤ 8388608) : Ev (fun _ => bU.f l) l := by
 unfold bU.f
 exact Ev.pos (by omega) (Ev.ret rfl)
theorem Ch {bs : List IB} {i : Nat} (h : i < bs.length) : bs.take i ++ [gB bs i] = bs.take (i + 1) := by
 rw [List.take_succ_eq_append_getElem h]; unfold gB; rw [getD_lt bs _ h]
theorem kC (ts : List ByteArray) (bs : List IB) (h : Bz ts bs) : Ev (fun k => dA.f k ts bs) (ts, bs) := by
 unfold dA.f
 have hl := h.bs
 have go : ∀ (d i : Nat), bs.length - i = d → i ≤ bs.length → Ev (fun k => dA.l0 k (i : Int) ts bs ts (bs.take i)) (ts, bs) := by
  intro d
  induction d with
  | zero =>
   intro i hd hi
   refine Ev.step (fun k => dA.l0.eq_2 _ _ _ _ _ k) (Ev.neg (by omega) (Ev.ret ?_))
   rw [List.take_of_length_le (by omega)]
  | succ d ih =>
   intro i hd hi
   have hlt : i < bs.length := by omega
   refine Ev.step (fun k => dA.l0.eq_2 _ _ _ _ _ k) (Ev.pos (by omega) (Ev.pos (by omega) ?_))
   rw [gF, iQ hlt (by omega)]
   refine Ev.bind (uZ _ (h.at_ hlt).1) (Ev.bind (uZ _ (h.at_ hlt).2) (Ev.pos (by rw [List.length_take]; omega) ?_))
   have := ih (i + 1) (by omega) (by omega)
   rw [← Ch hlt] at this
   exact this
 exact Ev.bind (uZ ts h.ts) (go bs.length 0 (by omega) (by omega))
theorem oL (ts : List ByteArray) (bs : List IB) (h : Bz ts bs) : Ev (fun k => d9.f k ts bs) (ts, bs) := by
 unfold d9.f
 have hl := h.bs
 have go : ∀ (d i : Nat), bs.length - i = d → i ≤ bs.length → Ev (fun k => d9.l0 k bs (bs.length : Int) (i : Int) ts (bs.take i)) (ts, bs) := by
  intro d
  induction d with
  | zero =>
   intro i hd hi
   refine Ev.step (fun k => d9.l0.eq_2 _ _ _ _ _ k) (Ev.neg (by omega) (Ev.ret ?_))
   rw [List.take_of_length_le (by omega)]
  | succ d ih =>
   intro i hd hi
   have hlt : i < bs.length := by omega
   refine Ev.step (fun k => d9.l0.eq_2 _ _ _ _ _ k) (Ev.pos (by omega) (Ev.pos (by omega) (Ev.pos (by omega) ?_)))
   rw [gF, iQ hlt (by omega)]
   refine Ev.bind (zR _ (h.at_ hlt).1) (Ev.bind (zR _ (h.at_ hlt).2) (Ev.pos (by rw [List.length_take]; omega) ?_))
   have := ih (i + 1) (by omega) (by omega)
   rw [← Ch hlt] at this
   exact this
 exact Ev.bind (zR ts h.ts) (go bs.length 0 (by omega) (by omega))
theorem Bz.nil : Bz [] [] := by simp [Bz, kM]
theorem J4 {ts : List ByteArray} {bs : List IB} (h : ts.length + kM bs ≤ 1048576) : Bz ts bs := by unfold Bz; omega
def iG.l0 : Nat → Int → List ByteArray → Int → List ByteArray → List (S66) → Option (Bool)
 | 0, _, _, _, _, _ => none
 | k + 1, c, d, a, e, b => if a < (b.length : Int) then (if a = c then (iG.l0 k c d (wrap64 (a + 1)) e b) else (if 0 ≤ a then ((cZ.f k d ((aA b a).f0)).bind fun g => (if g = true then (iG.l0 k c d (wrap64 (a + 1)) e b) else (if 0 ≤ c then (if c < (b.length : Int) then ((dW.f k ((aA b a).f1) ((aA b c).f2)).bind fun h => (if h = true then (some false) else (iG.l0 k c d (wrap64 (a + 1)) e b))) else (none)) else (none)))) else (none))) else (some true)
def iG.f (k : Nat) (aQ : List ByteArray) (aE : List (S66)) (a1 : Int) (l2 : List ByteArray) : Option (Bool) := iG.l0 k a1 l2 0 aQ aE
theorem iG.calls (k : Nat) (dD : Option Addr) (dE : Nat) (aQ : List ByteArray) (dS : Option Addr) (dB : Nat) (aE : List (S66)) (a1 : Int) (A2 : Option Addr) (c2 : Nat) (l2 : List ByteArray) (r : Bool) (w : World) (fL : Kd.C Kd.string w dD aQ.length aQ) (fJ : aQ.length ≤ dE) (fH : Kd.C k66 w dS aE.length aE) (fK : aE.length ≤ dB) (rP : Kd.C Kd.string w A2 l2.length l2) (mH : l2.length ≤ c2) (h : iG.f k aQ aE a1 l2 = some r) :
  Calls Tryz.prog 61 #[.agg #[.slice dD aQ.length dE, .slice dS aE.length dB], .int .i64 a1, .slice A2 l2.length c2] w fun e w' => e = .returned (.bool r) ∧ Below w.heap.size w w' := by
 have hu31 := Tryz.underlying31
 obtain ⟨cS, cO⟩ := mZ2 fL fJ
 obtain ⟨bE, dL⟩ := mZ2 fH fK
 obtain ⟨pL, pK⟩ := mZ2 rP mH
 clear fL fJ fH fK rP mH
 have HB := am (Below.refl w.heap.size w)
 unfold iG.f at h
 have H := h
 clear h
 have H' := am H
 repeat clear H
 go_enter Tryz.func61, Tryz.ntmps61
 go_wp2_with (first | ((with_reducible refine gD 3 ?_); refine bX 3 #[.slice dD aQ.length dE, .slice dS aE.length dB] 31 ?_; intro aZ hg w4 hbox hb; have aC := am hbox; have gU := am (nS : w.heap.size ≤ aZ); have iL := gU; replace HB := bS gL hb; clear hb hbox hg))
 repeat (go_quiet (first | ((with_reducible refine gD 3 ?_); refine bX 3 #[.slice dD aQ.length dE, .slice dS aE.length dB] 31 ?_; intro aZ hg w4 hbox hb; have aC := am hbox; have gU := am (nS : w.heap.size ≤ aZ); have iL := am (nS : w.heap.size ≤ aZ); replace HB := bS gL hb; clear hb hbox hg)); try go_wp2_with (first | ((with_reducible refine gD 3 ?_); refine bX 3 #[.slice dD aQ.length dE, .slice dS aE.length dB] 31 ?_; intro aZ hg w4 hbox hb; have aC := am hbox; have gU := am (nS : w.heap.size ≤ aZ); have iL := am (nS : w.heap.size ≤ aZ); replace HB := bS gL hb; clear hb hbox hg)))
 go_loopg [7] k (fun kq v7 w' => ∃ (j8 : Int), v7 = .int .i64 j8 ∧ aD (iG.l0 kq a1 l2 j8 aQ aE = some r) ∧ aD (kq ≤ k) ∧ aD (w'.heap[aZ]? = some (.cells #[(.slice dD aQ.length dE), (.slice dS aE.length dB)] 31 (0, 0))) ∧ aD (Below w.heap.size w w'))
 case atStart => exact ⟨(0), eS, H', ⟨Nat.le_refl _⟩, ⟨rB aC.1⟩, ⟨dQ⟩⟩
 clear H'
 try clear c2
 obtain ⟨j8, rfl, HA, HK1, aC, HB⟩ := hrel
 cases gk with
 | zero => exact absurd HA.out (by simp [iG.l0])
 | succ k1 =>
  have H := HA.out
  clear HA
  simp only [iG.l0] at H
  refine ic H ?_ ?_ <;> clear H <;> intro AZ H
  refine iq H ?_ ?_ <;> clear H <;> intro c6 CC VO H
  have H' := am H
  repeat clear H
  have Z7 := cz2 aC
  rotate_left
  obtain ⟨EH, H⟩ := cN H
  obtain ⟨mQ, A9, H⟩ := bd H
  refine tC H ?_ ?_ <;> clear H <;> intro Ba H <;> subst Ba
  have H' := am H
  repeat clear H
  have Lz := cz2 aC
  obtain ⟨n9, oW, pF, oX, pG, rT, o9, mZ, n3, nO, nN, qY, qX, EJ, EL⟩ := aT66 bE HB j8
  cases rT
  have bj := trivial
  rotate_left
  obtain ⟨NT, H⟩ := cN H
  obtain ⟨VJ, H⟩ := cN H
  obtain ⟨JB, Fb, H⟩ := bd H
  refine tC H ?_ ?_ <;> clear H <;> intro yd H <;> subst yd
  obtain rfl := Option.some.inj H
  repeat clear H
  have uo := cz2 aC
  obtain ⟨n9, oW, pF, oX, pG, rT, o9, mZ, n3, nO, nN, qY, qX, EJ, EL⟩ := aT66 bE HB j8
  cases rT
  have Uh := trivial
  have bk := trivial
  rotate_left
  have H' := am H
  repeat clear H
  have kx := cz2 aC
  obtain ⟨n9, oW, pF, oX, pG, rT, o9, mZ, n3, nO, nN, qY, qX, EJ, EL⟩ := aT66 bE HB j8
  cases rT
  have Uh := trivial
  have bm := trivial
  rotate_left
  obtain rfl := Option.some.inj H
  repeat clear H
  have ot := cz2 aC
  rotate_left
  all_goals
   go_wp2_with (first | (go_at_call 59; revert bj; intro bj; revert A9; intro A9; refine cM (cZ.calls k1 _ _ l2 ((aA aE j8).f0) true _ (pB pL) pK.1 A9.out) ?_; rintro w' ⟨nd, rfl⟩; (try exact dR); clear A9) | (go_at_call 59; revert Uh; intro Uh; revert A9; intro A9; refine cM (cZ.calls k1 _ _ l2 ((aA aE j8).f0) false _ (pB pL) pK.1 A9.out) ?_; rintro w' ⟨nd, rfl⟩; (try exact dR); obtain ⟨kK, pZ, q9, q5, qA, sO, pI, vJ, vK, p8, oY, tQ, tM, GA, GC⟩ := aT66 bE HB j8; obtain rfl : n9 = kK := (by injection sO); obtain ⟨ea_, ec_⟩ := eZ2 mZ vJ; subst ea_; subst ec_; obtain ⟨ea_, ec_⟩ := eZ2 n3 vK; subst ea_; subst ec_; obtain ⟨xH, FC, FM, FD, FN, FQ, wT, vL, vM, wP, AW, nP, oZ, YY, OQ⟩ := aT66 bE HB a1; obtain rfl : n9 = xH := (by injection FQ); clear A9) | (go_at_call 53; revert bk; intro bk; revert Fb; intro Fb; refine cM (dW.calls k1 _ _ ((aA aE j8).f1) _ _ ((aA aE a1).f2) true _ ((Kd.aM p8.1 dQ)) oY.1 ((Kd.aM nP.1 dQ)) oZ.1 Fb.out) ?_; rintro w' ⟨nd, rfl⟩; (try exact dR); clear Fb) | (go_at_call 53; revert bm; intro bm; revert Fb; intro Fb; refine cM (dW.calls k1 _ _ ((aA aE j8).f1) _ _ ((aA aE a1).f2) false _ ((Kd.aM p8.1 dQ)) oY.1 ((Kd.aM nP.1 dQ)) oZ.1 Fb.out) ?_; rintro w' ⟨nd, rfl⟩; (try exact dR); clear Fb))
  ·repeat (go_quiet (fail); try go_wp2)
   go_roundg k1
   case measure => have := HK1.out; omega
   case rel => exact ⟨(wrap64 (j8 + 1)), eS, H', ⟨by have := HK1.out; omega⟩, ⟨rB aC.1⟩, ⟨dQ⟩⟩
  ·repeat (go_quiet (first | (go_at_call 59; refine cM (cZ.calls k1 _ _ l2 ((aA aE j8).f0) true _ (pB pL) pK.1 A9.out) ?_; rintro w' ⟨nd, rfl⟩; (try exact dR))); try go_wp2_with (first | (go_at_call 59; refine cM (cZ.calls k1 _ _ l2 ((aA aE j8).f0) true _ (pB pL) pK.1 A9.out) ?_; rintro w' ⟨nd, rfl⟩; (try exact dR))))
   go_roundg k1
   case measure => have := HK1.out; omega
   case rel => exact ⟨(wrap64 (j8 + 1)), eS, H', ⟨by have := HK1.out; omega⟩, ⟨rB aC.1⟩, ⟨dQ⟩⟩
  ·repeat (go_quiet (first | (go_at_call 59; refine cM (cZ.calls k1 _ _ l2 ((aA aE j8).f0) false _ (pB pL) pK.1 A9.out) ?_; rintro w' ⟨nd, rfl⟩; (try exact dR); obtain ⟨kK, pZ, q9, q5, qA, sO, pI, vJ, vK, p8, oY, tQ, tM, GA, GC⟩ := aT66 bE HB j8; obtain rfl : n9 = kK := (by injection sO); have ea_ := Option.some.inj (mZ.symm.trans vJ); injection ea_ with ea_ en_ ec_; subst ea_; subst ec_; clear en_; have ea_ := Option.some.inj (n3.symm.trans vK); injection ea_ with ea_ en_ ec_; subst ea_; subst ec_; clear en_; obtain ⟨xH, FC, FM, FD, FN, FQ, wT, vL, vM, wP, AW, nP, oZ, YY, OQ⟩ := aT66 bE HB a1; obtain rfl : n9 = xH := (by injection FQ)) | (go_at_call 53; refine cM (dW.calls k1 _ _ ((aA aE j8).f1) _ _ ((aA aE a1).f2) true _ ((Kd.aM p8.1 dQ)) oY.1 ((Kd.aM nP.1 dQ)) oZ.1 Fb.out) ?_; rintro w' ⟨nd, rfl⟩; (try exact dR))); try go_wp2_with (first | (go_at_call 59; refine cM (cZ.calls k1 _ _ l2 ((aA aE j8).f0) false _ (pB pL) pK.1 A9.out) ?_; rintro w' ⟨nd, rfl⟩; (try exact dR); obtain ⟨kK, pZ, q9, q5, qA, sO, pI, vJ, vK, p8, oY, tQ, tM, GA, GC⟩ := aT66 bE HB j8; obtain rfl : n9 = kK := (by injection sO); have ea_ := Option.some.inj (mZ.symm.trans vJ); injection ea_ with ea_ en_ ec_; subst ea_; subst ec_; clear en_; have ea_ := Option.some.inj (n3.symm.trans vK); injection ea_ with ea_ en_ ec_; subst ea_; subst ec_; clear en_; obtain ⟨xH, FC, FM, FD, FN, FQ, wT, vL, vM, wP, AW, nP, oZ, YY, OQ⟩ := aT66 bE HB a1; obtain rfl : n9 = xH := (by injection FQ)) | (go_at_call 53; refine cM (dW.calls k1 _ _ ((aA aE j8).f1) _ _ ((aA aE a1).f2) true _ ((Kd.aM p8.1 dQ)) oY.1 ((Kd.aM nP.1 dQ)) oZ.1 Fb.out) ?_; rintro w' ⟨nd, rfl⟩; (try exact dR))))
   go_ret
   exact ⟨eR, dQ⟩
  ·repeat (go_quiet (first | (go_at_call 59; refine cM (cZ.calls k1 _ _ l2 ((aA aE j8).f0) false _ (pB pL) pK.1 A9.out) ?_; rintro w' ⟨nd, rfl⟩; (try exact dR); obtain ⟨kK, pZ, q9, q5, qA, sO, pI, vJ, vK, p8, oY, tQ, tM, GA, GC⟩ := aT66 bE HB j8; obtain rfl : n9 = kK := (by injection sO); have ea_ := Option.some.inj (mZ.symm.trans vJ); injection ea_ with ea_ en_ ec_; subst ea_; subst ec_; clear en_; have ea_ := Option.some.inj (n3.symm.trans vK); injection ea_ with ea_ en_ ec_; subst ea_; subst ec_; clear en_; obtain ⟨xH, FC, FM, FD, FN, FQ, wT, vL, vM, wP, AW, nP, oZ, YY, OQ⟩ := aT66 bE HB a1; obtain rfl : n9 = xH := (by injection FQ)) | (go_at_call 53; refine cM (dW.calls k1 _ _ ((aA aE j8).f1) _ _ ((aA aE a1).f2) false _ ((Kd.aM p8.1 dQ)) oY.1 ((Kd.aM nP.1 dQ)) oZ.1 Fb.out) ?_; rintro w' ⟨nd, rfl⟩; (try exact dR))); try go_wp2_with (first | (go_at_call 59; refine cM (cZ.calls k1 _ _ l2 ((aA aE j8).f0) false _ (pB pL) pK.1 A9.out) ?_; rintro w' ⟨nd, rfl⟩; (try exact dR); obtain ⟨kK, pZ, q9, q5, qA, sO, pI, vJ, vK, p8, oY, tQ, tM, GA, GC⟩ := aT66 bE HB j8; obtain rfl : n9 = kK := (by injection sO); have ea_ := Option.some.inj (mZ.symm.trans vJ); injection ea_ with ea_ en_ ec_; subst ea_; subst ec_; clear en_; have ea_ := Option.some.inj (n3.symm.trans vK); injection ea_ with ea_ en_ ec_; subst ea_; subst ec_; clear en_; obtain ⟨xH, FC, FM, FD, FN, FQ, wT, vL, vM, wP, AW, nP, oZ, YY, OQ⟩ := aT66 bE HB a1; obtain rfl : n9 = xH := (by injection FQ)) | (go_at_call 53; refine cM (dW.calls k1 _ _ ((aA aE j8).f1) _ _ ((aA aE a1).f2) false _ ((Kd.aM p8.1 dQ)) oY.1 ((Kd.aM nP.1 dQ)) oZ.1 Fb.out) ?_; rintro w' ⟨nd, rfl⟩; (try exact dR))))
   go_roundg k1
   case measure => have := HK1.out; omega
   case rel => exact ⟨(wrap64 (j8 + 1)), eS, H', ⟨by have := HK1.out; omega⟩, ⟨rB aC.1⟩, ⟨dQ⟩⟩
  ·repeat (go_quiet (fail); try go_wp2)
   go_ret
   exact ⟨eR, dQ⟩
def iU.l0 : Nat → List ByteArray → Int → List ByteArray → List (S66) → Option (Int)
 | 0, _, _, _, _ => none
 | k + 1, c, a, d, b => if a < (b.length : Int) then (if 0 ≤ a then ((cZ.f k c ((aA b a).f0)).bind fun e => (if e = true then (iU.l0 k c (wrap64 (a + 1)) d b) else ((iG.f k d b a c).bind fun g => (if g = true then (some a) else (iU.l0 k c (wrap64 (a + 1)) d b))))) else (none)) else (some (-1))
def iU.f (k : Nat) (aQ : List ByteArray) (aE : List (S66)) (l1 : List ByteArray) : Option (Int) := iU.l0 k l1 0 aQ aE
theorem iU.calls (k : Nat) (dD : Option Addr) (dE : Nat) (aQ : List ByteArray) (dS : Option Addr) (dB : Nat) (aE : List (S66)) (A1 : Option Addr) (c1 : Nat) (l1 : List ByteArray) (r : Int) (w : World) (fL : Kd.C Kd.string w dD aQ.length aQ) (fJ : aQ.length ≤ dE) (fH : Kd.C k66 w dS aE.length aE) (fK : aE.length ≤ dB) (sG : Kd.C Kd.string w A1 l1.length l1) (nY : l1.length ≤ c1) (h : iU.f k aQ aE l1 = some r) :
  Calls Tryz.prog 60 #[.agg #[.slice dD aQ.length dE, .slice dS aE.length dB], .slice A1 l1.length c1] w fun e w' => e = .returned (.int .i64 r) ∧ Below w.heap.size w w' := by
 have hu31 := Tryz.underlying31
 obtain ⟨cS, cO⟩ := mZ2 fL fJ
 obtain ⟨bE, dL⟩ := mZ2 fH fK
 obtain ⟨rU, rW⟩ := mZ2 sG nY
 clear fL fJ fH fK sG nY
 have HB := am (Below.refl w.heap.size w)
 unfold iU.f at h
 have H := h
 clear h
 have H' := am H
 repeat clear H
 go_enter Tryz.func60, Tryz.ntmps60
 go_wp2_with (first | ((with_reducible refine gD 2 ?_); refine bX 2 #[.slice dD aQ.length dE, .slice dS aE.length dB] 31 ?_; intro aZ hg w3 hbox hb; have aC := am hbox; have gU := am (nS : w.heap.size ≤ aZ); have iL := gU; replace HB := bS gL hb; clear hb hbox hg))
 go_loopg [5] k (fun kq v5 w' => ∃ (dK : Int), v5 = .int .i64 dK ∧ aD (iU.l0 kq l1 dK aQ aE = some r) ∧ aD (kq ≤ k) ∧ aD (w'.heap[aZ]? = some (.cells #[(.slice dD aQ.length dE), (.slice dS aE.length dB)] 31 (0, 0))) ∧ aD (Below w.heap.size w w'))
 case atStart => exact ⟨(0), eS, H', ⟨Nat.le_refl _⟩, ⟨rB aC.1⟩, ⟨dQ⟩⟩
 clear H'
 try clear c1
 obtain ⟨dK, rfl, HA, HK1, aC, HB⟩ := hrel
 cases gk with
 | zero => exact absurd HA.out (by simp [iU.l0])
 | succ k1 =>
  have H := HA.out
  clear HA
  simp only [iU.l0] at H
  refine ic H ?_ ?_ <;> clear H <;> intro zQ H
  ·obtain ⟨AZ, H⟩ := cN H
   obtain ⟨mQ, A6, H⟩ := bd H
   refine tC H ?_ ?_ <;> clear H <;> intro c7 H <;> subst c7
   ·have H' := am H
    repeat clear H
    have Z8 := cz2 aC
    obtain ⟨n9, oW, pF, oX, pG, rT, o9, mZ, n3, nO, nN, qY, qX, EJ, EL⟩ := aT66 bE HB dK
    cases rT
    go_wp2_with (first | ((with_reducible refine gC 59 ?_); refine cQ (some 20) Tryz.func59 (cZ.calls k1 _ _ l1 ((aA aE dK).f0) true _ (pB rU) rW.1 A6.out) ?_; rintro w' ⟨nd, rfl⟩))
    go_roundg k1
    case measure => have := HK1.out; omega
    case rel => exact ⟨(wrap64 (dK + 1)), eS, H', ⟨by have := HK1.out; omega⟩, ⟨rB aC.1⟩, ⟨dQ⟩⟩
   ·obtain ⟨bR, A9, H⟩ := bd H
    refine tC H ?_ ?_ <;> clear H <;> intro Ba H <;> subst Ba
    ·obtain rfl := Option.some.inj H
     repeat clear H
     have Lz := cz2 aC
     obtain ⟨n9, oW, pF, oX, pG, rT, o9, mZ, n3, nO, nN, qY, qX, EJ, EL⟩ := aT66 bE HB dK
     cases rT
     go_wp2_with (first | ((with_reducible refine gC 59 ?_); refine cQ (some 20) Tryz.func59 (cZ.calls k1 _ _ l1 ((aA aE dK).f0) false _ (pB rU) rW.1 A6.out) ?_; rintro w' ⟨nd, rfl⟩) | (go_at_call 61; refine cM (iG.calls k1 _ _ aQ _ _ aE dK _ _ l1 true _ ((Kd.aM cS.1 dQ)) cO.1 ((Kd.aM bE.1 dQ)) dL.1 ((Kd.aM rU.1 dQ)) rW.1 A9.out) ?_; rintro w12 hb; replace aC := bB bJ hb; replace HB := bS dQ hb; clear hb))
     go_ret
     exact ⟨eR, dQ⟩
    ·have H' := am H
     repeat clear H
     have Nl := cz2 aC
     obtain ⟨n9, oW, pF, oX, pG, rT, o9, mZ, n3, nO, nN, qY, qX, EJ, EL⟩ := aT66 bE HB dK
     cases rT
     go_wp2_with (first | ((with_reducible refine gC 59 ?_); refine cQ (some 20) Tryz.func59 (cZ.calls k1 _ _ l1 ((aA aE dK).f0) false _ (pB rU) rW.1 A6.out) ?_; rintro w' ⟨nd, rfl⟩) | (go_at_call 61; refine cM (iG.calls k1 _ _ aQ _ _ aE dK _ _ l1 false _ ((Kd.aM cS.1 dQ)) cO.1 ((Kd.aM bE.1 dQ)) dL.1 ((Kd.aM rU.1 dQ)) rW.1 A9.out) ?_; rintro Yu hb; replace aC := bB bJ hb; replace HB := bS dQ hb; clear hb))
     go_roundg k1
     case measure => have := HK1.out; omega
     case rel => exact ⟨(wrap64 (dK + 1)), eS, H', ⟨by have := HK1.out; omega⟩, ⟨rB aC.1⟩, ⟨dQ⟩⟩
  ·obtain rfl := Option.some.inj H
   repeat clear H
   have dy := cz2 aC
   go_wp2
   go_ret
   exact ⟨eR, dQ⟩
def fO.l0 : Nat → List ByteArray → List ByteArray → List (S66) → Option (List ByteArray × Bool)
 | 0, _, _, _ => none
 | k + 1, a, d, b => if (a.length : Int) < (b.length : Int) then ((iU.f k d b a).bind fun c => (if c < 0 then (some ((([] : List ByteArray)), false)) else (if 0 ≤ c then (if c < (b.length : Int) then (if a.length < 8796093022208 then (fO.l0 k (a ++ [(aA b c).f0]) d b) else (none)) else (none)) else (none)))) else (some (a, true))
def fO.f (k : Nat) (aQ : List ByteArray) (aE : List (S66)) : Option (List ByteArray × Bool) := (some (([] : List ByteArray) : List ByteArray)).bind fun a => ((aG.f k aQ aE).bind fun b => (if b = true then (fO.l0 k a aQ aE) else (some (a, false))))
theorem fO.calls (k : Nat) (dD : Option Addr) (dE : Nat) (aQ : List ByteArray) (dS : Option Addr) (dB : Nat) (aE : List (S66)) (r1 : List ByteArray) (r2 : Bool) (w : World) (fL : Kd.C Kd.string w dD aQ.length aQ) (fJ : aQ.length ≤ dE) (fH : Kd.C k66 w dS aE.length aE) (fK : aE.length ≤ dB) (h : fO.f k aQ aE = some (r1, r2)) :
  Calls Tryz.prog 29 #[.agg #[.slice dD aQ.length dE, .slice dS aE.length dB]] w fun e w' => ∃ v0_ : Value, e = .returned (.tuple #[v0_, .bool r2]) ∧ Kd.R Kd.string 9 w' w.heap.size (fun _ => True) v0_ r1 ∧ Below w.heap.size w w' := by
 have hu31 := Tryz.underlying31
 obtain ⟨cS, cO⟩ := mZ2 fL fJ
 obtain ⟨bE, dL⟩ := mZ2 fH fK
 clear fL fJ fH fK
 have HB := am (Below.refl w.heap.size w)
 unfold fO.f at h
 have H := h
 clear h
 obtain ⟨M4, hy102⟩ : ∃ y_ : List ByteArray, y_ = (([] : List ByteArray)) := ⟨_, rfl⟩
 replace H : ((aG.f k aQ aE).bind fun t105 => (if t105 = true then (fO.l0 k M4 aQ aE) else (some (M4, false)))) = some (r1, r2) := by first | (rw [hy102]; with_reducible exact H) | (have H2_ := (Option.bind_some _ _).symm.trans H; rw [hy102]; with_reducible exact H2_) | (have H2_ := (Option.bind_some _ _).symm.trans H; with_reducible exact H2_) | with_reducible exact H | (rw [hy102]; exact H) | exact H
 have wJ := am hy102
 clear hy102
 obtain ⟨t105, A2, H⟩ := bd H
 refine tC H ?_ ?_ <;> clear H <;> intro c3 H <;> subst c3
 ·have H' := am H
  repeat clear H
  go_enter Tryz.func29, Tryz.ntmps29
  go_wp2_with (first | ((with_reducible refine gD 1 ?_); refine bX 1 #[.slice dD aQ.length dE, .slice dS aE.length dB] 31 ?_; intro aZ hg w4 hbox hb; have aC := am hbox; have gU := am (nS : w.heap.size ≤ aZ); have iL := gU; replace HB := bS gL hb; clear hb hbox hg) | ((with_reducible refine dF (N := 6) rfl ?_); refine lS 9 6 wJ ?_; intro Q7 w5 WC hb; have pN := am (Kd.eF WC (aK dQ)); replace aC := bB bJ hb; replace HB := bS dQ hb; clear hb WC; have Z7 := cz2 aC) | ((with_reducible refine gC 21 ?_); refine cQ (some 8) Tryz.func21 (aG.calls k _ _ aQ _ _ aE true _ (pB cS) cO.1 (pB bE) dL.1 A2.out) ?_; rintro w8 hb; replace pN := am (Kd.iI (rR pN.1) hb); replace aC := bB bJ hb; replace HB := bS dQ hb; clear hb))
  go_loopg [4] k (fun kq v4 w' => ∃ (eH : List ByteArray), aD (fO.l0 kq eH aQ aE = some (r1, r2)) ∧ aD (kq ≤ k) ∧ aD (Kd.R Kd.string 9 w' w.heap.size (fun _ => True) v4 eH) ∧ aD (w'.heap[aZ]? = some (.cells #[(.slice dD aQ.length dE), (.slice dS aE.length dB)] 31 (0, 0))) ∧ aD (Below w.heap.size w w'))
  case atStart => exact ⟨(M4), H', ⟨Nat.le_refl _⟩, ⟨rR pN.1⟩, ⟨rB aC.1⟩, ⟨dQ⟩⟩
  clear H'
  try clear c3
  try clear Z7
  obtain ⟨eH, HA, HK1, lW, aC, HB⟩ := hrel
  cases gk with
  | zero => exact absurd HA.out (by simp [fO.l0])
  | succ k1 =>
   have H := HA.out
   clear HA
   simp only [fO.l0] at H
   by_cases c9 : (eH.length : Int) < (aE.length : Int)
   ·rw [if_pos c9] at H
    have I2 : decide ((eH.length : Int) < (aE.length : Int)) = true := decide_eq_true c9
    have Y4 : decide (eH.length < aE.length) = true := decide_eq_true (Int.ofNat_lt.mp c9)
    clear c9
    obtain ⟨JB, ki, H⟩ := bd H
    refine ic H ?_ ?_ <;> clear H <;> intro C9 H
    ·obtain ⟨UY, hy107⟩ : ∃ y_ : List ByteArray, y_ = (([] : List ByteArray)) := ⟨_, rfl⟩
     replace H : (some (UY, false)) = some (r1, r2) := by first | (rw [hy107]; with_reducible exact H) | (have H2_ := (Option.bind_some _ _).symm.trans H; rw [hy107]; with_reducible exact H2_) | (have H2_ := (Option.bind_some _ _).symm.trans H; with_reducible exact H2_) | with_reducible exact H | (rw [hy107]; exact H) | exact H
     have H4 := am hy107
     clear hy107
     obtain ⟨rfl, rfl⟩ := sZ2 H
     repeat clear H
     obtain ⟨a2Q, a5H, pw⟩ := Kd.cB lW.1
     subst pw
     have Nl := cz2 aC
     go_wp2_with (first | ((with_reducible refine gC 60 ?_); refine cQ (some 19) Tryz.func60 (iU.calls k1 _ _ aQ _ _ aE _ _ eH JB _ (pB cS) cO.1 (pB bE) dL.1 (pC (Kd.bI lW.1).2.2) ((Kd.bI lW.1).2.1) ki.out) ?_; rintro Yu hb; replace lW := RB OP hb; replace aC := bB bJ hb; replace HB := bS dQ hb; clear hb) | ((with_reducible refine dF (N := 22) rfl ?_); refine lS 9 22 H4 ?_; intro CG te Dq hb; have eU := am (Kd.eF (Kd.jQ Dq (Kd.R_lt OP)) (aK dQ)); replace lW := am (Kd.gZ OP (Kd.eO Dq) hb); replace aC := bB bJ hb; replace HB := bS dQ hb; clear hb Dq))
     go_ret2
     exact ⟨_, eR, by refine rR ?_; exact Kd.bG eU.1 (fun _ hk => trivial), dQ⟩
    ·obtain ⟨Rl, H⟩ := cN H
     obtain ⟨ET, H⟩ := cN H
     obtain ⟨NF, H⟩ := cL H
     obtain ⟨ZQ, vO⟩ := yv (eH ++ [(aA aE JB).f0]); first | replace H := bW vO H | rw [← vO.1] at H
     have H' := am H
     repeat clear H
     obtain ⟨uP, lJ, YC⟩ := Kd.cB lW.1
     subst YC
     have ow := cz2 aC
     go_wp2_with (first | ((with_reducible refine gC 60 ?_); refine cQ (some 19) Tryz.func60 (iU.calls k1 _ _ aQ _ _ aE _ _ eH JB _ (pB cS) cO.1 (pB bE) dL.1 (pC (Kd.bI lW.1).2.2) ((Kd.bI lW.1).2.1) ki.out) ?_; rintro Ss hb; replace lW := RB OP hb; replace aC := bB bJ hb; replace HB := bS dQ hb; clear hb; have Z23 := cz2 aC; obtain ⟨NO, RY, TC, RZ, TD, TL, MT, BO, BP, MF, M7, MG, M8, Ph, Pl⟩ := aT66 bE HB JB; cases TL) | ((with_reducible refine fA (b := .append) (xs := #[.tmp 23, .tmp 30]) rfl ?_); at_builtin; refine Kd.jD Kd.string (w0 := w) w.heap.size rfl (.tmp 23) (.tmp 30) 27 9 (.string ⟨#[]⟩) 16 rfl Tryz.underlying27 jP rfl (by decide) (by omega) (.slice uP eH.length lJ) eH ((aA aE JB).f0) [.string ((aA aE JB).f0)] (fun _ => True) (fun _ => False) rfl rfl ?aP (fun _ hk => hk.elim) ?aF ?aO ?aB ?aS ?aL ?_; (case aP => exact rfl); (case aB => exact dQ); (case aF => exact (fun _ _ => trivial)); (case aO => exact OP); (case aS => exact (aK dQ)); (case aL => have := NF.out; omega); intro Lg w24 ho hb hg hat; rw [← vO.out] at ho; replace aC := gkR bJ hg lW aC; replace HB := am hb; have GX := am ho; clear lW; clear ho hb hg hat))
     go_roundg k1
     case measure => have := HK1.out; omega
     case rel => exact ⟨(ZQ), H', ⟨by have := HK1.out; omega⟩, ⟨rR GX.1⟩, ⟨rB aC.1⟩, ⟨dQ⟩⟩
   ·rw [if_neg c9] at H
    have I2 : decide ((eH.length : Int) < (aE.length : Int)) = false := decide_eq_false c9
    have Y4 : decide (eH.length < aE.length) = false := decide_eq_false (fun h => c9 (Int.ofNat_lt.mpr h))
    clear c9
    obtain ⟨rfl, rfl⟩ := sZ2 H
    repeat clear H
    obtain ⟨Td, Vl, Ob⟩ := Kd.cB lW.1
    subst Ob
    have ox := cz2 aC
    go_wp2
    go_ret2
    exact ⟨_, eR, rR lW.1, dQ⟩
 obtain ⟨rfl, rfl⟩ := sZ2 H
 repeat clear H
 go_enter Tryz.func29, Tryz.ntmps29
 go_wp2_with (first | ((with_reducible refine gD 1 ?_); refine bX 1 #[.slice dD aQ.length dE, .slice dS aE.length dB] 31 ?_; intro aZ hg kc hbox hb; have aC := am hbox; have gU := am (nS : w.heap.size ≤ aZ); have iL := gU; replace HB := bS gL hb; clear hb hbox hg) | ((with_reducible refine dF (N := 6) rfl ?_); refine lS 9 6 wJ ?_; intro Q7 mm jg hb; have pN := am (Kd.eF jg (aK dQ)); replace aC := bB bJ hb; replace HB := bS dQ hb; clear hb jg; have ve := cz2 aC) | ((with_reducible refine gC 21 ?_); refine cQ (some 8) Tryz.func21 (aG.calls k _ _ aQ _ _ aE false _ (pB cS) cO.1 (pB bE) dL.1 A2.out) ?_; rintro kd hb; replace pN := am (Kd.iI (rR pN.1) hb); replace aC := bB bJ hb; replace HB := bS dQ hb; clear hb))
 go_ret2
 exact ⟨_, eR, rR pN.1, dQ⟩
mutual
def dV.l0 : Nat → List ByteArray → Int → List ByteArray → List (S66) → Option (List ByteArray)
 | 0, _, _, _, _ => none
 | k + 1, d, b, c, a => if b < (a.length : Int) then ((aG.f k c a).bind fun e => (dV.j1 k d b e c a)) else (dV.j1 k d b false c a)
def dV.j1 : Nat → List ByteArray → Int → Bool → List ByteArray → List (S66) → Option (List ByteArray)
 | 0, _, _, _, _, _ => none
 | k + 1, c, a, e, d, b => if e = true then ((iG.f k d b a (([] : List ByteArray))).bind fun g => (if g = true then (if 0 ≤ a then (if a < (b.length : Int) then (if c.length < 8796093022208 then (dV.l0 k (c ++ [(aA b a).f0]) (wrap64 (a + 1)) d b) else (none)) else (none)) else (none)) else (dV.l0 k c (wrap64 (a + 1)) d b))) else (some c)
end
def dV.f (k : Nat) (aQ : List ByteArray) (aE : List (S66)) : Option (List ByteArray) := dV.l0 k (([] : List ByteArray)) 0 aQ aE
theorem dV.calls (k : Nat) (dD : Option Addr) (dE : Nat) (aQ : List ByteArray) (dS : Option Addr) (dB : Nat) (aE : List (S66)) (r : List ByteArray) (w : World) (fL : Kd.C Kd.string w dD aQ.length aQ) (fJ : aQ.length ≤ dE) (fH : Kd.C k66 w dS aE.length aE) (fK : aE.length ≤ dB) (h : dV.f k aQ aE = some r) :
  Calls Tryz.prog 31 #[.agg #[.slice dD aQ.length dE, .slice dS aE.length dB]] w fun e w' => ∃ v0_ : Value, e = .returned (v0_) ∧ Kd.R Kd.string 9 w' w.heap.size (fun _ => True) v0_ r ∧ Below w.heap.size w w' := by
 have hu31 := Tryz.underlying31
 obtain ⟨cS, cO⟩ := mZ2 fL fJ
 obtain ⟨bE, dL⟩ := mZ2 fH fK
 clear fL fJ fH fK
 have HB := am (Below.refl w.heap.size w)
 unfold dV.f at h
 have H := h
 clear h
 obtain ⟨M4, hy102⟩ : ∃ y_ : List ByteArray, y_ = (([] : List ByteArray)) := ⟨_, rfl⟩
 replace H : (dV.l0 k M4 0 aQ aE) = some r := by first | (rw [hy102]; with_reducible exact H) | (have H2_ := (Option.bind_some _ _).symm.trans H; rw [hy102]; with_reducible exact H2_) | (have H2_ := (Option.bind_some _ _).symm.trans H; with_reducible exact H2_) | with_reducible exact H | (rw [hy102]; exact H) | exact H
 have wJ := am hy102
 clear hy102
 have H' := am H
 repeat clear H
 go_enter Tryz.func31, Tryz.ntmps31
 go_wp2_with (first | ((with_reducible refine gD 1 ?_); refine bX 1 #[.slice dD aQ.length dE, .slice dS aE.length dB] 31 ?_; intro aZ hg w2 hbox hb; have aC := am hbox; have gU := am (nS : w.heap.size ≤ aZ); have iL := gU; replace HB := bS gL hb; clear hb hbox hg) | ((with_reducible refine dF (N := 5) rfl ?_); refine lS 9 5 wJ ?_; intro Q7 w3 IE hb; have pN := am (Kd.eF IE (aK dQ)); replace aC := bB bJ hb; replace HB := bS dQ hb; clear hb IE))
 go_loopg [3, 4] k (fun kq v3 v4 w' => ∃ (gV : List ByteArray) (eH : Int), v4 = .int .i64 eH ∧ aD (dV.l0 kq gV eH aQ aE = some r) ∧ aD (kq ≤ k) ∧ aD (Kd.R Kd.string 9 w' w.heap.size (fun _ => True) v3 gV) ∧ aD (w'.heap[aZ]? = some (.cells #[(.slice dD aQ.length dE), (.slice dS aE.length dB)] 31 (0, 0))) ∧ aD (Below w.heap.size w w'))
 case atStart => exact ⟨(M4), (0), eS, H', ⟨Nat.le_refl _⟩, ⟨rR pN.1⟩, ⟨rB aC.1⟩, ⟨dQ⟩⟩
 clear H'
 obtain ⟨gV, eH, rfl, HA, HK1, jT, aC, HB⟩ := hrel
 cases gk with
 | zero => exact absurd HA.out (by simp [dV.l0])
 | succ k1 =>
  have H := HA.out
  clear HA
  simp only [dV.l0] at H
  have nz := am H
  clear H
  go_upto_region 3 with ((fail))
  go_cut [14] (fun ss wc => ∃ (kq : Nat) (Ln : Bool), ss = .bool Ln ∧ aD (dV.j1 kq gV eH Ln aQ aE = some r) ∧ aD (kq ≤ k1) ∧ aD (Kd.R Kd.string 9 wc w.heap.size (fun _ => True) u3 gV) ∧ aD (wc.heap[aZ]? = some (.cells #[(.slice dD aQ.length dE), (.slice dS aE.length dB)] 31 (0, 0))) ∧ aD (Below w.heap.size w wc))
  case first =>
   have H := nz.1
   clear nz
   refine ic H ?_ ?_ <;> clear H <;> intro CC H
   ·(first | rw [CC] | (simp only [rZ, xP]; rw [CC]) | skip)
    obtain ⟨t105, A7, H⟩ := bd H
    have H' := am H
    repeat clear H
    have Z8 := cz2 aC
    go_wp2_with (first | (go_at_call 21; refine cM (aG.calls k1 _ _ aQ _ _ aE t105 _ (pB cS) cO.1 (pB bE) dL.1 A7.out) ?_; rintro w9 hb; replace jT := RB CE hb; replace aC := bB bJ hb; replace HB := bS dQ hb; clear hb))
    go_meet
    case rel => exact ⟨_, (t105), eS, H', ⟨by have := HK1.out; first | omega | exact Nat.le_refl _⟩, ⟨rR jT.1⟩, ⟨rB aC.1⟩, ⟨dQ⟩⟩
   ·(first | rw [CC] | (simp only [rZ, xP]; rw [CC]) | skip)
    have H' := am H
    repeat clear H
    have kw := cz2 aC
    go_wp2
    go_meet
    case rel => exact ⟨_, (false), eS, H', ⟨by have := HK1.out; first | omega | exact Nat.le_refl _⟩, ⟨rR jT.1⟩, ⟨rB aC.1⟩, ⟨dQ⟩⟩
  case rest =>
   clear nz
   obtain ⟨kq, Ln, rfl, HA, HJ4, jT, aC, HB⟩ := hcut
   cases kq with
   | zero => exact absurd HA.out (by simp [dV.j1])
   | succ kj4 =>
    have H := HA.out
    clear HA
    simp only [dV.j1] at H
    refine tC H ?_ ?_ <;> (repeat clear H) <;> intro Nr H <;> subst Nr
    ·obtain ⟨Qb, hy106⟩ : ∃ y_ : List ByteArray, y_ = (([] : List ByteArray)) := ⟨_, rfl⟩
     replace H : ((iG.f kj4 aQ aE eH Qb).bind fun wX => (if wX = true then (if 0 ≤ eH then (if eH < (aE.length : Int) then (if gV.length < 8796093022208 then (dV.l0 kj4 (gV ++ [(aA aE eH).f0]) (wrap64 (eH + 1)) aQ aE) else (none)) else (none)) else (none)) else (dV.l0 kj4 gV (wrap64 (eH + 1)) aQ aE))) = some r := by first | (rw [hy106]; with_reducible exact H) | (have H2_ := (Option.bind_some _ _).symm.trans H; rw [hy106]; with_reducible exact H2_) | (have H2_ := (Option.bind_some _ _).symm.trans H; with_reducible exact H2_) | with_reducible exact H | (rw [hy106]; exact H) | exact H
     have Ra := am hy106
     clear hy106
     obtain ⟨wX, Mc, H⟩ := bd H
     refine tC H ?_ ?_ <;> clear H <;> intro Ig H <;> subst Ig
     ·obtain ⟨KW, H⟩ := cN H
      obtain ⟨VK, H⟩ := cN H
      obtain ⟨Gh, H⟩ := cL H
      obtain ⟨ZQ, vO⟩ := yv (gV ++ [(aA aE eH).f0]); first | replace H := bW vO H | rw [← vO.1] at H
      have H' := am H
      repeat clear H
      have kx := cz2 aC
      go_wp2_with (first | ((with_reducible refine dF (N := 19) rfl ?_); refine lS 9 19 Ra ?_; intro sk w18 Xe hb; have yA := am (Kd.eF (Kd.jQ Xe (Kd.R_lt CE)) (aK dQ)); replace jT := am (Kd.gZ CE (Kd.eO Xe) hb); replace aC := bB bJ hb; replace HB := bS dQ hb; clear hb Xe; obtain ⟨uP, lJ, YC⟩ := Kd.cB yA.1; subst YC) | ((with_reducible refine gC 61 ?_); refine cQ (some 20) Tryz.func61 (iG.calls kj4 _ _ aQ _ _ aE eH _ _ Qb true _ (pB cS) cO.1 (pB bE) dL.1 (pC (Kd.bI yA.1).2.2) ((Kd.bI yA.1).2.1) Mc.out) ?_; rintro ml hb; replace jT := RB CE hb; replace yA := am (Kd.iI (rR yA.1) hb); replace aC := bB bJ hb; replace HB := bS dQ hb; clear hb; have uw := cz2 aC; obtain ⟨NO, RY, TC, RZ, TD, TL, MT, BO, BP, MF, M7, MG, M8, Ph, Pl⟩ := aT66 bE HB eH; cases TL) | ((with_reducible refine fA (b := .append) (xs := #[.tmp 21, .tmp 28]) rfl ?_); at_builtin; refine Kd.jD Kd.string (w0 := w) w.heap.size rfl (.tmp 21) (.tmp 28) 27 9 (.string ⟨#[]⟩) 16 rfl Tryz.underlying27 jP rfl (by decide) (by omega) u3 gV ((aA aE eH).f0) [.string ((aA aE eH).f0)] (fun k_ => some k_ ≠ (.slice uP Qb.length lJ : Value).ownBlock) (fun _ => False) rfl rfl ?aP (fun _ hk => hk.elim) ?aF ?aO ?aB ?aS ?aL ?_; (case aP => exact rfl); (case aB => exact dQ); (case aF => exact (fun k_ hk => Kd.fresh' (Kd.R_lt (rR yA.1)) k_ hk)); (case aO => exact (by refine rR ?_; exact Kd.bG jT.1 (fun _ hk => hk.2))); (case aS => exact (aK dQ)); (case aL => have := Gh.out; omega); intro Lg tg ho hb hg hat; rw [← vO.out] at ho; replace aC := gkR bJ hg jT aC; replace yA := am (Kd.r9 (ok := (fun _ => True)) (rR yA.1) hg hat); replace HB := am hb; have GX := am ho; clear jT; clear ho hb hg hat))
      go_roundg kj4
      case measure => have := HK1.out; have := HJ4.out; omega
      case rel => exact ⟨(ZQ), (wrap64 (eH + 1)), eS, H', ⟨by have := HK1.out; have := HJ4.out; omega⟩, ⟨by refine rR ?_; exact Kd.bG GX.1 (fun _ hk => trivial)⟩, ⟨rB aC.1⟩, ⟨dQ⟩⟩
     ·have H' := am H
      repeat clear H
      have ky := cz2 aC
      go_wp2_with (first | ((with_reducible refine dF (N := 19) rfl ?_); refine lS 9 19 Ra ?_; intro sk Py Xg hb; have yA := am (Kd.eF (Kd.jQ Xg (Kd.R_lt CE)) (aK dQ)); replace jT := am (Kd.gZ CE (Kd.eO Xg) hb); replace aC := bB bJ hb; replace HB := bS dQ hb; clear hb Xg; obtain ⟨Zk, gq, Oc⟩ := Kd.cB yA.1; subst Oc) | ((with_reducible refine gC 61 ?_); refine cQ (some 20) Tryz.func61 (iG.calls kj4 _ _ aQ _ _ aE eH _ _ Qb false _ (pB cS) cO.1 (pB bE) dL.1 (pC (Kd.bI yA.1).2.2) ((Kd.bI yA.1).2.1) Mc.out) ?_; rintro mm hb; replace jT := RB CE hb; replace yA := am (Kd.iI (rR yA.1) hb); replace aC := bB bJ hb; replace HB := bS dQ hb; clear hb))
      go_roundg kj4
      case measure => have := HK1.out; have := HJ4.out; omega
      case rel => exact ⟨(gV), (wrap64 (eH + 1)), eS, H', ⟨by have := HK1.out; have := HJ4.out; omega⟩, ⟨by refine rR ?_; exact Kd.bG jT.1 (fun _ hk => trivial)⟩, ⟨rB aC.1⟩, ⟨dQ⟩⟩
    ·obtain rfl := Option.some.inj H
     repeat clear H
     go_wp2
     go_ret
     exact ⟨_, eR, rR jT.1, dQ⟩
end Go.Proofs.YtaofjgnhapnndaaGreatDoor.Q
namespace Go.Proofs.YtaofjgnhapnndaaGreatDoor.Q
open Go.RowKit Go.Proofs.YtaofjgnhapnndaaGreatDoorW.PrintWords Go.Proofs.YtaofjgnhapnndaaGreatDoorW.PrintLast Go.Proofs.YtaofjgnhapnndaaGreatDoorW.PrintMore
set_option linter.unusedVariables false
set_option linter.unusedSimpArgs false
mutual
def fG.l0 : Nat → ByteArray → Int → List ByteArray → List (S66) → Option (ByteArray)
 | 0, _, _, _, _ => none
 | k + 1, d, b, c, a => if b < (a.length : Int) then ((aG.f k c a).bind fun e => (fG.j1 k d b e c a)) else (fG.j1 k d b false c a)
def fG.j1 : Nat → ByteArray → Int → Bool → List ByteArray → List (S66) → Option (ByteArray)
 | 0, _, _, _, _, _ => none
 | k + 1, c, a, d, e, b => if d = true then (if 0 ≤ a then (if a < (b.length : Int) then ((cZ.f k ((aA b a).f1) c).bind fun g => (if g = true then (some ((aA b a).f0)) else (fG.l0 k c (wrap64 (a + 1)) e b))) else (none)) else (none)) else (some (⟨#[]⟩ : ByteArray))
end
def fG.f (k : Nat) (aQ : List ByteArray) (aE : List (S66)) (a1 : ByteArray) : Option (ByteArray) := fG.l0 k a1 0 aQ aE
theorem fG.calls (k : Nat) (dD : Option Addr) (dE : Nat) (aQ : List ByteArray) (dS : Option Addr) (dB : Nat) (aE : List (S66)) (a1 : ByteArray) (r : ByteArray) (w : World) (fL : Kd.C Kd.string w dD aQ.length aQ) (fJ : aQ.length ≤ dE) (fH : Kd.C k66 w dS aE.length aE) (fK : aE.length ≤ dB) (h : fG.f k aQ aE a1 = some r) :
  Calls Tryz.prog 33 #[.agg #[.slice dD aQ.length dE, .slice dS aE.length dB], .string a1] w fun e w' => e = .returned (.string r) ∧ Below w.heap.size w w' := by
 have hu31 := Tryz.underlying31
 obtain ⟨cS, cO⟩ := mZ2 fL fJ
 obtain ⟨bE, dL⟩ := mZ2 fH fK
 clear fL fJ fH fK
 have HB := am (Below.refl w.heap.size w)
 unfold fG.f at h
 have H := h
 clear h
 have H' := am H
 repeat clear H
 go_enter Tryz.func33, Tryz.ntmps33
 go_wp2_with (first | ((with_reducible refine gD 2 ?_); refine bX 2 #[.slice dD aQ.length dE, .slice dS aE.length dB] 31 ?_; intro aZ hg w3 hbox hb; have aC := am hbox; have gU := am (nS : w.heap.size ≤ aZ); have iL := gU; replace HB := bS gL hb; clear hb hbox hg))
 go_loopg [5] k (fun kq v5 w' => ∃ (dK : Int), v5 = .int .i64 dK ∧ aD (fG.l0 kq a1 dK aQ aE = some r) ∧ aD (kq ≤ k) ∧ aD (w'.heap[aZ]? = some (.cells #[(.slice dD aQ.length dE), (.slice dS aE.length dB)] 31 (0, 0))) ∧ aD (Below w.heap.size w w'))
 case atStart => exact ⟨(0), eS, H', ⟨Nat.le_refl _⟩, ⟨rB aC.1⟩, ⟨dQ⟩⟩
 clear H'
 obtain ⟨dK, rfl, HA, HK1, aC, HB⟩ := hrel
 cases gk with
 | zero => exact absurd HA.out (by simp [fG.l0])
 | succ k1 =>
  have H := HA.out
  clear HA
  simp only [fG.l0] at H
  have Ty := am H
  clear H
  go_upto_region 2 with ((fail))
  go_cut [14] (fun ss wc => ∃ (kq : Nat) (Lm : Bool), ss = .bool Lm ∧ aD (fG.j1 kq a1 dK Lm aQ aE = some r) ∧ aD (kq ≤ k1) ∧ aD (wc.heap[aZ]? = some (.cells #[(.slice dD aQ.length dE), (.slice dS aE.length dB)] 31 (0, 0))) ∧ aD (Below w.heap.size w wc))
  case first =>
   have H := Ty.1
   clear Ty
   refine ic H ?_ ?_ <;> clear H <;> intro AZ H
   ·(first | rw [AZ] | (simp only [rZ, xP]; rw [AZ]) | skip)
    obtain ⟨wE, A6, H⟩ := bd H
    have H' := am H
    repeat clear H
    have Z7 := cz2 aC
    go_wp2_with (first | (go_at_call 21; refine cM (aG.calls k1 _ _ aQ _ _ aE wE _ (pB cS) cO.1 (pB bE) dL.1 A6.out) ?_; rintro w8 hb; replace aC := bB bJ hb; replace HB := bS dQ hb; clear hb))
    go_meet
    case rel => exact ⟨_, (wE), eS, H', ⟨by have := HK1.out; first | omega | exact Nat.le_refl _⟩, ⟨rB aC.1⟩, ⟨dQ⟩⟩
   ·(first | rw [AZ] | (simp only [rZ, xP]; rw [AZ]) | skip)
    have H' := am H
    repeat clear H
    have Z9 := cz2 aC
    go_wp2
    go_meet
    case rel => exact ⟨_, (false), eS, H', ⟨by have := HK1.out; first | omega | exact Nat.le_refl _⟩, ⟨rB aC.1⟩, ⟨dQ⟩⟩
  case rest =>
   clear Ty
   obtain ⟨kq, Lm, rfl, HA, HJ3, aC, HB⟩ := hcut
   cases kq with
   | zero => exact absurd HA.out (by simp [fG.j1])
   | succ kj3 =>
    have H := HA.out
    clear HA
    simp only [fG.j1] at H
    refine tC H ?_ ?_ <;> (repeat clear H) <;> intro Ba H <;> subst Ba
    ·obtain ⟨C9, H⟩ := cN H
     obtain ⟨NT, H⟩ := cN H
     obtain ⟨bR, Ze, H⟩ := bd H
     refine tC H ?_ ?_ <;> clear H <;> intro XJ H <;> subst XJ
     ·obtain rfl := Option.some.inj H
      repeat clear H
      have dy := cz2 aC
      obtain ⟨lM, vS, vX, vT, vY, sN, pH, IL, IM, sB, sA, vH, vF, G9, GB⟩ := aT66 bE HB dK
      cases sN
      go_wp2_with (first | ((with_reducible refine gC 59 ?_); refine cQ (some 24) Tryz.func59 (cZ.calls kj3 _ _ ((aA aE dK).f1) a1 true _ (pB sB) sA.1 Ze.out) ?_; rintro w' ⟨nd, rfl⟩; obtain ⟨xH, FC, FM, FD, FN, FQ, wT, vL, vM, wP, AW, nP, oZ, YY, OQ⟩ := aT66 bE HB dK; obtain rfl : lM = xH := (by injection FQ); obtain ⟨ea_, ec_⟩ := eZ2 IL vL; subst ea_; subst ec_; obtain ⟨ea_, ec_⟩ := eZ2 IM vM; subst ea_; subst ec_))
      go_ret
      exact ⟨eR, dQ⟩
     ·have H' := am H
      repeat clear H
      have uo := cz2 aC
      obtain ⟨lM, vS, vX, vT, vY, sN, pH, IL, IM, sB, sA, vH, vF, G9, GB⟩ := aT66 bE HB dK
      cases sN
      go_wp2_with (first | ((with_reducible refine gC 59 ?_); refine cQ (some 24) Tryz.func59 (cZ.calls kj3 _ _ ((aA aE dK).f1) a1 false _ (pB sB) sA.1 Ze.out) ?_; rintro w' ⟨nd, rfl⟩))
      go_roundg kj3
      case measure => have := HK1.out; have := HJ3.out; omega
      case rel => exact ⟨(wrap64 (dK + 1)), eS, H', ⟨by have := HK1.out; have := HJ3.out; omega⟩, ⟨rB aC.1⟩, ⟨dQ⟩⟩
    ·obtain rfl := Option.some.inj H
     repeat clear H
     go_wp2
     go_ret
     exact ⟨eR, dQ⟩
end Go.Proofs.YtaofjgnhapnndaaGreatDoor.Q
namespace Go.Proofs.YtaofjgnhapnndaaGreatDoor.Q
open Go.RowKit Go.Proofs.YtaofjgnhapnndaaGreatDoorW.PrintWords Go.Proofs.YtaofjgnhapnndaaGreatDoorW.PrintLast Go.Proofs.YtaofjgnhapnndaaGreatDoorW.PrintMore
set_option linter.unusedVariables false
set_option linter.unusedSimpArgs false
def bH.l0 : Nat → Int → List ByteArray → List (S66) → Int → Int → List ByteArray → List (S66) → Option (Bool)
 | 0, _, _, _, _, _, _, _ => none
 | k + 1, b, e, c, g, a, h, d => if a < g then (if 0 ≤ a then (if a < (c.length : Int) then (if a = b then (bH.l0 k b e c g (wrap64 (a + 1)) h d) else ((aW.f k e ((aA c a).f0)).bind fun i => (if i = true then (bH.l0 k b e c g (wrap64 (a + 1)) h d) else (if 0 ≤ b then (if b < (d.length : Int) then ((iT.f ((aA c a).f1) ((aA d b).f2)).bind fun j => (if j = true then (some false) else (bH.l0 k b e c g (wrap64 (a + 1)) h d))) else (none)) else (none))))) else (none)) else (none)) else (some true)
def bH.f (k : Nat) (aQ : List ByteArray) (aE : List (S66)) (a1 : Int) (l2 : List ByteArray) : Option (Bool) := bH.l0 k a1 l2 aE (aE.length : Int) 0 aQ aE
def bH.T4 : Bool × List (List Nat × List Nat) := (true, [([], []), ([], []), ([0, 1], [0, 1]), ([2], [2]), ([3], [3]), ([3], [3]), ([5, 3], [3, 5]), ([4, 6, 3, 3], [3, 4, 6]), ([7, 3], [3, 7]), ([3, 8], [3, 8]), ([9, 7], [9]), ([10], [10]), ([11, 10], [10, 11]), ([10], [10]), ([13, 10], [10, 13]), ([10], [10]), ([14, 15, 10], [10, 14, 15]), ([16, 10], [10, 16]), ([17, 10], [10, 17]), ([12, 18, 10, 10], [10, 12, 18]), ([10, 19], [10, 19])])
def bH.B4 : List Nat := [0, 0, 3, 7, 15, 15, 47, 127, 255, 511, 1023, 2047, 4095, 2047, 10239, 2047, 59391, 124927, 255999, 524287, 1048575]
theorem bH.tab4 : rtab .any (opsOf Tryz.f83 4) = bH.T4 := by kernel_rfl
theorem bH.Av : nV bH.T4.2 bH.B4 = true := by kernel_rfl
theorem bH.calls (k : Nat) (dD : Option Addr) (dE : Nat) (aQ : List ByteArray) (dS : Option Addr) (dB : Nat) (aE : List (S66)) (a1 : Int) (A2 : Option Addr) (c2 : Nat) (l2 : List ByteArray) (r : Bool) (w : World) (fL : Kd.C Kd.string w dD aQ.length aQ) (fJ : aQ.length ≤ dE) (fH : Kd.C k66 w dS aE.length aE) (fK : aE.length ≤ dB) (rP : Kd.C Kd.string w A2 l2.length l2) (mH : l2.length ≤ c2) (h : bH.f k aQ aE a1 l2 = some r) :
  Calls Tryz.prog 83 #[.agg #[.slice dD aQ.length dE, .slice dS aE.length dB], .int .i64 a1, .slice A2 l2.length c2] w fun e w' => e = .returned (.bool r) ∧ Below w.heap.size w w' := by
 have hu31 := Tryz.underlying31
 have hu66 := Tryz.underlying66
 obtain ⟨cS, cO⟩ := mZ2 fL fJ
 obtain ⟨bE, dL⟩ := mZ2 fH fK
 obtain ⟨pL, pK⟩ := mZ2 rP mH
 clear fL fJ fH fK rP mH
 have HB := am (Below.refl w.heap.size w)
 unfold bH.f at h
 have H := h
 clear h
 have H' := am H
 repeat clear H
 go_enter Tryz.func83, Tryz.ntmps83
 go_wp2_with (first | ((with_reducible refine gD 3 ?_); refine bX 3 #[.slice dD aQ.length dE, .slice dS aE.length dB] 31 ?_; intro aZ hg w4 hbox hb; have aC := am hbox; have gU := am (nS : w.heap.size ≤ aZ); have iL := gU; replace HB := bS gL hb; clear hb hbox hg; have Z5 := cz2 aC))
 go_loopg [12] k (fun kq v12 w' => ∃ (l4 : Int), v12 = .int .i64 l4 ∧ aD (bH.l0 kq a1 l2 aE (aE.length : Int) l4 aQ aE = some r) ∧ aD (kq ≤ k) ∧ aD (w'.heap[aZ]? = some (.cells #[(.slice dD aQ.length dE), (.slice dS aE.length dB)] 31 (0, 0))) ∧ aD (Below w.heap.size w w'))
 case atStart => exact ⟨(0), eS, H', ⟨Nat.le_refl _⟩, ⟨rB aC.1⟩, ⟨dQ⟩⟩
 clear H'
 try clear c2
 try clear Z5
 obtain ⟨l4, rfl, HA, HK1, aC, HB⟩ := hrel
 cases gk with
 | zero => exact absurd HA.out (by simp [bH.l0])
 | succ k1 =>
  have H := HA.out
  clear HA
  simp only [bH.l0] at H
  refine ic H ?_ ?_ <;> clear H <;> intro CC H
  obtain ⟨NV, H⟩ := cN H
  obtain ⟨EH, H⟩ := cN H
  refine iq H ?_ ?_ <;> clear H <;> intro c9 I2 Y4 H
  have H' := am H
  repeat clear H
  obtain ⟨n9, oW, pF, oX, pG, rT, o9, mZ, n3, nO, nN, qY, qX, EJ, EL⟩ := aT66 bE HB l4
  cases rT
  have Gm := trivial
  rotate_left
  obtain ⟨bR, Ly, H⟩ := bd H
  refine tC H ?_ ?_ <;> clear H <;> intro fk H <;> subst fk
  have H' := am H
  repeat clear H
  obtain ⟨n9, oW, pF, oX, pG, rT, o9, mZ, n3, nO, nN, qY, qX, EJ, EL⟩ := aT66 bE HB l4
  cases rT
  have Gm := trivial
  rotate_left
  obtain ⟨Ro, H⟩ := cN H
  obtain ⟨yh, H⟩ := cN H
  obtain ⟨JB, tl, H⟩ := bd H
  refine tC H ?_ ?_ <;> clear H <;> intro Rp H <;> subst Rp
  obtain rfl := Option.some.inj H
  repeat clear H
  obtain ⟨n9, oW, pF, oX, pG, rT, o9, mZ, n3, nO, nN, qY, qX, EJ, EL⟩ := aT66 bE HB l4
  cases rT
  have Gm := trivial
  rotate_left
  have H' := am H
  repeat clear H
  obtain ⟨n9, oW, pF, oX, pG, rT, o9, mZ, n3, nO, nN, qY, qX, EJ, EL⟩ := aT66 bE HB l4
  cases rT
  have Gm := trivial
  rotate_left
  obtain rfl := Option.some.inj H
  repeat clear H
  rotate_left
  all_goals
   try go_wp2_with (first | ((with_reducible refine gD 8 ?_); revert Gm; intro Gm; refine bX 8 #[.string (⟨#[]⟩ : ByteArray), .slice none 0 0, .slice none 0 0] 66 ?_; intro O6 hg Cl hbox hb; have lV := am hbox; have Zw := am (vA : w.heap.size ≤ O6); have V2 := Zw; replace HB := bS dQ hb; have zH := nL bJ hg; have Cp := nG bJ hg; replace aC := bB bJ hb; clear hb hbox hg; have ux := nZ1 Cp zH; have uy := cz3 lV))
  ·obtain ⟨UZ, eW_⟩ := eW3 Cl O6 (.string ((aA aE l4).f0)) (.slice oW ((aA aE l4).f1).length pF) (.slice oX ((aA aE l4).f2).length pG)
   rw [← eW_]
   replace aC := uF3 eW_ aC zH
   replace lV := uP3 eW_ lV
   replace HB := uC3 eW_ HB V2
   clear eW_
   replace aC := BD aC
   replace lV := BD lV
   replace HB := am (aU HB.1)
   refine sT (S := fun w' => True) [] 21 ⟨trivial⟩ (fun hHeld => ?_)
   refine gH bH.tab4 bH.Av (fun HT_ HW_ => ?_)
   generalize UZ.drew = Yu at aC lV HB hHeld ⊢
   refine pU4 0 1 2 3 ?_
   refine pV5 4 5 6 7 8 ?_
   refine pU2 9 10 ?_
   refine pV8 11 12 13 14 15 16 17 18 ?_
   refine pV1 19 ?_
   refine pU1 20 ?_
   refine dN ?_
   try go_wp2
   go_roundg k1
   case measure => have := HK1.out; omega
   case rel => exact ⟨(wrap64 (l4 + 1)), eS, H', ⟨by have := HK1.out; omega⟩, ⟨rB aC.1⟩, ⟨PV⟩⟩
  ·obtain ⟨Li, eW_⟩ := eW3 Cl O6 (.string ((aA aE l4).f0)) (.slice oW ((aA aE l4).f1).length pF) (.slice oX ((aA aE l4).f2).length pG)
   rw [← eW_]
   replace aC := uF3 eW_ aC zH
   replace lV := uP3 eW_ lV
   replace HB := uC3 eW_ HB V2
   clear eW_
   replace aC := BD aC
   replace lV := BD lV
   replace HB := am (aU HB.1)
   refine sT [] 21 (uA3 lV) (fun hHeld => ?_)
   refine gH bH.tab4 bH.Av (fun HT_ HW_ => ?_)
   generalize Li.drew = ml at aC lV HB hHeld ⊢
   refine pU6 0 1 2 3 4 5 ?_
   refine tK3 6 (some 23) ?_
   refine oN 7 (some 24) fun K hK => ?_
   refine gQ Tryz.func42 (aW.calls k1 _ _ l2 ((aA aE l4).f0) true _ (pB pL) pK.1 Ly.out) ?_
   rintro w' ⟨nd, rfl⟩
   refine nK hK (uA3 lV).1 fun hHeld => ?_
   clear hK K
   refine pU3 8 9 10 ?_
   refine pV8 11 12 13 14 15 16 17 18 ?_
   refine pV1 19 ?_
   refine pU1 20 ?_
   refine dN ?_
   try go_wp2
   go_roundg k1
   case measure => have := HK1.out; omega
   case rel => exact ⟨(wrap64 (l4 + 1)), eS, H', ⟨by have := HK1.out; omega⟩, ⟨rB aC.1⟩, ⟨PV⟩⟩
  ·obtain ⟨w29, eW_⟩ := eW3 Cl O6 (.string ((aA aE l4).f0)) (.slice oW ((aA aE l4).f1).length pF) (.slice oX ((aA aE l4).f2).length pG)
   rw [← eW_]
   replace aC := uF3 eW_ aC zH
   replace lV := uP3 eW_ lV
   replace HB := uC3 eW_ HB V2
   clear eW_
   replace aC := BD aC
   replace lV := BD lV
   replace HB := am (aU HB.1)
   obtain ⟨xH, FC, FM, FD, FN, FQ, BL, BM, BN, wT, vL, vM, wP, AW, nP, oZ, YY, OQ⟩ := xG bE HB a1
   obtain rfl : n9 = xH := (by injection FQ)
   refine sT [] 21 (uB3 lV (uB2 aC (uBx HB BL (uBx HB BM (uAx HB BN))))) (fun hHeld => ?_)
   refine gH bH.tab4 bH.Av (fun HT_ HW_ => ?_)
   generalize w29.drew = mn at aC lV HB wP nP wT vL vM hHeld ⊢
   refine pU6 0 1 2 3 4 5 ?_
   refine tK8 6 (some 23) ?_
   refine oN 7 (some 24) fun K hK => ?_
   refine gQ Tryz.func42 (aW.calls k1 _ _ l2 ((aA aE l4).f0) false _ (pB pL) pK.1 Ly.out) ?_
   rintro w' ⟨nd, rfl⟩
   refine nK hK (uB3 lV (uB2 aC (uBx HB BL (uBx HB BM (uAx HB BN))))).1 fun hHeld => ?_
   clear hK K
   refine pU6 8 9 10 11 13 15 ?_
   refine tK8 12 (some 29) ?_
   refine tK8 14 (some 31) ?_
   refine pU2 16 17 ?_
   refine tK8 18 (some 35) ?_
   refine oN 19 (some 36) fun K hK => ?_
   refine gQ Tryz.func69 (iT.calls _ _ ((aA aE l4).f1) _ _ ((aA aE a1).f2) true _ ((Kd.aM nO.1 PV)) nN.1 ((Kd.aM nP.1 PV)) oZ.1 tl.out) ?_
   rintro kd hb
   replace aC := bB bJ hb
   replace lV := am (aV (g := O6) (o := .cells #[.string ((aA aE l4).f0), .slice oW ((aA aE l4).f1).length pF, .slice oX ((aA aE l4).f2).length pG] 66 (0, 0)) (rB lV.1) hb)
   replace HB := bS PV hb
   clear hb
   refine nK hK (uB3 lV (uB2 aC (uBx HB BL (uBx HB BM (uAx HB BN))))).1 fun hHeld => ?_
   clear hK K
   refine pU1 20 ?_
   refine dN ?_
   try go_wp2
   go_ret
   exact ⟨eR, PV⟩
  ·obtain ⟨Sv, eW_⟩ := eW3 Cl O6 (.string ((aA aE l4).f0)) (.slice oW ((aA aE l4).f1).length pF) (.slice oX ((aA aE l4).f2).length pG)
   rw [← eW_]
   replace aC := uF3 eW_ aC zH
   replace lV := uP3 eW_ lV
   replace HB := uC3 eW_ HB V2
   clear eW_
   replace aC := BD aC
   replace lV := BD lV
   replace HB := am (aU HB.1)
   obtain ⟨xH, FC, FM, FD, FN, FQ, BL, BM, BN, wT, vL, vM, wP, AW, nP, oZ, YY, OQ⟩ := xG bE HB a1
   obtain rfl : n9 = xH := (by injection FQ)
   refine sT [] 21 (uB3 lV (uB2 aC (uBx HB BL (uBx HB BM (uAx HB BN))))) (fun hHeld => ?_)
   refine gH bH.tab4 bH.Av (fun HT_ HW_ => ?_)
   generalize Sv.drew = Zb at aC lV HB wP nP wT vL vM hHeld ⊢
   refine pU6 0 1 2 3 4 5 ?_
   refine tK8 6 (some 23) ?_
   refine oN 7 (some 24) fun K hK => ?_
   refine gQ Tryz.func42 (aW.calls k1 _ _ l2 ((aA aE l4).f0) false _ (pB pL) pK.1 Ly.out) ?_
   rintro w' ⟨nd, rfl⟩
   refine nK hK (uB3 lV (uB2 aC (uBx HB BL (uBx HB BM (uAx HB BN))))).1 fun hHeld => ?_
   clear hK K
   refine pU6 8 9 10 11 13 15 ?_
   refine tK8 12 (some 29) ?_
   refine tK8 14 (some 31) ?_
   refine pU2 16 17 ?_
   refine tK8 18 (some 35) ?_
   refine oN 19 (some 36) fun K hK => ?_
   refine gQ Tryz.func69 (iT.calls _ _ ((aA aE l4).f1) _ _ ((aA aE a1).f2) false _ ((Kd.aM nO.1 PV)) nN.1 ((Kd.aM nP.1 PV)) oZ.1 tl.out) ?_
   rintro Zc hb
   replace aC := bB bJ hb
   replace lV := am (aV (g := O6) (o := .cells #[.string ((aA aE l4).f0), .slice oW ((aA aE l4).f1).length pF, .slice oX ((aA aE l4).f2).length pG] 66 (0, 0)) (rB lV.1) hb)
   replace HB := bS PV hb
   clear hb
   refine nK hK (uB3 lV (uB2 aC (uBx HB BL (uBx HB BM (uAx HB BN))))).1 fun hHeld => ?_
   clear hK K
   refine pU1 20 ?_
   refine dN ?_
   try go_wp2
   go_roundg k1
   case measure => have := HK1.out; omega
   case rel => exact ⟨(wrap64 (l4 + 1)), eS, H', ⟨by have := HK1.out; omega⟩, ⟨rB aC.1⟩, ⟨PV⟩⟩
  ·go_ret
   exact ⟨eR, dQ⟩
mutual
def dP.l0 : Nat → List ByteArray → List ByteArray → List (S66) → Option (List ByteArray × Bool)
 | 0, _, _, _ => none
 | k + 1, a, c, b => if (a.length : Int) < (b.length : Int) then (dP.l1 k a (a.length : Int) b (b.length : Int) 0 c b) else (some (a, true))
def dP.l1 : Nat → List ByteArray → Int → List (S66) → Int → Int → List ByteArray → List (S66) → Option (List ByteArray × Bool)
 | 0, _, _, _, _, _, _, _ => none
 | k + 1, a, g, c, h, b, d, e => if b < h then (if 0 ≤ b then (if b < (c.length : Int) then ((aW.f k a ((aA c b).f0)).bind fun j => (if j = true then (dP.l1 k a g c h (wrap64 (b + 1)) d e) else ((bH.f k d e b a).bind fun l => (if l = true then (if a.length < 8796093022208 then ((some (a ++ [(aA c b).f0] : List ByteArray)).bind fun i => (if (i.length : Int) = g then (some (([] : List ByteArray), false)) else (dP.l0 k i d e))) else (none)) else (dP.l1 k a g c h (wrap64 (b + 1)) d e))))) else (none)) else (none)) else (if (a.length : Int) = g then (some (([] : List ByteArray), false)) else (dP.l0 k a d e))
end
def dP.f (k : Nat) (aQ : List ByteArray) (aE : List (S66)) : Option (List ByteArray × Bool) := (aI.f k aQ aE).bind fun a => (if a = true then (dP.l0 k (([] : List ByteArray)) aQ aE) else (some (([] : List ByteArray), false)))
theorem dP.calls (k : Nat) (dD : Option Addr) (dE : Nat) (aQ : List ByteArray) (dS : Option Addr) (dB : Nat) (aE : List (S66)) (r1 : List ByteArray) (r2 : Bool) (w : World) (fL : Kd.C Kd.string w dD aQ.length aQ) (fJ : aQ.length ≤ dE) (fH : Kd.C k66 w dS aE.length aE) (fK : aE.length ≤ dB) (h : dP.f k aQ aE = some (r1, r2)) :
  Calls Tryz.prog 44 #[.agg #[.slice dD aQ.length dE, .slice dS aE.length dB]] w fun e w' => ∃ v0_ : Value, e = .returned (.tuple #[v0_, .bool r2]) ∧ Kd.R Kd.string 9 w' w.heap.size (fun _ => True) v0_ r1 ∧ Below w.heap.size w w' := by
 have hu31 := Tryz.underlying31
 have hu66 := Tryz.underlying66
 obtain ⟨cS, cO⟩ := mZ2 fL fJ
 obtain ⟨bE, dL⟩ := mZ2 fH fK
 clear fL fJ fH fK
 have HB := am (Below.refl w.heap.size w)
 unfold dP.f at h
 have H := h
 clear h
 obtain ⟨wE, A2, H⟩ := bd H
 refine tC H ?_ ?_ <;> clear H <;> intro c3 H <;> subst c3
 ·obtain ⟨PJ, hy103⟩ : ∃ y_ : List ByteArray, y_ = (([] : List ByteArray)) := ⟨_, rfl⟩
  replace H : (dP.l0 k PJ aQ aE) = some (r1, r2) := by first | (rw [hy103]; with_reducible exact H) | (have H2_ := (Option.bind_some _ _).symm.trans H; rw [hy103]; with_reducible exact H2_) | (have H2_ := (Option.bind_some _ _).symm.trans H; with_reducible exact H2_) | with_reducible exact H | (rw [hy103]; exact H) | exact H
  have QP := am hy103
  clear hy103
  have H' := am H
  repeat clear H
  go_enter Tryz.func44, Tryz.ntmps44
  go_wp2_with (first | ((with_reducible refine gD 1 ?_); refine bX 1 #[.slice dD aQ.length dE, .slice dS aE.length dB] 31 ?_; intro aZ hg w4 hbox hb; have aC := am hbox; have gU := am (nS : w.heap.size ≤ aZ); have iL := gU; replace HB := bS gL hb; clear hb hbox hg; have Z5 := cz2 aC) | ((with_reducible refine gC 36 ?_); refine cQ (some 9) Tryz.func36 (aI.calls k _ _ aQ _ _ aE true _ (pB cS) cO.1 (pB bE) dL.1 A2.out) ?_; rintro w6 hb; replace aC := bB bJ hb; replace HB := bS dQ hb; clear hb) | ((with_reducible refine dF (N := 11) rfl ?_); refine lS 9 11 QP ?_; intro LX w7 ji hb; have qD := am (Kd.eF ji (aK dQ)); replace aC := bB bJ hb; replace HB := bS dQ hb; clear hb ji))
  go_loopg [4] k (fun kq v4 w' => ∃ (eH : List ByteArray), aD (dP.l0 kq eH aQ aE = some (r1, r2)) ∧ aD (kq ≤ k) ∧ aD (Kd.R Kd.string 9 w' w.heap.size (fun _ => True) v4 eH) ∧ aD (w'.heap[aZ]? = some (.cells #[(.slice dD aQ.length dE), (.slice dS aE.length dB)] 31 (0, 0))) ∧ aD (Below w.heap.size w w'))
  case atStart => exact ⟨(PJ), H', ⟨Nat.le_refl _⟩, ⟨rR qD.1⟩, ⟨rB aC.1⟩, ⟨dQ⟩⟩
  clear H'
  try clear c3
  try clear Z5
  obtain ⟨eH, HA, HK1, lW, aC, HB⟩ := hrel
  cases gk with
  | zero => exact absurd HA.out (by simp [dP.l0])
  | succ k1 =>
   have H := HA.out
   clear HA
   simp only [dP.l0] at H
   by_cases c9 : (eH.length : Int) < (aE.length : Int)
   ·rw [if_pos c9] at H
    have I2 : decide ((eH.length : Int) < (aE.length : Int)) = true := decide_eq_true c9
    have Y4 : decide (eH.length < aE.length) = true := decide_eq_true (Int.ofNat_lt.mp c9)
    clear c9
    have H' := am H
    repeat clear H
    obtain ⟨a2P, a5G, pv⟩ := Kd.cB lW.1
    subst pv
    have Lz := cz2 aC
    go_wp2
    go_loopg [4, 23] k1 (fun kq v4 sx w' => ∃ (qW : List ByteArray) (iH : Int), sx = .int .i64 iH ∧ aD (dP.l1 kq qW (eH.length : Int) aE (aE.length : Int) iH aQ aE = some (r1, r2)) ∧ aD (kq ≤ k1) ∧ aD (Kd.R Kd.string 9 w' w.heap.size (fun _ => True) v4 qW) ∧ aD (w'.heap[aZ]? = some (.cells #[(.slice dD aQ.length dE), (.slice dS aE.length dB)] 31 (0, 0))) ∧ aD (Below w.heap.size w w'))
    case atStart => exact ⟨(eH), (0), eS, H', ⟨Nat.le_refl _⟩, ⟨rR lW.1⟩, ⟨rB aC.1⟩, ⟨dQ⟩⟩
    case round =>
     clear H'
     try clear c3
     try clear c9
     try clear I2
     try clear Y4
     try clear Lz
     try clear Z5
     obtain ⟨qW, iH, rfl, HA, HK2, lW, aC, HB⟩ := hrel
     cases gk with
     | zero => exact absurd HA.out (by simp [dP.l1])
     | succ k2 =>
      have H := HA.out
      clear HA
      simp only [dP.l1] at H
      refine ic H ?_ ?_ <;> clear H <;> intro NT H
      ·obtain ⟨VJ, H⟩ := cN H
       obtain ⟨KW, H⟩ := cN H
       obtain ⟨US, Ly, H⟩ := bd H
       refine tC H ?_ ?_ <;> clear H <;> intro fk H <;> subst fk
       ·have H' := am H
        repeat clear H
        obtain ⟨rX, mI, mM, oD, oI, BG, rE, rF, rG, mV, p5, lK, wO, PU, J5⟩ := aT66 bE HB iH
        cases BG
        go_wp2_with (first | ((with_reducible refine gD 7 ?_); refine bX 7 #[.string (⟨#[]⟩ : ByteArray), .slice none 0 0, .slice none 0 0] 66 ?_; intro mE hg tf hbox hb; replace lW := RB OP hb; have iE := am hbox; have zF := am (vA : w.heap.size ≤ mE); have KL := zF; replace HB := bS dQ hb; have j3 := nL bJ hg; have jU := nG bJ hg; replace aC := bB bJ hb; clear hb hbox hg; have ot := nZ1 jU j3; have ov := cz3 iE; obtain ⟨uP, lJ, YC⟩ := Kd.cB lW.1; subst YC) | ((with_reducible refine qR (f := 42) rfl ?_); refine BK (some 31) rfl rfl Tryz.func42 (by kernel_rfl) rfl #[.slice uP qW.length lJ, .string ((aA aE iH).f0)] rfl n7 ?_; (with_reducible refine (aW.calls k2 _ _ qW ((aA aE iH).f0) true _ ?side1 ?side2 Ly.out).mono ?_); (case side1 => refine (Kd.bI (e := 9) (base := w.heap.size) (ok := fun k_ => True) (n := qW.length) (c := lJ) ?_).2.2; exact Mb); (case side2 => exact (Kd.bI lW.1).2.1); rintro e w' ⟨rfl, ⟨nd, rfl⟩⟩; refine ⟨_, rfl, ?_⟩))
        go_roundg k2
        case measure => have := HK1.out; have := HK2.out; omega
        case rel => exact ⟨(qW), (wrap64 (iH + 1)), eS, H', ⟨by have := HK1.out; have := HK2.out; omega⟩, ⟨mR lW iE⟩, ⟨qF aC j3⟩, ⟨m3⟩⟩
       ·obtain ⟨wX, Yx, H⟩ := bd H
        refine tC H ?_ ?_ <;> clear H <;> intro pf H <;> subst pf
        ·obtain ⟨QM, H⟩ := cL H
         obtain ⟨DK, QQ, H⟩ := bY H
         by_cases VL : (DK.length : Int) = (eH.length : Int)
         ·rw [if_pos VL] at H
          have fq : ((DK.length : Int) == (eH.length : Int)) = true := beq_iff_eq.mpr VL
          have fs : ((DK.length : Int) != (eH.length : Int)) = false := bne_eq_false_iff_eq.mpr VL
          have ft : (DK.length == eH.length) = true := by first | simpa using VL | (simp at VL ⊢; omega)
          clear VL
          obtain ⟨rfl, rfl⟩ := sZ2 H
          repeat clear H
          obtain ⟨rX, mI, mM, oD, oI, BG, rE, rF, rG, mV, p5, lK, wO, PU, J5⟩ := aT66 bE HB iH
          cases BG
          go_wp2_with (first | ((with_reducible refine gD 7 ?_); refine bX 7 #[.string (⟨#[]⟩ : ByteArray), .slice none 0 0, .slice none 0 0] 66 ?_; intro mE hg Py hbox hb; replace lW := RB OP hb; have iE := am hbox; have zF := am (vA : w.heap.size ≤ mE); have KL := zF; replace HB := bS dQ hb; have j3 := nL bJ hg; have jU := nG bJ hg; replace aC := bB bJ hb; clear hb hbox hg; have ox := nZ1 jU j3; have Z27 := cz3 iE; obtain ⟨Zl, Ns, qa⟩ := Kd.cB lW.1; subst qa) | ((with_reducible refine qR (f := 42) rfl ?_); refine BK (some 31) rfl rfl Tryz.func42 (by kernel_rfl) rfl #[.slice Zl qW.length Ns, .string ((aA aE iH).f0)] rfl n7 ?_; (with_reducible refine (aW.calls k2 _ _ qW ((aA aE iH).f0) false _ ?side1 ?side2 Ly.out).mono ?_); (case side1 => refine (Kd.bI (e := 9) (base := w.heap.size) (ok := fun k_ => True) (n := qW.length) (c := Ns) ?_).2.2; exact Mb); (case side2 => exact (Kd.bI lW.1).2.1); rintro e w' ⟨rfl, ⟨nd, rfl⟩⟩; refine ⟨_, rfl, ?_⟩; have Z29 := cz2 aC) | (go_at_call 83; (with_reducible refine (bH.calls k2 _ _ aQ _ _ aE iH _ _ qW true _ ?side1 ?side2 ?side3 ?side4 ?side5 ?side6 Yx.out).mono ?_); (case side1 => exact Kd.aM cS.1 m3); (case side2 => exact cO.1); (case side3 => exact Kd.aM bE.1 m3); (case side4 => exact dL.1); (case side5 => refine (Kd.bI (e := 9) (base := w.heap.size) (ok := fun k_ => True) (n := qW.length) (c := Ns) ?_).2.2; exact Mb); (case side6 => exact (Kd.bI lW.1).2.1); rintro e mn ⟨rfl, hb⟩; replace lW := RB Mb hb; replace aC := am (aV (g := aZ) (o := .cells #[.slice dD aQ.length dE, .slice (some rX) aE.length dB] 31 (0, 0)) Sl hb); replace iE := am (aV (g := mE) (o := .cells #[.string ((aA aE iH).f0), .slice mI ((aA aE iH).f1).length mM, .slice oD ((aA aE iH).f2).length oI] 66 (0, 0)) ri hb); replace HB := bS m3 hb; clear hb; have vh := cz3 iE) | ((with_reducible refine fA (b := .append) (xs := #[.tmp 39, .tmp 42]) rfl ?_); at_builtin; refine Kd.jD Kd.string (w0 := w) w.heap.size rfl (.tmp 39) (.tmp 42) 27 9 (.string ⟨#[]⟩) 16 rfl Tryz.underlying27 jP rfl (by decide) (by omega) (.slice Zl qW.length Ns) qW ((aA aE iH).f0) [.string ((aA aE iH).f0)] (fun _ => True) (fun _ => False) rfl rfl ?aP (fun _ hk => hk.elim) ?aF ?aO ?aB ?aS ?aL ?_; (case aP => exact rfl); (case aB => exact m3); (case aF => exact (fun _ _ => trivial)); (case aO => exact OP); (case aS => exact (aK m3)); (case aL => have := QM.out; omega); intro LY w32 ho hb hg hat; rw [← QQ.out] at ho; replace aC := gkR bJ hg lW aC; replace iE := gkR UF hg lW iE; replace HB := am hb; have sQ := am ho; clear lW; clear ho hb hg hat; obtain ⟨a2S, a5J, qc⟩ := Kd.cB sQ.1; subst qc))
          go_ret2
          exact ⟨_, eR, by first | exact Kd.oQ _ _ _ _ _ | exact Kd.wI _ _ _ _ _ | exact Kd.sS _ _ _ _ _ | exact Kd.wK _ _ _ _ _ | exact Kd.tX _ _ _ _ _, m3⟩
         ·rw [if_neg VL] at H
          have fq : ((DK.length : Int) == (eH.length : Int)) = false := beq_eq_false_iff_ne.mpr VL
          have fs : ((DK.length : Int) != (eH.length : Int)) = true := bne_iff_ne.mpr VL
          have ft : (DK.length == eH.length) = false := by first | simpa using VL | (simp at VL ⊢; omega)
          have H' := am H
          repeat clear H
          obtain ⟨rX, mI, mM, oD, oI, BG, rE, rF, rG, mV, p5, lK, wO, PU, J5⟩ := aT66 bE HB iH
          cases BG
          go_wp2_with (first | ((with_reducible refine gD 7 ?_); refine bX 7 #[.string (⟨#[]⟩ : ByteArray), .slice none 0 0, .slice none 0 0] 66 ?_; intro mE hg w34 hbox hb; replace lW := RB OP hb; have iE := am hbox; have zF := am (vA : w.heap.size ≤ mE); have KL := zF; replace HB := bS dQ hb; have j3 := nL bJ hg; have jU := nG bJ hg; replace aC := bB bJ hb; clear hb hbox hg; have oy := nZ1 jU j3; have Z36 := cz3 iE; obtain ⟨Zo, Nt, qe⟩ := Kd.cB lW.1; subst qe) | ((with_reducible refine qR (f := 42) rfl ?_); refine BK (some 31) rfl rfl Tryz.func42 (by kernel_rfl) rfl #[.slice Zo qW.length Nt, .string ((aA aE iH).f0)] rfl n7 ?_; (with_reducible refine (aW.calls k2 _ _ qW ((aA aE iH).f0) false _ ?side1 ?side2 Ly.out).mono ?_); (case side1 => refine (Kd.bI (e := 9) (base := w.heap.size) (ok := fun k_ => True) (n := qW.length) (c := Nt) ?_).2.2; exact Mb); (case side2 => exact (Kd.bI lW.1).2.1); rintro e w' ⟨rfl, ⟨nd, rfl⟩⟩; refine ⟨_, rfl, ?_⟩; have wb := cz2 aC) | (go_at_call 83; (with_reducible refine (bH.calls k2 _ _ aQ _ _ aE iH _ _ qW true _ ?side1 ?side2 ?side3 ?side4 ?side5 ?side6 Yx.out).mono ?_); (case side1 => exact Kd.aM cS.1 m3); (case side2 => exact cO.1); (case side3 => exact Kd.aM bE.1 m3); (case side4 => exact dL.1); (case side5 => refine (Kd.bI (e := 9) (base := w.heap.size) (ok := fun k_ => True) (n := qW.length) (c := Nt) ?_).2.2; exact Mb); (case side6 => exact (Kd.bI lW.1).2.1); rintro e mq ⟨rfl, hb⟩; replace lW := RB Mb hb; replace aC := am (aV (g := aZ) (o := .cells #[.slice dD aQ.length dE, .slice (some rX) aE.length dB] 31 (0, 0)) Sl hb); replace iE := am (aV (g := mE) (o := .cells #[.string ((aA aE iH).f0), .slice mI ((aA aE iH).f1).length mM, .slice oD ((aA aE iH).f2).length oI] 66 (0, 0)) ri hb); replace HB := bS m3 hb; clear hb; have Z40 := cz3 iE) | ((with_reducible refine fA (b := .append) (xs := #[.tmp 39, .tmp 42]) rfl ?_); at_builtin; refine Kd.jD Kd.string (w0 := w) w.heap.size rfl (.tmp 39) (.tmp 42) 27 9 (.string ⟨#[]⟩) 16 rfl Tryz.underlying27 jP rfl (by decide) (by omega) (.slice Zo qW.length Nt) qW ((aA aE iH).f0) [.string ((aA aE iH).f0)] (fun _ => True) (fun _ => False) rfl rfl ?aP (fun _ hk => hk.elim) ?aF ?aO ?aB ?aS ?aL ?_; (case aP => exact rfl); (case aB => exact m3); (case aF => exact (fun _ _ => trivial)); (case aO => exact OP); (case aS => exact (aK m3)); (case aL => have := QM.out; omega); intro LY mr ho hb hg hat; rw [← QQ.out] at ho; replace aC := gkR bJ hg lW aC; replace iE := gkR UF hg lW iE; replace HB := am hb; have sQ := am ho; clear lW; clear ho hb hg hat; obtain ⟨Fj, I5, Wd⟩ := Kd.cB sQ.1; subst Wd))
          go_roundg k2
          case measure => have := HK1.out; have := HK2.out; omega
          case rel => exact ⟨(DK), H', ⟨by have := HK1.out; have := HK2.out; omega⟩, ⟨rR sQ.1⟩, ⟨rB aC.1⟩, ⟨m3⟩⟩
        ·have H' := am H
         repeat clear H
         obtain ⟨rX, mI, mM, oD, oI, BG, rE, rF, rG, mV, p5, lK, wO, PU, J5⟩ := aT66 bE HB iH
         cases BG
         go_wp2_with (first | ((with_reducible refine gD 7 ?_); refine bX 7 #[.string (⟨#[]⟩ : ByteArray), .slice none 0 0, .slice none 0 0] 66 ?_; intro mE hg ms hbox hb; replace lW := RB OP hb; have iE := am hbox; have zF := am (vA : w.heap.size ≤ mE); have KL := zF; replace HB := bS dQ hb; have j3 := nL bJ hg; have jU := nG bJ hg; replace aC := bB bJ hb; clear hb hbox hg; have Z44 := nZ1 jU j3; have oz := cz3 iE; obtain ⟨nt, Vn, qh⟩ := Kd.cB lW.1; subst qh) | ((with_reducible refine qR (f := 42) rfl ?_); refine BK (some 31) rfl rfl Tryz.func42 (by kernel_rfl) rfl #[.slice nt qW.length Vn, .string ((aA aE iH).f0)] rfl n7 ?_; (with_reducible refine (aW.calls k2 _ _ qW ((aA aE iH).f0) false _ ?side1 ?side2 Ly.out).mono ?_); (case side1 => refine (Kd.bI (e := 9) (base := w.heap.size) (ok := fun k_ => True) (n := qW.length) (c := Vn) ?_).2.2; exact Mb); (case side2 => exact (Kd.bI lW.1).2.1); rintro e w' ⟨rfl, ⟨nd, rfl⟩⟩; refine ⟨_, rfl, ?_⟩; have Z47 := cz2 aC) | (go_at_call 83; (with_reducible refine (bH.calls k2 _ _ aQ _ _ aE iH _ _ qW false _ ?side1 ?side2 ?side3 ?side4 ?side5 ?side6 Yx.out).mono ?_); (case side1 => exact Kd.aM cS.1 m3); (case side2 => exact cO.1); (case side3 => exact Kd.aM bE.1 m3); (case side4 => exact dL.1); (case side5 => refine (Kd.bI (e := 9) (base := w.heap.size) (ok := fun k_ => True) (n := qW.length) (c := Vn) ?_).2.2; exact Mb); (case side6 => exact (Kd.bI lW.1).2.1); rintro e w48 ⟨rfl, hb⟩; replace lW := RB Mb hb; replace aC := am (aV (g := aZ) (o := .cells #[.slice dD aQ.length dE, .slice (some rX) aE.length dB] 31 (0, 0)) Sl hb); replace iE := am (aV (g := mE) (o := .cells #[.string ((aA aE iH).f0), .slice mI ((aA aE iH).f1).length mM, .slice oD ((aA aE iH).f2).length oI] 66 (0, 0)) ri hb); replace HB := bS m3 hb; clear hb))
         go_roundg k2
         case measure => have := HK1.out; have := HK2.out; omega
         case rel => exact ⟨(qW), (wrap64 (iH + 1)), eS, H', ⟨by have := HK1.out; have := HK2.out; omega⟩, ⟨rR lW.1⟩, ⟨rB aC.1⟩, ⟨m3⟩⟩
      ·by_cases Y3 : (qW.length : Int) = (eH.length : Int)
       ·rw [if_pos Y3] at H
        have VN : ((qW.length : Int) == (eH.length : Int)) = true := beq_iff_eq.mpr Y3
        have Bb : ((qW.length : Int) != (eH.length : Int)) = false := bne_eq_false_iff_eq.mpr Y3
        have fz : (qW.length == eH.length) = true := by first | simpa using Y3 | (simp at Y3 ⊢; omega)
        clear Y3
        obtain ⟨rfl, rfl⟩ := sZ2 H
        repeat clear H
        obtain ⟨a2T, a5K, qi⟩ := Kd.cB lW.1
        subst qi
        go_wp2
        go_ret2
        exact ⟨_, eR, by first | exact Kd.oQ _ _ _ _ _ | exact Kd.wI _ _ _ _ _ | exact Kd.sS _ _ _ _ _ | exact Kd.wK _ _ _ _ _ | exact Kd.tX _ _ _ _ _, dQ⟩
       ·rw [if_neg Y3] at H
        have VN : ((qW.length : Int) == (eH.length : Int)) = false := beq_eq_false_iff_ne.mpr Y3
        have Bb : ((qW.length : Int) != (eH.length : Int)) = true := bne_iff_ne.mpr Y3
        have fz : (qW.length == eH.length) = false := by first | simpa using Y3 | (simp at Y3 ⊢; omega)
        have H' := am H
        repeat clear H
        obtain ⟨a2U, a5L, qj⟩ := Kd.cB lW.1
        subst qj
        go_wp2
        go_roundg k2
        case measure => have := HK1.out; have := HK2.out; omega
        case rel => exact ⟨(qW), H', ⟨by have := HK1.out; have := HK2.out; omega⟩, ⟨rR lW.1⟩, ⟨rB aC.1⟩, ⟨dQ⟩⟩
   ·rw [if_neg c9] at H
    have I2 : decide ((eH.length : Int) < (aE.length : Int)) = false := decide_eq_false c9
    have Y4 : decide (eH.length < aE.length) = false := decide_eq_false (fun h => c9 (Int.ofNat_lt.mpr h))
    clear c9
    obtain ⟨rfl, rfl⟩ := sZ2 H
    repeat clear H
    obtain ⟨a2V, a5M, qk⟩ := Kd.cB lW.1
    subst qk
    have xg := cz2 aC
    go_wp2
    go_ret2
    exact ⟨_, eR, rR lW.1, dQ⟩
 obtain ⟨rfl, rfl⟩ := sZ2 H
 repeat clear H
 go_enter Tryz.func44, Tryz.ntmps44
 go_wp2_with (first | ((with_reducible refine gD 1 ?_); refine bX 1 #[.slice dD aQ.length dE, .slice dS aE.length dB] 31 ?_; intro aZ hg w54 hbox hb; have aC := am hbox; have gU := am (nS : w.heap.size ≤ aZ); have iL := gU; replace HB := bS gL hb; clear hb hbox hg; have Z55 := cz2 aC) | ((with_reducible refine gC 36 ?_); refine cQ (some 9) Tryz.func36 (aI.calls k _ _ aQ _ _ aE false _ (pB cS) cO.1 (pB bE) dL.1 A2.out) ?_; rintro w56 hb; replace aC := bB bJ hb; replace HB := bS dQ hb; clear hb))
 go_ret2
 exact ⟨_, eR, by first | exact Kd.oQ _ _ _ _ _ | exact Kd.wI _ _ _ _ _ | exact Kd.sS _ _ _ _ _ | exact Kd.wK _ _ _ _ _ | exact Kd.tX _ _ _ _ _, dQ⟩
end Go.Proofs.YtaofjgnhapnndaaGreatDoor.Q
namespace Go.Proofs.YtaofjgnhapnndaaGreatDoor.Q
open Go.RowKit Go.Proofs.YtaofjgnhapnndaaGreatDoorW.PrintWords Go.Proofs.YtaofjgnhapnndaaGreatDoorW.PrintLast Go.Proofs.YtaofjgnhapnndaaGreatDoorW.PrintMore
set_option linter.unusedVariables false
set_option linter.unusedSimpArgs false
def gM.l0 : Nat → List ByteArray → List (S66) → Int → Int → List ByteArray → List (S66) → Option (List ByteArray)
 | 0, _, _, _, _, _, _ => none
 | k + 1, b, c, d, a, e, g => if a < d then (if 0 ≤ a then (if a < (c.length : Int) then ((bH.f k e g a ([] : List ByteArray)).bind fun h => (if h = true then (if b.length < 8796093022208 then (gM.l0 k (b ++ [(aA c a).f0]) c d (wrap64 (a + 1)) e g) else (none)) else (gM.l0 k b c d (wrap64 (a + 1)) e g))) else (none)) else (none)) else (some b)
def gM.f (k : Nat) (aQ : List ByteArray) (aE : List (S66)) : Option (List ByteArray) := (aI.f k aQ aE).bind fun a => (if a = true then (gM.l0 k (([] : List ByteArray)) aE (aE.length : Int) 0 aQ aE) else (some ([] : List ByteArray)))
theorem gM.calls (k : Nat) (dD : Option Addr) (dE : Nat) (aQ : List ByteArray) (dS : Option Addr) (dB : Nat) (aE : List (S66)) (r : List ByteArray) (w : World) (fL : Kd.C Kd.string w dD aQ.length aQ) (fJ : aQ.length ≤ dE) (fH : Kd.C k66 w dS aE.length aE) (fK : aE.length ≤ dB) (h : gM.f k aQ aE = some r) :
  Calls Tryz.prog 45 #[.agg #[.slice dD aQ.length dE, .slice dS aE.length dB]] w fun e w' => ∃ v0_ : Value, e = .returned (v0_) ∧ Kd.R Kd.string 9 w' w.heap.size (fun _ => True) v0_ r ∧ Below w.heap.size w w' := by
 have hu31 := Tryz.underlying31
 have hu66 := Tryz.underlying66
 obtain ⟨cS, cO⟩ := mZ2 fL fJ
 obtain ⟨bE, dL⟩ := mZ2 fH fK
 clear fL fJ fH fK
 have HB := am (Below.refl w.heap.size w)
 unfold gM.f at h
 have H := h
 clear h
 obtain ⟨wE, A2, H⟩ := bd H
 refine tC H ?_ ?_ <;> clear H <;> intro c3 H <;> subst c3
 obtain ⟨PJ, hy103⟩ : ∃ y_ : List ByteArray, y_ = (([] : List ByteArray)) := ⟨_, rfl⟩
 replace H : (gM.l0 k PJ aE (aE.length : Int) 0 aQ aE) = some r := by first | (rw [hy103]; with_reducible exact H) | (have H2_ := (Option.bind_some _ _).symm.trans H; rw [hy103]; with_reducible exact H2_) | (have H2_ := (Option.bind_some _ _).symm.trans H; with_reducible exact H2_) | with_reducible exact H | (rw [hy103]; exact H) | exact H
 have QP := am hy103
 clear hy103
 have H' := am H
 repeat clear H
 have Mv := trivial
 rotate_left
 obtain rfl := Option.some.inj H
 repeat clear H
 have bn := trivial
 rotate_left
 all_goals
  go_enter Tryz.func45, Tryz.ntmps45
  go_wp2_with (first | ((with_reducible refine gD 1 ?_); refine bX 1 #[.slice dD aQ.length dE, .slice dS aE.length dB] 31 ?_; intro aZ hg a0A hbox hb; have aC := am hbox; have gU := am (nS : w.heap.size ≤ aZ); have iL := gU; replace HB := bS gL hb; clear hb hbox hg; have dz := cz2 aC) | ((with_reducible refine gC 36 ?_); revert Mv; intro Mv; refine cQ (some 7) Tryz.func36 (aI.calls k _ _ aQ _ _ aE true _ (pB cS) cO.1 (pB bE) dL.1 A2.out) ?_; rintro a0B hb; replace aC := bB bJ hb; replace HB := bS dQ hb; clear hb) | ((with_reducible refine dF (N := 9) rfl ?_); revert Mv; intro Mv; refine lS 9 9 QP ?_; intro LX a0C ji hb; have qD := am (Kd.eF ji (aK dQ)); replace aC := bB bJ hb; replace HB := bS dQ hb; clear hb ji; have eb := cz2 aC) | ((with_reducible refine gC 36 ?_); revert bn; intro bn; refine cQ (some 7) Tryz.func36 (aI.calls k _ _ aQ _ _ aE false _ (pB cS) cO.1 (pB bE) dL.1 A2.out) ?_; rintro a0D hb; replace aC := bB bJ hb; replace HB := bS dQ hb; clear hb))
 ·go_loopg [3, 13] k (fun kq v3 kb w' => ∃ (gV : List ByteArray) (jH : Int), kb = .int .i64 jH ∧ aD (gM.l0 kq gV aE (aE.length : Int) jH aQ aE = some r) ∧ aD (kq ≤ k) ∧ aD (Kd.R Kd.string 9 w' w.heap.size (fun _ => True) v3 gV) ∧ aD (w'.heap[aZ]? = some (.cells #[(.slice dD aQ.length dE), (.slice dS aE.length dB)] 31 (0, 0))) ∧ aD (Below w.heap.size w w'))
  case atStart => exact ⟨(PJ), (0), eS, H', ⟨Nat.le_refl _⟩, ⟨rR qD.1⟩, ⟨rB aC.1⟩, ⟨dQ⟩⟩
  clear H'
  try clear c3
  try clear dz
  try clear eb
  obtain ⟨gV, jH, rfl, HA, HK1, jT, aC, HB⟩ := hrel
  cases gk with
  | zero => exact absurd HA.out (by simp [gM.l0])
  | succ k1 =>
   have H := HA.out
   clear HA
   simp only [gM.l0] at H
   refine ic H ?_ ?_ <;> clear H <;> intro yI H
   obtain ⟨C9, H⟩ := cN H
   obtain ⟨NT, H⟩ := cN H
   obtain ⟨US, Ze, H⟩ := bd H
   refine tC H ?_ ?_ <;> clear H <;> intro XJ H <;> subst XJ
   obtain ⟨aj, H⟩ := cL H
   obtain ⟨tk, Gr⟩ := yv (gV ++ [(aA aE jH).f0]); first | replace H := bW Gr H | rw [← Gr.1] at H
   have H' := am H
   repeat clear H
   obtain ⟨rX, mI, mM, oD, oI, BG, rE, rF, rG, mV, p5, lK, wO, PU, J5⟩ := aT66 bE HB jH
   cases BG
   have Ui := trivial
   have Mw := trivial
   rotate_left
   have H' := am H
   repeat clear H
   obtain ⟨rX, mI, mM, oD, oI, BG, rE, rF, rG, mV, p5, lK, wO, PU, J5⟩ := aT66 bE HB jH
   cases BG
   have Ui := trivial
   have bo := trivial
   rotate_left
   obtain rfl := Option.some.inj H
   repeat clear H
   rotate_left
   all_goals
    go_wp2_with (first | ((with_reducible refine gD 5 ?_); revert Ui; intro Ui; refine bX 5 #[.string (⟨#[]⟩ : ByteArray), .slice none 0 0, .slice none 0 0] 66 ?_; intro mE hg a0E hbox hb; replace jT := RB CE hb; have iE := am hbox; have zF := am (vA : w.heap.size ≤ mE); have KL := zF; replace HB := bS dQ hb; have j3 := nL bJ hg; have jU := nG bJ hg; replace aC := bB bJ hb; clear hb hbox hg; have uz := nZ1 jU j3; have va := cz3 iE; have vb := cz2 aC) | ((with_reducible refine gC 83 ?_); revert Mw; intro Mw; refine cQ (some 20) Tryz.func83 (bH.calls k1 _ _ aQ _ _ aE jH _ _ ([] : List ByteArray) true _ (Kd.aM cS.1 m3) cO.1 (Kd.aM bE.1 m3) dL.1 (Kd.CJ _ _) (Nat.le_refl _) Ze.out) ?_; rintro a0F hb; replace jT := am (Kd.iI (by refine rR ?_; exact (Kd.bG (fR (fR (fR (tR jT iE)))) (fun _ h_ => h_.1))) hb); replace aC := am (aV (g := aZ) (o := .cells #[.slice dD aQ.length dE, .slice (some rX) aE.length dB] 31 (0, 0)) Sl hb); replace iE := am (aV (g := mE) (o := .cells #[.string ((aA aE jH).f0), .slice mI ((aA aE jH).f1).length mM, .slice oD ((aA aE jH).f2).length oI] 66 (0, 0)) pY2 hb); replace HB := bS m3 hb; clear hb; have vc := cz3 iE) | ((with_reducible refine fA (b := .append) (xs := #[.tmp 21, .tmp 24]) rfl ?_); revert Mw; intro Mw; at_builtin; refine Kd.jD Kd.string (w0 := w) w.heap.size rfl (.tmp 21) (.tmp 24) 27 9 (.string ⟨#[]⟩) 16 rfl Tryz.underlying27 jP rfl (by decide) (by omega) u3 gV ((aA aE jH).f0) [.string ((aA aE jH).f0)] (fun _ => True) (fun _ => False) rfl rfl ?aP (fun _ hk => hk.elim) ?aF ?aO ?aB ?aS ?aL ?_; (case aP => exact rfl); (case aB => exact m3); (case aF => exact (fun _ _ => trivial)); (case aO => exact CE); (case aS => exact (aK m3)); (case aL => have := aj.out; omega); intro jz a0G ho hb hg hat; rw [← Gr.out] at ho; replace aC := gkR bJ hg jT aC; replace iE := gkR UF hg jT iE; replace HB := am hb; have tO := am ho; clear jT; clear ho hb hg hat) | ((with_reducible refine gC 83 ?_); revert bo; intro bo; refine cQ (some 20) Tryz.func83 (bH.calls k1 _ _ aQ _ _ aE jH _ _ ([] : List ByteArray) false _ (Kd.aM cS.1 m3) cO.1 (Kd.aM bE.1 m3) dL.1 (Kd.CJ _ _) (Nat.le_refl _) Ze.out) ?_; rintro a0H hb; replace jT := am (Kd.iI (by refine rR ?_; exact (Kd.bG (fR (fR (fR (tR jT iE)))) (fun _ h_ => h_.1))) hb); replace aC := am (aV (g := aZ) (o := .cells #[.slice dD aQ.length dE, .slice (some rX) aE.length dB] 31 (0, 0)) Sl hb); replace iE := am (aV (g := mE) (o := .cells #[.string ((aA aE jH).f0), .slice mI ((aA aE jH).f1).length mM, .slice oD ((aA aE jH).f2).length oI] 66 (0, 0)) pY2 hb); replace HB := bS m3 hb; clear hb))
   ·go_roundg k1
    case measure => have := HK1.out; omega
    case rel => exact ⟨(tk), (wrap64 (jH + 1)), eS, H', ⟨by have := HK1.out; omega⟩, ⟨rR tO.1⟩, ⟨rB aC.1⟩, ⟨m3⟩⟩
   ·go_roundg k1
    case measure => have := HK1.out; omega
    case rel => exact ⟨(gV), (wrap64 (jH + 1)), eS, H', ⟨by have := HK1.out; omega⟩, ⟨rR jT.1⟩, ⟨rB aC.1⟩, ⟨m3⟩⟩
   ·go_ret
    exact ⟨_, eR, rR jT.1, dQ⟩
 go_ret
 exact ⟨_, eR, by first | exact Kd.oQ _ _ _ _ _ | exact Kd.wI _ _ _ _ _ | exact Kd.sS _ _ _ _ _ | exact Kd.wK _ _ _ _ _ | exact Kd.tX _ _ _ _ _, dQ⟩
def iP.l0 : Nat → ByteArray → List (S66) → Int → Int → Option (ByteArray)
 | 0, _, _, _, _ => none
 | k + 1, c, b, d, a => if a < d then (if 0 ≤ a then (if a < (b.length : Int) then ((aW.f k ((aA b a).f1) c).bind fun e => (if e = true then (some ((aA b a).f0)) else (iP.l0 k c b d (wrap64 (a + 1))))) else (none)) else (none)) else (some (⟨#[]⟩ : ByteArray))
def iP.f (k : Nat) (aQ : List ByteArray) (aE : List (S66)) (a1 : ByteArray) : Option (ByteArray) := (aI.f k aQ aE).bind fun a => (if a = true then (iP.l0 k a1 aE (aE.length : Int) 0) else (some (⟨#[]⟩ : ByteArray)))
theorem iP.calls (k : Nat) (dD : Option Addr) (dE : Nat) (aQ : List ByteArray) (dS : Option Addr) (dB : Nat) (aE : List (S66)) (a1 : ByteArray) (r : ByteArray) (w : World) (fL : Kd.C Kd.string w dD aQ.length aQ) (fJ : aQ.length ≤ dE) (fH : Kd.C k66 w dS aE.length aE) (fK : aE.length ≤ dB) (h : iP.f k aQ aE a1 = some r) :
  Calls Tryz.prog 47 #[.agg #[.slice dD aQ.length dE, .slice dS aE.length dB], .string a1] w fun e w' => e = .returned (.string r) ∧ Below w.heap.size w w' := by
 have hu31 := Tryz.underlying31
 have hu66 := Tryz.underlying66
 obtain ⟨cS, cO⟩ := mZ2 fL fJ
 obtain ⟨bE, dL⟩ := mZ2 fH fK
 clear fL fJ fH fK
 have HB := am (Below.refl w.heap.size w)
 unfold iP.f at h
 have H := h
 clear h
 obtain ⟨wE, A3, H⟩ := bd H
 refine tC H ?_ ?_ <;> clear H <;> intro c4 H <;> subst c4
 have H' := am H
 repeat clear H
 have bp := trivial
 rotate_left
 obtain rfl := Option.some.inj H
 repeat clear H
 have bq := trivial
 rotate_left
 all_goals
  go_enter Tryz.func47, Tryz.ntmps47
  go_wp2_with (first | ((with_reducible refine gD 2 ?_); refine bX 2 #[.slice dD aQ.length dE, .slice dS aE.length dB] 31 ?_; intro aZ hg a0I hbox hb; have aC := am hbox; have gU := am (nS : w.heap.size ≤ aZ); have iL := gU; replace HB := bS gL hb; clear hb hbox hg; have ec := cz2 aC) | ((with_reducible refine gC 36 ?_); revert bp; intro bp; refine cQ (some 8) Tryz.func36 (aI.calls k _ _ aQ _ _ aE true _ (pB cS) cO.1 (pB bE) dL.1 A3.out) ?_; rintro a0K hb; replace aC := bB bJ hb; replace HB := bS dQ hb; clear hb; have ed := cz2 aC) | ((with_reducible refine gC 36 ?_); revert bq; intro bq; refine cQ (some 8) Tryz.func36 (aI.calls k _ _ aQ _ _ aE false _ (pB cS) cO.1 (pB bE) dL.1 A3.out) ?_; rintro a0L hb; replace aC := bB bJ hb; replace HB := bS dQ hb; clear hb))
 ·go_loopg [13] k (fun kq kb w' => ∃ (jH : Int), kb = .int .i64 jH ∧ aD (iP.l0 kq a1 aE (aE.length : Int) jH = some r) ∧ aD (kq ≤ k) ∧ aD (w'.heap[aZ]? = some (.cells #[(.slice dD aQ.length dE), (.slice dS aE.length dB)] 31 (0, 0))) ∧ aD (Below w.heap.size w w'))
  case atStart => exact ⟨(0), eS, H', ⟨Nat.le_refl _⟩, ⟨rB aC.1⟩, ⟨dQ⟩⟩
  clear H'
  try clear c4
  try clear ec
  try clear ed
  obtain ⟨jH, rfl, HA, HK1, aC, HB⟩ := hrel
  cases gk with
  | zero => exact absurd HA.out (by simp [iP.l0])
  | succ k1 =>
   have H := HA.out
   clear HA
   simp only [iP.l0] at H
   refine ic H ?_ ?_ <;> clear H <;> intro I2 H
   obtain ⟨yI, H⟩ := cN H
   obtain ⟨C9, H⟩ := cN H
   obtain ⟨t105, Mc, H⟩ := bd H
   refine tC H ?_ ?_ <;> clear H <;> intro Ig H <;> subst Ig
   obtain rfl := Option.some.inj H
   repeat clear H
   obtain ⟨lM, vS, vX, vT, vY, sN, pH, IL, IM, sB, sA, vH, vF, G9, GB⟩ := aT66 bE HB jH
   cases sN
   have Uj := trivial
   have br := trivial
   rotate_left
   have H' := am H
   repeat clear H
   obtain ⟨lM, vS, vX, vT, vY, sN, pH, IL, IM, sB, sA, vH, vF, G9, GB⟩ := aT66 bE HB jH
   cases sN
   have Uj := trivial
   have bu := trivial
   rotate_left
   obtain rfl := Option.some.inj H
   repeat clear H
   rotate_left
   all_goals
    go_wp2_with (first | ((with_reducible refine gD 6 ?_); revert Uj; intro Uj; refine bX 6 #[.string (⟨#[]⟩ : ByteArray), .slice none 0 0, .slice none 0 0] 66 ?_; intro CT hg a0M hbox hb; have gX := am hbox; have Fz := am (vA : w.heap.size ≤ CT); have KJ := Fz; replace HB := bS dQ hb; have pQ := nL bJ hg; have JJ := nG bJ hg; replace aC := bB bJ hb; clear hb hbox hg; have vf := nZ1 JJ pQ; have vg := cz3 gX) | ((with_reducible refine gC 42 ?_); revert br; intro br; refine cQ (some 20) Tryz.func42 (aW.calls k1 _ _ ((aA aE jH).f1) a1 true _ (Kd.aM sB.1 vB) sA.1 Mc.out) ?_; rintro w' ⟨nd, rfl⟩) | ((with_reducible refine gC 42 ?_); revert bu; intro bu; refine cQ (some 20) Tryz.func42 (aW.calls k1 _ _ ((aA aE jH).f1) a1 false _ (Kd.aM sB.1 vB) sA.1 Mc.out) ?_; rintro w' ⟨nd, rfl⟩))
   ·go_ret
    exact ⟨eR, vB⟩
   ·go_roundg k1
    case measure => have := HK1.out; omega
    case rel => exact ⟨(wrap64 (jH + 1)), eS, H', ⟨by have := HK1.out; omega⟩, ⟨qF aC pQ⟩, ⟨vB⟩⟩
   ·go_ret
    exact ⟨eR, dQ⟩
 go_ret
 exact ⟨eR, dQ⟩
def jZ.f (k : Nat) (aQ : List ByteArray) (aE : List (S66)) : Option (Bool) := (fO.f k aQ aE).bind fun a => (some a.2)
theorem jZ.calls (k : Nat) (dD : Option Addr) (dE : Nat) (aQ : List ByteArray) (dS : Option Addr) (dB : Nat) (aE : List (S66)) (r : Bool) (w : World) (fL : Kd.C Kd.string w dD aQ.length aQ) (fJ : aQ.length ≤ dE) (fH : Kd.C k66 w dS aE.length aE) (fK : aE.length ≤ dB) (h : jZ.f k aQ aE = some r) :
  Calls Tryz.prog 58 #[.agg #[.slice dD aQ.length dE, .slice dS aE.length dB]] w fun e w' => e = .returned (.bool r) ∧ Below w.heap.size w w' := by
 have hu31 := Tryz.underlying31
 obtain ⟨cS, cO⟩ := mZ2 fL fJ
 obtain ⟨bE, dL⟩ := mZ2 fH fK
 clear fL fJ fH fK
 have HB := am (Below.refl w.heap.size w)
 unfold jZ.f at h
 have H := h
 clear h
 obtain ⟨⟨wE, t105⟩, A2, H⟩ := bd H
 dsimp only at H
 obtain rfl := Option.some.inj H
 repeat clear H
 go_enter Tryz.func58, Tryz.ntmps58
 go_wp2_with (first | ((with_reducible refine gD 1 ?_); refine bX 1 #[.slice dD aQ.length dE, .slice dS aE.length dB] 31 ?_; intro aZ hg w3 hbox hb; have aC := am hbox; have gU := am (nS : w.heap.size ≤ aZ); have iL := gU; replace HB := bS gL hb; clear hb hbox hg; have Z4 := cz2 aC) | ((with_reducible refine gC 29 ?_); refine cE (some 7) Tryz.func29 (fO.calls k _ _ aQ _ _ aE wE t105 _ (pB cS) cO.1 (pB bE) dL.1 A2.out) ?_; rintro e w5 ⟨Q7, rfl, hD, hb⟩; refine ⟨_, rfl, ?_⟩; have pN := am (Kd.eF hD (aK dQ)); replace aC := bB bJ hb; replace HB := bS dQ hb; clear hb hD))
 go_ret
 exact ⟨eR, dQ⟩
def jM.f (k : Nat) (aQ : List ByteArray) (aE : List (S66)) : Option (Bool) := (dP.f k aQ aE).bind fun a => (some a.2)
theorem jM.calls (k : Nat) (dD : Option Addr) (dE : Nat) (aQ : List ByteArray) (dS : Option Addr) (dB : Nat) (aE : List (S66)) (r : Bool) (w : World) (fL : Kd.C Kd.string w dD aQ.length aQ) (fJ : aQ.length ≤ dE) (fH : Kd.C k66 w dS aE.length aE) (fK : aE.length ≤ dB) (h : jM.f k aQ aE = some r) :
  Calls Tryz.prog 77 #[.agg #[.slice dD aQ.length dE, .slice dS aE.length dB]] w fun e w' => e = .returned (.bool r) ∧ Below w.heap.size w w' := by
 have hu31 := Tryz.underlying31
 obtain ⟨cS, cO⟩ := mZ2 fL fJ
 obtain ⟨bE, dL⟩ := mZ2 fH fK
 clear fL fJ fH fK
 have HB := am (Below.refl w.heap.size w)
 unfold jM.f at h
 have H := h
 clear h
 obtain ⟨⟨wE, t105⟩, A2, H⟩ := bd H
 dsimp only at H
 obtain rfl := Option.some.inj H
 repeat clear H
 go_enter Tryz.func77, Tryz.ntmps77
 go_wp2_with (first | ((with_reducible refine gD 1 ?_); refine bX 1 #[.slice dD aQ.length dE, .slice dS aE.length dB] 31 ?_; intro aZ hg w3 hbox hb; have aC := am hbox; have gU := am (nS : w.heap.size ≤ aZ); have iL := gU; replace HB := bS gL hb; clear hb hbox hg; have Z4 := cz2 aC) | ((with_reducible refine gC 44 ?_); refine cE (some 7) Tryz.func44 (dP.calls k _ _ aQ _ _ aE wE t105 _ (pB cS) cO.1 (pB bE) dL.1 A2.out) ?_; rintro e w5 ⟨Q7, rfl, hD, hb⟩; refine ⟨_, rfl, ?_⟩; have pN := am (Kd.eF hD (aK dQ)); replace aC := bB bJ hb; replace HB := bS dQ hb; clear hb hD))
 go_ret
 exact ⟨eR, dQ⟩
def uA (P : Nat → Bool) (n i : Nat) : Option Nat := (List.range' i (n - i)).find? P
theorem zW (P : Nat → Bool) (n : Nat) : uA P n n = none := by simp [uA]
theorem xM (P : Nat → Bool) {n i : Nat} (h : i < n) : uA P n i = if P i = true then some i else uA P n (i + 1) := by
 unfold uA; rw [show n - i = (n - (i + 1)) + 1 by omega, List.range'_succ, List.find?_cons]
 cases P i <;> rfl
def sF (P : Nat → Bool) (n i : Nat) : List Nat := (List.range' i (n - i)).filter P
theorem KY (P : Nat → Bool) (n : Nat) : sF P n n = [] := by simp [sF]
theorem I8 (P : Nat → Bool) {n i : Nat} (h : i < n) : sF P n i = if P i = true then i :: sF P n (i + 1) else sF P n (i + 1) := by
 unfold sF; rw [show n - i = (n - (i + 1)) + 1 by omega, List.range'_succ, List.filter_cons]
def canP (bs : List IB) (at_ : Nat) (gone : List ByteArray) (q : Nat) : Bool := decide (q = at_) || (hasS gone (gB bs q).f0 || !kH (gB bs q).f1 (gB bs at_).f2)
def canB (bs : List IB) (at_ : Nat) (gone : List ByteArray) : Bool := allR (canP bs at_ gone) bs.length 0
theorem F7 (ts : List ByteArray) (bs : List IB) (at_ : Nat) (gone : List ByteArray) (hl : bs.length ≤ 9223372036854775807) (hb : Bok bs) (ha : at_ < bs.length) (hg : gone.length ≤ 9223372036854775807) : Ev (fun k => iG.f k ts bs (at_ : Int) gone) (canB bs at_ gone) := by
 unfold iG.f
 have b0 := hb.at_ ha
 refine Ev.loop (f := fun k i => iG.l0 k (at_ : Int) gone (i : Int) ts bs) (val := allR (canP bs at_ gone) bs.length) bs.length ?_ ?_ 0 (by omega)
 ·rw [vP]
  refine Ev.step (fun k => iG.l0.eq_2 _ gone _ ts bs k) ?_
  exact Ev.neg (by omega) (Ev.ret rfl)
 intro i hi H
 rw [uW _ hi]
 refine Ev.step (fun k => iG.l0.eq_2 _ gone _ ts bs k) ?_
 refine Ev.pos (by omega) ?_
 rw [iQ hi hl, gF, gF]
 have bi := hb.at_ hi
 refine Ev.prop (fun h => Ev.sub H (by simp [canP, show i = at_ by omega])) (fun h => Ev.pos (by omega) (Ev.bind (lF gone _ hg) ?_))
 have hne : decide (i = at_) = false := decide_eq_false (by omega)
 refine Ev.test _ (fun h1 => Ev.sub H (by simp [canP, h1])) (fun h1 => Ev.pos (by omega) (Ev.pos (by omega) (Ev.bind (sI _ _ bi.1 b0.2) ?_)))
 refine Ev.test _ (fun h2 => Ev.ret (by simp [canP, h1, h2, hne])) (fun h2 => Ev.sub H (by simp [canP, h2]))
theorem LA (ts : List ByteArray) (bs : List IB) (at_ : Nat) (gone : List ByteArray) (hl : bs.length ≤ 9223372036854775807) (ha : at_ < bs.length) (hg : gone.length ≤ 9223372036854775807) : Ev (fun k => bH.f k ts bs (at_ : Int) gone) (canB bs at_ gone) := by
 unfold bH.f
 refine Ev.loop (f := fun k i => bH.l0 k (at_ : Int) gone bs (bs.length : Int) (i : Int) ts bs) (val := allR (canP bs at_ gone) bs.length) bs.length ?_ ?_ 0 (by omega)
 ·rw [vP]
  refine Ev.step (fun k => bH.l0.eq_2 _ gone bs _ _ ts bs k) ?_
  exact Ev.neg (by omega) (Ev.ret rfl)
 intro i hi H
 rw [uW _ hi]
 refine Ev.step (fun k => bH.l0.eq_2 _ gone bs _ _ ts bs k) ?_
 refine Ev.pos (by omega) (Ev.pos (by omega) (Ev.pos (by omega) ?_))
 rw [iQ hi hl, gF, gF]
 refine Ev.prop (fun h => Ev.sub H (by simp [canP, show i = at_ by omega])) (fun h => Ev.bind (vQ gone _ hg) ?_)
 have hne : decide (i = at_) = false := decide_eq_false (by omega)
 refine Ev.test _ (fun h1 => Ev.sub H (by simp [canP, h1])) (fun h1 => Ev.pos (by omega) (Ev.pos (by omega) ?_))
 simp only [iT.f, Option.bind_some]
 refine Ev.test _ (fun h2 => Ev.ret (by simp [canP, h1, hne, show kH (gB bs i).f1 (gB bs at_).f2 = true from h2])) (fun h2 => Ev.sub H (by simp [canP, show kH (gB bs i).f1 (gB bs at_).f2 = false from h2]))
def whoB (ts : List ByteArray) (bs : List IB) (thing : ByteArray) : ByteArray :=
  if iY ts bs = true then ((uA (fun i => hasS (gB bs i).f1 thing) bs.length 0).map fun i => (gB bs i).f0).getD ⟨#[]⟩ else ⟨#[]⟩
theorem KG (ts : List ByteArray) (bs : List IB) (thing : ByteArray) (ht : ts.length ≤ 9223372036854775807) (hl : bs.length ≤ 9223372036854775807) (hb : Bok bs) : Ev (fun k => fG.f k ts bs thing) (whoB ts bs thing) := by
 unfold fG.f
 have E := Ev.loop (f := fun k i => fG.l0 k thing (i : Int) ts bs)
   (val := fun i => if iY ts bs = true then ((uA (fun i => hasS (gB bs i).f1 thing) bs.length i).map fun i => (gB bs i).f0).getD ⟨#[]⟩ else ⟨#[]⟩) bs.length ?_ ?_ 0 (by omega)
 ·exact E
 ·refine Ev.step (fun k => fG.l0.eq_2 thing _ ts bs k) (Ev.neg (by omega) ?_)
  refine Ev.step (fun k => fG.j1.eq_2 thing _ _ ts bs k) (Ev.neg (by simp) (Ev.ret ?_))
  simp [zW]
 intro i hi H
 refine Ev.step (fun k => fG.l0.eq_2 thing _ ts bs k) (Ev.pos (by omega) (Ev.bind (iW ts bs ht hl hb) ?_))
 refine Ev.step (fun k => fG.j1.eq_2 thing _ _ ts bs k) ?_
 refine Ev.test _ (fun h => Ev.pos (by omega) (Ev.pos (by omega) (Ev.bind (lF _ _ ?_) ?_))) (fun h => Ev.ret (by simp [h]))
 ·rw [gF]; exact (hb.at_ hi).1
 rw [gF, iQ hi hl]
 simp only [h, xM _ hi] at H ⊢
 refine Ev.test _ (fun h2 => Ev.ret (by simp [h2])) (fun h2 => Ev.sub H (by simp [h2]))
theorem JZ (ts : List ByteArray) (bs : List IB) (thing : ByteArray) (ht : ts.length ≤ 9223372036854775807) (hl : bs.length ≤ 9223372036854775807) (hb : Bok bs) : Ev (fun k => iP.f k ts bs thing) (whoB ts bs thing) := by
 unfold iP.f whoB
 refine Ev.bind (iV ts bs ht hl hb) (Ev.test _ (fun h => ?_) (fun h => Ev.ret (by simp [h])))
 rw [if_pos h]
 refine Ev.loop (f := fun k i => iP.l0 k thing bs (bs.length : Int) (i : Int)) (val := fun i => ((uA (fun i => hasS (gB bs i).f1 thing) bs.length i).map fun i => (gB bs i).f0).getD ⟨#[]⟩) bs.length ?_ ?_ 0 (by omega)
 ·refine Ev.step (fun k => iP.l0.eq_2 thing bs _ _ k) (Ev.neg (by omega) (Ev.ret (by simp [zW])))
 intro i hi H
 refine Ev.step (fun k => iP.l0.eq_2 thing bs _ _ k) (Ev.pos (by omega) (Ev.pos (by omega) (Ev.pos (by omega) (Ev.bind (vQ _ _ ?_) ?_))))
 ·rw [gF]; exact (hb.at_ hi).1
 rw [gF, iQ hi hl]
 simp only [xM _ hi] at H ⊢
 refine Ev.test _ (fun h2 => Ev.ret (by simp [h2])) (fun h2 => Ev.sub H (by simp [h2]))
def xR (bs : List IB) (i : Nat) : List ByteArray := (sF (fun i => canB bs i []) bs.length i).map fun i => (gB bs i).f0
def qB (ts : List ByteArray) (bs : List IB) : List ByteArray := if iY ts bs = true then xR bs 0 else []
theorem LC {bs : List IB} {i : Nat} (hi : i < bs.length) : xR bs i = if canB bs i [] = true then (gB bs i).f0 :: xR bs (i + 1) else xR bs (i + 1) := by
 unfold xR; rw [I8 _ hi]; cases canB bs i [] <;> rfl
theorem OM (bs : List IB) : xR bs bs.length = [] := by unfold xR; rw [KY]; rfl
theorem sV {ts : List ByteArray} {bs : List IB} (h : iY ts bs = true) : bs.length ≤ 5 := by
 unfold iY at h; simp only [Bool.and_eq_true, decide_eq_true_eq] at h; exact h.2.1
theorem GI (ts : List ByteArray) (bs : List IB) (ht : ts.length ≤ 9223372036854775807) (hl : bs.length ≤ 9223372036854775807) (hb : Bok bs) : Ev (fun k => dV.f k ts bs) (qB ts bs) := by
 unfold dV.f
 have go : ∀ (d i : Nat) (x : List ByteArray), bs.length - i = d → i ≤ bs.length → x.length ≤ i → Ev (fun k => dV.l0 k x (i : Int) ts bs) (x ++ if iY ts bs = true then xR bs i else []) := by
  intro d
  induction d with
  | zero =>
   intro i x hd hi hx
   have e : i = bs.length := by omega
   refine Ev.step (fun k => dV.l0.eq_2 x _ ts bs k) (Ev.neg (by omega) ?_)
   refine Ev.step (fun k => dV.j1.eq_2 x _ _ ts bs k) (Ev.neg (by simp) (Ev.ret ?_))
   subst e
   rw [OM, ite_self, List.append_nil]
  | succ d ih =>
   intro i x hd hi hx
   have hlt : i < bs.length := by omega
   refine Ev.step (fun k => dV.l0.eq_2 x _ ts bs k) (Ev.pos (by omega) (Ev.bind (iW ts bs ht hl hb) ?_))
   refine Ev.step (fun k => dV.j1.eq_2 x _ _ ts bs k) ?_
   refine Ev.test _ (fun h => ?_) (fun h => Ev.ret (by simp [h]))
   have h5 := sV h
   refine Ev.bind (F7 ts bs i [] hl hb hlt (by simp)) ?_
   rw [gF, iQ hlt hl, if_pos h, LC hlt]
   refine Ev.test _ (fun h2 => Ev.pos (by omega) (Ev.pos (by omega) (Ev.pos (by omega) ?_))) (fun h2 => ?_)
   ·refine Ev.sub (ih (i + 1) (x ++ [(gB bs i).f0]) (by omega) (by omega) (by simp; omega)) ?_
    rw [if_pos h, if_pos h2, List.append_assoc]; rfl
   ·refine Ev.sub (ih (i + 1) x (by omega) (by omega) (by omega)) ?_
    rw [if_pos h, if_neg (by simp [h2])]
 exact go bs.length 0 [] (by omega) (by omega) (by simp)
theorem FY (ts : List ByteArray) (bs : List IB) (ht : ts.length ≤ 9223372036854775807) (hl : bs.length ≤ 9223372036854775807) (hb : Bok bs) : Ev (fun k => gM.f k ts bs) (qB ts bs) := by
 unfold gM.f qB
 refine Ev.bind (iV ts bs ht hl hb) (Ev.test _ (fun h => ?_) (fun h => Ev.ret (by simp [h])))
 have h5 := sV h
 rw [if_pos h]
 have go : ∀ (d i : Nat) (x : List ByteArray), bs.length - i = d → i ≤ bs.length → x.length ≤ i → Ev (fun k => gM.l0 k x bs (bs.length : Int) (i : Int) ts bs) (x ++ xR bs i) := by
  intro d
  induction d with
  | zero =>
   intro i x hd hi hx
   have e : i = bs.length := by omega
   refine Ev.step (fun k => gM.l0.eq_2 x bs _ _ ts bs k) (Ev.neg (by omega) (Ev.ret ?_))
   subst e
   rw [OM, List.append_nil]
  | succ d ih =>
   intro i x hd hi hx
   have hlt : i < bs.length := by omega
   refine Ev.step (fun k => gM.l0.eq_2 x bs _ _ ts bs k) (Ev.pos (by omega) (Ev.pos (by omega) (Ev.pos (by omega) (Ev.bind (LA ts bs i [] hl hlt (by simp)) ?_))))
   rw [gF, iQ hlt hl, LC hlt]
   refine Ev.test _ (fun h2 => Ev.pos (by omega) ?_) (fun h2 => ?_)
   ·refine Ev.sub (ih (i + 1) (x ++ [(gB bs i).f0]) (by omega) (by omega) (by simp; omega)) ?_
    rw [if_pos h2, List.append_assoc]; rfl
   ·refine Ev.sub (ih (i + 1) x (by omega) (by omega) (by omega)) ?_
    rw [if_neg (by simp [h2])]
 exact go bs.length 0 [] (by omega) (by omega) (by simp)
def CY (bs : List IB) (gone : List ByteArray) (i : Nat) : Bool := !hasS gone (gB bs i).f0 && canB bs i gone
def RH (bs : List IB) (gone : List ByteArray) : Option Nat := uA (CY bs gone) bs.length 0
def sH (bs : List IB) : Nat → List ByteArray → List ByteArray × Bool
  | 0, gone => (gone, true)
  | d + 1, gone => match RH bs gone with
    | none => ([], false)
    | some i => sH bs d (gone ++ [(gB bs i).f0])
def jS (ts : List ByteArray) (bs : List IB) : List ByteArray × Bool := if iY ts bs = true then sH bs bs.length [] else ([], false)
theorem CR {P : Nat → Bool} {n i j : Nat} (h : uA P n i = some j) : i ≤ j ∧ j < n ∧ P j = true := by
 unfold uA at h
 have h1 := List.find?_some h
 have h2 := List.mem_of_find?_eq_some h
 rw [List.mem_range'_1] at h2
 exact ⟨by omega, by omega, h1⟩
theorem OY (ts : List ByteArray) (bs : List IB) (gone : List ByteArray) (hl : bs.length ≤ 9223372036854775807) (hb : Bok bs) (hg : gone.length ≤ 9223372036854775807) : Ev (fun k => iU.f k ts bs gone) (((RH bs gone).map fun (i : Nat) => (i : Int)).getD (-1)) := by
 unfold iU.f RH
 refine Ev.loop (f := fun k i => iU.l0 k gone (i : Int) ts bs) (val := fun i => ((uA (CY bs gone) bs.length i).map fun (i : Nat) => (i : Int)).getD (-1)) bs.length ?_ ?_ 0 (by omega)
 ·refine Ev.step (fun k => iU.l0.eq_2 gone _ ts bs k) (Ev.neg (by omega) (Ev.ret (by simp [zW])))
 intro i hi H
 simp only [xM (CY bs gone) hi]
 refine Ev.step (fun k => iU.l0.eq_2 gone _ ts bs k) (Ev.pos (by omega) (Ev.pos (by omega) (Ev.bind (lF gone _ hg) ?_)))
 rw [gF, iQ hi hl]
 refine Ev.test _ (fun h => Ev.sub H (by simp [CY, h])) (fun h => Ev.bind (F7 ts bs i gone hl hb hi hg) ?_)
 refine Ev.test _ (fun h2 => Ev.ret (by simp [CY, h, h2])) (fun h2 => Ev.sub H (by simp [CY, h2]))
theorem xW (ts : List ByteArray) (bs : List IB) (ht : ts.length ≤ 9223372036854775807) (hl : bs.length ≤ 9223372036854775807) (hb : Bok bs) : Ev (fun k => fO.f k ts bs) (jS ts bs) := by
 unfold fO.f jS
 simp only [Option.bind_some]
 refine Ev.bind (iW ts bs ht hl hb) (Ev.test _ (fun h => ?_) (fun h => Ev.ret (by simp [h])))
 have h5 := sV h
 rw [if_pos h]
 have go : ∀ (d : Nat) (x : List ByteArray), x.length + d = bs.length → Ev (fun k => fO.l0 k x ts bs) (sH bs d x) := by
  intro d
  induction d with
  | zero =>
   intro x hx
   exact Ev.step (fun k => fO.l0.eq_2 x ts bs k) (Ev.neg (by omega) (Ev.ret rfl))
  | succ d ih =>
   intro x hx
   refine Ev.step (fun k => fO.l0.eq_2 x ts bs k) (Ev.pos (by omega) (Ev.bind (OY ts bs x hl hb (by omega)) ?_))
   unfold sH
   cases hn : RH bs x with
   | none => exact Ev.pos (by simp) (Ev.ret rfl)
   | some i =>
    have hi := (CR hn).2.1
    simp only [Option.map_some, Option.getD_some]
    refine Ev.neg (by omega) (Ev.pos (by omega) (Ev.pos (by omega) (Ev.pos (by omega) ?_)))
    rw [gF]
    exact ih _ (by simp; omega)
 exact go bs.length [] (by simp)
theorem xQ (ts : List ByteArray) (bs : List IB) (ht : ts.length ≤ 9223372036854775807) (hl : bs.length ≤ 9223372036854775807) (hb : Bok bs) : Ev (fun k => dP.f k ts bs) (jS ts bs) := by
 unfold dP.f jS
 refine Ev.bind (iV ts bs ht hl hb) (Ev.test _ (fun h => ?_) (fun h => Ev.ret (by simp [h])))
 have h5 := sV h
 rw [if_pos h]
 have go : ∀ (d : Nat) (x : List ByteArray), x.length + d = bs.length → Ev (fun k => dP.l0 k x ts bs) (sH bs d x) := by
   intro d
   induction d with
   | zero =>
     intro x hx
     exact Ev.step (fun k => dP.l0.eq_2 x ts bs k) (Ev.neg (by omega) (Ev.ret rfl))
   | succ d ih =>
     intro x hx
     refine Ev.step (fun k => dP.l0.eq_2 x ts bs k) (Ev.pos (by omega) ?_)
     unfold sH RH
     refine Ev.loop (f := fun k i => dP.l1 k x (x.length : Int) bs (bs.length : Int) (i : Int) ts bs)
       (val := fun i => match uA (CY bs x) bs.length i with | none => ([], false) | some i => sH bs d (x ++ [(gB bs i).f0])) bs.length ?_ ?_ 0 (by omega)
     · simp only [zW]
       exact Ev.step (fun k => dP.l1.eq_2 x _ bs _ _ ts bs k) (Ev.neg (by omega) (Ev.pos rfl (Ev.ret rfl)))
     · intro i hi H
       simp only [xM (CY bs x) hi]
       refine Ev.step (fun k => dP.l1.eq_2 x _ bs _ _ ts bs k) (Ev.pos (by omega) (Ev.pos (by omega) (Ev.pos (by omega) (Ev.bind (vQ x _ (by omega)) ?_))))
       rw [gF, iQ hi hl]
       refine Ev.test _ (fun h1 => Ev.sub H (by simp [CY, h1])) (fun h1 => Ev.bind (LA ts bs i x hl hi (by omega)) ?_)
       refine Ev.test _ (fun h2 => Ev.pos (by omega) ?_) (fun h2 => Ev.sub H (by simp [CY, h2]))
       simp only [Option.bind_some]
       refine Ev.neg (by simp; omega) (Ev.sub (ih _ (by simp; omega)) (by simp [CY, h1, h2]))
 exact go bs.length [] (by simp)
def F6 (ts : List ByteArray) (bs : List IB) : Bool := (jS ts bs).2
theorem yU (ts : List ByteArray) (bs : List IB) (ht : ts.length ≤ 9223372036854775807) (hl : bs.length ≤ 9223372036854775807) (hb : Bok bs) : Ev (fun k => jZ.f k ts bs) (F6 ts bs) :=
  Ev.bind (xW ts bs ht hl hb) (Ev.ret rfl)
theorem yM (ts : List ByteArray) (bs : List IB) (ht : ts.length ≤ 9223372036854775807) (hl : bs.length ≤ 9223372036854775807) (hb : Bok bs) : Ev (fun k => jM.f k ts bs) (F6 ts bs) :=
  Ev.bind (xQ ts bs ht hl hb) (Ev.ret rfl)
def gG.l0 : Nat → ByteArray → Int → List ByteArray → List (S66) → Option (Int)
 | 0, _, _, _, _ => none
 | k + 1, c, a, d, b => if a < (b.length : Int) then (if 0 ≤ a then (if ((aA b a).f0).toList = c.toList then (some a) else (gG.l0 k c (wrap64 (a + 1)) d b)) else (none)) else (some (-1))
def gG.f (k : Nat) (aQ : List ByteArray) (aE : List (S66)) (a1 : ByteArray) : Option (Int) := gG.l0 k a1 0 aQ aE
theorem gG.calls (k : Nat) (dD : Option Addr) (dE : Nat) (aQ : List ByteArray) (dS : Option Addr) (dB : Nat) (aE : List (S66)) (a1 : ByteArray) (r : Int) (w : World) (fL : Kd.C Kd.string w dD aQ.length aQ) (fJ : aQ.length ≤ dE) (fH : Kd.C k66 w dS aE.length aE) (fK : aE.length ≤ dB) (h : gG.f k aQ aE a1 = some r) :
  Calls Tryz.prog 48 #[.agg #[.slice dD aQ.length dE, .slice dS aE.length dB], .string a1] w fun e w' => e = .returned (.int .i64 r) ∧ Below w.heap.size w w' := by
 have hu31 := Tryz.underlying31
 obtain ⟨cS, cO⟩ := mZ2 fL fJ
 obtain ⟨bE, dL⟩ := mZ2 fH fK
 clear fL fJ fH fK
 have HB := am (Below.refl w.heap.size w)
 unfold gG.f at h
 have H := h
 clear h
 have H' := am H
 repeat clear H
 go_enter Tryz.func48, Tryz.ntmps48
 go_wp2_with (first | ((with_reducible refine gD 2 ?_); refine bX 2 #[.slice dD aQ.length dE, .slice dS aE.length dB] 31 ?_; intro aZ hg w3 hbox hb; have aC := am hbox; have gU := am (nS : w.heap.size ≤ aZ); have iL := gU; replace HB := bS gL hb; clear hb hbox hg))
 go_loopg [5] k (fun kq v5 w' => ∃ (dK : Int), v5 = .int .i64 dK ∧ aD (gG.l0 kq a1 dK aQ aE = some r) ∧ aD (kq ≤ k) ∧ aD (w'.heap[aZ]? = some (.cells #[(.slice dD aQ.length dE), (.slice dS aE.length dB)] 31 (0, 0))) ∧ aD (Below w.heap.size w w'))
 case atStart => exact ⟨(0), eS, H', ⟨Nat.le_refl _⟩, ⟨rB aC.1⟩, ⟨dQ⟩⟩
 clear H'
 obtain ⟨dK, rfl, HA, HK1, aC, HB⟩ := hrel
 cases gk with
 | zero => exact absurd HA.out (by simp [gG.l0])
 | succ k1 =>
  have H := HA.out
  clear HA
  simp only [gG.l0] at H
  refine ic H ?_ ?_ <;> clear H <;> intro zQ H
  ·obtain ⟨AZ, H⟩ := cN H
   refine iq H ?_ ?_ <;> clear H <;> intro c6 CC VO H
   ·obtain rfl := Option.some.inj H
    repeat clear H
    have Z7 := cz2 aC
    obtain ⟨n9, oW, pF, oX, pG, rT, o9, mZ, n3, nO, nN, qY, qX, EJ, EL⟩ := aT66 bE HB dK
    cases rT
    go_wp2
    go_ret
    exact ⟨eR, dQ⟩
   ·have H' := am H
    repeat clear H
    have Z8 := cz2 aC
    obtain ⟨n9, oW, pF, oX, pG, rT, o9, mZ, n3, nO, nN, qY, qX, EJ, EL⟩ := aT66 bE HB dK
    cases rT
    go_wp2
    go_roundg k1
    case measure => have := HK1.out; omega
    case rel => exact ⟨(wrap64 (dK + 1)), eS, H', ⟨by have := HK1.out; omega⟩, ⟨rB aC.1⟩, ⟨dQ⟩⟩
  ·obtain rfl := Option.some.inj H
   repeat clear H
   have Z9 := cz2 aC
   go_wp2
   go_ret
   exact ⟨eR, dQ⟩
def idxI (p : ByteArray → Bool) (l : List IB) (i : Nat) : Int := ((uA (fun i => p (gB l i).f0) l.length i).map fun (i : Nat) => (i : Int)).getD (-1)
theorem WE (p : ByteArray → Bool) (l : List IB) : idxI p l l.length = -1 := by unfold idxI; rw [zW]; rfl
theorem R4 (p : ByteArray → Bool) {l : List IB} {i : Nat} (h : i < l.length) : idxI p l i = if p (gB l i).f0 = true then (i : Int) else idxI p l (i + 1) := by
 unfold idxI; rw [xM _ h]; cases p (gB l i).f0 <;> rfl
def cz (g : Nat) (lb : Array Value) (p : ByteArray → Bool) (w : World) : Prop :=
 ∀ (W : World) (s : ByteArray) (A1 : Option Addr) (n1 c1 : Nat) (A2 : Option Addr) (n2 c2 : Nat), Below w.heap.size w W → Calls Tryz.prog g (#[.agg #[.string s, .slice A1 n1 c1, .slice A2 n2 c2]] ++ lb) W fun e w' => e = .returned (.bool (p s)) ∧ Below w.heap.size w w'
set_option maxHeartbeats 2000000 in
theorem OA (g : Nat) (lb : Array Value) (eg : ∀ args w, (callFunc g args).run Tryz.prog w = .ok (.enter g args) w) (p : ByteArray → Bool) (A0 : Option Addr) (c0 : Nat) (l0 : List IB) (w : World)
  (mO : Kd.C k66 w A0 l0.length l0) (hp : cz g lb p w) :
  Calls Tryz.prog 92 #[.slice A0 l0.length c0, .func (.func g) #[] lb] w fun e w' => e = .returned (.int .i64 (idxI p l0 0)) ∧ Below w.heap.size w w' := by
 have hbig := QG mO
 have lH := am mO
 clear mO
 have HP := am hp
 clear hp
 have hu := Tryz.underlying66
 go_enter Tryz.func92, Tryz.ntmps92
 go_wp2
 go_loopg [5, 8] l0.length (fun gg _ s8 wr => ∃ kk : Nat, kk ≤ l0.length ∧ l0.length - kk ≤ gg ∧ s8 = .int .i64 kk ∧ aD (Below w.heap.size w wr) ∧ aD (idxI p l0 0 = idxI p l0 kk))
 case atStart => exact ⟨0, Nat.zero_le _, by omega, rfl, ⟨Below.refl _ w⟩, ⟨rfl⟩⟩
 obtain ⟨kk, hkk, hg, rfl, BW, A⟩ := hrel
 by_cases hlt : kk < l0.length
 ·have hltz : (kk : Int) < (l0.length : Int) := by omega
  have e1 := A.out
  rw [R4 p hlt] at e1
  have E1 := am e1
  clear e1
  obtain ⟨ad, A1, c1, A2, c2, rfl, EI, MQ, Si, _, _, _, _⟩ := AY lH.1 (kk : Int) (by omega) (by omega)
  have hcall := HP.out wr (gB l0 kk).f0 A1 (aA l0 (kk : Int)).f1.length c1 A2 (aA l0 (kk : Int)).f2.length c2 BW.out
  rw [← gF] at hcall E1
  rw [Int.toNat_natCast] at EI MQ Si
  replace EI := (BW.out.cell (World.block_lt_of_cell? w _ EI)).trans EI
  replace MQ := (BW.out.cell (World.block_lt_of_cell? w _ MQ)).trans MQ
  replace Si := (BW.out.cell (World.block_lt_of_cell? w _ Si)).trans Si
  generalize aA l0 (kk : Int) = y at EI MQ Si hcall E1
  obtain ⟨y0, y1, y2⟩ := y
  cases hq : p y0 with
  | true =>
   rw [hq] at hcall
   have E2 : aD (idxI p l0 0 = kk) := ⟨by rw [E1.out, if_pos hq]⟩
   clear hq
   go_wp2_with ((go_at_fn g; refine hcall.mono ?_; rintro e w' ⟨rfl, hb'⟩))
   go_ret
   exact ⟨by rw [E2.out]; rfl, hb'⟩
  | false =>
   rw [hq] at hcall
   have E2 : aD (idxI p l0 0 = idxI p l0 (kk + 1)) := ⟨by rw [E1.out, if_neg (by simp [hq])]⟩
   clear hq
   go_wp2_with ((go_at_fn g; refine hcall.mono ?_; rintro e w' ⟨rfl, hb'⟩))
   go_roundg (l0.length - (kk + 1))
   case measure => omega
   case rel => exact ⟨kk + 1, by omega, by omega, by go_num, ⟨hb'⟩, E2⟩
 have hltz : ¬ (kk : Int) < (l0.length : Int) := by omega
 have hk2 : kk = l0.length := by omega
 have E2 : aD (idxI p l0 0 = -1) := ⟨by rw [A.out, hk2, WE]⟩
 subst hk2
 go_wp2
 go_ret
 exact ⟨by rw [E2.out]; rfl, BW.out⟩
theorem Np (s n : ByteArray) (A1 : Option Addr) (n1 c1 : Nat) (A2 : Option Addr) (n2 c2 : Nat) (gb : Nat) (W : World) (hg : gb < W.heap.size) (hcell : W.cell? ⟨gb, 0, none⟩ = some (.string n)) :
  Calls Tryz.prog 93 #[.agg #[.string s, .slice A1 n1 c1, .slice A2 n2 c2], .pointer (some ⟨gb, 0, none⟩)] W fun e w' => e = .returned (.bool (s.toList == n.toList)) ∧ Below W.heap.size W w' := by
 have hu := Tryz.underlying66
 have hne : gb ≠ W.heap.size := by omega
 go_enter Tryz.func93, Tryz.ntmps93
 go_wp2
 go_ret
 exact ⟨rfl, (Below.refl _ _).alloc (Nat.le_refl _) _⟩
def eP.f (aQ : List ByteArray) (aE : List IB) (a1 : ByteArray) : Option (Int) := some (idxI (fun s => s.toList == a1.toList) aE 0)
theorem eP.calls (dD : Option Addr) (dE : Nat) (aQ : List ByteArray) (dS : Option Addr) (dB : Nat) (aE : List IB) (a1 : ByteArray) (r : Int) (w : World) (fL : Kd.C Kd.string w dD aQ.length aQ) (fJ : aQ.length ≤ dE) (fH : Kd.C k66 w dS aE.length aE) (fK : aE.length ≤ dB) (h : eP.f aQ aE a1 = some r) :
  Calls Tryz.prog 72 #[.agg #[.slice dD aQ.length dE, .slice dS aE.length dB], .string a1] w fun e w' => e = .returned (.int .i64 r) ∧ Below w.heap.size w w' := by
 obtain rfl := Option.some.inj h
 clear h
 have hu := Tryz.underlying31
 have HW : aD (Below w.heap.size w ((w.alloc (.cells #[.slice dD aQ.length dE, .slice dS aE.length dB] 31 (0, 0))).alloc (.cells #[.string a1] 9 (0, 0)))) := ⟨((Below.refl _ _).alloc (Nat.le_refl _) _).alloc (by simp) _⟩
 have HC : aD (Calls Tryz.prog 92 #[.slice dS aE.length dB, .func (.func 93) #[] #[.pointer (some ⟨w.heap.size + 1, 0, none⟩)]] ((w.alloc (.cells #[.slice dD aQ.length dE, .slice dS aE.length dB] 31 (0, 0))).alloc (.cells #[.string a1] 9 (0, 0))) fun e w' => e = .returned (.int .i64 (idxI (fun s => s.toList == a1.toList) aE 0)) ∧ Below ((w.alloc (.cells #[.slice dD aQ.length dE, .slice dS aE.length dB] 31 (0, 0))).alloc (.cells #[.string a1] 9 (0, 0))).heap.size ((w.alloc (.cells #[.slice dD aQ.length dE, .slice dS aE.length dB] 31 (0, 0))).alloc (.cells #[.string a1] 9 (0, 0))) w') := by
  refine ⟨OA 93 _ (enters_of Tryz.func93 (by kernel_rfl) rfl) (fun s => s.toList == a1.toList) dS dB aE _ (Kd.aM fH HW.out) ?_⟩
  intro W s A1 n1 c1 A2 n2 c2 hb
  have hcell : W.cell? ⟨w.heap.size + 1, 0, none⟩ = some (.string a1) := by
   rw [hb.cell (p := ⟨w.heap.size + 1, 0, none⟩) (by simp)]
   simp
  exact (Np s a1 A1 n1 c1 A2 n2 c2 (w.heap.size + 1) W (Nat.lt_of_lt_of_le (by simp) hb.size) hcell).mono fun e w' ⟨he, hd⟩ => ⟨he, sM hb hb.size hd⟩
 generalize idxI (fun s => s.toList == a1.toList) aE 0 = b at HC
 clear fL fJ fH fK
 go_enter Tryz.func72, Tryz.ntmps72
 go_wp2_with ((go_at_call 92; refine HC.out.mono ?_; rintro e w' ⟨rfl, hb'⟩))
 go_ret
 exact ⟨rfl, sM HW.out HW.out.size hb'⟩
def atI (bs : List IB) (n : ByteArray) : Int := idxI (fun s => s.toList == n.toList) bs 0
theorem Hm {bs : List IB} {n : ByteArray} (h : ¬ atI bs n < 0) : ∃ a : Nat, atI bs n = (a : Int) ∧ a < bs.length ∧ (gB bs a).f0.toList = n.toList := by
 unfold atI idxI at h ⊢
 cases hf : uA (fun i => (gB bs i).f0.toList == n.toList) bs.length 0 with
 | none => rw [hf] at h; simp at h
 | some a =>
  obtain ⟨_, h2, h3⟩ := CR hf
  exact ⟨a, rfl, h2, beq_iff_eq.mp h3⟩
theorem uG (ts : List ByteArray) (bs : List IB) (n : ByteArray) (hl : bs.length ≤ 9223372036854775807) : Ev (fun k => gG.f k ts bs n) (atI bs n) := by
 unfold gG.f atI
 refine Ev.loop (f := fun k i => gG.l0 k n (i : Int) ts bs) (val := fun i => idxI (fun s => s.toList == n.toList) bs i) bs.length ?_ ?_ 0 (by omega)
 ·simp only [WE]
  exact Ev.step (fun k => gG.l0.eq_2 n _ ts bs k) (Ev.neg (by omega) (Ev.ret rfl))
 intro i hi H
 simp only [R4 (fun s => s.toList == n.toList) hi]
 refine Ev.step (fun k => gG.l0.eq_2 n _ ts bs k) (Ev.pos (by omega) (Ev.pos (by omega) ?_))
 rw [gF, iQ hi hl]
 refine Ev.prop (fun h => Ev.ret (by rw [if_pos (beq_iff_eq.mpr h)])) (fun h => Ev.sub H (by rw [if_neg (fun e => h (beq_iff_eq.mp e))]))
abbrev EC := ByteArray × (Option Addr × Nat × Nat) × (Option Addr × Nat × Nat)
def encE (p : EC) : List Value := [.string p.1, .slice p.2.1.1 p.2.1.2.1 p.2.1.2.2, .slice p.2.2.1 p.2.2.2.1 p.2.2.2.2]
theorem qQ (p : EC) : (encE p).length = 3 := rfl
structure EZ where
  c : EC
  x : S66
  o : Nat → Prop
def EZ.apart (a b : EZ) : Prop := ∀ k, a.o k → b.o k → False
theorem RI {α β : Type} (f : α → β) : ∀ {L : List β} {Z : List α}, (Z.map f).Perm L → ∃ Z' : List α, Z'.Perm Z ∧ Z'.map f = L
 | [], Z, h => by
  have := h.length_eq
  simp at this
  exact ⟨[], by rw [this], rfl⟩
 | b :: L, Z, h => by
  have hb : b ∈ Z.map f := h.symm.subset (List.mem_cons_self ..)
  obtain ⟨z, hz, rfl⟩ := List.mem_map.1 hb
  obtain ⟨s, t, rfl⟩ := List.append_of_mem hz
  have hp : ((s ++ z :: t).map f).Perm (f z :: (s ++ t).map f) := by
   rw [List.map_append, List.map_cons, List.map_append]
   exact List.perm_middle
  obtain ⟨Z', h1, h2⟩ := RI f (L := L) (Z := s ++ t) (List.Perm.cons_inv (hp.symm.trans h))
  exact ⟨z :: Z', (List.Perm.cons z h1).trans List.perm_middle.symm, by rw [List.map_cons, h2]⟩
theorem flat3 : ∀ (n : Nat) (inner : List Value) (G : Nat → List Value), inner.length = n * 3 → (∀ j, j < n → (inner.drop (j * 3)).take 3 = G j) → inner = ((List.range n).map G).flatten
  | 0, inner, G, h, _ => by
    rw [List.range_zero, List.map_nil, List.flatten_nil]
    exact List.length_eq_zero_iff.1 (by omega)
  | n + 1, inner, G, h, hG => by
    have h0 := hG 0 (by omega)
    rw [Nat.zero_mul, List.drop_zero] at h0
    have ih := flat3 n (inner.drop 3) (fun j => G (j + 1)) (by rw [List.length_drop]; omega) (fun j hj => by
      rw [List.drop_drop, show 3 + j * 3 = (j + 1) * 3 by omega]; exact hG (j + 1) (by omega))
    rw [List.range_succ_eq_map, List.map_cons, List.flatten_cons, ← h0, List.map_map]
    conv => lhs; rw [← List.take_append_drop 3 inner, ih]
    rfl
theorem dx {w : World} {base g n cap : Nat} {P : Nat → Prop} {xs : List S66} (h : Kd.S k66 66 w base P (.slice (some ⟨g, 0, none⟩) n cap) xs) :
  P g ∧ base ≤ g ∧ n = xs.length ∧ n ≤ cap ∧ cap ≤ maxLen ∧ ∃ (cur : Array Value) (Z : List EZ), w.heap[g]? = some (.cells cur 66 (0, 0)) ∧ cur.size = cap * 3 ∧ Z.map EZ.x = xs ∧ cur.toList.take (n * 3) = (Z.map fun z => encE z.c).flatten ∧ Z.Pairwise EZ.apart ∧
   ∀ z ∈ Z, z.c.1 = z.x.f0 ∧ k66.M w base (fun k => (P k ∧ k ≠ g) ∧ z.o k) z.x (encE z.c) := by
 obtain ⟨f, h0, inner, ⟨hil, ho⟩, hr⟩ := h
 rw [List.length_zipIdx] at hil
 have hP : P g := h0 g rfl
 rcases ho with ⟨hv, _⟩ | ⟨g', cap', cur, hv, hb, hh, hn, hm, hc, ht⟩
 ·cases hv
 injection hv with ha hn2 hcap
 injection ha with ha
 injection ha with ha _ _
 subst ha; subst hcap
 rw [List.length_zipIdx] at hn2 hn ht
 refine ⟨hP, hb, hn2, by omega, hm, cur, ?_⟩
 have hel : ∀ j (hj : j < xs.length), ∃ c : EC, (inner.drop (j * 3)).take 3 = encE c ∧ c.1 = xs[j].f0 ∧ k66.M w base (fun k => (P k ∧ k ≠ g) ∧ f k = j) xs[j] (encE c) := by
  intro j hj
  have hM : k66.M w base (fun k => (P k ∧ some k ≠ (Value.slice (some ⟨g, 0, none⟩) n cap).ownBlock) ∧ f k = j) xs[j] ((inner.drop (j * 3)).take 3) := hr.2 j (xs[j], j) (Kd.wG (List.getElem?_eq_getElem hj))
  have hM2 : k66.M w base (fun k => (P k ∧ k ≠ g) ∧ f k = j) xs[j] ((inner.drop (j * 3)).take 3) := k66.M_mono (fun k hk => ⟨⟨hk.1.1, fun e => hk.1.2 (by rw [e]; rfl)⟩, hk.2⟩) hM
  obtain ⟨v1, v2, e, g1, g2⟩ := pR hM2
  obtain ⟨A1, c1, rfl⟩ := Kd.cB g1
  obtain ⟨A2, c2, rfl⟩ := Kd.cB g2
  refine ⟨(xs[j].f0, (A1, xs[j].f1.length, c1), (A2, xs[j].f2.length, c2)), e, rfl, ?_⟩
  rw [← show _ = encE _ from e]
  exact hM2
 have hchoose : ∀ j, ∃ c : EC, ∀ hj : j < xs.length, (inner.drop (j * 3)).take 3 = encE c ∧ c.1 = xs[j].f0 ∧ k66.M w base (fun k => (P k ∧ k ≠ g) ∧ f k = j) xs[j] (encE c) := by
  intro j
  by_cases hj : j < xs.length
  ·obtain ⟨c, hc⟩ := hel j hj; exact ⟨c, fun _ => hc⟩
  ·exact ⟨(ByteArray.empty, (none, 0, 0), (none, 0, 0)), fun h => absurd h hj⟩
 obtain ⟨F, hF⟩ := Classical.axiomOfChoice hchoose
 refine ⟨xs.zipIdx.map fun q => ⟨F q.2, q.1, fun k => f k = q.2⟩, hh, hc, ?_, ?_, ?_, ?_⟩
 ·rw [List.map_map]
  exact List.zipIdx_map_fst 0 xs
 ·have hl : inner.length = xs.length * 3 := hil
  rw [hn2, show cur.toList.take (xs.length * 3) = inner from ht, List.map_map]
  have e : xs.zipIdx.map ((fun z => encE z.c) ∘ fun q => (⟨F q.2, q.1, fun k => f k = q.2⟩ : EZ)) = (List.range xs.length).map fun j => encE (F j) := by
   rw [List.range_eq_range', ← List.zipIdx_map_snd 0 xs, List.map_map]; rfl
  rw [e]
  exact flat3 xs.length inner _ hl (fun j hj => (hF j hj).1)
 ·rw [List.pairwise_map]
  rw [List.pairwise_iff_getElem]
  intro i j hi hj hij k h1 h2
  simp only [List.getElem_zipIdx, Nat.zero_add] at h1 h2
  omega
 intro z hz
 obtain ⟨q, hq, rfl⟩ := List.mem_map.1 hz
 obtain ⟨j, hj, rfl⟩ := List.getElem_of_mem hq
 rw [List.length_zipIdx] at hj
 simp only [List.getElem_zipIdx, Nat.zero_add]
 exact (hF j hj).2
theorem dm {w w' : World} {base g n cap : Nat} {P : Nat → Prop} {Z : List EZ} {cur : Array Value} (hP : P g) (hb : base ≤ g) (hn : n = Z.length) (hc : n ≤ cap) (hm : cap ≤ maxLen)
  (hh : w'.heap[g]? = some (.cells cur 66 (0, 0))) (hs : cur.size = cap * 3) (ht : cur.toList.take (n * 3) = (Z.map fun z => encE z.c).flatten) (hp : Z.Pairwise EZ.apart)
  (hZ : ∀ z ∈ Z, k66.M w base (fun k => (P k ∧ k ≠ g) ∧ z.o k) z.x (encE z.c)) (hk : Kept w w' (fun k => k = g)) :
  Kd.S k66 66 w' base P (.slice (some ⟨g, 0, none⟩) n cap) (Z.map EZ.x) := by
 subst hn
 have hlen : ∀ L : List EZ, (L.map fun z => encE z.c).flatten.length = L.length * 3 := by
  intro L; induction L with
  | nil => rfl
  | cons a l ih => rw [List.map_cons, List.flatten_cons, List.length_append, ih, List.length_cons, qQ]; omega
 have hdrop : ∀ (L : List EZ) (j : Nat) (hj : j < L.length), (((L.map fun z => encE z.c).flatten).drop (j * 3)).take 3 = encE L[j].c := by
  intro L; induction L with
  | nil => intro j hj; exact absurd hj (by simp)
  | cons a l ih =>
   intro j hj
   rw [List.map_cons, List.flatten_cons]
   cases j with
   | zero => rw [Nat.zero_mul, List.drop_zero, List.take_append_of_le_length (by rw [qQ]; omega), List.take_of_length_le (by rw [qQ]; omega)]; rfl
   | succ j =>
    rw [List.drop_append, List.drop_eq_nil_of_le (by rw [qQ]; omega), List.nil_append, qQ, show (j + 1) * 3 - 3 = j * 3 by omega]
    exact ih j (by simpa using hj)
 have hZ2 : ∀ j (hj : j < Z.length), ∀ i (hi : i < Z.length), ∀ k, Z[i].o k → Z[j].o k → i = j := by
  intro j hj i hi k h1 h2
  rw [List.pairwise_iff_getElem] at hp
  rcases Nat.lt_trichotomy i j with h | h | h
  ·exact (hp i j hi hj h k h1 h2).elim
  ·exact h
  ·exact (hp j i hj hi h k h2 h1).elim
 have hf : ∀ k, ∃ i, ∀ j (hj : j < Z.length), Z[j].o k → i = j := by
  intro k
  by_cases h : ∃ i, ∃ hi : i < Z.length, Z[i].o k
  ·obtain ⟨i, hi, h1⟩ := h
   exact ⟨i, fun j hj h2 => hZ2 j hj i hi k h1 h2⟩
  ·exact ⟨0, fun j hj h2 => absurd ⟨j, hj, h2⟩ h⟩
 obtain ⟨f, hf⟩ := Classical.axiomOfChoice hf
 have hl : (Z.map EZ.x).length = Z.length := List.length_map ..
 refine ⟨f, fun k hk => by (have e : g = k := by simpa [Value.ownBlock] using hk); subst e; exact hP, (Z.map fun z => encE z.c).flatten, ⟨?_, .inr ⟨g, cap, cur, ?_, hb, hh, ?_, hm, hs, ?_⟩⟩, ?_, ?_⟩
 ·rw [hlen, List.length_zipIdx, hl]; rfl
 ·rw [List.length_zipIdx, hl]
 ·rw [List.length_zipIdx, hl]; exact hc
 ·rw [List.length_zipIdx, hl]; exact ht
 ·rw [hlen, List.length_zipIdx, hl]; rfl
 intro j p hj
 rw [List.getElem?_zipIdx] at hj
 obtain ⟨x, hx, rfl⟩ := Option.map_eq_some_iff.mp hj
 have hjl : j < Z.length := by rw [← hl]; exact (List.getElem?_eq_some_iff.1 hx).1
 rw [List.getElem?_map, List.getElem?_eq_getElem hjl] at hx
 obtain rfl := Option.some.inj hx
 show (Kd.tag f k66).M _ _ _ _ ((((Z.map fun z => encE z.c).flatten).drop (j * 3)).take 3)
 rw [hdrop Z j hjl]
 have hM := hZ Z[j] (List.getElem_mem hjl)
 have hM2 := Kd.JF (d := k66) (w1 := w') hM (fun k hk1 hlt => hk.2 k hlt (fun e => hk1.1.2 e))
 refine k66.M_mono (fun k hk1 => ⟨⟨hk1.1.1, fun e => hk1.1.2 (by simpa [Value.ownBlock] using e)⟩, ?_⟩) hM2
 show f k = 0 + j
 rw [Nat.zero_add]
 exact hf k j hjl hk1.2
end Go.Proofs.YtaofjgnhapnndaaGreatDoor.Q
