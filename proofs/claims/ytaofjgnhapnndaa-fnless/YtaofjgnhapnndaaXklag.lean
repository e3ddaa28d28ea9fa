/- Texts that the row needs: words on memory and rows, the contracts of the functions it reaches, and the plain lemmas on what they compute. -/
import Derived.Lib.SliceRun
import Derived.Test.YtaofjgnhapnndaaXklaf
open Go.Proofs.YtaofjgnhapnndaaFkl
namespace Go.Proofs.Ytaofjgnhapnndaa.Q
open Go.RowKit Go.Proofs.YtaofjgnhapnndaaW.PrintWords Go.Proofs.YtaofjgnhapnndaaW.PrintLast Go.Proofs.YtaofjgnhapnndaaW.PrintMore
set_option linter.unusedVariables false
set_option linter.unusedSimpArgs false
theorem Np {α : Type} {d : Kd α} {w : World} {l : List α} (h : d.C w none l.length l) : l = [] := by
 cases l with
 | nil => rfl
 | cons a l =>
  obtain ⟨ad, he, _⟩ := h.2.2 (by simp)
  cases he
def dU.f (l0 : List ByteArray) : Option (List ByteArray) := if l0.length < 8796093022208 then some l0 else none
set_option maxHeartbeats 2000000 in
set_option maxRecDepth 100000 in
theorem dU.calls (A0 : Option Addr) (c0 : Nat) (l0 : List ByteArray) (r : List ByteArray) (w : World) (sJ : Kd.C Kd.string w A0 l0.length l0) (yR : l0.length ≤ c0) (h : dU.f l0 = some r) :
  Calls Try.prog 94 #[.slice A0 l0.length c0] w fun e w' => ∃ v0_ : Value, e = .returned (v0_) ∧ Kd.R Kd.string 9 w' w.heap.size (fun _ => True) v0_ r ∧ Below w.heap.size w w' := by
 unfold dU.f at h
 by_cases c2 : l0.length < 8796093022208
 ·rw [if_pos c2] at h
  obtain rfl := Option.some.inj h
  clear h
  have LM := am c2
  clear c2
  have hnil := fun (W : World) (a : Option Addr) (n c : Nat) => Lib.run_eql_slice_nil (P := Try.prog) W 23 9 a n c 0 0 Try.underlying23
  cases A0 with
  | none =>
   obtain rfl := Np sJ
   clear sJ yR
   go_enter Try.func94, Try.ntmps94
   go_wp2
   go_ret
   exact ⟨_, rfl, Kd.uE _ _ _ _ _, Below.refl _ _⟩
  | some a0 =>
   obtain ⟨tO, QP⟩ := mZ2 sJ yR
   clear sJ yR
   have HB := am (Below.refl w.heap.size w)
   go_enter Try.func94, Try.ntmps94
   go_wp2_with (first
    | ((with_reducible refine jW (N := 5) rfl ?_); refine Kd.Au Kd.string _ 9 ?hg (N := 5) ?hd (xs := ([] : List ByteArray)) (inner := []) (ok := fun _ => True) (okp := fun _ => True) ?hr ?hp (fun _ hk => hk) trivial (Below.refl _ _) (Nat.le_refl _) (by simp) ?_; (case hd => rfl); (case hg => rfl); (case hr => first | (go_simp; done) | (go_simp; rfl)); (case hp => exact (Reps.none _ _)); intro Aa w3 ho4 hb hg_ hnew_; clear hg_ hnew_; have n0_ := am (Kd.d9 ho4 (aG eG)); have n1_ := bS eG hb; clear HB; have kZ := n0_; have HB := n1_; clear n0_ n1_; clear hb ho4)
    | ((with_reducible refine o7 (b := .append) (xs := #[.tmp 5, .tmp 6]) rfl ?_); at_builtin; refine Kd.LJ Kd.string (w0 := w) w.heap.size rfl (.tmp 5) (.tmp 6) 23 9 (.string ⟨#[]⟩) 16 rfl Try.underlying23 rY rfl (by decide) (by omega) Aa [] l0 _ _ _ (fun _ => True) (fun _ => False) rfl rfl ?aO ?aR (fun _ _ h => h) (fun _ h => h.elim) ?aF ?aB ?aS ?aL ?_; (case aR => repeat (first | exact (Kd.aX tO.1 HB.1) | (with_reducible refine Kd.mO ?_ _) | (with_reducible refine Kd.mP ?_ _) | (with_reducible refine Kd.oD ?_))); (case aB => exact eG); (case aF => exact (fun _ _ => trivial)); (case aO => exact OX); (case aS => exact (aG eG)); (case aL => have := LM.out; simp; omega); intro LE w5 ho hb hg hat; have n0_ := am hb; have n1_ := am ho; clear HB; clear kZ; have HB := n0_; have eP := n1_; clear n0_ n1_; clear ho hb hg hat))
   go_ret
   exact ⟨_, by first | rfl | (simp; done) | (simp [*]; done), rR eP.1, eG⟩
 rw [if_neg c2] at h
 exact absurd h (by simp)
def dP.l0 : Nat → List (S56) → Int → Int → List ByteArray → List (S56) → Option (List ByteArray × (List (S56)))
 | 0, _, _, _, _, _ => none
 | k + 1, b, d, a, e, c => if a < d then (if 0 ≤ a then (if a < (b.length : Int) then ((dU.f ((aA b a).f1)).bind fun g => ((dU.f ((aA b a).f2)).bind fun h => (if c.length < 2199023255552 then (dP.l0 k b d (wrap64 (a + 1)) e (c ++ [(⟨(aA b a).f0, g, h⟩ : S56)])) else (none)))) else (none)) else (none)) else (some (e, c))
def dP.f (k : Nat) (bF : List ByteArray) (aN : List (S56)) : Option (List ByteArray × (List (S56))) := (dU.f bF).bind fun a => (dP.l0 k aN (aN.length : Int) 0 a ([] : List (S56)))
def dP.T5 : Bool × List (List Nat × List Nat) := (true, [([], []), ([0], [0]), ([], []), ([2], [2]), ([], []), ([4], [4]), ([5], [5]), ([], []), ([7], [7]), ([8, 6], [8]), ([3, 6, 9], [3, 6, 9]), ([10], [10]), ([1, 11, 9], [1, 11]), ([0, 1, 2, 3, 4, 5, 6, 7, 8, 9, 10, 11, 12], []), ([13, 12, 12, 0, 1, 2, 3, 4, 5, 6, 7, 8, 9, 10, 11, 12], [12, 13])])
def dP.B5 : List Nat := [0, 1, 0, 4, 0, 16, 48, 0, 128, 496, 1020, 2044, 4095, 8191, 16383]
theorem dP.tab5 : rtab .any (opsOf Try.f90 5) = dP.T5 := by kernel_rfl
theorem dP.Qh : kP dP.T5.2 dP.B5 = true := by kernel_rfl
set_option maxHeartbeats 8000000 in
set_option maxRecDepth 100000 in
theorem dP.calls (k : Nat) (eU : Option Addr) (eY : Nat) (bF : List ByteArray) (fG : Option Addr) (eQ : Nat) (aN : List (S56)) (r1 : List ByteArray) (r2 : List (S56)) (w : World) (iG : Kd.C Kd.string w eU bF.length bF) (iD : bF.length ≤ eY) (iC : Kd.C k56 w fG aN.length aN) (iE : aN.length ≤ eQ) (h : dP.f k bF aN = some (r1, r2)) :
  Calls Try.prog 90 #[.agg #[.slice eU bF.length eY, .slice fG aN.length eQ]] w fun e w' => ∃ v0_ v1_ : Value, e = .returned (.agg #[v0_, v1_]) ∧ Kd.R Kd.string 9 w' w.heap.size (fun _ => True) v0_ r1 ∧ Kd.S k56 56 w' w.heap.size (fun k_ => some k_ ≠ (v0_ : Value).ownBlock) v1_ r2 ∧ Below w.heap.size w w' := by
 have hu31 := Try.underlying31
 have hu56 := Try.underlying56
 obtain ⟨dY, dX⟩ := mZ2 iG iD
 obtain ⟨cU, f4⟩ := mZ2 iC iE
 clear iG iD iC iE
 have HB := am (Below.refl w.heap.size w)
 unfold dP.f at h
 have H := h
 clear h
 obtain ⟨eF, A2, H⟩ := bd H
 have H' := am H
 repeat clear H
 go_enter Try.func90, Try.ntmps90
 go_wp2_with (first | ((with_reducible refine gD 1 ?_); refine bX 1 #[.slice eU bF.length eY, .slice fG aN.length eQ] 31 ?_; intro aT hg w3 hbox hb; have a6 := am hbox; have g5 := am (oS : w.heap.size ≤ aT); have iJ := g5; replace HB := bS eG hb; clear hb hbox hg) | ((with_reducible refine gD 2 ?_); refine bX 2 #[.slice none 0 0, .slice none 0 0] 31 ?_; intro aZ hg w4 hbox hb; have aH := am hbox; have m4 := am (I1 : w.heap.size ≤ aZ); have nX := m4; replace HB := bS eE hb; have cO := nL aW hg; have cV := nG aW hg; replace a6 := bB aW hb; clear hb hbox hg; have Z5 := nZ1 cO cV; have Z6 := cz2 a6) | ((with_reducible refine gC 94 ?_); refine cE (some 8) Try.func94 (dU.calls _ _ bF eF _ (pB dY) dX.1 A2.out) ?_; rintro e w7 ⟨FD, rfl, f3, hb⟩; refine ⟨_, rfl, ?_⟩; have mY := am (Kd.d9 f3 (aG l6)); replace a6 := bB aW hb; replace aH := bB cB hb; replace HB := bS l6 hb; clear hb f3; obtain ⟨T8, TO, eo8⟩ := Kd.bP mY.1; subst eo8) | ((with_reducible refine gD 3 ?_); refine bX 3 #[.slice none 0 0, .slice none 0 0] 31 ?_; intro U1 hg w9 hbox hb; replace mY := RB LW hb; have jV := am hbox; have Nz := am (ZN : w.heap.size ≤ U1); have Nw := Nz; replace HB := bS l6 hb; have rD := nL aW hg; have xQ := nG aW hg; replace a6 := bB aW hb; have sY := nL cB hg; have z8 := nG cB hg; replace aH := bB cB hb; clear hb hbox hg; have Z10 := nZ2 xQ rD z8 sY; have bv := cz2 jV; have La := cz2 a6))
 go_loopg [13] k (fun kq v13 w' => ∃ (AQ : Int) (oU : List (S56)) (nU : Value), v13 = .int .i64 AQ ∧ aC (dP.l0 kq aN (aN.length : Int) AQ eF oU = some (r1, r2)) ∧ aC (kq ≤ k) ∧ aC (Kd.R Kd.string 9 w' w.heap.size (fun _ => True) (.slice T8 eF.length TO) eF) ∧ aC (Kd.S k56 56 w' w.heap.size (fun k_ => some k_ ≠ ((.slice T8 eF.length TO) : Value).ownBlock) nU oU) ∧ aC (w'.heap[aT]? = some (.cells #[(.slice eU bF.length eY), (.slice fG aN.length eQ)] 31 (0, 0))) ∧ aC (w'.heap[aZ]? = some (.cells #[(.slice none 0 0), (.slice none 0 0)] 31 (0, 0))) ∧ aC (w'.heap[U1]? = some (.cells #[(.slice T8 eF.length TO), nU] 31 (0, 0))) ∧ aC (Below w.heap.size w w'))
 case atStart => exact ⟨(0), (([] : List (S56))), (.slice none 0 0), dM, H', ⟨Nat.le_refl _⟩, ⟨mR mY jV⟩, ⟨eN⟩, ⟨qF a6 rD⟩, ⟨qF aH sY⟩, ⟨qP jV⟩, ⟨Q7⟩⟩
 clear H'
 try clear bv
 try clear La
 try clear Z6
 obtain ⟨AQ, oU, nU, rfl, HA, HK1, k3, fL, a6, aH, jV, HB⟩ := hrel
 cases gk with
 | zero => exact absurd HA.out (by simp [dP.l0])
 | succ k1 =>
  have H := HA.out
  clear HA
  simp only [dP.l0] at H
  refine ic H ?_ ?_ <;> clear H <;> intro Bb H
  ·obtain ⟨WE, H⟩ := cN H
   obtain ⟨JG, H⟩ := cN H
   obtain ⟨yT, A17, H⟩ := bd H
   obtain ⟨iI, A18, H⟩ := bd H
   obtain ⟨Om, H⟩ := cL H
   obtain ⟨MZ, NJ⟩ := yv (oU ++ [(⟨(aA aN AQ).f0, yT, iI⟩ : S56)]); first | replace H := bW NJ H | rw [← NJ.1] at H
   have H' := am H
   repeat clear H
   obtain ⟨CP, GM, H0, GN, H3, MI, uR, pO, pP, qQ, y8, tX, EB, Fz, Gb⟩ := aT56 cU HB AQ
   cases MI
   try go_wp2_with (first | ((with_reducible refine gD 5 ?_); refine bX 5 #[.string (⟨#[]⟩ : ByteArray), .slice none 0 0, .slice none 0 0] 56 ?_; intro o6 hg Mu hbox hb; replace k3 := RB G8 hb; replace fL := am (Kd.GY (Kd.Pq U7 o6 (Nat.le_of_eq hg.symm)) hb); have f5 := am hbox; have CD := am (by rw [hg]; exact (aG Q7) : w.heap.size ≤ o6); have Gx := CD; replace HB := bS Q7 hb; have gH := nL aW hg; have nJ := nG aW hg; replace a6 := bB aW hb; have gT := nL cB hg; have qC := nG cB hg; replace aH := bB cB hb; have PO := nL OV hg; have VO := nG OV hg; replace jV := bB OV hb; clear hb hbox hg; have Z21 := nZ3 nJ gH qC gT VO PO; have Z24 := cz3 f5))
   obtain ⟨vy, eW_⟩ := eW3 Mu o6 (.string ((aA aN AQ).f0)) (.slice GM ((aA aN AQ).f1).length H0) (.slice GN ((aA aN AQ).f2).length H3)
   rw [← eW_]
   replace k3 : aC (Kd.R Kd.string 9 vy w.heap.size (fun _ => True) (.slice T8 eF.length TO) eF) := by rw [eW_]; exact ⟨mR k3 f5⟩
   replace fL : aC (Kd.S k56 56 vy w.heap.size (fun k_ => some k_ ≠ (.slice T8 eF.length TO : Value).ownBlock ∧ k_ ≠ o6) nU oU) := by rw [eW_]; exact ⟨by refine rS ?_; exact Kd.nD (fS (fS (fS (Kd.nD fL.1 (fun k_ hk => (⟨hk, hk.2⟩ : _ ∧ k_ ≠ o6)))))) (fun _ hk => ⟨hk.1.1, hk.1.2⟩)⟩
   replace a6 := uF3 eW_ a6 gH
   replace aH := uF3 eW_ aH gT
   replace jV := uF3 eW_ jV PO
   replace f5 := uP3 eW_ f5
   replace HB := uC3 eW_ HB Gx
   clear eW_
   replace k3 := RD k3
   replace fL := SD fL
   replace a6 := BD a6
   replace aH := BD aH
   replace jV := BD jV
   replace f5 := BD f5
   replace HB := am (aV HB.1)
   refine sT [14] 15 (uB2 jV (uA3 f5)) (fun hHeld => ?_)
   refine eO dP.tab5 dP.Qh (fun HT_ HW_ => ?_)
   generalize vy.drew = w26 at k3 fL a6 aH jV f5 HB hHeld ⊢
   refine pU4 0 2 4 7 ?_
   refine tK5 1 (some 18) ?_
   refine tK5 3 (some 20) ?_
   refine tK5 5 (some 22) ?_
   refine tK5 8 (some 25) ?_
   refine oN 6 (some 23) fun K hK => ?_
   refine gE Try.func94 (dU.calls _ _ ((aA aN AQ).f1) yT _ (pB qQ) y8.1 A17.out) ?_
   rintro e w27 ⟨Tz, rfl, f3, hb⟩
   refine ⟨_, rfl, ?_⟩
   replace fL := am (Kd.AJ U7 (Kd.bZ f3) hb)
   have wE := am (Kd.d9 (Kd.fA f3 (Kd.R_lt G8)) (aG Ga))
   replace k3 := am (Kd.dS G8 (Kd.bZ f3) hb)
   replace a6 := bB aW hb
   replace aH := bB cB hb
   replace jV := bB OV hb
   replace f5 := bB BN hb
   replace HB := bS Ga hb
   clear hb f3
   refine nK hK (uB2 jV (uA3 f5)).1 fun hHeld => ?_
   clear hK K
   refine oN 9 (some 26) fun K hK => ?_
   refine gE Try.func94 (dU.calls _ _ ((aA aN AQ).f2) iI _ (pB tX) EB.1 A18.out) ?_
   rintro e w28 ⟨IA, rfl, f3, hb⟩
   refine ⟨_, rfl, ?_⟩
   replace fL := am (Kd.AJ U7 (Kd.bZ f3) hb)
   have iM := am (Kd.d9 (Kd.fA (Kd.fA f3 (Kd.R_lt G8)) (Kd.R_lt (rR wE.1))) (aG Ga))
   replace k3 := am (Kd.dS G8 (Kd.bZ f3) hb)
   replace wE := am (Kd.dS (rR wE.1) (Kd.bZ f3) hb)
   replace a6 := bB aW hb
   replace aH := bB cB hb
   replace jV := bB OV hb
   replace f5 := bB BN hb
   replace HB := bS Ga hb
   clear hb f3
   obtain ⟨M8, IR, Fa⟩ := Kd.bP iM.1
   (first | subst Fa | (obtain ⟨f4_, f5_⟩ := sj Fa; subst f4_; subst f5_))
   obtain ⟨ws, a15, a1J⟩ := Kd.bP wE.1
   (first | subst a1J | (obtain ⟨f4_, f5_⟩ := sj a1J; subst f4_; subst f5_))
   refine nK hK (uB2 jV (uA3 f5)).1 fun hHeld => ?_
   clear hK K
   refine pU1 10 ?_
   refine oN 11 (some 28) fun K hK => ?_
   refine yQ (w1 := ?_) (v := ?_) (by rfl) rfl ?_ ?_
   rotate_left 2
   ·go_simp
    constructor
    ·rfl
    ·rfl
   refine hK.out _ _ ⟨(bC (bM jV.1 _) 0).trans rfl, (bC (bM jV.1 _) 1).trans rfl, (bC (bM f5.1 _) 0).trans rfl, (bC (bM f5.1 _) 1).trans rfl, (bC (bM f5.1 _) 2).trans rfl⟩ (fun hHeld => ?_)
   clear hK K
   refine nM ?_
   refine oN 12 (some 29) fun K hK => ?_
   refine Kd.zY k56 (w0 := w) w.heap.size (by rfl) (.tmp 18) (.tmp 28) 29 56 Ag0 64 rfl Try.underlying29 rC rfl (by decide) (by omega) nU oU (⟨(aA aN AQ).f0, yT, iI⟩ : S56) [.string ((aA aN AQ).f0), .slice ws yT.length a15, .slice M8 iI.length IR] (fun k_ => some k_ ≠ (.slice T8 eF.length TO : Value).ownBlock ∧ k_ ≠ o6) (fun k_ => some k_ = (.slice ws yT.length a15 : Value).ownBlock ∨ some k_ = (.slice M8 iI.length IR : Value).ownBlock) rfl rfl ?aP (fun k_ hk_ => hk_.elim (fun h_ => ((Kd.aM (ok' := fun k_ => ((fun k_ => some k_ ≠ (.slice T8 eF.length TO : Value).ownBlock ∧ k_ ≠ o6)) k_ ∧ some k_ ≠ (nU : Value).ownBlock) (Kd.fQ (Kd.mJ (wE.1) (Kd.wZ fL.1) (by decide)) f5.1 (by decide)) (fun k_ hk => ⟨⟨hk.1.1.1.2, hk.2⟩, hk.1.2⟩))).1 k_ h_.symm) (fun h_ => ((Kd.aM (ok' := fun k_ => ((fun k_ => some k_ ≠ (.slice T8 eF.length TO : Value).ownBlock ∧ k_ ≠ o6)) k_ ∧ some k_ ≠ (nU : Value).ownBlock) (Kd.fQ (Kd.mJ (iM.1) (Kd.wZ fL.1) (by decide)) f5.1 (by decide)) (fun k_ hk => ⟨⟨hk.1.1.1.2, hk.2⟩, hk.1.2⟩))).1 k_ h_.symm)) ?aF ?aO ?aB ?aS ?aL ?_
   (case aP => exact BX _ _ _ (⟨(aA aN AQ).f0, yT, iI⟩ : S56) (Kd.aM (Kd.rT rfl (Kd.aM (ok' := fun k_ => ((fun k_ => some k_ ≠ (.slice T8 eF.length TO : Value).ownBlock ∧ k_ ≠ o6)) k_ ∧ some k_ ≠ (nU : Value).ownBlock) (Kd.fQ (Kd.mJ (wE.1) (Kd.wZ fL.1) (by decide)) f5.1 (by decide)) (fun k_ hk => ⟨⟨hk.1.1.1.2, hk.2⟩, hk.1.2⟩))) (fun _ h_ => Or.inl h_)) (Kd.aM (Kd.rT rfl (Kd.aM (ok' := fun k_ => ((fun k_ => some k_ ≠ (.slice T8 eF.length TO : Value).ownBlock ∧ k_ ≠ o6)) k_ ∧ some k_ ≠ (nU : Value).ownBlock) (Kd.fQ (Kd.mJ (iM.1) (Kd.wZ fL.1) (by decide)) f5.1 (by decide)) (fun k_ hk => ⟨⟨hk.1.1.1.2, hk.2⟩, hk.1.2⟩))) (fun _ h_ => Or.inr (h_))) (Tp wE.1 iM.1))
   (case aB => exact Ga)
   (case aF => exact (fun k_ hk => ⟨Kd.fresh' (Kd.R_lt G8) k_ hk, fB BN k_ hk⟩))
   (case aO => exact (by refine rS ?_; exact Kd.nD fL.1 (fun k_ hk => ⟨⟨hk.1.1.1, hk.1.1.2⟩, fun e_ => e_.elim (fun h_ => hk.1.2 h_) (fun h_ => hk.2 h_)⟩)))
   (case aS => exact (aG Ga))
   (case aL => have := Om.out; omega)
   intro V7 vz ho hb hg hat
   rw [← NJ.out] at ho
   replace k3 := am (Kd.sP G8 (Kd.wZ U7) (by decide) hg)
   replace a6 := gkS aW hg fL a6
   replace aH := gkS cB hg fL aH
   replace jV := gkS OV hg fL jV
   replace f5 := am (tH (g := o6) (o := .cells #[.string ((aA aN AQ).f0), .slice GM ((aA aN AQ).f1).length H0, .slice GN ((aA aN AQ).f2).length H3] 56 (0, 0)) BN hg (Kd.ko fL.1 (fun _ hk => hk.1.1.2)))
   replace HB := am hb
   have iN := am ho
   clear fL
   clear wE
   clear iM
   clear ho hb hg hat
   obtain ⟨aC9, aE1, a1K⟩ := Kd.BR iN.1
   (first | subst a1K | (obtain ⟨f4_, f5_⟩ := sj a1K; subst f4_; subst f5_))
   refine nK hK (uB2 jV (uA3 f5)).1 fun hHeld => ?_
   clear hK K
   refine pU1 13 ?_
   refine lN 14 none fun K hK => ?_
   have aUY : vz.cell? ⟨U1, 1, none⟩ = some (nU) := (bC jV.1 1).trans rfl
   have aMS := eB jV.1 1
   have aAS := rD.1
   have aAT := sY.1
   have aAU := VO.1
   have a9C := xQ.1
   have a9D := z8.1
   have a9E := PO.1
   refine uX (w1 := ?_) (by rfl) rfl ?_ ?_
   rotate_left
   ·go_simp
    rfl
   refine hK.out _ _ ?_
   clear hK K
   refine dN ?_
   try go_wp2
   go_roundg k1
   case measure => have := HK1.out; omega
   case rel => exact ⟨(wrap64 (AQ + 1)), (MZ), (.slice aC9 MZ.length aE1), dM, H', ⟨by have := HK1.out; omega⟩, ⟨mR k3 jV⟩, ⟨mS iN jV⟩, ⟨qF a6 rD⟩, ⟨qF aH sY⟩, ⟨by refine rB ?_; refine bR (cs := #[.slice T8 eF.length TO, nU]) ?_ 1 _ rfl; refine rB ?_; exact jV.1⟩, ⟨Ga⟩⟩
  ·obtain ⟨rfl, rfl⟩ := sZ2 H
   repeat clear H
   have Z34 := nZ2 xQ rD z8 sY
   have Z36 := cz2 jV
   have Z37 := nZ1 cV cO
   have Z38 := cz2 aH
   obtain ⟨gm, mq, Xh⟩ := Kd.BR fL.1
   subst Xh
   go_wp2
   refine cR aZ 31 #[.slice T8 eF.length TO, .slice gm oU.length mq] (qP aH) Try.underlying31 ?_
   exact ⟨_, _, eR, mR k3 aH, mS fL aH, Q7⟩
end Go.Proofs.Ytaofjgnhapnndaa.Q
