/- Texts that the row needs: words on memory and rows, the contracts of the functions it reaches, and the plain lemmas on what they compute. -/
import Derived.Test.YtaofjgnhapnndaaGreatXktah
set_option maxHeartbeats 8000000
set_option maxRecDepth 100000
open Go.Proofs.YtaofjgnhapnndaaGreatFkt
namespace Go.Proofs.YtaofjgnhapnndaaGreat.Q
open Go.RowKit Go.Proofs.YtaofjgnhapnndaaGreatW.PrintWords Go.Proofs.YtaofjgnhapnndaaGreatW.PrintLast Go.Proofs.YtaofjgnhapnndaaGreatW.PrintMore
set_option linter.unusedVariables false
set_option linter.unusedSimpArgs false
def dK.l0 : Nat → List ByteArray → ByteArray → Int → Option (List ByteArray)
 | 0, _, _, _ => none
 | k + 1, b, c, a => if a < (b.length : Int) then (if 0 ≤ a then (if (Op.bytesLess ((rdOf ByteArray.empty b a).toList) c.toList) = true then (dK.l0 k b c (wrap64 (a + 1))) else (if (rdOf ByteArray.empty b a).toList = c.toList then (none) else ((some (([] : List ByteArray) : List ByteArray)).bind fun d => (if a ≤ (b.length : Int) then (if d.length + (b.take (a : Int).toNat).length < 8796093022208 then ((some (d ++ (b.take (a : Int).toNat) : List ByteArray)).bind fun e => ((some (([c] : List ByteArray) : List ByteArray)).bind fun f => (if e.length + f.length < 8796093022208 then ((some (e ++ f : List ByteArray)).bind fun g => (if g.length + (b.drop (a : Int).toNat).length < 8796093022208 then (some (g ++ (b.drop (a : Int).toNat))) else (none))) else (none)))) else (none)) else (none))))) else (none)) else ((some (([] : List ByteArray) : List ByteArray)).bind fun h => (if 0 ≤ a then (if a ≤ (b.length : Int) then (if h.length + (b.take (a : Int).toNat).length < 8796093022208 then ((some (h ++ (b.take (a : Int).toNat) : List ByteArray)).bind fun i => ((some (([c] : List ByteArray) : List ByteArray)).bind fun j => (if i.length + j.length < 8796093022208 then ((some (i ++ j : List ByteArray)).bind fun l => (if l.length + (b.drop (a : Int).toNat).length < 8796093022208 then (some (l ++ (b.drop (a : Int).toNat))) else (none))) else (none)))) else (none)) else (none)) else (none)))
def dK.f (k : Nat) (l0 : List ByteArray) (a1 : ByteArray) : Option (List ByteArray) := dK.l0 k l0 a1 0
def dK.T6 : Bool × List (List Nat × List Nat) := (true, [([], []), ([], []), ([], []), ([1, 2], [1, 2]), ([0, 3], [0, 3]), ([], []), ([5], [5]), ([4, 6, 4], [4, 6]), ([], []), ([], []), ([8, 9], [8, 9]), ([7, 10, 7], [7, 10]), ([11, 11, 0, 1, 2, 3, 4, 5, 6, 7, 8, 9, 10, 11], [11])])
def dK.B6 : List Nat := [0, 0, 0, 6, 15, 0, 32, 127, 0, 0, 768, 2047, 4095]
theorem dK.tab6 : rtab .any (opsOf Tryz.f41 6) = dK.T6 := by kernel_rfl
theorem dK.DL : o5 dK.T6.2 dK.B6 = true := by kernel_rfl
theorem dK.calls (k : Nat) (A0 : Option Addr) (c0 : Nat) (l0 : List ByteArray) (a1 : ByteArray) (r : List ByteArray) (w : World) (tM : Kd.C Kd.string w A0 l0.length l0) (yO : l0.length ≤ c0) (h : dK.f k l0 a1 = some r) :
  Calls Tryz.prog 41 #[.slice A0 l0.length c0, .string a1] w fun e w' => ∃ v0_ : Value, e = .returned (v0_) ∧ Kd.R Kd.string 9 w' w.heap.size (fun _ => True) v0_ r ∧ Below w.heap.size w w' := by
 obtain ⟨tV, S0⟩ := mZ2 tM yO
 clear tM yO
 have HB := am (Below.refl w.heap.size w)
 unfold dK.f at h
 have H := h
 clear h
 have H' := am H
 repeat clear H
 go_enter Tryz.func41, Tryz.ntmps41
 go_wp2
 go_loopg [5] k (fun kq v5 w' => ∃ (bR : Int), v5 = .int .i64 bR ∧ aC (dK.l0 kq l0 a1 bR = some r) ∧ aC (kq ≤ k) ∧ aC (Below w.heap.size w w'))
 case atStart => exact ⟨(0), dU, H', ⟨Nat.le_refl _⟩, ⟨iJ⟩⟩
 clear H'
 obtain ⟨bR, rfl, HA, HK1, HB⟩ := hrel
 cases gk with
 | zero => exact absurd HA.out (by simp [dK.l0])
 | succ k1 =>
  have H := HA.out
  clear HA
  simp only [dK.l0] at H
  refine ic H ?_ ?_ <;> clear H <;> intro FS H
  ·obtain ⟨CH, H⟩ := cN H
   refine tC H ?_ ?_ <;> clear H <;> intro FT H
   ·have H' := am H
    repeat clear H
    obtain ⟨kM, oE, lH, yE, yH⟩ := aS tV HB bR
    cases oE
    go_wp2
    go_roundg k1
    case measure => have := HK1.out; omega
    case rel => exact ⟨(wrap64 (bR + 1)), dU, H', ⟨by have := HK1.out; omega⟩, ⟨iJ⟩⟩
   ·refine iq H ?_ ?_ <;> clear H <;> intro c6 MQ En H
    ·cases H
    ·obtain ⟨GO, hy103⟩ : ∃ y_ : List ByteArray, y_ = (([] : List ByteArray)) := ⟨_, rfl⟩
     replace H : (if bR ≤ (l0.length : Int) then (if GO.length + (l0.take (bR : Int).toNat).length < 8796093022208 then ((some (GO ++ (l0.take (bR : Int).toNat) : List ByteArray)).bind fun V0 => ((some (([a1] : List ByteArray) : List ByteArray)).bind fun IX => (if V0.length + IX.length < 8796093022208 then ((some (V0 ++ IX : List ByteArray)).bind fun Gv => (if Gv.length + (l0.drop (bR : Int).toNat).length < 8796093022208 then (some (Gv ++ (l0.drop (bR : Int).toNat))) else (none))) else (none)))) else (none)) else (none)) = some r := by first | (rw [hy103]; with_reducible exact H) | (have H2_ := (Option.bind_some _ _).symm.trans H; rw [hy103]; with_reducible exact H2_) | (have H2_ := (Option.bind_some _ _).symm.trans H; with_reducible exact H2_) | with_reducible exact H | (rw [hy103]; exact H) | exact H
     have KI := am hy103
     clear hy103
     have XF := eq_true (oT : 0 ≤ bR)
     obtain ⟨H3, aCG, H⟩ := cP H
     obtain ⟨ja, H⟩ := cL H
     obtain ⟨V0, MN, H⟩ := bY H
     obtain ⟨IX, VD, H⟩ := bY H
     obtain ⟨Ou, H⟩ := cL H
     obtain ⟨Gv, SE, H⟩ := bY H
     have I8 := eq_true (oT : 0 ≤ bR)
     have SU := eq_true (oT : bR ≤ (l0.length : Int))
     obtain ⟨Ov, H⟩ := cL H
     obtain ⟨aUU, Pl⟩ := yv (Gv ++ (l0.drop (bR : Int).toNat)); first | replace H := bW Pl H | rw [← Pl.1] at H
     obtain rfl := Option.some.inj H
     repeat clear H
     obtain ⟨kM, oE, lH, yE, yH⟩ := aS tV HB bR
     cases oE
     obtain ⟨pJ, uM, oW, EE, EH⟩ := aS tV HB bR
     obtain rfl : kM = pJ := (by injection uM)
     try go_wp2
     replace HB := am (aY HB.1)
     obtain ⟨i015, dj, _, hsz15, _⟩ := info_parts sQ
     obtain ⟨hcut15, hA15, hC15⟩ := EG (P := Tryz.prog) Value.string (⟨#[]⟩ : ByteArray) 23 9 .i64 Tryz.underlying23 dj hsz15 (some kM) c0 l0 bR (oT) (oT) S0.1
     have Hk := am (Kd.xE (h1 := fun _ => rfl) (hA15 _ (Kd.vO tV.1)))
     have aGU := am hC15
     clear hA15 hC15 dj hsz15
     obtain ⟨i016, dl, _, hsz16, _⟩ := info_parts sQ
     obtain ⟨Up, hcut16, hA16, hC16⟩ := KS (P := Tryz.prog) Value.string (⟨#[]⟩ : ByteArray) 23 9 .i64 Tryz.underlying23 dl hsz16 (some kM) c0 l0 bR (oT) (oT) S0.1
     have Om := am (Kd.xE (h1 := fun _ => rfl) (hA16 _ (Kd.vO tV.1)))
     have aGW := am hC16
     clear hA16 hC16 dl hsz16
     refine sT (S := fun w' => True) [] 13 ⟨trivial⟩ (fun hHeld => ?_)
     refine fP dK.tab6 dK.DL (fun HT_ HW_ => ?_)
     generalize wr.drew = w14 at HB Hk Om hHeld ⊢
     refine pU7 1 2 3 5 8 9 10 ?_
     refine Jr (σ := Value × Value × Value) 3 (bz 13 1919) (fun s_ => [(33, s_.1), (37, s_.2.1), (39, s_.2.2)]) (fun s_ w' => (Kd.R Kd.string 9 w' w.heap.size (fun k_ => some k_ ≠ (s_.2.2 : Value).ownBlock) s_.2.1 V0) ∧ (Kd.R Kd.string 9 w' w.heap.size (fun k_ => some k_ ≠ (s_.2.1 : Value).ownBlock) s_.2.2 IX) ∧ (Below w.heap.size w w')) ?_ ?_
     rotate_left
     ·intro hCont
      refine two_ (i := 0) (j := 6) (Ni := some 33) (Nj := some 39) (bz 13 1839) (bz 13 1902) rfl rfl rfl rfl (M4 HT_.out (by kernel_rfl)) (by decide) (by decide) (fun K hK => ?_) (fun K hK => ?_)
      ·skip
       refine lT 9 33 KI ?_
       intro IV w17 Rt hb
       have mX := am (Kd.dO Rt (aG iJ))
       replace HB := bS iJ hb
       clear hb Rt
       refine hK.out _ _ trivial (fun hHeld => ?_)
       clear hK K
       refine nM ?_
       refine two_ (i := 4) (j := 6) (Ni := some 37) (Nj := some 39) (bz 13 1855) (bz 13 1903) rfl rfl rfl rfl (M4 HT_.out (by kernel_rfl)) (by decide) (by decide) (fun K hK => ?_) (fun K hK => ?_)
       ·skip
        refine Kd.jG Kd.string (w0 := w) w.heap.size (by rfl) (.tmp 33) (.tmp 36) 23 9 (.string ⟨#[]⟩) 16 rfl Tryz.underlying23 sQ rfl (by decide) (by omega) IV GO (l0.take (bR : Int).toNat) _ _ _ (fun _ => True) (fun _ => False) rfl rfl ?aO ?aR (fun _ _ h => h) (fun _ h => h.elim) ?aF ?aB ?aS ?aL ?_
        (case aR => (have e_ : (l0.take (bR : Int).toNat).length = bR.toNat := (by rw [List.length_take]; have h_ : (bR : Int) ≤ (l0.length : Int) := oT; omega); have q_ := Kd.aU Hk.1 HB.1; rw [e_] at q_; exact q_))
        (case aB => exact iJ)
        (case aF => exact (fun _ _ => trivial))
        (case aO => exact (rR mX.1))
        (case aS => exact (aG iJ))
        (case aL => have := ja.out; have hlx_ := (show (l0.take (bR : Int).toNat).length = bR.toNat from (by rw [List.length_take]; have h_ : (bR : Int) ≤ (l0.length : Int) := oT; omega)); omega)
        intro D0 w19 ho hb hg hat
        rw [← MN.out] at ho
        replace HB := am hb
        have fD := am ho
        clear mX
        clear ho hb hg hat
        refine hK.out _ _ trivial (fun hHeld => ?_)
        clear hK K
        refine nM ?_
        refine oN 6 (some 39) fun K hK => ?_
        refine lT 9 39 VD ?_
        intro QR Nk pl hb
        have xL := am (Kd.dO (Kd.fF pl (Kd.R_lt (rR fD.1))) (aG iJ))
        replace fD := am (Kd.dV (rR fD.1) (Kd.bT pl) hb)
        replace HB := bS iJ hb
        clear hb pl
        refine hK.out _ _ trivial (fun hHeld => ?_)
        clear hK K
        refine nM ?_
        exact AA IL (hCont (IV, D0, QR) _ ⟨(by refine rR ?_; exact Kd.aT fD.1 (fun _ hk => hk.2)), (by refine rR ?_; exact Kd.aT xL.1 (fun _ hk => hk.2)), iJ⟩)
       ·skip
        refine lT 9 39 VD ?_
        intro QR w19 Fh hb
        have xL := am (Kd.dO (Kd.fF Fh (Kd.R_lt (rR mX.1))) (aG iJ))
        replace mX := am (Kd.dV (rR mX.1) (Kd.bT Fh) hb)
        replace HB := bS iJ hb
        clear hb Fh
        refine hK.out _ _ trivial (fun hHeld => ?_)
        clear hK K
        refine nM ?_
        refine oN 4 (some 37) fun K hK => ?_
        refine Kd.jG Kd.string (w0 := w) w.heap.size (by rfl) (.tmp 33) (.tmp 36) 23 9 (.string ⟨#[]⟩) 16 rfl Tryz.underlying23 sQ rfl (by decide) (by omega) IV GO (l0.take (bR : Int).toNat) _ _ _ (fun k_ => some k_ ≠ (QR : Value).ownBlock) (fun _ => False) rfl rfl ?aO ?aR (fun _ _ h => h) (fun _ h => h.elim) ?aF ?aB ?aS ?aL ?_
        (case aR => (have e_ : (l0.take (bR : Int).toNat).length = bR.toNat := (by rw [List.length_take]; have h_ : (bR : Int) ≤ (l0.length : Int) := oT; omega); have q_ := Kd.aU Hk.1 HB.1; rw [e_] at q_; exact q_))
        (case aB => exact iJ)
        (case aF => exact (fun k_ hk => Kd.fresh' (Kd.R_lt NS) k_ hk))
        (case aO => exact (by refine rR ?_; exact Kd.aT mX.1 (fun _ hk => hk.2)))
        (case aS => exact (aG iJ))
        (case aL => have := ja.out; have hlx_ := (show (l0.take (bR : Int).toNat).length = bR.toNat from (by rw [List.length_take]; have h_ : (bR : Int) ≤ (l0.length : Int) := oT; omega)); omega)
        intro D0 w21 ho hb hg hat
        rw [← MN.out] at ho
        replace xL := am (Kd.uP (ok := (fun _ => True)) NS hg hat)
        replace HB := am hb
        have fD := am ho
        clear mX
        clear ho hb hg hat
        refine hK.out _ _ trivial (fun hHeld => ?_)
        clear hK K
        refine nM ?_
        exact AA IL (hCont (IV, D0, QR) _ ⟨(rR fD.1), (by refine rR ?_; exact Kd.aT xL.1 (fun _ hk => hk.2)), iJ⟩)
      ·skip
       refine lT 9 39 VD ?_
       intro QR w17 Rt hb
       have xL := am (Kd.dO Rt (aG iJ))
       replace HB := bS iJ hb
       clear hb Rt
       refine hK.out _ _ trivial (fun hHeld => ?_)
       clear hK K
       refine nM ?_
       refine oN 0 (some 33) fun K hK => ?_
       refine lT 9 33 KI ?_
       intro IV w19 Fh hb
       have mX := am (Kd.dO (Kd.fF Fh (Kd.R_lt NS)) (aG iJ))
       replace xL := am (Kd.dV NS (Kd.bT Fh) hb)
       replace HB := bS iJ hb
       clear hb Fh
       refine hK.out _ _ trivial (fun hHeld => ?_)
       clear hK K
       refine nM ?_
       refine oN 4 (some 37) fun K hK => ?_
       refine Kd.jG Kd.string (w0 := w) w.heap.size (by rfl) (.tmp 33) (.tmp 36) 23 9 (.string ⟨#[]⟩) 16 rfl Tryz.underlying23 sQ rfl (by decide) (by omega) IV GO (l0.take (bR : Int).toNat) _ _ _ (fun k_ => some k_ ≠ (QR : Value).ownBlock) (fun _ => False) rfl rfl ?aO ?aR (fun _ _ h => h) (fun _ h => h.elim) ?aF ?aB ?aS ?aL ?_
       (case aR => (have e_ : (l0.take (bR : Int).toNat).length = bR.toNat := (by rw [List.length_take]; have h_ : (bR : Int) ≤ (l0.length : Int) := oT; omega); have q_ := Kd.aU Hk.1 HB.1; rw [e_] at q_; exact q_))
       (case aB => exact iJ)
       (case aF => exact (fun k_ hk => Kd.fresh' (Kd.R_lt NS) k_ hk))
       (case aO => exact (by refine rR ?_; exact Kd.aT mX.1 (fun _ hk => hk.2)))
       (case aS => exact (aG iJ))
       (case aL => have := ja.out; have hlx_ := (show (l0.take (bR : Int).toNat).length = bR.toNat from (by rw [List.length_take]; have h_ : (bR : Int) ≤ (l0.length : Int) := oT; omega)); omega)
       intro D0 w21 ho hb hg hat
       rw [← MN.out] at ho
       replace xL := am (Kd.uP (ok := (fun _ => True)) NS hg hat)
       replace HB := am hb
       have fD := am ho
       clear mX
       clear ho hb hg hat
       refine hK.out _ _ trivial (fun hHeld => ?_)
       clear hK K
       refine nM ?_
       exact AA IL (hCont (IV, D0, QR) _ ⟨(rR fD.1), (by refine rR ?_; exact Kd.aT xL.1 (fun _ hk => hk.2)), iJ⟩)
     rintro ⟨IV, D0, QR⟩ uf ⟨h0_, h1_, h2_⟩
     have fD : aC (Kd.R Kd.string 9 uf w.heap.size (fun k_ => some k_ ≠ (QR : Value).ownBlock) D0 V0) := ⟨h0_⟩
     have xL : aC (Kd.R Kd.string 9 uf w.heap.size (fun k_ => some k_ ≠ (D0 : Value).ownBlock) QR IX) := ⟨h1_⟩
     replace HB : aC (Below w.heap.size w uf) := ⟨h2_⟩
     clear h0_ h1_ h2_
     have hHeld := trivial
     obtain ⟨Nu, Qy, Rj⟩ := Kd.cZ xL.1
     (first | subst Rj | (obtain ⟨f4_, f5_⟩ := sj Rj; subst f4_; subst f5_))
     refine AA (a' := ?_) ?_ ?_
     rotate_left
     ·simp only [IQ, Act.put, List.setIfInBounds_toArray, List.set_cons_zero, List.set_cons_succ]
      rfl
     refine oN 7 (some 40) fun K hK => ?_
     refine Kd.jG Kd.string (w0 := w) w.heap.size (by rfl) (.tmp 37) (.tmp 39) 23 9 (.string ⟨#[]⟩) 16 rfl Tryz.underlying23 sQ rfl (by decide) (by omega) D0 V0 IX _ _ _ (fun k_ => some k_ ≠ (.slice Nu IX.length Qy : Value).ownBlock) (fun _ => False) rfl rfl ?aO ?aR (fun _ _ h => h) (fun _ h => h.elim) ?aF ?aB ?aS ?aL ?_
     (case aR => repeat (first | exact (Kd.bH xL.1).2.2 | (with_reducible refine Kd.nW ?_ _) | (with_reducible refine Kd.nX ?_ _) | (with_reducible refine Kd.pO ?_)))
     (case aB => exact iJ)
     (case aF => exact (fun k_ hk => Kd.fresh' (Kd.R_lt NS) k_ hk))
     (case aO => exact (rR fD.1))
     (case aS => exact (aG iJ))
     (case aL => have := Ou.out; omega)
     intro Ud w23 ho hb hg hat
     rw [← SE.out] at ho
     replace xL := am (Kd.uP (ok := (fun _ => True)) (by refine rR ?_; exact Kd.aT xL.1 (fun _ hk => ⟨trivial, hk⟩)) hg hat)
     replace HB := am hb
     have GT := am ho
     clear fD
     clear ho hb hg hat
     refine hK.out _ _ trivial (fun hHeld => ?_)
     clear hK K
     refine nM ?_
     refine oN 11 (some 44) fun K hK => ?_
     refine Kd.jG Kd.string (w0 := w) w.heap.size (by rfl) (.tmp 40) (.tmp 43) 23 9 (.string ⟨#[]⟩) 16 rfl Tryz.underlying23 sQ rfl (by decide) (by omega) Ud Gv (l0.drop (bR : Int).toNat) _ _ _ (fun k_ => some k_ ≠ (.slice Nu IX.length Qy : Value).ownBlock) (fun _ => False) rfl rfl ?aO ?aR (fun _ _ h => h) (fun _ h => h.elim) ?aF ?aB ?aS ?aL ?_
     (case aR => first | (rw [← show (l0.drop (bR : Int).toNat).length = (l0.length - bR.toNat) from List.length_drop]; repeat (first | exact (Kd.aU Om.1 HB.1) | (with_reducible refine Kd.nW ?_ _) | (with_reducible refine Kd.nX ?_ _) | (with_reducible refine Kd.pO ?_))) | (repeat (first | exact (Kd.aU Om.1 HB.1) | (with_reducible refine Kd.nW ?_ _) | (with_reducible refine Kd.nX ?_ _) | (with_reducible refine Kd.pO ?_))))
     (case aB => exact iJ)
     (case aF => exact (fun k_ hk => Kd.fresh' (Kd.R_lt NS) k_ hk))
     (case aO => exact (rR GT.1))
     (case aS => exact (aG iJ))
     (case aL => have := Ov.out; have hlx_ := (show (l0.drop (bR : Int).toNat).length = (l0.length - bR.toNat) from List.length_drop); omega)
     intro aFG ug ho hb hg hat
     rw [← Pl.out] at ho
     replace xL := am (Kd.uP (ok := (fun _ => True)) NS hg hat)
     replace HB := am hb
     have jN := am ho
     clear GT
     clear ho hb hg hat
     refine hK.out _ _ trivial (fun hHeld => ?_)
     clear hK K
     refine nM ?_
     refine pU1 12 ?_
     refine dN ?_
     try go_wp2
     go_ret
     exact ⟨_, eR, by refine rR ?_; exact Kd.aT jN.1 (fun _ hk => trivial), iJ⟩
  ·obtain ⟨PR, hy120⟩ : ∃ y_ : List ByteArray, y_ = (([] : List ByteArray)) := ⟨_, rfl⟩
   replace H : (if 0 ≤ bR then (if bR ≤ (l0.length : Int) then (if PR.length + (l0.take (bR : Int).toNat).length < 8796093022208 then ((some (PR ++ (l0.take (bR : Int).toNat) : List ByteArray)).bind fun Nc => ((some (([a1] : List ByteArray) : List ByteArray)).bind fun V1 => (if Nc.length + V1.length < 8796093022208 then ((some (Nc ++ V1 : List ByteArray)).bind fun UB => (if UB.length + (l0.drop (bR : Int).toNat).length < 8796093022208 then (some (UB ++ (l0.drop (bR : Int).toNat))) else (none))) else (none)))) else (none)) else (none)) else (none)) = some r := by first | (rw [hy120]; with_reducible exact H) | (have H2_ := (Option.bind_some _ _).symm.trans H; rw [hy120]; with_reducible exact H2_) | (have H2_ := (Option.bind_some _ _).symm.trans H; with_reducible exact H2_) | with_reducible exact H | (rw [hy120]; exact H) | exact H
   have Hv := am hy120
   clear hy120
   obtain ⟨SV, a06, H⟩ := cP H
   obtain ⟨SW, aK5, H⟩ := cP H
   obtain ⟨Oy, H⟩ := cL H
   obtain ⟨Nc, Pm, H⟩ := bY H
   obtain ⟨V1, SF, H⟩ := bY H
   obtain ⟨wm, H⟩ := cL H
   obtain ⟨UB, ZZ, H⟩ := bY H
   have MP := eq_true (oT : 0 ≤ bR)
   have a09 := eq_true (oT : bR ≤ (l0.length : Int))
   obtain ⟨wo, H⟩ := cL H
   obtain ⟨aUV, Po⟩ := yv (UB ++ (l0.drop (bR : Int).toNat)); first | replace H := bW Po H | rw [← Po.1] at H
   obtain rfl := Option.some.inj H
   repeat clear H
   try go_wp2
   replace HB := am (aY HB.1)
   obtain ⟨i034, dm, _, hsz34, _⟩ := info_parts sQ
   obtain ⟨hcut34, hA34, hC34⟩ := EG (P := Tryz.prog) Value.string (⟨#[]⟩ : ByteArray) 23 9 .i64 Tryz.underlying23 dm hsz34 A0 c0 l0 bR (oT) (oT) S0.1
   have Hn := am (Kd.xE (h1 := fun _ => rfl) (hA34 _ (Kd.vO tV.1)))
   have aGZ := am hC34
   clear hA34 hC34 dm hsz34
   obtain ⟨i035, dn, _, hsz35, _⟩ := info_parts sQ
   obtain ⟨A35, hcut35, hA35, hC35⟩ := KS (P := Tryz.prog) Value.string (⟨#[]⟩ : ByteArray) 23 9 .i64 Tryz.underlying23 dn hsz35 A0 c0 l0 bR (oT) (oT) S0.1
   have Oo := am (Kd.xE (h1 := fun _ => rfl) (hA35 _ (Kd.vO tV.1)))
   have aH1 := am hC35
   clear hA35 hC35 dn hsz35
   refine sT (S := fun w' => True) [] 13 ⟨trivial⟩ (fun hHeld => ?_)
   refine fP dK.tab6 dK.DL (fun HT_ HW_ => ?_)
   generalize wr.drew = w33 at HB Hn Oo hHeld ⊢
   refine pU7 1 2 3 5 8 9 10 ?_
   refine Jr (σ := Value × Value × Value) 3 (bz 13 1919) (fun s_ => [(33, s_.1), (37, s_.2.1), (39, s_.2.2)]) (fun s_ w' => (Kd.R Kd.string 9 w' w.heap.size (fun k_ => some k_ ≠ (s_.2.2 : Value).ownBlock) s_.2.1 Nc) ∧ (Kd.R Kd.string 9 w' w.heap.size (fun k_ => some k_ ≠ (s_.2.1 : Value).ownBlock) s_.2.2 V1) ∧ (Below w.heap.size w w')) ?_ ?_
   rotate_left
   ·intro hCont
    refine two_ (i := 0) (j := 6) (Ni := some 33) (Nj := some 39) (bz 13 1839) (bz 13 1902) rfl rfl rfl rfl (M4 HT_.out (by kernel_rfl)) (by decide) (by decide) (fun K hK => ?_) (fun K hK => ?_)
    ·skip
     refine lT 9 33 Hv ?_
     intro PM w36 Rw hb
     have eU := am (Kd.dO Rw (aG iJ))
     replace HB := bS iJ hb
     clear hb Rw
     refine hK.out _ _ trivial (fun hHeld => ?_)
     clear hK K
     refine nM ?_
     refine two_ (i := 4) (j := 6) (Ni := some 37) (Nj := some 39) (bz 13 1855) (bz 13 1903) rfl rfl rfl rfl (M4 HT_.out (by kernel_rfl)) (by decide) (by decide) (fun K hK => ?_) (fun K hK => ?_)
     ·skip
      refine Kd.jG Kd.string (w0 := w) w.heap.size (by rfl) (.tmp 33) (.tmp 36) 23 9 (.string ⟨#[]⟩) 16 rfl Tryz.underlying23 sQ rfl (by decide) (by omega) PM PR (l0.take (bR : Int).toNat) _ _ _ (fun _ => True) (fun _ => False) rfl rfl ?aO ?aR (fun _ _ h => h) (fun _ h => h.elim) ?aF ?aB ?aS ?aL ?_
      (case aR => (have e_ : (l0.take (bR : Int).toNat).length = bR.toNat := (by rw [List.length_take]; have h_ : (bR : Int) ≤ (l0.length : Int) := oT; omega); have q_ := Kd.aU Hn.1 HB.1; rw [e_] at q_; exact q_))
      (case aB => exact iJ)
      (case aF => exact (fun _ _ => trivial))
      (case aO => exact (rR eU.1))
      (case aS => exact (aG iJ))
      (case aL => have := Oy.out; have hlx_ := (show (l0.take (bR : Int).toNat).length = bR.toNat from (by rw [List.length_take]; have h_ : (bR : Int) ≤ (l0.length : Int) := oT; omega)); omega)
      intro K6 w38 ho hb hg hat
      rw [← Pm.out] at ho
      replace HB := am hb
      have DD := am ho
      clear eU
      clear ho hb hg hat
      refine hK.out _ _ trivial (fun hHeld => ?_)
      clear hK K
      refine nM ?_
      refine oN 6 (some 39) fun K hK => ?_
      refine lT 9 39 SF ?_
      intro U6 w39 pm hb
      have yQ := am (Kd.dO (Kd.fF pm (Kd.R_lt (rR DD.1))) (aG iJ))
      replace DD := am (Kd.dV (rR DD.1) (Kd.bT pm) hb)
      replace HB := bS iJ hb
      clear hb pm
      refine hK.out _ _ trivial (fun hHeld => ?_)
      clear hK K
      refine nM ?_
      exact AA IL (hCont (PM, K6, U6) _ ⟨(by refine rR ?_; exact Kd.aT DD.1 (fun _ hk => hk.2)), (by refine rR ?_; exact Kd.aT yQ.1 (fun _ hk => hk.2)), iJ⟩)
     ·skip
      refine lT 9 39 SF ?_
      intro U6 w38 Fi hb
      have yQ := am (Kd.dO (Kd.fF Fi (Kd.R_lt (rR eU.1))) (aG iJ))
      replace eU := am (Kd.dV (rR eU.1) (Kd.bT Fi) hb)
      replace HB := bS iJ hb
      clear hb Fi
      refine hK.out _ _ trivial (fun hHeld => ?_)
      clear hK K
      refine nM ?_
      refine oN 4 (some 37) fun K hK => ?_
      refine Kd.jG Kd.string (w0 := w) w.heap.size (by rfl) (.tmp 33) (.tmp 36) 23 9 (.string ⟨#[]⟩) 16 rfl Tryz.underlying23 sQ rfl (by decide) (by omega) PM PR (l0.take (bR : Int).toNat) _ _ _ (fun k_ => some k_ ≠ (U6 : Value).ownBlock) (fun _ => False) rfl rfl ?aO ?aR (fun _ _ h => h) (fun _ h => h.elim) ?aF ?aB ?aS ?aL ?_
      (case aR => (have e_ : (l0.take (bR : Int).toNat).length = bR.toNat := (by rw [List.length_take]; have h_ : (bR : Int) ≤ (l0.length : Int) := oT; omega); have q_ := Kd.aU Hn.1 HB.1; rw [e_] at q_; exact q_))
      (case aB => exact iJ)
      (case aF => exact (fun k_ hk => Kd.fresh' (Kd.R_lt NT) k_ hk))
      (case aO => exact (by refine rR ?_; exact Kd.aT eU.1 (fun _ hk => hk.2)))
      (case aS => exact (aG iJ))
      (case aL => have := Oy.out; have hlx_ := (show (l0.take (bR : Int).toNat).length = bR.toNat from (by rw [List.length_take]; have h_ : (bR : Int) ≤ (l0.length : Int) := oT; omega)); omega)
      intro K6 w40 ho hb hg hat
      rw [← Pm.out] at ho
      replace yQ := am (Kd.uP (ok := (fun _ => True)) NT hg hat)
      replace HB := am hb
      have DD := am ho
      clear eU
      clear ho hb hg hat
      refine hK.out _ _ trivial (fun hHeld => ?_)
      clear hK K
      refine nM ?_
      exact AA IL (hCont (PM, K6, U6) _ ⟨(rR DD.1), (by refine rR ?_; exact Kd.aT yQ.1 (fun _ hk => hk.2)), iJ⟩)
    ·skip
     refine lT 9 39 SF ?_
     intro U6 w36 Rw hb
     have yQ := am (Kd.dO Rw (aG iJ))
     replace HB := bS iJ hb
     clear hb Rw
     refine hK.out _ _ trivial (fun hHeld => ?_)
     clear hK K
     refine nM ?_
     refine oN 0 (some 33) fun K hK => ?_
     refine lT 9 33 Hv ?_
     intro PM w38 Fi hb
     have eU := am (Kd.dO (Kd.fF Fi (Kd.R_lt NT)) (aG iJ))
     replace yQ := am (Kd.dV NT (Kd.bT Fi) hb)
     replace HB := bS iJ hb
     clear hb Fi
     refine hK.out _ _ trivial (fun hHeld => ?_)
     clear hK K
     refine nM ?_
     refine oN 4 (some 37) fun K hK => ?_
     refine Kd.jG Kd.string (w0 := w) w.heap.size (by rfl) (.tmp 33) (.tmp 36) 23 9 (.string ⟨#[]⟩) 16 rfl Tryz.underlying23 sQ rfl (by decide) (by omega) PM PR (l0.take (bR : Int).toNat) _ _ _ (fun k_ => some k_ ≠ (U6 : Value).ownBlock) (fun _ => False) rfl rfl ?aO ?aR (fun _ _ h => h) (fun _ h => h.elim) ?aF ?aB ?aS ?aL ?_
     (case aR => (have e_ : (l0.take (bR : Int).toNat).length = bR.toNat := (by rw [List.length_take]; have h_ : (bR : Int) ≤ (l0.length : Int) := oT; omega); have q_ := Kd.aU Hn.1 HB.1; rw [e_] at q_; exact q_))
     (case aB => exact iJ)
     (case aF => exact (fun k_ hk => Kd.fresh' (Kd.R_lt NT) k_ hk))
     (case aO => exact (by refine rR ?_; exact Kd.aT eU.1 (fun _ hk => hk.2)))
     (case aS => exact (aG iJ))
     (case aL => have := Oy.out; have hlx_ := (show (l0.take (bR : Int).toNat).length = bR.toNat from (by rw [List.length_take]; have h_ : (bR : Int) ≤ (l0.length : Int) := oT; omega)); omega)
     intro K6 w40 ho hb hg hat
     rw [← Pm.out] at ho
     replace yQ := am (Kd.uP (ok := (fun _ => True)) NT hg hat)
     replace HB := am hb
     have DD := am ho
     clear eU
     clear ho hb hg hat
     refine hK.out _ _ trivial (fun hHeld => ?_)
     clear hK K
     refine nM ?_
     exact AA IL (hCont (PM, K6, U6) _ ⟨(rR DD.1), (by refine rR ?_; exact Kd.aT yQ.1 (fun _ hk => hk.2)), iJ⟩)
   rintro ⟨PM, K6, U6⟩ w41 ⟨h0_, h1_, h2_⟩
   have DD : aC (Kd.R Kd.string 9 w41 w.heap.size (fun k_ => some k_ ≠ (U6 : Value).ownBlock) K6 Nc) := ⟨h0_⟩
   have yQ : aC (Kd.R Kd.string 9 w41 w.heap.size (fun k_ => some k_ ≠ (K6 : Value).ownBlock) U6 V1) := ⟨h1_⟩
   replace HB : aC (Below w.heap.size w w41) := ⟨h2_⟩
   clear h0_ h1_ h2_
   have hHeld := trivial
   obtain ⟨MD, MU, Wy⟩ := Kd.cZ yQ.1
   (first | subst Wy | (obtain ⟨f4_, f5_⟩ := sj Wy; subst f4_; subst f5_))
   refine AA (a' := ?_) ?_ ?_
   rotate_left
   ·simp only [IQ, Act.put, List.setIfInBounds_toArray, List.set_cons_zero, List.set_cons_succ]
    rfl
   refine oN 7 (some 40) fun K hK => ?_
   refine Kd.jG Kd.string (w0 := w) w.heap.size (by rfl) (.tmp 37) (.tmp 39) 23 9 (.string ⟨#[]⟩) 16 rfl Tryz.underlying23 sQ rfl (by decide) (by omega) K6 Nc V1 _ _ _ (fun k_ => some k_ ≠ (.slice MD V1.length MU : Value).ownBlock) (fun _ => False) rfl rfl ?aO ?aR (fun _ _ h => h) (fun _ h => h.elim) ?aF ?aB ?aS ?aL ?_
   (case aR => repeat (first | exact (Kd.bH yQ.1).2.2 | (with_reducible refine Kd.nW ?_ _) | (with_reducible refine Kd.nX ?_ _) | (with_reducible refine Kd.pO ?_)))
   (case aB => exact iJ)
   (case aF => exact (fun k_ hk => Kd.fresh' (Kd.R_lt NT) k_ hk))
   (case aO => exact (rR DD.1))
   (case aS => exact (aG iJ))
   (case aL => have := wm.out; omega)
   intro v131 w42 ho hb hg hat
   rw [← ZZ.out] at ho
   replace yQ := am (Kd.uP (ok := (fun _ => True)) (by refine rR ?_; exact Kd.aT yQ.1 (fun _ hk => ⟨trivial, hk⟩)) hg hat)
   replace HB := am hb
   have ZT := am ho
   clear DD
   clear ho hb hg hat
   refine hK.out _ _ trivial (fun hHeld => ?_)
   clear hK K
   refine nM ?_
   refine oN 11 (some 44) fun K hK => ?_
   refine Kd.jG Kd.string (w0 := w) w.heap.size (by rfl) (.tmp 40) (.tmp 43) 23 9 (.string ⟨#[]⟩) 16 rfl Tryz.underlying23 sQ rfl (by decide) (by omega) v131 UB (l0.drop (bR : Int).toNat) _ _ _ (fun k_ => some k_ ≠ (.slice MD V1.length MU : Value).ownBlock) (fun _ => False) rfl rfl ?aO ?aR (fun _ _ h => h) (fun _ h => h.elim) ?aF ?aB ?aS ?aL ?_
   (case aR => first | (rw [← show (l0.drop (bR : Int).toNat).length = (l0.length - bR.toNat) from List.length_drop]; repeat (first | exact (Kd.aU Oo.1 HB.1) | (with_reducible refine Kd.nW ?_ _) | (with_reducible refine Kd.nX ?_ _) | (with_reducible refine Kd.pO ?_))) | (repeat (first | exact (Kd.aU Oo.1 HB.1) | (with_reducible refine Kd.nW ?_ _) | (with_reducible refine Kd.nX ?_ _) | (with_reducible refine Kd.pO ?_))))
   (case aB => exact iJ)
   (case aF => exact (fun k_ hk => Kd.fresh' (Kd.R_lt NT) k_ hk))
   (case aO => exact (rR ZT.1))
   (case aS => exact (aG iJ))
   (case aL => have := wo.out; have hlx_ := (show (l0.drop (bR : Int).toNat).length = (l0.length - bR.toNat) from List.length_drop); omega)
   intro aFK ZK ho hb hg hat
   rw [← Po.out] at ho
   replace yQ := am (Kd.uP (ok := (fun _ => True)) NT hg hat)
   replace HB := am hb
   have y6 := am ho
   clear ZT
   clear ho hb hg hat
   refine hK.out _ _ trivial (fun hHeld => ?_)
   clear hK K
   refine nM ?_
   refine pU1 12 ?_
   refine dN ?_
   try go_wp2
   go_ret
   exact ⟨_, eR, by refine rR ?_; exact Kd.aT y6.1 (fun _ hk => trivial), iJ⟩
def insF (a : ByteArray) : List ByteArray → Bool
 | [] => false
 | x :: t => if Op.bytesLess x.toList a.toList = true then insF a t else x.toList == a.toList
def dK.q0 : Nat → List ByteArray → ByteArray → Int → Option Bool
 | 0, _, _, _ => none
 | k + 1, b, c, a => if a < (b.length : Int) then (if 0 ≤ a then (if (Op.bytesLess ((rdOf ByteArray.empty b a).toList) c.toList) = true then (dK.q0 k b c (wrap64 (a + 1))) else (if (rdOf ByteArray.empty b a).toList = c.toList then some true else none)) else none) else none
theorem dK.ed (l : List ByteArray) (a : ByteArray) (hl : l.length ≤ 9223372036854775807) : ∀ (n i : Nat), i + n = l.length → insF a (l.drop i) = true → dK.q0 (n + 1) l a i = some true
 | 0, i, hi, h => by rw [List.drop_eq_nil_of_le (by omega)] at h; cases h
 | n + 1, i, hi, h => by
  have hlt : i < l.length := by omega
  rw [List.drop_eq_getElem_cons hlt] at h
  have e1 : rdOf ByteArray.empty l (i : Int) = l[i] := by unfold rdOf; rw [Int.toNat_natCast]; simp [List.getD_eq_getElem?_getD, hlt]
  unfold dK.q0
  rw [if_pos (by omega), if_pos (by omega), e1]
  unfold insF at h
  by_cases hc : Op.bytesLess l[i].toList a.toList = true
  ·rw [if_pos hc] at h ⊢
   rw [show wrap64 ((i : Int) + 1) = ((i + 1 : Nat) : Int) by unfold wrap64; omega]
   exact dK.ed l a hl n (i + 1) (by omega) h
  ·rw [if_neg hc] at h ⊢
   rw [if_pos (by simpa using h)]
theorem dK.same (k : Nat) (A0 : Option Addr) (c0 : Nat) (l0 : List ByteArray) (a1 : ByteArray) (w : World) (tM : Kd.C Kd.string w A0 l0.length l0) (yO : l0.length ≤ c0) (h : dK.q0 k l0 a1 0 = some true) :
  Calls Tryz.prog 41 #[.slice A0 l0.length c0, .string a1] w fun e w' => e = .returned (.slice A0 l0.length c0) ∧ Below w.heap.size w w' := by
 obtain ⟨tV, S0⟩ := mZ2 tM yO
 clear tM yO
 have HB := am (Below.refl w.heap.size w)
 have H := h
 clear h
 have H' := am H
 repeat clear H
 go_enter Tryz.func41, Tryz.ntmps41
 go_wp2
 go_loopg [5] k (fun kq v5 w' => ∃ (bR : Int), v5 = .int .i64 bR ∧ aC (dK.q0 kq l0 a1 bR = some true) ∧ aC (kq ≤ k) ∧ aC (Below w.heap.size w w'))
 case atStart => exact ⟨(0), dU, H', ⟨Nat.le_refl _⟩, ⟨iJ⟩⟩
 clear H'
 obtain ⟨bR, rfl, HA, HK1, HB⟩ := hrel
 cases gk with
 | zero => exact absurd HA.out (by simp [dK.q0])
 | succ k1 =>
  have H := HA.out
  clear HA
  simp only [dK.q0] at H
  by_cases c3 : bR < (l0.length : Int)
  ·rw [if_pos c3] at H
   have FS : decide (bR < (l0.length : Int)) = true := decide_eq_true c3
   clear c3
   by_cases c4 : 0 ≤ bR
   ·rw [if_pos c4] at H
    have CH : decide (0 ≤ bR) = true := decide_eq_true c4
    clear c4
    refine tC H ?_ ?_ <;> clear H <;> intro FT H
    ·have H' := am H
     repeat clear H
     obtain ⟨kM, oE, lH, yE, yH⟩ := aS tV HB bR
     cases oE
     go_wp2
     go_roundg k1
     case measure => have := HK1.out; omega
     case rel => exact ⟨(wrap64 (bR + 1)), dU, H', ⟨by have := HK1.out; omega⟩, ⟨iJ⟩⟩
    ·by_cases c6 : (rdOf ByteArray.empty l0 bR).toList = a1.toList
     ·rw [if_pos c6] at H
      have MQ : ((rdOf ByteArray.empty l0 bR).toList == a1.toList) = true := beq_iff_eq.mpr c6
      have En : ((rdOf ByteArray.empty l0 bR).toList != a1.toList) = false := bne_eq_false_iff_eq.mpr c6
      clear c6 H
      obtain ⟨kM, oE, lH, yE, yH⟩ := aS tV HB bR
      cases oE
      obtain ⟨pJ, uM, oW, EE, EH⟩ := aS tV HB bR
      obtain rfl : kM = pJ := (by injection uM)
      go_wp2
      go_ret
      exact ⟨rfl, iJ⟩
     ·rw [if_neg c6] at H; cases H
   ·rw [if_neg c4] at H; cases H
  ·rw [if_neg c3] at H; cases H
theorem YZ {w : World} {b o : Nat} {v : Value} (h : w.cell? ⟨b, o, none⟩ = some v) : w.setCell ⟨b, o, none⟩ v = w := by
 have e : (w.setCell ⟨b, o, none⟩ v).heap = w.heap := by
  have h' : (match w.heap[b]? with | some (.cells c _ _) => c[o]? | _ => none) = some v := h
  show w.heap.modify b (fun | .cells c elem frozen => .cells (c.setIfInBounds o v) elem frozen | o => o) = w.heap
  apply Array.ext_getElem?
  intro i
  rw [Array.getElem?_modify]
  by_cases hi : b = i
  ·subst hi
   rw [if_pos rfl]
   cases hb : w.heap[b]? with
   | none => rfl
   | some ob =>
    rw [hb] at h'
    cases ob with
    | cells c el fr =>
     have h2 : c[o]? = some v := h'
     have : c.setIfInBounds o v = c := by
      apply Array.ext_getElem?
      intro j
      rw [Array.getElem?_setIfInBounds]
      by_cases hj : o = j
      ·subst hj
       rw [if_pos rfl, h2]
       by_cases hh : o < c.size
       ·rw [if_pos hh]
       ·rw [Array.getElem?_eq_none (by omega)] at h2; cases h2
      ·rw [if_neg hj]
     show some (Obj.cells (c.setIfInBounds o v) el fr) = _
     rw [this]
    | _ => rfl
  ·rw [if_neg hi]
 show { w with heap := (w.setCell ⟨b, o, none⟩ v).heap } = w
 rw [e]
def fA.l0 : Nat → List ByteArray → Int → Int → List ByteArray → List (S52) → List ByteArray → List (S52) → List ByteArray → List (S52) → Option (List ByteArray × (List (S52)) × Int)
 | 0, _, _, _, _, _, _, _, _, _ => none
 | k + 1, d, b, c, g, h, i, j, e, a => if c < (d.length : Int) then (if 0 ≤ b then (if b < (a.length : Int) then (if 0 ≤ c then (if insF (rdOf ByteArray.empty d c) ((aA a b).f1) = true then (fA.l0 k d b (wrap64 (c + 1)) g h i j e a) else ((dK.f k ((aA a b).f1) (rdOf ByteArray.empty d c)).bind fun n => (fA.l0 k d b (wrap64 (c + 1)) g h i j e (a.set (b : Int).toNat (⟨(aA a b).f0, n, (aA a b).f2⟩ : S52))))) else (none)) else (none)) else (none)) else ((mG.f k g h).bind fun o => (if o = true then ((mG.f k e a).bind fun p => (if p = true then ((dP.f k e a).bind fun l => (some (l.1, l.2, 0))) else (some (i, j, 6)))) else ((dP.f k e a).bind fun m => (some (m.1, m.2, 0)))))
def fA.f (k : Nat) (aZ : List ByteArray) (aI : List (S52)) (a1 : ByteArray) (l2 : List ByteArray) : Option (List ByteArray × (List (S52)) × Int) := (aN.f k aZ aI).bind fun d => (if d = true then ((dP.f k aZ aI).bind fun a => ((iM.f k aZ aI a1).bind fun b => (if b < 0 then (some (a.1, a.2, 3)) else (if 0 ≤ b then (if b < (aI.length : Int) then ((dI.f k l2 ((aA aI b).f2)).bind fun e => (if e = true then ((jI.f k aZ aI b l2).bind fun g => (if g = true then (some (a.1, a.2, 5)) else ((dP.f k aZ aI).bind fun c => (fA.l0 k l2 b 0 aZ aI a.1 a.2 c.1 c.2)))) else (some (a.1, a.2, 2)))) else (none)) else (none))))) else (some (([] : List ByteArray), ([] : List (S52)), 1)))
def fA.T15 : Bool × List (List Nat × List Nat) := (true, [([], []), ([0], [0]), ([], []), ([], []), ([3], [3]), ([], []), ([4, 5], [4, 5]), ([6], [6]), ([7], [7]), ([], []), ([], []), ([9, 10], [9, 10]), ([11], [11]), ([8, 12], [8, 12]), ([1, 2, 0, 1, 2, 3, 4, 5, 6, 7, 8, 9, 10, 11, 12, 13], [1, 2]), ([14, 0, 1, 2, 3, 4, 5, 6, 7, 8, 9, 10, 11, 12, 13], [14]), ([15, 13, 13, 0, 1, 2, 3, 4, 5, 6, 7, 8, 9, 10, 11, 12, 13], [13, 15])])
def fA.B15 : List Nat := [0, 1, 0, 0, 8, 0, 56, 120, 248, 0, 0, 1536, 3584, 8184, 16383, 32767, 65535]
theorem fA.Tx : rtab .any (opsOf Tryz.f8 15) = fA.T15 := by kernel_rfl
theorem fA.Eh : o5 fA.T15.2 fA.B15 = true := by kernel_rfl
theorem fA.calls (k : Nat) (eE : Option Addr) (eF : Nat) (aZ : List ByteArray) (eV : Option Addr) (eC : Nat) (aI : List (S52)) (a1 : ByteArray) (A2 : Option Addr) (c2 : Nat) (l2 : List ByteArray) (r1 : List ByteArray) (r2 : List (S52)) (r3 : Int) (w : World) (gP : Kd.C Kd.string w eE aZ.length aZ) (gN : aZ.length ≤ eF) (gK : Kd.C k52 w eV aI.length aI) (gO : aI.length ≤ eC) (Q7 : Kd.C Kd.string w A2 l2.length l2) (MA : l2.length ≤ c2) (h : fA.f k aZ aI a1 l2 = some (r1, r2, r3)) :
  Calls Tryz.prog 8 #[.agg #[.slice eE aZ.length eF, .slice eV aI.length eC], .string a1, .slice A2 l2.length c2] w fun e w' => ∃ v0_ v1_ : Value, e = .returned (.tuple #[.agg #[v0_, v1_], .int .i64 r3]) ∧ Kd.R Kd.string 9 w' w.heap.size (fun k_ => (w.heap.size ≤ k_)) v0_ r1 ∧ Kd.N k52 52 w' w.heap.size (F10 w v0_) v1_ r2 ∧ Below w.heap.size w w' := by
 have hu31 := Tryz.underlying26
 obtain ⟨dT, dS⟩ := mZ2 gP gN
 obtain ⟨bV, eS⟩ := mZ2 gK gO
 obtain ⟨B0, yN⟩ := mZ2 Q7 MA
 clear gP gN gK gO Q7 MA
 have HB := am (Below.refl w.heap.size w)
 unfold fA.f at h
 have H := h
 clear h
 obtain ⟨pN, A4, H⟩ := bd H
 refine tC H ?_ ?_ <;> clear H <;> intro c5 H <;> subst c5
 obtain ⟨⟨dB, bM⟩, A6, H⟩ := bd H
 dsimp only at H
 obtain ⟨bZ, A7, H⟩ := bd H
 refine ic H ?_ ?_ <;> clear H <;> intro H3 H
 obtain ⟨rfl, rfl, rfl⟩ := sZ3 H
 repeat clear H
 have X2 := trivial
 have xr := trivial
 rotate_left
 obtain ⟨SV, H⟩ := cN H
 obtain ⟨SW, H⟩ := cN H
 obtain ⟨K5, Za, H⟩ := bd H
 refine tC H ?_ ?_ <;> clear H <;> intro bj H <;> subst bj
 obtain ⟨O2, uk, H⟩ := bd H
 refine tC H ?_ ?_ <;> clear H <;> intro c31 H <;> subst c31
 obtain ⟨rfl, rfl, rfl⟩ := sZ3 H
 repeat clear H
 have X2 := trivial
 have Vx := trivial
 have ji := trivial
 have xt := trivial
 rotate_left
 obtain ⟨⟨xW, yK⟩, sx, H⟩ := bd H
 dsimp only at H
 have H' := am H
 repeat clear H
 have X2 := trivial
 have Vx := trivial
 have ji := trivial
 have Kk := trivial
 rotate_left
 obtain ⟨rfl, rfl, rfl⟩ := sZ3 H
 repeat clear H
 have X2 := trivial
 have Vx := trivial
 have xu := trivial
 rotate_left
 obtain ⟨rfl, rfl, rfl⟩ := sZ3 H
 repeat clear H
 have xv := trivial
 rotate_left
 all_goals
  go_enter Tryz.func8, Tryz.ntmps8
  go_wp2_with (first | ((with_reducible refine gD 3 ?_); refine bX 3 #[.slice eE aZ.length eF, .slice eV aI.length eC] 26 ?_; intro aW hg aOS hbox hb; have a6 := am hbox; have iS := am (u4 : w.heap.size ≤ aW); have j5 := iS; replace HB := bS iJ hb; clear hb hbox hg) | ((with_reducible refine gD 6 ?_); refine bX 6 #[.slice none 0 0, .slice none 0 0] 26 ?_; intro bK hg aOT hbox hb; have aQ := am hbox; have qJ := am (EF : w.heap.size ≤ bK); have oI := qJ; replace HB := bS fH hb; have dJ := nL d3 hg; have dL := nG d3 hg; replace a6 := bB d3 hb; clear hb hbox hg; have aI7 := nZ1 dJ dL; have yy := cz2 a6) | ((with_reducible refine gC 31 ?_); revert X2; intro X2; refine cQ (some 13) Tryz.func31 (aN.calls k _ _ aZ _ _ aI true _ (pB dT) dS.1 (pB bV) eS.1 A4.out) ?_; rintro aOU hb; replace a6 := bB d3 hb; replace aQ := bB eW hb; replace HB := bS kO hb; clear hb; have yz := cz2 a6) | ((with_reducible refine gC 32 ?_); revert X2; intro X2; refine cE (some 17) Tryz.func32 (dP.calls k _ _ aZ _ _ aI dB bM _ (pB dT) dS.1 (pB bV) eS.1 A6.out) ?_; rintro e aOV ⟨H6, D0, rfl, eH, lW, hb⟩; refine ⟨_, rfl, ?_⟩; have gG := am (Kd.dO (Kd.pX (M := fun k_ => (w.heap.size ≤ k_)) eH (aG kO) (fun k_ h_ => h_)) (aG kO)); have fD := am (Kd.jK (Kd.aJ (ok' := F12 w H6 aW bK) (Kd.S_N (Kd.lG lW)) (fun k_ hk_ => ⟨(Nat.le_trans (aG kO) hk_.2.1), hk_.1, (fB d3 k_ hk_.2.1), (fB eW k_ hk_.2.1)⟩)) (aG kO)); replace a6 := bB d3 hb; replace aQ := bB eW hb; replace HB := bS kO hb; clear hb eH lW) | ((with_reducible refine gD 8 ?_); revert X2; intro X2; refine bX 8 #[.slice none 0 0, .slice none 0 0] 26 ?_; intro bC hg aOW hbox hb; replace gG := RB uB hb; replace fD := am (Kd.iI (Kd.jU yF bC (Nat.le_of_eq hg.symm)) hb); have aV := am hbox; have C1 := am (UN : w.heap.size ≤ bC); have sO := C1; replace HB := bS kO hb; have fM := nL d3 hg; have gJ := nG d3 hg; replace a6 := bB d3 hb; have g4 := nL eW hg; have iL := nG eW hg; replace aQ := bB eW hb; clear hb hbox hg; obtain ⟨qI, qN, nl⟩ := Kd.cZ gG.1; subst nl; have aI8 := nZ2 gJ fM iL g4; have za := cz2 aV; obtain ⟨BX, CI, np⟩ := Kd.gM fD.1; subst np; have zb := cz2 a6) | ((with_reducible refine gC 35 ?_); revert xr; intro xr; refine cQ (some 20) Tryz.func35 (iM.calls k _ _ aZ _ _ aI a1 bZ _ (Kd.aU dT.1 fW) dS.1 (Kd.aU bV.1 fW) eS.1 A7.out) ?_; rintro aOX hb; replace gG := am (Kd.jA (by refine rR ?_; exact (Kd.aT (fR (fR (tR gG aV))) (fun _ h_ => h_.1))) hb); replace fD := am (Kd.iI (by refine rN ?_; exact (Kd.aJ (fN (fN (Kd.aJ fD.1 (fun k_ hk => (⟨hk, hk.2⟩ : _ ∧ k_ ≠ bC))))) (fun _ h_ => h_.1))) hb); replace a6 := am (aX (g := aW) (o := .cells #[.slice eE aZ.length eF, .slice eV aI.length eC] 26 (0, 0)) YR hb); replace aQ := am (aX (g := bK) (o := .cells #[.slice none 0 0, .slice none 0 0] 26 (0, 0)) YS hb); replace aV := am (aX (g := bC) (o := .cells #[.slice qI dB.length qN, .slice BX bM.length CI] 26 (0, 0)) (qP aV) hb); replace HB := bS fW hb; clear hb; have aI9 := cz2 aV; have aIA := cz2 aQ) | ((with_reducible refine gC 35 ?_); revert Vx; intro Vx; refine cQ (some 20) Tryz.func35 (iM.calls k _ _ aZ _ _ aI a1 bZ _ (Kd.aU dT.1 fW) dS.1 (Kd.aU bV.1 fW) eS.1 A7.out) ?_; rintro yW hb; replace gG := am (Kd.jA (by refine rR ?_; exact (Kd.aT (fR (fR (tR gG aV))) (fun _ h_ => h_.1))) hb); replace fD := am (Kd.iI (by refine rN ?_; exact (Kd.aJ (fN (fN (Kd.aJ fD.1 (fun k_ hk => (⟨hk, hk.2⟩ : _ ∧ k_ ≠ bC))))) (fun _ h_ => h_.1))) hb); replace a6 := am (aX (g := aW) (o := .cells #[.slice eE aZ.length eF, .slice eV aI.length eC] 26 (0, 0)) YR hb); replace aQ := am (aX (g := bK) (o := .cells #[.slice none 0 0, .slice none 0 0] 26 (0, 0)) YS hb); replace aV := am (aX (g := bC) (o := .cells #[.slice qI dB.length qN, .slice BX bM.length CI] 26 (0, 0)) (qP aV) hb); replace HB := bS fW hb; clear hb; have zc := cz2 a6; obtain ⟨oR, WJ, XB, WK, XC, LD, yA, BL, BM, ML, QZ, x6, y4, UK, UU⟩ := aT52 bV HB bZ; cases LD) | ((with_reducible refine gC 34 ?_); revert ji; intro ji; refine cQ (some 31) Tryz.func34 (dI.calls k _ _ l2 _ _ ((aA aI bZ).f2) true _ (pB B0) yN.1 (pB x6) y4.1 Za.out) ?_; rintro w' ⟨nd, rfl⟩; (try (rw [FV yW]; generalize hq_ : World.drewN yW _ = yW; have n0_ : aC (Kd.R Kd.string 9 yW w.heap.size (fun k_ => (((w.heap.size ≤ k_)) ∧ True)) (.slice qI dB.length qN) dB) := ⟨by rw [← hq_]; exact uB⟩; have n1_ : aC (Kd.N k52 52 yW w.heap.size (fun k_ => ((((w.heap.size ≤ k_)) ∧ (some k_ ≠ (.slice qI dB.length qN : Value).ownBlock ∧ (k_ ≠ aW ∧ k_ ≠ bK))) ∧ k_ ≠ bC)) (.slice BX bM.length CI) bM) := ⟨by rw [← hq_]; exact yF⟩; have n2_ : aC (yW.heap[aW]? = some (.cells #[.slice eE aZ.length eF, .slice (some oR) aI.length eC] 26 (0, 0))) := ⟨by rw [← hq_]; exact d3⟩; have n3_ : aC (yW.heap[bK]? = some (.cells #[.slice none 0 0, .slice none 0 0] 26 (0, 0))) := ⟨by rw [← hq_]; exact eW⟩; have n4_ : aC (yW.heap[bC]? = some (.cells #[.slice qI dB.length qN, .slice BX bM.length CI] 26 (0, 0))) := ⟨by rw [← hq_]; exact iD⟩; have n5_ : aC (Below w.heap.size w yW) := ⟨by rw [← hq_]; exact fW⟩; clear gG fD a6 aQ aV HB hq_; have gG := n0_; have fD := n1_; have a6 := n2_; have aQ := n3_; have aV := n4_; have HB := n5_; clear n0_ n1_ n2_ n3_ n4_ n5_)); have ze := cz2 a6) | ((with_reducible refine gC 40 ?_); revert xt; intro xt; refine cQ (some 37) Tryz.func40 (jI.calls k _ _ aZ _ _ aI bZ _ _ l2 true _ (pB dT) dS.1 (pB bV) eS.1 (pB B0) yN.1 uk.out) ?_; rintro aOY hb; replace gG := RB uB hb; replace fD := NE yF hb; replace a6 := bB d3 hb; replace aQ := bB eW hb; replace aV := bB iD hb; replace HB := bS fW hb; clear hb; have aIB := cz2 aV; have aIC := cz2 aQ) | ((with_reducible refine gC 40 ?_); revert Kk; intro Kk; refine cQ (some 37) Tryz.func40 (jI.calls k _ _ aZ _ _ aI bZ _ _ l2 false _ (pB dT) dS.1 (pB bV) eS.1 (pB B0) yN.1 uk.out) ?_; rintro aOZ hb; replace gG := RB uB hb; replace fD := NE yF hb; replace a6 := bB d3 hb; replace aQ := bB eW hb; replace aV := bB iD hb; replace HB := bS fW hb; clear hb; have zf := cz2 a6) | ((with_reducible refine gC 32 ?_); revert Kk; intro Kk; refine cE (some 40) Tryz.func32 (dP.calls k _ _ aZ _ _ aI xW yK _ (pB dT) dS.1 (pB bV) eS.1 sx.out) ?_; rintro e aP0 ⟨Da, Yq, rfl, eH, lW, hb⟩; refine ⟨_, rfl, ?_⟩; have wR := am (Kd.dO (Kd.fF (Kd.pX (M := fun k_ => (w.heap.size ≤ k_)) eH (aG fW) (fun k_ h_ => h_)) (Kd.R_lt uB)) (aG fW)); have vF := am (Kd.jK (Kd.aJ (ok' := F33 w Da (.slice qI dB.length qN) (.slice BX bM.length CI) aW bK bC) (Kd.S_N (Kd.lG lW)) (fun k_ hk_ => ⟨(Nat.le_trans (aG fW) hk_.2.1), hk_.1, (Kd.fresh' (Kd.R_lt uB) k_ hk_.2.1), (Kd.fresh' (Kd.N_lt yF) k_ hk_.2.1), (fB d3 k_ hk_.2.1), (fB eW k_ hk_.2.1), (fB iD k_ hk_.2.1)⟩)) (aG fW)); replace gG := am (Kd.dV uB (Kd.bT eH) hb); replace fD := am (Kd.aJ (Kd.eY (Kd.eY (Kd.mZ yF hb) (Kd.bT eH)) kN) (fun _ h_ => h_.1)); replace a6 := bB d3 hb; replace aQ := bB eW hb; replace aV := bB iD hb; replace HB := bS fW hb; clear hb eH lW) | ((with_reducible refine gD 10 ?_); revert Kk; intro Kk; refine bX 10 #[.slice none 0 0, .slice none 0 0] 26 ?_; intro CL hg aP1 hbox hb; replace gG := RB uB hb; replace fD := am (Kd.iI (Kd.jU yF CL (Nat.le_of_eq hg.symm)) hb); replace wR := am (Kd.jA (rR wR.1) hb); replace vF := am (Kd.iI (Kd.jU (rN vF.1) CL (Nat.le_of_eq hg.symm)) hb); have rO := am hbox; have vv := am (qr : w.heap.size ≤ CL); have Zi := vv; replace HB := bS fW hb; have EN := nL d3 hg; have JD := nG d3 hg; replace a6 := bB d3 hb; have J7 := nL eW hg; have OO := nG eW hg; replace aQ := bB eW hb; have JA := nL iD hg; have OP := nG iD hg; replace aV := bB iD hb; clear hb hbox hg; obtain ⟨BZ, CJ, nr⟩ := Kd.cZ wR.1; subst nr; have aID := nZ3 JD EN OO J7 OP JA; have zg := cz2 rO; obtain ⟨fv, mf, nt⟩ := Kd.gM vF.1; subst nt) | ((with_reducible refine gC 34 ?_); revert xu; intro xu; refine cQ (some 31) Tryz.func34 (dI.calls k _ _ l2 _ _ ((aA aI bZ).f2) false _ (pB B0) yN.1 (pB x6) y4.1 Za.out) ?_; rintro w' ⟨nd, rfl⟩; (try (rw [FV yW]; generalize hq_ : World.drewN yW _ = yW; have n0_ : aC (Kd.R Kd.string 9 yW w.heap.size (fun k_ => (((w.heap.size ≤ k_)) ∧ True)) (.slice qI dB.length qN) dB) := ⟨by rw [← hq_]; exact uB⟩; have n1_ : aC (Kd.N k52 52 yW w.heap.size (fun k_ => ((((w.heap.size ≤ k_)) ∧ (some k_ ≠ (.slice qI dB.length qN : Value).ownBlock ∧ (k_ ≠ aW ∧ k_ ≠ bK))) ∧ k_ ≠ bC)) (.slice BX bM.length CI) bM) := ⟨by rw [← hq_]; exact yF⟩; have n2_ : aC (yW.heap[aW]? = some (.cells #[.slice eE aZ.length eF, .slice (some oR) aI.length eC] 26 (0, 0))) := ⟨by rw [← hq_]; exact d3⟩; have n3_ : aC (yW.heap[bK]? = some (.cells #[.slice none 0 0, .slice none 0 0] 26 (0, 0))) := ⟨by rw [← hq_]; exact eW⟩; have n4_ : aC (yW.heap[bC]? = some (.cells #[.slice qI dB.length qN, .slice BX bM.length CI] 26 (0, 0))) := ⟨by rw [← hq_]; exact iD⟩; have n5_ : aC (Below w.heap.size w yW) := ⟨by rw [← hq_]; exact fW⟩; clear gG fD a6 aQ aV HB hq_; have gG := n0_; have fD := n1_; have a6 := n2_; have aQ := n3_; have aV := n4_; have HB := n5_; clear n0_ n1_ n2_ n3_ n4_ n5_)); have aIE := cz2 aV; have aIF := cz2 aQ) | ((with_reducible refine gC 31 ?_); revert xv; intro xv; refine cQ (some 13) Tryz.func31 (aN.calls k _ _ aZ _ _ aI false _ (pB dT) dS.1 (pB bV) eS.1 A4.out) ?_; rintro aP2 hb; replace a6 := bB d3 hb; replace aQ := bB eW hb; replace HB := bS kO hb; clear hb; have aIG := cz2 aQ))
 ·refine cT bK 26 #[.slice qI dB.length qN, .slice BX bM.length CI] (qP aQ) Tryz.underlying26 ?_
  exact ⟨_, _, eR, mR gG aQ, by refine rN ?_; exact Kd.aJ (fN (fN (Kd.aJ fD.1 (fun k_ hk => (⟨hk, hk.1.2.2.2⟩ : _ ∧ k_ ≠ bK))))) (fun _ hk => ⟨hk.1.1.1, hk.1.1.2.1⟩), fW⟩
 ·refine cT bK 26 #[.slice qI dB.length qN, .slice BX bM.length CI] (qP aQ) Tryz.underlying26 ?_
  exact ⟨_, _, eR, mR gG aQ, by refine rN ?_; exact Kd.aJ (fN (fN (Kd.aJ fD.1 (fun k_ hk => (⟨hk, hk.1.2.2.2⟩ : _ ∧ k_ ≠ bK))))) (fun _ hk => ⟨hk.1.1.1, hk.1.1.2.1⟩), fW⟩
 ·go_loopg [11] k (fun kq v11 w' => ∃ (sH : Int) (bG : List (S52)) (eQ : List (S52)) (nN : Value) (RQ : Value), v11 = .int .i64 sH ∧ aC (fA.l0 kq l2 bZ sH aZ aI dB bG xW eQ = some (r1, r2, r3)) ∧ aC (kq ≤ k) ∧ aC (Kd.R Kd.string 9 w' w.heap.size (F10 w (.slice BZ xW.length CJ)) (.slice qI dB.length qN) dB) ∧ aC (Kd.N k52 52 w' w.heap.size (F34 w (.slice qI dB.length qN) (.slice BZ xW.length CJ) RQ aW bK bC CL) nN bG) ∧ aC (Kd.R Kd.string 9 w' w.heap.size (F10 w (.slice qI dB.length qN)) (.slice BZ xW.length CJ) xW) ∧ aC (Kd.N k52 52 w' w.heap.size (F34 w (.slice qI dB.length qN) nN (.slice BZ xW.length CJ) aW bK bC CL) RQ eQ) ∧ aC (w'.heap[aW]? = some (.cells #[(.slice eE aZ.length eF), (.slice (some oR) aI.length eC)] 26 (0, 0))) ∧ aC (w'.heap[bK]? = some (.cells #[(.slice none 0 0), (.slice none 0 0)] 26 (0, 0))) ∧ aC (w'.heap[bC]? = some (.cells #[(.slice qI dB.length qN), nN] 26 (0, 0))) ∧ aC (w'.heap[CL]? = some (.cells #[(.slice BZ xW.length CJ), RQ] 26 (0, 0))) ∧ aC (Below w.heap.size w w'))
  case atStart => exact ⟨(0), (bM), (yK), (.slice BX bM.length CI), (.slice fv yK.length mf), dU, H', ⟨Nat.le_refl _⟩, ⟨by refine rR ?_; exact Kd.aT (fR (fR (tR gG rO))) (fun _ hk => ⟨hk.1.1.1, hk.1.2⟩)⟩, ⟨by refine rN ?_; exact Kd.aJ (fN (fN (Kd.aJ fD.1 (fun k_ hk => (⟨hk, hk.2⟩ : _ ∧ k_ ≠ CL))))) (fun _ hk => ⟨hk.1.1.1.1.1.1, ⟨hk.1.1.1.1.1.2.1, ⟨hk.1.1.1.2, ⟨hk.1.1.2, ⟨hk.1.1.1.1.1.2.2.1, ⟨hk.1.1.1.1.1.2.2.2, ⟨hk.1.1.1.1.2, hk.1.2⟩⟩⟩⟩⟩⟩⟩)⟩, ⟨by refine rR ?_; exact Kd.aT (fR (fR (tR wR rO))) (fun _ hk => ⟨hk.1.1.1, hk.1.2⟩)⟩, ⟨by refine rN ?_; exact Kd.aJ (fN (fN (Kd.aJ vF.1 (fun k_ hk => (⟨hk, hk.2⟩ : _ ∧ k_ ≠ CL))))) (fun _ hk => ⟨hk.1.1.1, ⟨hk.1.1.2.2.1, ⟨hk.1.1.2.2.2.1, ⟨hk.1.1.2.1, ⟨hk.1.1.2.2.2.2.1, ⟨hk.1.1.2.2.2.2.2.1, ⟨hk.1.1.2.2.2.2.2.2, hk.1.2⟩⟩⟩⟩⟩⟩⟩)⟩, ⟨qF a6 EN⟩, ⟨qF aQ J7⟩, ⟨qF aV JA⟩, ⟨qP rO⟩, ⟨D8⟩⟩
  clear H'
  try clear c2
  try clear c5
  try clear H3
  try clear SV
  try clear SW
  try clear bj
  try clear c31
  try clear yy
  try clear yz
  try clear za
  try clear zb
  try clear zc
  try clear ze
  try clear zf
  try clear zg
  try clear yA BL BM
  try clear UK UU
  obtain ⟨sH, bG, eQ, nN, RQ, rfl, HA, HK1, aH, aD, kD, fL, a6, aQ, aV, rO, HB⟩ := hrel
  cases gk with
  | zero => exact absurd HA.out (by simp [fA.l0])
  | succ k1 =>
   have H := HA.out
   clear HA
   simp only [fA.l0] at H
   refine ic H ?_ ?_ <;> clear H <;> intro aKX H
   obtain ⟨a0I, H⟩ := cN H
   obtain ⟨aKY, H⟩ := cN H
   obtain ⟨aKZ, H⟩ := cN H
   have HF := am H
   clear H
   rotate_left
   obtain ⟨Cv, A90, H⟩ := bd H
   refine tC H ?_ ?_ <;> clear H <;> intro c91 H <;> subst c91
   obtain ⟨zN, Zc, H⟩ := bd H
   refine tC H ?_ ?_ <;> clear H <;> intro c93 H <;> subst c93
   obtain ⟨⟨Tu, a3O⟩, A94, H⟩ := bd H
   dsimp only at H
   obtain ⟨rfl, rfl, rfl⟩ := sZ3 H
   repeat clear H
   have Z95 := nZ3 dJ dL fM gJ EN JD
   have Z98 := cz2 a6
   have Oz := trivial
   have Hp := trivial
   rotate_left
   obtain ⟨rfl, rfl, rfl⟩ := sZ3 H
   repeat clear H
   have yn := nZ3 dJ dL fM gJ EN JD
   have aB9 := cz2 a6
   have Oz := trivial
   have Zy := trivial
   rotate_left
   obtain ⟨⟨IU, Gp⟩, aA6, H⟩ := bd H
   dsimp only at H
   obtain ⟨rfl, rfl, rfl⟩ := sZ3 H
   repeat clear H
   have aBC := nZ3 dJ dL fM gJ EN JD
   have aR3 := cz2 a6
   have Hq := trivial
   rotate_left
   all_goals
    try go_wp2_with (first | ((with_reducible refine gC 42 ?_); revert Oz; intro Oz; refine cQ (some 64) Tryz.func42 (mG.calls k1 _ _ aZ _ _ aI true _ (pB dT) dS.1 (pB bV) eS.1 A90.out) ?_; rintro aP3 hb; replace aH := RB fU hb; replace aD := NE lE hb; replace kD := RB F6 hb; replace fL := NE KP hb; replace a6 := bB d3 hb; replace aQ := bB eW hb; replace aV := bB iD hb; replace rO := bB UQ hb; replace HB := bS D8 hb; clear hb; have aII := nZ2 OO J7 OP JA; have aIJ := cz2 rO; obtain ⟨fx, mh, nv⟩ := Kd.gM fL.1; subst nv) | (go_at_call 42; revert Hp; intro Hp; revert Zc; intro Zc; refine cM (mG.calls k1 _ _ xW _ _ eQ true _ (pC (Kd.bH kD.1).2.2) ((Kd.bH kD.1).2.1) (pC (Kd.d9 fL.1).2.2) ((Kd.d9 fL.1).2.1) Zc.out) ?_; rintro aP4 hb; replace aH := RB fU hb; replace aD := NE lE hb; replace kD := RB F6 hb; replace fL := NE KP hb; replace a6 := bB d3 hb; replace aQ := bB eW hb; replace aV := bB iD hb; replace rO := bB UQ hb; replace HB := bS D8 hb; clear hb; have aIK := cz2 rO; clear Zc) | ((with_reducible refine gC 32 ?_); revert Hp; intro Hp; refine cE (some 72) Tryz.func32 (dP.calls k1 _ _ xW _ _ eQ Tu a3O _ (pC (Kd.bH kD.1).2.2) ((Kd.bH kD.1).2.1) (pC (Kd.d9 fL.1).2.2) ((Kd.d9 fL.1).2.1) A94.out) ?_; rintro e aP5 ⟨v131, aTJ, rfl, eH, lW, hb⟩; refine ⟨_, rfl, ?_⟩; have ZT := am (Kd.dO (Kd.fF (Kd.fF (Kd.pX (M := fun k_ => (w.heap.size ≤ k_)) eH (aG D8) (fun k_ h_ => h_)) (Kd.R_lt fU)) (Kd.R_lt F6)) (aG D8)); have Zn := am (Kd.jK (Kd.aJ (ok' := F54 w v131 (.slice qI dB.length qN) nN (.slice BZ xW.length CJ) (.slice fx eQ.length mh) aW bK bC CL) (Kd.S_N (Kd.lG lW)) (fun k_ hk_ => ⟨(Nat.le_trans (aG D8) hk_.2.1), hk_.1, (Kd.fresh' (Kd.R_lt fU) k_ hk_.2.1), (Kd.fresh' (Kd.N_lt lE) k_ hk_.2.1), (Kd.fresh' (Kd.R_lt F6) k_ hk_.2.1), (Kd.fresh' (Kd.N_lt KP) k_ hk_.2.1), (fB d3 k_ hk_.2.1), (fB eW k_ hk_.2.1), (fB iD k_ hk_.2.1), (fB UQ k_ hk_.2.1)⟩)) (aG D8)); replace aH := am (Kd.dV fU (Kd.bT eH) hb); replace aD := am (Kd.aJ (Kd.eY (Kd.eY (Kd.mZ lE hb) (Kd.bT eH)) kN) (fun _ h_ => h_.1)); replace kD := am (Kd.dV F6 (Kd.bT eH) hb); replace fL := am (Kd.aJ (Kd.eY (Kd.eY (Kd.mZ KP hb) (Kd.bT eH)) kN) (fun _ h_ => h_.1)); replace a6 := bB d3 hb; replace aQ := bB eW hb; replace aV := bB iD hb; replace rO := bB UQ hb; replace HB := bS D8 hb; clear hb eH lW; obtain ⟨fy, mi, nw⟩ := Kd.cZ ZT.1; subst nw; have aIL := nZ1 g4 iL; have aIM := cz2 aQ; obtain ⟨fz, mj, nx⟩ := Kd.gM Zn.1; subst nx) | (go_at_call 42; revert Zy; intro Zy; revert Zc; intro Zc; refine cM (mG.calls k1 _ _ xW _ _ eQ false _ (pC (Kd.bH kD.1).2.2) ((Kd.bH kD.1).2.1) (pC (Kd.d9 fL.1).2.2) ((Kd.d9 fL.1).2.1) Zc.out) ?_; rintro aP6 hb; replace aH := RB fU hb; replace aD := NE lE hb; replace kD := RB F6 hb; replace fL := NE KP hb; replace a6 := bB d3 hb; replace aQ := bB eW hb; replace aV := bB iD hb; replace rO := bB UQ hb; replace HB := bS D8 hb; clear hb; have aIN := nZ1 iL g4; have aIO := cz2 aV; have aIP := cz2 aQ; obtain ⟨ga, ml, ny⟩ := Kd.gM aD.1; subst ny; clear Zc) | ((with_reducible refine gC 42 ?_); revert Hq; intro Hq; refine cQ (some 64) Tryz.func42 (mG.calls k1 _ _ aZ _ _ aI false _ (pB dT) dS.1 (pB bV) eS.1 A90.out) ?_; rintro aP7 hb; replace aH := RB fU hb; replace aD := NE lE hb; replace kD := RB F6 hb; replace fL := NE KP hb; replace a6 := bB d3 hb; replace aQ := bB eW hb; replace aV := bB iD hb; replace rO := bB UQ hb; replace HB := bS D8 hb; clear hb; have aIQ := nZ2 OO J7 OP JA; have aIR := cz2 rO; obtain ⟨gf, mm, nz⟩ := Kd.gM fL.1; subst nz) | ((with_reducible refine gC 32 ?_); revert Hq; intro Hq; refine cE (some 72) Tryz.func32 (dP.calls k1 _ _ xW _ _ eQ IU Gp _ (pC (Kd.bH kD.1).2.2) ((Kd.bH kD.1).2.1) (pC (Kd.d9 fL.1).2.2) ((Kd.d9 fL.1).2.1) aA6.out) ?_; rintro e aP8 ⟨sd, aFM, rfl, eH, lW, hb⟩; refine ⟨_, rfl, ?_⟩; have ZV := am (Kd.dO (Kd.fF (Kd.fF (Kd.pX (M := fun k_ => (w.heap.size ≤ k_)) eH (aG D8) (fun k_ h_ => h_)) (Kd.R_lt fU)) (Kd.R_lt F6)) (aG D8)); have ZW := am (Kd.jK (Kd.aJ (ok' := F54 w sd (.slice qI dB.length qN) nN (.slice BZ xW.length CJ) (.slice gf eQ.length mm) aW bK bC CL) (Kd.S_N (Kd.lG lW)) (fun k_ hk_ => ⟨(Nat.le_trans (aG D8) hk_.2.1), hk_.1, (Kd.fresh' (Kd.R_lt fU) k_ hk_.2.1), (Kd.fresh' (Kd.N_lt lE) k_ hk_.2.1), (Kd.fresh' (Kd.R_lt F6) k_ hk_.2.1), (Kd.fresh' (Kd.N_lt KP) k_ hk_.2.1), (fB d3 k_ hk_.2.1), (fB eW k_ hk_.2.1), (fB iD k_ hk_.2.1), (fB UQ k_ hk_.2.1)⟩)) (aG D8)); replace aH := am (Kd.dV fU (Kd.bT eH) hb); replace aD := am (Kd.aJ (Kd.eY (Kd.eY (Kd.mZ lE hb) (Kd.bT eH)) kN) (fun _ h_ => h_.1)); replace kD := am (Kd.dV F6 (Kd.bT eH) hb); replace fL := am (Kd.aJ (Kd.eY (Kd.eY (Kd.mZ KP hb) (Kd.bT eH)) kN) (fun _ h_ => h_.1)); replace a6 := bB d3 hb; replace aQ := bB eW hb; replace aV := bB iD hb; replace rO := bB UQ hb; replace HB := bS D8 hb; clear hb eH lW; obtain ⟨gh, mn, oa⟩ := Kd.cZ ZV.1; subst oa; have aIS := nZ1 g4 iL; have aIT := cz2 aQ; obtain ⟨gi, mo, oc⟩ := Kd.gM ZW.1; subst oc))
   ·replace aH := RD aH
    replace aD := ND aD
    replace kD := RD kD
    replace fL := ND fL
    replace a6 := BD a6
    replace aQ := BD aQ
    replace aV := BD aV
    replace rO := BD rO
    replace HB := am (aY HB.1)
    obtain ⟨aQQ, Qz, a1R⟩ := Kd.gM fL.1
    (first | subst a1R | (obtain ⟨f4_, f5_⟩ := sj a1R; subst f4_; subst f5_))
    have Te : 0 ≤ (bZ : Int) := oT
    have Tj : bZ < (eQ.length : Int) := oT
    obtain ⟨SO, RS, ST, fo, lr, mv, NH, NI, NJ, Jl, Je, Jm, Jf⟩ := CB (Kd.d9 fL.1).2.2 bZ Te Tj
    cases mv
    obtain ⟨ce122, hce122, hMe122, hcc122⟩ := Kd.Hu fL.1 z52 bZ Te (by first | exact Tj | exact oT | (have e_ := (Kd.d9 fL.1).1; omega))
    obtain ⟨ua122_1, uc122_1, ua122_2, uc122_2, rfl, ZH, XW, ZI, XX⟩ := wE hMe122
    have RE := hcc122 1 _ rfl
    rw [tF _ _ 1 (by omega)] at RE
    replace RE := Option.some.inj (RE.symm.trans NI)
    injection RE with hva_ hvn_ hvc_
    rw [hva_] at XW
    rw [hvc_] at ZH
    have R1 := am (show Kd.V Kd.string 9 _ w.heap.size _ _ ((aA eQ bZ).f1) from Kd.V_mk ZH XW)
    clear hva_ hvn_ hvc_ XW ZH
    have RF := hcc122 2 _ rfl
    rw [tF _ _ 2 (by omega)] at RF
    replace RF := Option.some.inj (RF.symm.trans NJ)
    injection RF with hva_ hvn_ hvc_
    rw [hva_] at XX
    rw [hvc_] at ZI
    have R2 := am (show Kd.V Kd.string 9 _ w.heap.size _ _ ((aA eQ bZ).f2) from Kd.V_mk ZI XX)
    clear hva_ hvn_ hvc_ XX ZI
    clear hcc122 hce122
    have x8 := am Je
    have Hi := am Jl
    clear Je Jl
    have FJ := am Jf
    have a4X := am Jm
    clear Jf Jm
    replace Te := eq_true Te
    replace Tj := eq_true Tj
    obtain ⟨zo, aCX, YF, Xp, aT6, aT8⟩ := aSw B0 HB sH
    cases aCX
    refine sT (S := fun w' => w'.cell? ⟨CL, 0, none⟩ = some (.slice BZ xW.length CJ) ∧ w'.cell? ⟨CL, 1, none⟩ = some (.slice (some SO) eQ.length Qz) ∧ w'.cell? (SO.add ((bZ).toNat * 3)) = some (.string ((aA eQ bZ).f0)) ∧ w'.cell? ⟨(SO.add ((bZ).toNat * 3)).block, (SO.add ((bZ).toNat * 3)).off + 1, none⟩ = some (.slice RS ((aA eQ bZ).f1).length ST) ∧ w'.cell? ⟨(SO.add ((bZ).toNat * 3)).block, (SO.add ((bZ).toNat * 3)).off + 2, none⟩ = some (.slice fo ((aA eQ bZ).f2).length lr) ∧ w'.cell? (zo.add (sH).toNat) = some (.string (rdOf ByteArray.empty l2 sH))) [16] 17 ⟨⟨(bP rO.1 0).trans rfl, (bP rO.1 1).trans rfl, NH, NI, NJ, (hX HB YF)⟩⟩ (fun hHeld => ?_)
    refine fP fA.Tx fA.Eh (fun HT_ HW_ => ?_)
    generalize wr.drew = w86 at aH aD kD fL a6 aQ aV rO HB R1 R2 x8 FJ NH NI NJ Xp hHeld ⊢
    refine pU7 0 2 3 5 9 10 11 ?_
    refine tK6 1 (some 48) ?_
    refine tK6 4 (some 51) ?_
    refine pU2 6 7 ?_
    refine tK6 8 (some 55) ?_
    refine tK6 12 (some 59) ?_
    have H := HF.out
    clear HF
    by_cases cF : insF (rdOf ByteArray.empty l2 sH) ((aA eQ bZ).f1) = true
    ·rw [if_pos cF] at H
     have H' := am H
     repeat clear H
     have A84 := am (show dK.q0 (((aA eQ bZ).f1).length + 1) ((aA eQ bZ).f1) (rdOf ByteArray.empty l2 sH) 0 = some true from dK.ed ((aA eQ bZ).f1) (rdOf ByteArray.empty l2 sH) x8.1.2.1 ((aA eQ bZ).f1).length 0 (by omega) (by simpa using cF))
     refine oN 13 (some 60) fun K hK => ?_
     refine GZ Tryz.func41 (by kernel_rfl) rfl #[.slice RS ((aA eQ bZ).f1).length ST, .string (rdOf ByteArray.empty l2 sH)] (by rfl) rfl rfl AS ?_
     with_reducible refine (dK.same (((aA eQ bZ).f1).length + 1) _ _ ((aA eQ bZ).f1) (rdOf ByteArray.empty l2 sH) _ ?side1 ?side2 A84.out).mono ?_
     (case side1 => exact (by repeat (first | (with_reducible exact x8.1) | (with_reducible refine Kd.nW ?_ _) | (with_reducible refine Kd.nX ?_ _) | (with_reducible refine Kd.pO ?_) | exact x8.1)))
     (case side2 => exact Hi.1)
     rintro e w88 ⟨rfl, hb⟩
     have HS2_ := (hb.cell (World.block_lt_of_cell? _ _ (hHeld.2.2.1))).trans (hHeld.2.2.1)
     have HS3_ := (hb.cell (World.block_lt_of_cell? _ _ (hHeld.2.2.2.1))).trans (hHeld.2.2.2.1)
     have HS4_ := (hb.cell (World.block_lt_of_cell? _ _ (hHeld.2.2.2.2.1))).trans (hHeld.2.2.2.2.1)
     refine ⟨_, rfl, ?_⟩
     replace aH := RB fU hb
     replace aD := NE lE hb
     replace kD := RB F6 hb
     replace fL := NE KP hb
     replace a6 := bB d3 hb
     replace aQ := bB eW hb
     replace aV := bB iD hb
     replace rO := bB UQ hb
     replace x8 := am (Kd.aU (by repeat (first | (with_reducible exact x8.1) | (with_reducible refine Kd.nW ?_ _) | (with_reducible refine Kd.nX ?_ _) | (with_reducible refine Kd.pO ?_) | exact x8.1)) hb)
     replace FJ := am (Kd.aU (by repeat (first | (with_reducible exact FJ.1) | (with_reducible refine Kd.nW ?_ _) | (with_reducible refine Kd.nX ?_ _) | (with_reducible refine Kd.pO ?_) | exact FJ.1)) hb)
     replace HB := bS D8 hb
     clear R1
     clear R2
     clear hb
     have qo : 0 ≤ (bZ : Int) := oT
     have rc : (bZ : Int) < ((eQ.length : Int) : Int) := oT
     obtain ⟨AQ, aCR, Rk, Rm, gl85, cl85, HG85⟩ := Kd.Dz fL.1 (by omega)
     (first | cases Rk | (injection Rk with ea_ en_ ec_; (first | subst ea_ | (injection ea_ with ea_; subst ea_)); subst ec_; clear en_))
     have GB85 := am Rm
     have GG85 := am HG85
     clear Rm gl85 HG85
     (first | simp only [add_plain] at NH | skip)
     (first | simp only [add_plain] at NI | skip)
     (first | simp only [add_plain] at NJ | skip)
     obtain ⟨ce85, hcl85, hM85, hcc85, hfr85⟩ := Kd.L8 fL.1 z52 (bZ : Int) qo rc
     obtain ⟨ua85_1, uc85_1, ua85_2, uc85_2, rfl, rz, pc, sa, pd⟩ := wE hM85
     have pt : World.cell? _ ⟨AQ, (bZ : Int).toNat * 3, none⟩ = some (.string ((aA eQ bZ).f0)) := hcc85 0 _ rfl
     have pu : World.cell? _ ⟨AQ, (bZ : Int).toNat * 3 + 1, none⟩ = some (.slice ua85_1 ((aA eQ bZ).f1).length uc85_1) := hcc85 1 _ rfl
     have pv : World.cell? _ ⟨AQ, (bZ : Int).toNat * 3 + 2, none⟩ = some (.slice ua85_2 ((aA eQ bZ).f2).length uc85_2) := hcc85 2 _ rfl
     have hf85_0 : World.frozen? _ ⟨AQ, (bZ : Int).toNat * 3, none⟩ = false := hfr85 0
     have hf85_1 : World.frozen? _ ⟨AQ, (bZ : Int).toNat * 3 + 1, none⟩ = false := hfr85 1
     have hf85_2 : World.frozen? _ ⟨AQ, (bZ : Int).toNat * 3 + 2, none⟩ = false := hfr85 2
     clear hcl85 hcc85 hfr85 hM85
     replace qo := eq_true qo
     replace rc := eq_true rc
     refine hK.out _ _ ⟨(bP rO.1 0).trans rfl, (bP rO.1 1).trans rfl, HS2_, HS3_, HS4_, (hX HB YF)⟩ (fun hHeld => ?_)
     clear hK K
     refine nM ?_
     refine pU2 14 15 ?_
     refine lN 16 none fun K hK => ?_
     have hst_ : w88.cell? ⟨AQ, (bZ : Int).toNat * 3 + 1, none⟩ = some (.slice RS ((aA eQ bZ).f1).length ST) := by
      have h_ := HS3_
      simp only [add_plain] at h_
      exact h_
     refine AC (w1 := (w88.setCell ⟨AQ, (bZ : Int).toNat * 3 + 1, none⟩ (.slice RS ((aA eQ bZ).f1).length ST))) (by rfl) rfl ?_ ?_
     ·go_simp
      (try rfl)
     refine hK.out _ _ ?_
     clear hK K
     refine dN ?_
     rw [YZ hst_]
     try go_wp2
     go_roundg k1
     case measure => have := HK1.out; omega
     case rel => exact ⟨(wrap64 (sH + 1)), (bG), (eQ), (nN), (.slice (some ⟨AQ, 0, none⟩) eQ.length Qz), rfl, H', ⟨by have := HK1.out; omega⟩, aH, aD, kD, fL, a6, aQ, aV, rO, HB⟩
    ·rw [if_neg cF] at H
     obtain ⟨PL, A84, H⟩ := bd H
     obtain ⟨V1, SF⟩ := yv (eQ.set (bZ : Int).toNat (⟨(aA eQ bZ).f0, PL, (aA eQ bZ).f2⟩ : S52)); first | replace H := bW SF H | rw [← SF.1] at H
     have H' := am H
     repeat clear H
     refine oN 13 (some 60) fun K hK => ?_
     refine GZ Tryz.func41 (by kernel_rfl) rfl #[.slice RS ((aA eQ bZ).f1).length ST, .string (rdOf ByteArray.empty l2 sH)] (by rfl) rfl rfl AS ?_
     with_reducible refine (dK.calls k1 _ _ ((aA eQ bZ).f1) (rdOf ByteArray.empty l2 sH) PL _ ?side1 ?side2 A84.out).mono ?_
     (case side1 => exact (by repeat (first | (with_reducible exact x8.1) | (with_reducible refine Kd.nW ?_ _) | (with_reducible refine Kd.nX ?_ _) | (with_reducible refine Kd.pO ?_) | exact x8.1)))
     (case side2 => exact Hi.1)
     rintro e w88 ⟨K6, rfl, eH, hb⟩
     have HS2_ := (hb.cell (World.block_lt_of_cell? _ _ (hHeld.2.2.1))).trans (hHeld.2.2.1)
     have HS3_ := (hb.cell (World.block_lt_of_cell? _ _ (hHeld.2.2.2.1))).trans (hHeld.2.2.2.1)
     have HS4_ := (hb.cell (World.block_lt_of_cell? _ _ (hHeld.2.2.2.2.1))).trans (hHeld.2.2.2.2.1)
     refine ⟨_, rfl, ?_⟩
     replace aD := am (Kd.rW lE (Kd.bT eH) hb)
     replace fL := am (Kd.rW KP (Kd.bT eH) hb)
     replace R1 := am (Kd.pI (rV R1.out) (Kd.bT eH) hb)
     replace R2 := am (Kd.pI (rV R2.out) (Kd.bT eH) hb)
     have DD := am (Kd.dO (Kd.fF (Kd.fF (Kd.pX (M := fun k_ => (w.heap.size ≤ k_)) eH (aG D8) (fun k_ h_ => h_)) (Kd.R_lt fU)) (Kd.R_lt F6)) (aG D8))
     replace aH := am (Kd.dV fU (Kd.bT eH) hb)
     replace kD := am (Kd.dV F6 (Kd.bT eH) hb)
     replace a6 := bB d3 hb
     replace aQ := bB eW hb
     replace aV := bB iD hb
     replace rO := bB UQ hb
     replace x8 := am (Kd.aU (by repeat (first | (with_reducible exact x8.1) | (with_reducible refine Kd.nW ?_ _) | (with_reducible refine Kd.nX ?_ _) | (with_reducible refine Kd.pO ?_) | exact x8.1)) hb)
     replace FJ := am (Kd.aU (by repeat (first | (with_reducible exact FJ.1) | (with_reducible refine Kd.nW ?_ _) | (with_reducible refine Kd.nX ?_ _) | (with_reducible refine Kd.pO ?_) | exact FJ.1)) hb)
     replace HB := bS D8 hb
     clear hb eH
     have qo : 0 ≤ (bZ : Int) := oT
     have rc : (bZ : Int) < ((eQ.length : Int) : Int) := oT
     obtain ⟨AQ, aCR, Rk, Rm, gl85, cl85, HG85⟩ := Kd.Dz fL.1 (by omega)
     (first | cases Rk | (injection Rk with ea_ en_ ec_; (first | subst ea_ | (injection ea_ with ea_; subst ea_)); subst ec_; clear en_))
     have GB85 := am Rm
     have GG85 := am HG85
     clear Rm gl85 HG85
     (first | simp only [add_plain] at NH | skip)
     (first | simp only [add_plain] at NI | skip)
     (first | simp only [add_plain] at NJ | skip)
     obtain ⟨ce85, hcl85, hM85, hcc85, hfr85⟩ := Kd.L8 fL.1 z52 (bZ : Int) qo rc
     obtain ⟨ua85_1, uc85_1, ua85_2, uc85_2, rfl, rz, pc, sa, pd⟩ := wE hM85
     have pt : World.cell? _ ⟨AQ, (bZ : Int).toNat * 3, none⟩ = some (.string ((aA eQ bZ).f0)) := hcc85 0 _ rfl
     have pu : World.cell? _ ⟨AQ, (bZ : Int).toNat * 3 + 1, none⟩ = some (.slice ua85_1 ((aA eQ bZ).f1).length uc85_1) := hcc85 1 _ rfl
     have pv : World.cell? _ ⟨AQ, (bZ : Int).toNat * 3 + 2, none⟩ = some (.slice ua85_2 ((aA eQ bZ).f2).length uc85_2) := hcc85 2 _ rfl
     have hf85_0 : World.frozen? _ ⟨AQ, (bZ : Int).toNat * 3, none⟩ = false := hfr85 0
     have hf85_1 : World.frozen? _ ⟨AQ, (bZ : Int).toNat * 3 + 1, none⟩ = false := hfr85 1
     have hf85_2 : World.frozen? _ ⟨AQ, (bZ : Int).toNat * 3 + 2, none⟩ = false := hfr85 2
     clear hcl85 hcc85 hfr85 hM85
     replace qo := eq_true qo
     replace rc := eq_true rc
     have HX89 := am (show Kd.N k52 52 _ w.heap.size (F44 w (.slice qI dB.length qN) nN (.slice BZ xW.length CJ) K6 aW bK bC CL) (.slice (some ⟨AQ, 0, none⟩) eQ.length Qz) eQ from (Kd.aJ (fL.1) (fun k_ hk => ⟨hk.1.1, ⟨hk.1.2.1, ⟨hk.1.2.2.1, ⟨hk.1.2.2.2.1, ⟨hk.2, ⟨hk.1.2.2.2.2.1, ⟨hk.1.2.2.2.2.2.1, ⟨hk.1.2.2.2.2.2.2.1, hk.1.2.2.2.2.2.2.2⟩⟩⟩⟩⟩⟩⟩⟩)))
     replace HX89 := am (show Kd.N k52 52 _ w.heap.size (F34 w (.slice qI dB.length qN) nN (.slice BZ xW.length CJ) aW bK bC CL) (.slice (some ⟨AQ, 0, none⟩) eQ.length Qz) eQ from Kd.aJ HX89.out (fun k_ hk => ⟨hk.1, ⟨hk.2.1, ⟨hk.2.2.1, ⟨hk.2.2.2.1, ⟨hk.2.2.2.2.2.1, ⟨hk.2.2.2.2.2.2.1, ⟨hk.2.2.2.2.2.2.2.1, hk.2.2.2.2.2.2.2.2⟩⟩⟩⟩⟩⟩⟩))
     obtain ⟨ce89, hcl89, hM89, hcc89, hfr89⟩ := Kd.L8 HX89.out z52 (bZ : Int) (oT) (by have h_ : (bZ : Int) < ((eQ.length : Int) : Int) := oT; first | exact h_ | (have e_ := (Kd.d9 fL.1).1; omega) | simpa using h_)
     obtain ⟨ua89_1, uc89_1, ua89_2, uc89_2, rfl, aFF, aE1, sb, pe⟩ := wE hM89
     have HP89 := (Kd.Ph HX89.out (bZ : Int) (oT) (by have h_ : (bZ : Int) < ((eQ.length : Int) : Int) := oT; first | exact h_ | (have e_ := (Kd.d9 fL.1).1; omega) | simpa using h_) (seg := [K6]) (j := 1) hcl89 hcc89 (show 2 ≤ 3 from by decide) (x' := (⟨(aA eQ bZ).f0, PL, (aA eQ bZ).f2⟩ : S52)) (Bw _ _ (⟨(aA eQ bZ).f0, PL, (aA eQ bZ).f2⟩ : S52) (Kd.aT (ok' := (fun k_ => ((F34 w (.slice qI dB.length qN) nN (.slice BZ xW.length CJ) aW bK bC CL)) k_ ∧ k_ ≠ AQ)) (Kd.gZ (Kd.gZ (Kd.gZ (Kd.gZ (Kd.iU (Kd.iU (DD.1) (Kd.lZ aD.1) (by decide)) (Kd.lZ fL.1) (by decide)) a6.1 (by decide)) aQ.1 (by decide)) aV.1 (by decide)) rO.1 (by decide)) (fun k_ hk => ⟨⟨hk.1.1.1.1.1.1.1.1.1, ⟨hk.1.1.1.1.1.1.1.2, ⟨hk.1.1.1.1.1.2, ⟨hk.1.1.1.1.1.1.2, ⟨hk.1.1.1.2, ⟨hk.1.1.2, ⟨hk.1.2, hk.2⟩⟩⟩⟩⟩⟩⟩, fun e_ => (hk.1.1.1.1.2) (by rw [e_]; rfl)⟩)) sb pe) (fun _ hk => hk)).1
     rw [← SF.out] at HP89
     have HQ89 := am HP89
     clear hcl89 hcc89 hfr89 hM89 HP89
     refine hK.out _ _ ⟨(bP rO.1 0).trans rfl, (bP rO.1 1).trans rfl, HS2_, HS3_, HS4_, (hX HB YF)⟩ (fun hHeld => ?_)
     clear hK K
     refine nM ?_
     refine pU2 14 15 ?_
     refine lN 16 none fun K hK => ?_
     refine AC (w1 := (w88.setCell ⟨AQ, (bZ : Int).toNat * 3 + 1, none⟩ (K6))) (by rfl) rfl ?_ ?_
     skip
     ·obtain ⟨Az_, cz_, ez_⟩ := Kd.cZ DD.1
      subst ez_
      go_simp
      (try rfl)
     refine hK.out _ _ ?_
     clear hK K
     refine dN ?_
     try go_wp2
     go_roundg k1
     case measure => have := HK1.out; omega
     case rel => exact ⟨(wrap64 (sH + 1)), (bG), (V1), (nN), (.slice (some ⟨AQ, 0, none⟩) eQ.length Qz), dU, H', ⟨by have := HK1.out; omega⟩, ⟨by refine rR ?_; exact Kd.aT (Kd.u6 (p := ⟨AQ, (bZ : Int).toNat * 3 + 1, none⟩) (tR aH GG85) (fun _ hk => hk.2) (K6)) (fun _ hk => ⟨hk.1.1.1, hk.1.1.2⟩)⟩, ⟨by refine rN ?_; exact Kd.aJ (Kd.I1 (p := ⟨AQ, (bZ : Int).toNat * 3 + 1, none⟩) (Kd.aJ aD.1 (fun k_ hk => (⟨hk, fun e_ => hk.1.2.2.2.1 (by rw [e_]; rfl)⟩ : _ ∧ k_ ≠ AQ))) (fun _ hk => hk.2) (K6)) (fun _ hk => ⟨hk.1.1.1, ⟨hk.1.1.2.1, ⟨hk.1.1.2.2.1, ⟨hk.1.1.2.2.2.1, ⟨hk.1.1.2.2.2.2.1, ⟨hk.1.1.2.2.2.2.2.1, ⟨hk.1.1.2.2.2.2.2.2.1, hk.1.1.2.2.2.2.2.2.2⟩⟩⟩⟩⟩⟩⟩)⟩, ⟨by refine rR ?_; exact Kd.aT (Kd.u6 (p := ⟨AQ, (bZ : Int).toNat * 3 + 1, none⟩) (tR kD GG85) (fun _ hk => hk.2) (K6)) (fun _ hk => ⟨hk.1.1.1, hk.1.1.2⟩)⟩, ⟨rN HQ89.out⟩, ⟨by refine rB ?_; refine dD ?_ (by have h_ := Kd.HV fL.1 (fun _ hk => by first | exact hk.2.2.2.2.1 | exact hk.1.2.2.2.2.1); intro e_; exact h_ (by rw [e_]; rfl)) _; refine rB ?_; exact a6.1⟩, ⟨by refine rB ?_; refine dD ?_ (by have h_ := Kd.HV fL.1 (fun _ hk => by first | exact hk.2.2.2.2.2.1 | exact hk.1.2.2.2.2.2.1); intro e_; exact h_ (by rw [e_]; rfl)) _; refine rB ?_; exact aQ.1⟩, ⟨by refine rB ?_; refine dD ?_ (by have h_ := Kd.HV fL.1 (fun _ hk => by first | exact hk.2.2.2.2.2.2.1 | exact hk.1.2.2.2.2.2.2.1); intro e_; exact h_ (by rw [e_]; rfl)) _; refine rB ?_; exact aV.1⟩, ⟨by refine rB ?_; refine dD ?_ (by have h_ := Kd.HV fL.1 (fun _ hk => by first | exact hk.2.2.2.2.2.2.2 | exact hk.1.2.2.2.2.2.2.2); intro e_; exact h_ (by rw [e_]; rfl)) _; refine rB ?_; exact rO.1⟩, ⟨by repeat (first | (with_reducible first | exact HB.1 | apply cB | apply bA | apply aY | refine aK ?_ GB85.out | refine aK ?_ j5.1 | refine aK ?_ oI.1 | refine aK ?_ sO.1 | refine aK ?_ Zi.1) | exact HB.1)⟩⟩
   ·refine cT bK 26 #[.slice fy Tu.length mi, .slice fz a3O.length mj] (qP aQ) Tryz.underlying26 ?_
    exact ⟨_, _, eR, by refine rR ?_; exact Kd.aT (fR (fR (tR ZT aQ))) (fun _ hk => hk.1.1.1.1), by refine rN ?_; exact Kd.aJ (fN (fN (Kd.aJ Zn.1 (fun k_ hk => (⟨hk, hk.2.2.2.2.2.2.2.1⟩ : _ ∧ k_ ≠ bK))))) (fun _ hk => ⟨hk.1.1, hk.1.2.1⟩), D8⟩
   ·refine cT bK 26 #[.slice qI dB.length qN, .slice ga bG.length ml] (qP aQ) Tryz.underlying26 ?_
    exact ⟨_, _, eR, mR aH aQ, by refine rN ?_; exact Kd.aJ (fN (fN (Kd.aJ aD.1 (fun k_ hk => (⟨hk, hk.2.2.2.2.2.1⟩ : _ ∧ k_ ≠ bK))))) (fun _ hk => ⟨hk.1.1, hk.1.2.1⟩), D8⟩
   ·refine cT bK 26 #[.slice gh IU.length mn, .slice gi Gp.length mo] (qP aQ) Tryz.underlying26 ?_
    exact ⟨_, _, eR, by refine rR ?_; exact Kd.aT (fR (fR (tR ZV aQ))) (fun _ hk => hk.1.1.1.1), by refine rN ?_; exact Kd.aJ (fN (fN (Kd.aJ ZW.1 (fun k_ hk => (⟨hk, hk.2.2.2.2.2.2.2.1⟩ : _ ∧ k_ ≠ bK))))) (fun _ hk => ⟨hk.1.1, hk.1.2.1⟩), D8⟩
 ·refine cT bK 26 #[.slice qI dB.length qN, .slice BX bM.length CI] (qP aQ) Tryz.underlying26 ?_
  exact ⟨_, _, eR, mR gG aQ, by refine rN ?_; exact Kd.aJ (fN (fN (Kd.aJ fD.1 (fun k_ hk => (⟨hk, hk.1.2.2.2⟩ : _ ∧ k_ ≠ bK))))) (fun _ hk => ⟨hk.1.1.1, hk.1.1.2.1⟩), fW⟩
 refine cT bK 26 #[.slice none 0 0, .slice none 0 0] ue Tryz.underlying26 ?_
 exact ⟨_, _, eR, by first | exact Kd.sP _ _ _ _ _ | exact Kd.yR _ _ _ _ _ | exact Kd.yT _ _ _ _ _ | exact Kd.yS _ _ _ _ _ | exact Kd.wU _ _ _ _ _, by first | exact Kd.wU _ _ _ _ _ | exact Kd.yR _ _ _ _ _ | exact Kd.yT _ _ _ _ _ | exact Kd.yS _ _ _ _ _ | exact Kd.sP _ _ _ _ _, kO⟩
def vQ.f (k : Nat) (aZ : List ByteArray) (aI : List (S52)) (a1_0 : Int) (a1_1 : ByteArray) (OZ : List ByteArray) : Option (List ByteArray × (List (S52))) := if a1_0 = 1 then ((dC.f k aZ aI a1_1 OZ).bind fun a => (some (a.1, a.2.1))) else (if a1_0 = 2 then ((fA.f k aZ aI a1_1 OZ).bind fun b => (some (b.1, b.2.1))) else (if a1_0 = 3 then ((eT.f k aZ aI a1_1 OZ).bind fun c => (some (c.1, c.2.1))) else ((gI.f k aZ aI a1_1).bind fun d => (some (d.1, d.2.1)))))
theorem vQ.calls (k : Nat) (eE : Option Addr) (eF : Nat) (aZ : List ByteArray) (eV : Option Addr) (eC : Nat) (aI : List (S52)) (a1_0 : Int) (a1_1 : ByteArray) (fq : Option Addr) (lv : Nat) (OZ : List ByteArray) (r1 : List ByteArray) (r2 : List (S52)) (w : World) (gP : Kd.C Kd.string w eE aZ.length aZ) (gN : aZ.length ≤ eF) (gK : Kd.C k52 w eV aI.length aI) (gO : aI.length ≤ eC) (dx : Kd.C Kd.string w fq OZ.length OZ) (di : OZ.length ≤ lv) (h : vQ.f k aZ aI a1_0 a1_1 OZ = some (r1, r2)) :
  Calls Tryz.prog 23 #[.agg #[.slice eE aZ.length eF, .slice eV aI.length eC], .agg #[.int .i64 a1_0, .string a1_1, .slice fq OZ.length lv]] w fun e w' => ∃ v0_ v1_ : Value, e = .returned (.agg #[v0_, v1_]) ∧ Kd.R Kd.string 9 w' w.heap.size (fun k_ => (w.heap.size ≤ k_)) v0_ r1 ∧ Kd.N k52 52 w' w.heap.size (F10 w v0_) v1_ r2 ∧ Below w.heap.size w w' := by
 have hu26 := Tryz.underlying26
 have hu31 := Tryz.underlying31
 obtain ⟨dT, dS⟩ := mZ2 gP gN
 obtain ⟨bV, eS⟩ := mZ2 gK gO
 obtain ⟨Oq, Ol⟩ := mZ2 dx di
 clear gP gN gK gO dx di
 have HB := am (Below.refl w.heap.size w)
 unfold vQ.f at h
 have H := h
 clear h
 refine iq H ?_ ?_ <;> clear H <;> intro c3 FS Le H
 obtain ⟨⟨dB, bM, ZB⟩, A4, H⟩ := bd H
 dsimp only at H
 obtain ⟨rfl, rfl⟩ := sZ2 H
 repeat clear H
 have Zz := trivial
 rotate_left
 refine iq H ?_ ?_ <;> clear H <;> intro Ld I9 zz H
 obtain ⟨⟨bZ, O2, lC⟩, Nf, H⟩ := bd H
 dsimp only at H
 obtain ⟨rfl, rfl⟩ := sZ2 H
 repeat clear H
 have aa := trivial
 rotate_left
 refine iq H ?_ ?_ <;> clear H <;> intro c33 aK9 aKA H
 obtain ⟨⟨yK, tN, PL⟩, A34, H⟩ := bd H
 dsimp only at H
 obtain ⟨rfl, rfl⟩ := sZ2 H
 repeat clear H
 have ab := trivial
 rotate_left
 obtain ⟨⟨O3, Cv, t131⟩, A48, H⟩ := bd H
 dsimp only at H
 obtain ⟨rfl, rfl⟩ := sZ2 H
 repeat clear H
 have ac := trivial
 rotate_left
 all_goals
  go_enter Tryz.func23, Tryz.ntmps23
  go_wp2_with (first | ((with_reducible refine gD 2 ?_); refine bX 2 #[.slice eE aZ.length eF, .slice eV aI.length eC] 26 ?_; intro aW hg aP9 hbox hb; have a6 := am hbox; have iS := am (u4 : w.heap.size ≤ aW); have j5 := iS; replace HB := bS iJ hb; clear hb hbox hg) | ((with_reducible refine gD 3 ?_); refine bX 3 #[.int .i64 a1_0, .string a1_1, .slice fq OZ.length lv] 31 ?_; intro bK hg aPA hbox hb; have aQ := am hbox; have qJ := am (EF : w.heap.size ≤ bK); have oI := qJ; replace HB := bS fH hb; have dJ := nL d3 hg; have dL := nG d3 hg; replace a6 := bB d3 hb; clear hb hbox hg) | ((with_reducible refine gD 4 ?_); refine bX 4 #[.slice none 0 0, .slice none 0 0] 26 ?_; intro uT hg aPB hbox hb; have kK := am hbox; have ZS := am (UN : w.heap.size ≤ uT); have K9 := ZS; replace HB := bS kO hb; have yY := nL d3 hg; have tB := nG d3 hg; replace a6 := bB d3 hb; have Kl := nL eW hg; have Km := nG eW hg; replace aQ := bB eW hb; clear hb hbox hg; have aIU := nZ2 dL dJ Kl Km; have aIV := cz3 aQ; have aIW := nZ1 yY tB; have aIX := cz2 a6) | ((with_reducible refine gC 6 ?_); revert Zz; intro Zz; refine cE (some 22) Tryz.func6 (dC.calls k _ _ aZ _ _ aI a1_1 _ _ OZ dB bM ZB _ (pB dT) dS.1 (pB bV) eS.1 (pB Oq) Ol.1 A4.out) ?_; rintro e aPC ⟨H6, D0, rfl, eH, lW, hb⟩; refine ⟨_, rfl, ?_⟩; have gG := am (Kd.dO (Kd.pX (M := fun k_ => (w.heap.size ≤ k_)) (Kd.aT (ok' := fun k_ => True) eH (fun _ hk_ => trivial)) (aG BN) (fun k_ h_ => h_)) (aG BN)); have fD := am (Kd.jK (Kd.aJ (ok' := F13 w H6 aW bK uT) lW (fun k_ hk_ => ⟨(Nat.le_trans (aG BN) hk_.1), hk_.2, (fB d3 k_ hk_.1), (fB eW k_ hk_.1), (fB UP k_ hk_.1)⟩)) (aG BN)); replace a6 := bB d3 hb; replace aQ := bB eW hb; replace kK := bB UP hb; replace HB := bS BN hb; clear hb eH lW; obtain ⟨WM, XI, od⟩ := Kd.cZ gG.1; subst od; have aIY := cz2 a6; obtain ⟨Dn, Eo, oe⟩ := Kd.gM fD.1; subst oe; have aIZ := cz2 kK) | ((with_reducible refine gC 8 ?_); revert aa; intro aa; refine cE (some 33) Tryz.func8 (fA.calls k _ _ aZ _ _ aI a1_1 _ _ OZ bZ O2 lC _ (pB dT) dS.1 (pB bV) eS.1 (pB Oq) Ol.1 Nf.out) ?_; rintro e aPD ⟨a3Y, a3Z, rfl, eH, lW, hb⟩; refine ⟨_, rfl, ?_⟩; have Hj := am (Kd.dO (Kd.pX (M := fun k_ => (w.heap.size ≤ k_)) (Kd.aT (ok' := fun k_ => True) eH (fun _ hk_ => trivial)) (aG BN) (fun k_ h_ => h_)) (aG BN)); have PV := am (Kd.jK (Kd.aJ (ok' := F13 w a3Y aW bK uT) lW (fun k_ hk_ => ⟨(Nat.le_trans (aG BN) hk_.1), hk_.2, (fB d3 k_ hk_.1), (fB eW k_ hk_.1), (fB UP k_ hk_.1)⟩)) (aG BN)); replace a6 := bB d3 hb; replace aQ := bB eW hb; replace kK := bB UP hb; replace HB := bS BN hb; clear hb eH lW; obtain ⟨WN, XJ, og⟩ := Kd.cZ Hj.1; subst og; have aJ0 := cz2 a6; obtain ⟨Do, Ep, oh⟩ := Kd.gM PV.1; subst oh; have aJ1 := cz2 kK) | ((with_reducible refine gC 10 ?_); revert ab; intro ab; refine cE (some 44) Tryz.func10 (eT.calls k _ _ aZ _ _ aI a1_1 _ _ OZ yK tN PL _ (pB dT) dS.1 (pB bV) eS.1 (pB Oq) Ol.1 A34.out) ?_; rintro e aPE ⟨Yq, aFH, rfl, eH, lW, hb⟩; refine ⟨_, rfl, ?_⟩; have vF := am (Kd.dO (Kd.pX (M := fun k_ => (w.heap.size ≤ k_)) (Kd.aT (ok' := fun k_ => True) eH (fun _ hk_ => trivial)) (aG BN) (fun k_ h_ => h_)) (aG BN)); have zX := am (Kd.jK (Kd.aJ (ok' := F13 w Yq aW bK uT) lW (fun k_ hk_ => ⟨(Nat.le_trans (aG BN) hk_.1), hk_.2, (fB d3 k_ hk_.1), (fB eW k_ hk_.1), (fB UP k_ hk_.1)⟩)) (aG BN)); replace a6 := bB d3 hb; replace aQ := bB eW hb; replace kK := bB UP hb; replace HB := bS BN hb; clear hb eH lW; obtain ⟨WO, XK, ol⟩ := Kd.cZ vF.1; subst ol; have aJ3 := cz2 a6; obtain ⟨Dp, Er, om⟩ := Kd.gM zX.1; subst om; have aJ4 := cz2 kK) | ((with_reducible refine gC 12 ?_); revert ac; intro ac; refine cE (some 11) Tryz.func12 (gI.calls k _ _ aZ _ _ aI a1_1 O3 Cv t131 _ (pB dT) dS.1 (pB bV) eS.1 A48.out) ?_; rintro e aPF ⟨Yr, a4A, rfl, eH, lW, hb⟩; refine ⟨_, rfl, ?_⟩; have wS := am (Kd.dO (Kd.pX (M := fun k_ => (w.heap.size ≤ k_)) (Kd.aT (ok' := fun k_ => True) eH (fun _ hk_ => trivial)) (aG BN) (fun k_ h_ => h_)) (aG BN)); have mO := am (Kd.jK (Kd.aJ (ok' := F13 w Yr aW bK uT) lW (fun k_ hk_ => ⟨(Nat.le_trans (aG BN) hk_.1), hk_.2, (fB d3 k_ hk_.1), (fB eW k_ hk_.1), (fB UP k_ hk_.1)⟩)) (aG BN)); replace a6 := bB d3 hb; replace aQ := bB eW hb; replace kK := bB UP hb; replace HB := bS BN hb; clear hb eH lW; obtain ⟨WP, XL, oo⟩ := Kd.cZ wS.1; subst oo; have aJ5 := cz2 a6; obtain ⟨Dq, Es, oq⟩ := Kd.gM mO.1; subst oq; have aJ6 := cz2 kK))
 ·refine cR uT 26 #[.slice WM dB.length XI, .slice Dn bM.length Eo] (by refine rB ?_; refine cO (cs := #[.slice WM dB.length XI, .slice none 0 0]) ?_ 1 _ rfl; refine rB ?_; refine cO (cs := #[.slice none 0 0, .slice none 0 0]) ?_ 0 _ rfl; refine rB ?_; refine dD ?_ tB.1 _; refine rB ?_; refine dD ?_ tB.1 _; refine rB ?_; exact kK.1) Tryz.underlying26 ?_
  exact ⟨_, _, eR, by refine rR ?_; exact Kd.aT (fR (fR (Kd.u6 (p := ⟨aW, 1, none⟩) (Kd.u6 (p := ⟨aW, 0, none⟩) (Kd.gZ (tR gG a6) kK.1 (by decide)) (fun _ hk => hk.1.2) (.slice WM dB.length XI)) (fun _ hk => hk.1.2) (.slice Dn bM.length Eo)))) (fun _ hk => hk.1.1.1), by refine rN ?_; exact Kd.aJ (fN (fN (Kd.I1 (p := ⟨aW, 1, none⟩) (Kd.I1 (p := ⟨aW, 0, none⟩) (Kd.aJ (Kd.aJ fD.1 (fun k_ hk => (⟨hk, hk.2.2.1⟩ : _ ∧ k_ ≠ aW))) (fun k_ hk => (⟨hk, hk.1.2.2.2.2⟩ : _ ∧ k_ ≠ uT))) (fun _ hk => hk.1.2) (.slice WM dB.length XI)) (fun _ hk => hk.1.2) (.slice Dn bM.length Eo)))) (fun _ hk => ⟨hk.1.1.1, hk.1.1.2.1⟩), BN⟩
 ·refine cR uT 26 #[.slice WN bZ.length XJ, .slice Do O2.length Ep] (by refine rB ?_; refine cO (cs := #[.slice WN bZ.length XJ, .slice none 0 0]) ?_ 1 _ rfl; refine rB ?_; refine cO (cs := #[.slice none 0 0, .slice none 0 0]) ?_ 0 _ rfl; refine rB ?_; refine dD ?_ tB.1 _; refine rB ?_; refine dD ?_ tB.1 _; refine rB ?_; exact kK.1) Tryz.underlying26 ?_
  exact ⟨_, _, eR, by refine rR ?_; exact Kd.aT (fR (fR (Kd.u6 (p := ⟨aW, 1, none⟩) (Kd.u6 (p := ⟨aW, 0, none⟩) (Kd.gZ (tR Hj a6) kK.1 (by decide)) (fun _ hk => hk.1.2) (.slice WN bZ.length XJ)) (fun _ hk => hk.1.2) (.slice Do O2.length Ep)))) (fun _ hk => hk.1.1.1), by refine rN ?_; exact Kd.aJ (fN (fN (Kd.I1 (p := ⟨aW, 1, none⟩) (Kd.I1 (p := ⟨aW, 0, none⟩) (Kd.aJ (Kd.aJ PV.1 (fun k_ hk => (⟨hk, hk.2.2.1⟩ : _ ∧ k_ ≠ aW))) (fun k_ hk => (⟨hk, hk.1.2.2.2.2⟩ : _ ∧ k_ ≠ uT))) (fun _ hk => hk.1.2) (.slice WN bZ.length XJ)) (fun _ hk => hk.1.2) (.slice Do O2.length Ep)))) (fun _ hk => ⟨hk.1.1.1, hk.1.1.2.1⟩), BN⟩
 ·refine cR uT 26 #[.slice WO yK.length XK, .slice Dp tN.length Er] (by refine rB ?_; refine cO (cs := #[.slice WO yK.length XK, .slice none 0 0]) ?_ 1 _ rfl; refine rB ?_; refine cO (cs := #[.slice none 0 0, .slice none 0 0]) ?_ 0 _ rfl; refine rB ?_; refine dD ?_ tB.1 _; refine rB ?_; refine dD ?_ tB.1 _; refine rB ?_; exact kK.1) Tryz.underlying26 ?_
  exact ⟨_, _, eR, by refine rR ?_; exact Kd.aT (fR (fR (Kd.u6 (p := ⟨aW, 1, none⟩) (Kd.u6 (p := ⟨aW, 0, none⟩) (Kd.gZ (tR vF a6) kK.1 (by decide)) (fun _ hk => hk.1.2) (.slice WO yK.length XK)) (fun _ hk => hk.1.2) (.slice Dp tN.length Er)))) (fun _ hk => hk.1.1.1), by refine rN ?_; exact Kd.aJ (fN (fN (Kd.I1 (p := ⟨aW, 1, none⟩) (Kd.I1 (p := ⟨aW, 0, none⟩) (Kd.aJ (Kd.aJ zX.1 (fun k_ hk => (⟨hk, hk.2.2.1⟩ : _ ∧ k_ ≠ aW))) (fun k_ hk => (⟨hk, hk.1.2.2.2.2⟩ : _ ∧ k_ ≠ uT))) (fun _ hk => hk.1.2) (.slice WO yK.length XK)) (fun _ hk => hk.1.2) (.slice Dp tN.length Er)))) (fun _ hk => ⟨hk.1.1.1, hk.1.1.2.1⟩), BN⟩
 refine cR uT 26 #[.slice WP O3.length XL, .slice Dq Cv.length Es] (by refine rB ?_; refine cO (cs := #[.slice WP O3.length XL, .slice none 0 0]) ?_ 1 _ rfl; refine rB ?_; refine cO (cs := #[.slice none 0 0, .slice none 0 0]) ?_ 0 _ rfl; refine rB ?_; refine dD ?_ tB.1 _; refine rB ?_; refine dD ?_ tB.1 _; refine rB ?_; exact kK.1) Tryz.underlying26 ?_
 exact ⟨_, _, eR, by refine rR ?_; exact Kd.aT (fR (fR (Kd.u6 (p := ⟨aW, 1, none⟩) (Kd.u6 (p := ⟨aW, 0, none⟩) (Kd.gZ (tR wS a6) kK.1 (by decide)) (fun _ hk => hk.1.2) (.slice WP O3.length XL)) (fun _ hk => hk.1.2) (.slice Dq Cv.length Es)))) (fun _ hk => hk.1.1.1), by refine rN ?_; exact Kd.aJ (fN (fN (Kd.I1 (p := ⟨aW, 1, none⟩) (Kd.I1 (p := ⟨aW, 0, none⟩) (Kd.aJ (Kd.aJ mO.1 (fun k_ hk => (⟨hk, hk.2.2.1⟩ : _ ∧ k_ ≠ aW))) (fun k_ hk => (⟨hk, hk.1.2.2.2.2⟩ : _ ∧ k_ ≠ uT))) (fun _ hk => hk.1.2) (.slice WP O3.length XL)) (fun _ hk => hk.1.2) (.slice Dq Cv.length Es)))) (fun _ hk => ⟨hk.1.1.1, hk.1.1.2.1⟩), BN⟩
def fJ.l0 : Nat → List (S31) → Int → List Int → Int → List ByteArray → List ByteArray → List (S52) → Option (List ByteArray × (List (S52)) × (List (S31)))
 | 0, _, _, _, _, _, _, _ => none
 | k + 1, b, c, d, j, e, g, h => if c > 0 then ((bQ.f k d j g h).bind fun a => ((vQ.f k g h a.1 a.2.1 a.2.2.1).bind fun i => (if b.length < 2932031007402 then (fJ.l0 k (b ++ [(⟨a.1, a.2.1, a.2.2.1⟩ : S31)]) (wrap64 (c - 1)) d a.2.2.2 e i.1 i.2) else (none)))) else (some (e, ([] : List (S52)), b))
def fJ.f (k : Nat) (l0 : List Int) : Option (List ByteArray × (List (S52)) × (List (S31))) := (vP.f l0).bind fun a => ((gL.f k a.1 a.2).bind fun b => ((dZ.f k a.1 b.2.2 40).bind fun c => (fJ.l0 k (([] : List (S31))) c.1 a.1 c.2 b.1 b.1 ([] : List (S52)))))
theorem fJ.calls (k : Nat) (A0 : Option Addr) (c0 : Nat) (l0 : List Int) (r1 : List ByteArray) (r2 : List (S52)) (r3 : List (S31)) (w : World) (tM : Kd.C (Kd.int .u8) w A0 l0.length l0) (yO : l0.length ≤ c0) (h : fJ.f k l0 = some (r1, r2, r3)) :
  Calls Tryz.prog 4 #[.slice A0 l0.length c0] w fun e w' => ∃ v0_ v1_ v2_ : Value, e = .returned (.tuple #[.agg #[v0_, v1_], v2_]) ∧ Kd.R Kd.string 9 w' w.heap.size (fun k_ => (w.heap.size ≤ k_)) v0_ r1 ∧ Kd.N k52 52 w' w.heap.size (F20 w v0_ v2_) v1_ r2 ∧ Kd.N k31 31 w' w.heap.size (F20 w v0_ v1_) v2_ r3 ∧ Below w.heap.size w w' := by
 have hu26 := Tryz.underlying26
 have hu31 := Tryz.underlying31
 obtain ⟨tV, S0⟩ := mZ2 tM yO
 clear tM yO
 have HB := am (Below.refl w.heap.size w)
 unfold fJ.f at h
 have H := h
 clear h
 obtain ⟨⟨vA, pN⟩, A2, H⟩ := bd H
 dsimp only at H
 obtain ⟨⟨mV, QQ, bZ⟩, A3, H⟩ := bd H
 dsimp only at H
 obtain ⟨Ul, hy114⟩ : ∃ y_ : List (S31), y_ = (([] : List (S31))) := ⟨_, rfl⟩
 replace H : ((dZ.f k vA bZ 40).bind fun ay => (fJ.l0 k Ul ay.1 vA ay.2 mV mV ([] : List (S52)))) = some (r1, r2, r3) := by first | (rw [hy114]; with_reducible exact H) | (have H2_ := (Option.bind_some _ _).symm.trans H; rw [hy114]; with_reducible exact H2_) | (have H2_ := (Option.bind_some _ _).symm.trans H; with_reducible exact H2_) | with_reducible exact H | (rw [hy114]; exact H) | exact H
 have ZY := am hy114
 clear hy114
 obtain ⟨⟨lC, yK⟩, A4, H⟩ := bd H
 dsimp only at H
 have H' := am H
 repeat clear H
 go_enter Tryz.func4, Tryz.ntmps4
 go_wp2_with (first | ((with_reducible refine gD 2 ?_); refine bX 2 #[.slice none 0 0, .slice none 0 0] 26 ?_; intro aW hg w5 hbox hb; have a6 := am hbox; have iS := am (u4 : w.heap.size ≤ aW); have j5 := iS; replace HB := bS iJ hb; clear hb hbox hg) | ((with_reducible refine gC 19 ?_); refine cE (some 11) Tryz.func19 (vP.calls _ _ l0 vA pN w _ (fH) tV.1 S0.1 A2.out) ?_; rintro e w6 ⟨g104, rfl, hi, hb, hb2⟩; refine ⟨_, rfl, ?_⟩; replace HB := am hb; have nR := am hi; have rI := am (bE.Su hi (aX (g := aW) (o := .cells #[.slice none 0 0, .slice none 0 0] 26 (0, 0)) d3 hb2) (by decide)); have rG := am (Ne.symm (bE.Su hi (aX (g := aW) (o := .cells #[.slice none 0 0, .slice none 0 0] 26 (0, 0)) d3 hb2) (by decide))); replace a6 := am (aX (g := aW) (o := .cells #[.slice none 0 0, .slice none 0 0] 26 (0, 0)) d3 hb2); clear hb hb2 hi) | ((with_reducible refine gC 20 ?_); refine cE (some 13) Tryz.func20 (gL.calls k g104 vA pN mV QQ bZ w _ ((by repeat (first | (with_reducible first | exact nR.out | apply bE.alloc | apply bE.drewN | apply bE.drew | apply bE.FB | refine bE.far ?_ rI.1 _) | exact nR.out))) (Tg) A3.out) ?_; rintro e w7 ⟨aTH, rfl, eH, hi, hb, hk⟩; refine ⟨_, rfl, ?_⟩; replace a6 := kb d3 hk rG; have GR := am (Kd.dO (Kd.pX (M := fun k_ => (w.heap.size ≤ k_)) eH (aG Tg) (fun k_ h_ => h_)) (aG Tg)); replace HB := am hb; replace nR := am hi; clear hb hk hi eH) | ((with_reducible refine gD 5 ?_); refine bX 5 #[.slice none 0 0, .slice none 0 0] 26 ?_; intro fK hg w8 hbox hb; replace GR := am (Kd.jA (rR GR.1) hb); have lD := am hbox; have Oh := am (by rw [hg]; exact (aG Tg) : w.heap.size ≤ fK); have KA := Oh; replace HB := bS Tg hb; have J4 := nL d3 hg; have VB := nG d3 hg; replace a6 := bB d3 hb; have yZ := am (by rw [hg]; exact Nat.ne_of_lt (bE.lt (show bE w _ g104 vA bZ from by repeat (first | (with_reducible first | exact nR.out | apply bE.alloc | apply bE.drewN | apply bE.drew | apply bE.FB | refine bE.far ?_ rI.1 _) | exact nR.out))) : g104 ≠ fK); have JB := am (by rw [hg]; exact Nat.ne_of_gt (bE.lt (show bE w _ g104 vA bZ from by repeat (first | (with_reducible first | exact nR.out | apply bE.alloc | apply bE.drewN | apply bE.drew | apply bE.FB | refine bE.far ?_ rI.1 _) | exact nR.out))) : fK ≠ g104); replace nR := am (bE.below (by repeat (first | (with_reducible first | exact nR.out | apply bE.alloc | apply bE.drewN | apply bE.drew | apply bE.FB | refine bE.far ?_ rI.1 _) | exact nR.out)) hb); clear hb hbox hg; obtain ⟨EJ, EV, eo9⟩ := Kd.cZ GR.1; subst eo9; have Z10 := nZ2 VB J4 JB yZ; have Ur := cz2 lD) | ((with_reducible refine gD 6 ?_); refine bX 6 #[.slice none 0 0, .slice none 0 0] 26 ?_; intro dG hg Na hbox hb; replace GR := am (Kd.jA (by refine rR ?_; exact (Kd.aT (fR (fR (tR GR lD))) (fun _ h_ => h_.1))) hb); have fC := am hbox; have Oi := am (by rw [hg]; exact (aG (by repeat (first | (with_reducible first | exact HB.1 | apply cB | apply bA | apply aY | refine aK ?_ (bE.ge nR.out) | refine aK ?_ j5.1 | refine aK ?_ KA.1) | exact HB.1))) : w.heap.size ≤ dG); have RZ := Oi; replace HB := am (jB (by repeat (first | (with_reducible first | exact HB.1 | apply cB | apply bA | apply aY | refine aK ?_ (bE.ge nR.out) | refine aK ?_ j5.1 | refine aK ?_ KA.1) | exact HB.1)) hb); have EM := am (by rw [hg]; exact Nat.ne_of_lt (fO (g := aW) (o := .cells #[.slice none 0 0, .slice none 0 0] 26 (0, 0)) qp) : aW ≠ dG); have OM := am (by rw [hg]; exact Nat.ne_of_gt (fO (g := aW) (o := .cells #[.slice none 0 0, .slice none 0 0] 26 (0, 0)) qp) : dG ≠ aW); replace a6 := am (aX (g := aW) (o := .cells #[.slice none 0 0, .slice none 0 0] 26 (0, 0)) qp hb); have tD := am (by rw [hg]; exact Nat.ne_of_lt (fO (g := fK) (o := .cells #[.slice EJ mV.length EV, .slice none 0 0] 26 (0, 0)) (qP lD)) : fK ≠ dG); have vY := am (by rw [hg]; exact Nat.ne_of_gt (fO (g := fK) (o := .cells #[.slice EJ mV.length EV, .slice none 0 0] 26 (0, 0)) (qP lD)) : dG ≠ fK); replace lD := am (aX (g := fK) (o := .cells #[.slice EJ mV.length EV, .slice none 0 0] 26 (0, 0)) (qP lD) hb); have J8 := am (by rw [hg]; exact Nat.ne_of_lt (bE.lt (show bE w _ g104 vA bZ from by repeat (first | (with_reducible first | exact nR.out | apply bE.alloc | apply bE.drewN | apply bE.drew | apply bE.FB | refine bE.far ?_ rI.1 _ | refine bE.far ?_ yZ.1 _) | exact nR.out))) : g104 ≠ dG); have JC := am (by rw [hg]; exact Nat.ne_of_gt (bE.lt (show bE w _ g104 vA bZ from by repeat (first | (with_reducible first | exact nR.out | apply bE.alloc | apply bE.drewN | apply bE.drew | apply bE.FB | refine bE.far ?_ rI.1 _ | refine bE.far ?_ yZ.1 _) | exact nR.out))) : dG ≠ g104); replace nR := am (bE.below (show bE w ((w8.setCell ⟨fK, 0, none⟩ (.slice EJ mV.length EV)).setCell ⟨fK, 1, none⟩ (.slice none 0 0)) g104 vA bZ from by repeat (first | (with_reducible first | exact nR.out | apply bE.alloc | apply bE.drewN | apply bE.drew | apply bE.FB | refine bE.far ?_ rI.1 _ | refine bE.far ?_ yZ.1 _) | exact nR.out)) hb); clear hb hbox hg; have Z14 := nZ3 OM EM vY tD JC J8; have Z17 := cz2 fC) | ((with_reducible refine jW (N := 15) rfl ?_); refine Kd.xw k31 _ 31 ?hg (N' := 15) ?hd (xs := ([] : List (S31))) (inner := []) (ok := (fun k_ => (w.heap.size ≤ k_) ∧ some k_ ≠ (.slice EJ mV.length EV : Value).ownBlock ∧ k_ ≠ aW ∧ k_ ≠ fK ∧ k_ ≠ dG ∧ k_ ≠ g104)) (okp := (fun k_ => (w.heap.size ≤ k_) ∧ some k_ ≠ (.slice EJ mV.length EV : Value).ownBlock ∧ k_ ≠ aW ∧ k_ ≠ fK ∧ k_ ≠ dG ∧ k_ ≠ g104)) ?hr ?hp (fun _ hk => hk) ((show ∀ k_, _ ≤ k_ → (fun k_ => (w.heap.size ≤ k_) ∧ some k_ ≠ (.slice EJ mV.length EV : Value).ownBlock ∧ k_ ≠ aW ∧ k_ ≠ fK ∧ k_ ≠ dG ∧ k_ ≠ g104) k_ from fun k_ hk => ⟨(Nat.le_trans (aG TU) hk), Kd.fresh' (Kd.R_lt (by refine rR ?_; exact (Kd.aT (fR (fR (tR GR fC))) (fun _ h_ => h_.1)))) k_ hk, Kd.jD (g := aW) (o := .cells #[.slice none 0 0, .slice none 0 0] 26 (0, 0)) qq k_ hk, Kd.jD (g := fK) (o := .cells #[.slice EJ mV.length EV, .slice none 0 0] 26 (0, 0)) NV k_ hk, Kd.jD (g := dG) (o := .cells #[.slice EJ mV.length EV, .slice none 0 0] 26 (0, 0)) (qP fC) k_ hk, bE.fresh TV k_ hk⟩) _ (Nat.le_refl _)) (Below.refl _ _) (Nat.le_refl _) (by simp) ?_; (case hd => rfl); (case hg => rfl); (case hr => first | (go_simp; done) | (go_simp; rfl)); (case hp => exact (Reps.none _ _)); intro a3Z w18 Ru hb hg_ hnew_; clear hg_ hnew_; (first | rw [← ZY.out] at Ru | (simp only [Int.reduceToNat] at Ru; rw [← ZY.out] at Ru)); replace GR := am (Kd.jA (by refine rR ?_; exact (Kd.aT (fR (fR (tR GR fC))) (fun _ h_ => h_.1))) hb); have PV := am (Kd.jK Ru (aG TU)); replace a6 := am (aX (g := aW) (o := .cells #[.slice none 0 0, .slice none 0 0] 26 (0, 0)) qq hb); replace lD := am (aX (g := fK) (o := .cells #[.slice EJ mV.length EV, .slice none 0 0] 26 (0, 0)) NV hb); replace fC := am (aX (g := dG) (o := .cells #[.slice EJ mV.length EV, .slice none 0 0] 26 (0, 0)) (qP fC) hb); replace HB := bS TU hb; replace nR := am (bE.below (show bE w ((Na.setCell ⟨dG, 0, none⟩ (.slice EJ mV.length EV)).setCell ⟨dG, 1, none⟩ (.slice none 0 0)) g104 vA bZ from TV) hb); clear hb Ru) | ((with_reducible refine gC 21 ?_); refine cQ (some 17) Tryz.func21 (dZ.calls k g104 vA bZ 40 lC yK w _ (TV) (TU) A4.out) ?_; rintro Nk ⟨hi, hb, hk⟩; replace a6 := kb d3 hk rG; replace GR := am (Kd.aT (Kd.xG (bE.apart (show bE w _ g104 vA bZ from TV) (rR GR.1) (by decide)) hk (fun _ h => h.2)) (fun _ h => h.1)); replace lD := kb Gg hk JB; replace fC := kb QM hk JC; replace PV := am (Kd.aJ (Kd.Pe (Kd.aJ (ok := fun k_ => (((w.heap.size ≤ k_)) ∧ (some k_ ≠ (.slice EJ mV.length EV : Value).ownBlock ∧ (k_ ≠ aW ∧ (k_ ≠ fK ∧ (k_ ≠ dG ∧ k_ ≠ g104)))))) (rN PV.1) (fun k_ hk_ => (⟨hk_, hk_.2.2.2.2.2⟩ : _ ∧ k_ ≠ g104))) hk (fun _ h => h.2)) (fun _ h => h.1)); replace HB := am hb; replace nR := am hi; clear hb hk hi))
 go_loopg [7, 8] k (fun kq v7 v8 w' => ∃ (oG : List (S31)) (AE : Int) (BT : Int) (j6 : List ByteArray) (lF : List (S52)) (wK : Value) (BQ : Value), v8 = .int .i64 AE ∧ aC (fJ.l0 kq oG AE vA BT mV j6 lF = some (r1, r2, r3)) ∧ aC (kq ≤ k) ∧ aC (Kd.N k31 31 w' w.heap.size (fun k_ => (w.heap.size ≤ k_) ∧ some k_ ≠ ((.slice EJ mV.length EV) : Value).ownBlock ∧ some k_ ≠ (wK : Value).ownBlock ∧ some k_ ≠ (BQ : Value).ownBlock ∧ k_ ≠ aW ∧ k_ ≠ fK ∧ k_ ≠ dG ∧ k_ ≠ g104) v7 oG) ∧ aC (Kd.R Kd.string 9 w' w.heap.size (fun k_ => (w.heap.size ≤ k_)) (.slice EJ mV.length EV) mV) ∧ aC (Kd.R Kd.string 9 w' w.heap.size (fun k_ => (w.heap.size ≤ k_)) wK j6) ∧ aC (Kd.N k52 52 w' w.heap.size (fun k_ => (w.heap.size ≤ k_) ∧ some k_ ≠ (v7 : Value).ownBlock ∧ some k_ ≠ ((.slice EJ mV.length EV) : Value).ownBlock ∧ some k_ ≠ (wK : Value).ownBlock ∧ k_ ≠ aW ∧ k_ ≠ fK ∧ k_ ≠ dG ∧ k_ ≠ g104) BQ lF) ∧ aC (w'.heap[aW]? = some (.cells #[(.slice none 0 0), (.slice none 0 0)] 26 (0, 0))) ∧ aC (w'.heap[fK]? = some (.cells #[(.slice EJ mV.length EV), (.slice none 0 0)] 26 (0, 0))) ∧ aC (w'.heap[dG]? = some (.cells #[wK, BQ] 26 (0, 0))) ∧ aC (bE w w' g104 vA BT) ∧ aC (Below w.heap.size w w'))
 case atStart => exact ⟨(Ul), (lC), (yK), (mV), (([] : List (S52))), (.slice EJ mV.length EV), (.slice none 0 0), dU, H', ⟨Nat.le_refl _⟩, ⟨by refine rN ?_; exact Kd.aJ PV.1 (fun _ hk => ⟨hk.1, ⟨hk.2.1, ⟨hk.2.1, ⟨(by simp [Value.ownBlock]), ⟨hk.2.2.1, ⟨hk.2.2.2.1, ⟨hk.2.2.2.2.1, hk.2.2.2.2.2⟩⟩⟩⟩⟩⟩⟩)⟩, ⟨by refine rR ?_; exact Kd.aT GR.1 (fun _ hk => hk.1)⟩, ⟨by refine rR ?_; exact Kd.aT GR.1 (fun _ hk => hk.1)⟩, ⟨eN⟩, ⟨rB a6.1⟩, ⟨rB lD.1⟩, ⟨rB fC.1⟩, ⟨TV⟩, ⟨TU⟩⟩
 clear H'
 try clear Ur
 try clear Z17
 obtain ⟨oG, AE, BT, j6, lF, wK, BQ, rfl, HA, HK1, wO, nP, fY, fZ, a6, lD, fC, nR, HB⟩ := hrel
 cases gk with
 | zero => exact absurd HA.out (by simp [fJ.l0])
 | succ k1 =>
  have H := HA.out
  clear HA
  simp only [fJ.l0] at H
  by_cases sy : AE > 0
  ·rw [if_pos sy] at H
   have bg : decide (0 < AE) = true := decide_eq_true sy
   clear sy
   obtain ⟨⟨M0, lJ, tN, PL⟩, A22, H⟩ := bd H
   dsimp only at H
   obtain ⟨⟨uC, zN⟩, Gw, H⟩ := bd H
   dsimp only at H
   obtain ⟨wk, H⟩ := cL H
   obtain ⟨O9, VE⟩ := yv (oG ++ [(⟨M0, lJ, tN⟩ : S31)]); first | replace H := bW VE H | rw [← VE.1] at H
   have H' := am H
   repeat clear H
   have Z25 := nZ3 OM EM vY tD JC J8
   have Z28 := cz2 fC
   obtain ⟨BH, AM, Ww⟩ := Kd.cZ fY.1
   subst Ww
   obtain ⟨K0, IC, Wx⟩ := Kd.gM fZ.1
   subst Wx
   go_wp2_with (first | ((with_reducible refine gC 22 ?_); refine cE (some 24) Tryz.func22 (bQ.calls k1 g104 vA BT _ _ j6 _ _ lF M0 lJ tN PL w _ (TV) (TU) (pC (Kd.bH fY.1).2.2) ((Kd.bH fY.1).2.1) (EX (bE.own_ne nR.out fY.1 (by decide))) (Kd.ZO (base := 0) (Kd.N_V (Kd.aJ (ok := fun k_ => (((w.heap.size ≤ k_)) ∧ (some k_ ≠ (u7 : Value).ownBlock ∧ (some k_ ≠ (.slice EJ mV.length EV : Value).ownBlock ∧ (some k_ ≠ (.slice BH j6.length AM : Value).ownBlock ∧ (k_ ≠ aW ∧ (k_ ≠ fK ∧ (k_ ≠ dG ∧ k_ ≠ g104)))))))) NQ (fun k_ hk_ => (⟨hk_, hk_.2.2.2.2.2.2.2⟩ : _ ∧ k_ ≠ g104)))) (fun _ h_ => h_.2)) ((Kd.d9 fZ.1).2.1) A22.out) ?_; rintro e se ⟨aFH, rfl, eH, hi, hb, hk⟩; refine ⟨_, rfl, ?_⟩; replace wO := am (Kd.aJ (Kd.eY (Kd.Pg (Kd.aJ (ok := fun k_ => (((w.heap.size ≤ k_)) ∧ (some k_ ≠ (.slice EJ mV.length EV : Value).ownBlock ∧ (some k_ ≠ (.slice BH j6.length AM : Value).ownBlock ∧ (some k_ ≠ (.slice K0 lF.length IC : Value).ownBlock ∧ (k_ ≠ aW ∧ (k_ ≠ fK ∧ (k_ ≠ dG ∧ k_ ≠ g104)))))))) (rN wO.1) (fun k_ hk_ => (⟨hk_, hk_.2.2.2.2.2.2.2⟩ : _ ∧ k_ ≠ g104))) hk) (Kd.bT eH)) (fun _ h_ => h_.1)); replace fZ := am (Kd.aJ (Kd.eY (Kd.Pg (Kd.aJ (ok := fun k_ => (((w.heap.size ≤ k_)) ∧ (some k_ ≠ (u7 : Value).ownBlock ∧ (some k_ ≠ (.slice EJ mV.length EV : Value).ownBlock ∧ (some k_ ≠ (.slice BH j6.length AM : Value).ownBlock ∧ (k_ ≠ aW ∧ (k_ ≠ fK ∧ (k_ ≠ dG ∧ k_ ≠ g104)))))))) NQ (fun k_ hk_ => (⟨hk_, hk_.2.2.2.2.2.2.2⟩ : _ ∧ k_ ≠ g104))) hk) (Kd.bT eH)) (fun _ h_ => h_.1)); replace a6 := kb d3 hk rG; replace lD := kb Gg hk JB; replace fC := kb QM hk JC; have zX := am (Kd.dO (Kd.fF (Kd.fF (Kd.pX (M := fun k_ => (w.heap.size ≤ k_)) eH (aG TU) (fun k_ h_ => h_)) (Kd.R_lt (rR nP.1))) (Kd.R_lt KQ)) (aG TU)); replace nP := am (Kd.aT (Kd.Eb (Kd.Ea (bE.apart (show bE w _ g104 vA BT from TV) (rR nP.1) (by decide)) hk) (Kd.bT eH)) (fun _ h_ => h_.1)); replace fY := am (Kd.aT (Kd.Eb (Kd.Ea (bE.apart (show bE w _ g104 vA BT from TV) KQ (by decide)) hk) (Kd.bT eH)) (fun _ h_ => h_.1)); replace HB := am hb; replace nR := am hi; clear hb hk hi eH) | ((with_reducible refine gD 9 ?_); refine bX 9 #[.int .i64 0, .string (⟨#[]⟩ : ByteArray), .slice none 0 0] 31 ?_; intro rZ hg w32 hbox hb; replace wO := am (Kd.iI (Kd.jU (rN wO.1) rZ (Nat.le_of_eq hg.symm)) hb); replace nP := am (Kd.jA (rR nP.1) hb); replace fY := RB KQ hb; replace fZ := am (Kd.iI (Kd.jU NQ rZ (Nat.le_of_eq hg.symm)) hb); replace zX := am (Kd.jA (rR zX.1) hb); have wL := am hbox; have vw := am (by rw [hg]; exact (aG TU) : w.heap.size ≤ rZ); have vo := vw; replace HB := bS TU hb; have OE := nL d3 hg; have Kv := nG d3 hg; replace a6 := bB d3 hb; have OL := nL Gg hg; have Kx := nG Gg hg; replace lD := bB Gg hb; have ON := nL QM hg; have VC := nG QM hg; replace fC := bB QM hb; have V9 := am (by rw [hg]; exact Nat.ne_of_lt (bE.lt (show bE w _ g104 vA PL from TV)) : g104 ≠ rZ); have Kw := am (by rw [hg]; exact Nat.ne_of_gt (bE.lt (show bE w _ g104 vA PL from TV)) : rZ ≠ g104); replace nR := am (bE.below TV hb); clear hb hbox hg; have yw := nZ3 Kv OE Kx OL VC ON; have Z36 := nZ1 Kw V9; have Z37 := cz3 wL; obtain ⟨t8, sR, ne⟩ := Kd.cZ zX.1; subst ne; have Z39 := cz2 fC) | ((with_reducible refine kV (f := 23) rfl ?_); refine uN (some 27) rfl rfl Tryz.func23 (by kernel_rfl) rfl #[.agg #[.slice BH j6.length AM, .slice K0 lF.length IC], .agg #[.int .i64 M0, .string lJ, .slice t8 tN.length sR]] rfl AS ?_; (with_reducible refine (vQ.calls k1 _ _ j6 _ _ lF M0 lJ _ _ tN uC zN _ ?side1 ?side2 ?side3 ?side4 ?side5 ?side6 Gw.out).mono ?_); (case side1 => refine (Kd.bH (e := 9) (base := w.heap.size) (ok := fun k_ => ((w.heap.size ≤ k_) ∧ some k_ ≠ (.slice t8 tN.length sR : Value).ownBlock)) (n := j6.length) (c := AM) ?_).2.2; exact (by refine rR ?_; exact (Kd.aT (fR (fR (fR (tR fY wL)))) (fun _ h_ => h_.1)))); (case side2 => exact (Kd.bH fY.1).2.1); (case side3 => refine (Kd.d9 (e := 52) (base := w.heap.size) (ok := fun k_ => ((((w.heap.size ≤ k_) ∧ (some k_ ≠ (u7 : Value).ownBlock ∧ (some k_ ≠ (.slice EJ mV.length EV : Value).ownBlock ∧ (some k_ ≠ (.slice BH j6.length AM : Value).ownBlock ∧ (k_ ≠ aW ∧ (k_ ≠ fK ∧ (k_ ≠ dG ∧ k_ ≠ g104))))))) ∧ some k_ ≠ (.slice t8 tN.length sR : Value).ownBlock) ∧ k_ ≠ rZ)) (n := lF.length) (c := IC) ?_).2.2; exact (by refine rN ?_; exact (Kd.aJ (fN (fN (fN (Kd.aJ fZ.1 (fun k_ hk => (⟨hk, hk.2⟩ : _ ∧ k_ ≠ rZ)))))) (fun _ h_ => h_.1)))); (case side4 => exact (Kd.d9 fZ.1).2.1); (case side5 => refine (Kd.bH (e := 9) (base := w.heap.size) (ok := fun k_ => (((w.heap.size ≤ k_) ∧ some k_ ≠ (.slice EJ mV.length EV : Value).ownBlock) ∧ some k_ ≠ (.slice BH j6.length AM : Value).ownBlock)) (n := tN.length) (c := sR) ?_).2.2; exact (by refine rR ?_; exact Kd.aT (fR (fR (fR (tR zX wL)))) (fun _ hk => ⟨⟨hk.1.1.1.1, hk.1.1.2⟩, hk.1.2⟩))); (case side6 => exact (Kd.bH zX.1).2.1); rintro e w40 ⟨K7, Mz, rfl, eH, lW, hb⟩; refine ⟨_, rfl, ?_⟩; have C3 := am (Kd.dO (Kd.fF (Kd.fF (Kd.fF (Kd.pX (M := fun k_ => (w.heap.size ≤ k_)) (Kd.aT (ok' := fun k_ => True) eH (fun _ hk_ => trivial)) (aG UL) (fun k_ h_ => h_)) (Kd.R_lt (by refine rR ?_; exact (Kd.aT (fR (fR (fR (tR nP wL)))) (fun _ h_ => h_.1))))) (Kd.R_lt (by refine rR ?_; exact (Kd.aT (fR (fR (fR (tR fY wL)))) (fun _ h_ => h_.1))))) (Kd.R_lt (by refine rR ?_; exact (Kd.aT (fR (fR (fR (tR zX wL)))) (fun _ h_ => h_.1))))) (aG UL)); have vG := am (Kd.jK (Kd.aJ (ok' := fun k_ => (w.heap.size ≤ k_) ∧ some k_ ≠ (K7 : Value).ownBlock ∧ some k_ ≠ (u7 : Value).ownBlock ∧ some k_ ≠ (.slice EJ mV.length EV : Value).ownBlock ∧ some k_ ≠ (.slice BH j6.length AM : Value).ownBlock ∧ some k_ ≠ (.slice K0 lF.length IC : Value).ownBlock ∧ some k_ ≠ (.slice t8 tN.length sR : Value).ownBlock ∧ k_ ≠ aW ∧ k_ ≠ fK ∧ k_ ≠ dG ∧ k_ ≠ rZ ∧ k_ ≠ g104) lW (fun k_ hk_ => ⟨(Nat.le_trans (aG UL) hk_.1), hk_.2, (Kd.fresh' (Kd.N_lt (by refine rN ?_; exact (Kd.aJ (fN (fN (fN (Kd.aJ wO.1 (fun k_ hk => (⟨hk, hk.2⟩ : _ ∧ k_ ≠ rZ)))))) (fun _ h_ => h_.1)))) k_ hk_.1), (Kd.fresh' (Kd.R_lt (by refine rR ?_; exact (Kd.aT (fR (fR (fR (tR nP wL)))) (fun _ h_ => h_.1)))) k_ hk_.1), (Kd.fresh' (Kd.R_lt (by refine rR ?_; exact (Kd.aT (fR (fR (fR (tR fY wL)))) (fun _ h_ => h_.1)))) k_ hk_.1), (Kd.fresh' (Kd.N_lt (by refine rN ?_; exact (Kd.aJ (fN (fN (fN (Kd.aJ fZ.1 (fun k_ hk => (⟨hk, hk.2⟩ : _ ∧ k_ ≠ rZ)))))) (fun _ h_ => h_.1)))) k_ hk_.1), (Kd.fresh' (Kd.R_lt (by refine rR ?_; exact (Kd.aT (fR (fR (fR (tR zX wL)))) (fun _ h_ => h_.1)))) k_ hk_.1), (Kd.jD (g := aW) (o := .cells #[.slice none 0 0, .slice none 0 0] 26 (0, 0)) (qF a6 OE) k_ hk_.1), (Kd.jD (g := fK) (o := .cells #[.slice EJ mV.length EV, .slice none 0 0] 26 (0, 0)) (qF lD OL) k_ hk_.1), (Kd.jD (g := dG) (o := .cells #[.slice BH j6.length AM, .slice K0 lF.length IC] 26 (0, 0)) (qF fC ON) k_ hk_.1), (Kd.jD (g := rZ) (o := .cells #[.int .i64 M0, .string lJ, .slice t8 tN.length sR] 31 (0, 0)) pY5 k_ hk_.1), (bE.fresh Ml k_ hk_.1)⟩)) (aG UL)); replace wO := am (Kd.aJ (Kd.eY (Kd.eY (Kd.mZ (by refine rN ?_; exact (Kd.aJ (fN (fN (fN (Kd.aJ wO.1 (fun k_ hk => (⟨hk, hk.2⟩ : _ ∧ k_ ≠ rZ)))))) (fun _ h_ => h_.1))) hb) (Kd.bT eH)) (Kd.y7 lW)) (fun _ h_ => h_.1)); replace nP := am (Kd.dV (by refine rR ?_; exact (Kd.aT (fR (fR (fR (tR nP wL)))) (fun _ h_ => h_.1))) (Kd.bT eH) hb); replace fY := am (Kd.dV (by refine rR ?_; exact (Kd.aT (fR (fR (fR (tR fY wL)))) (fun _ h_ => h_.1))) (Kd.bT eH) hb); replace fZ := am (Kd.aJ (Kd.eY (Kd.eY (Kd.mZ (by refine rN ?_; exact (Kd.aJ (fN (fN (fN (Kd.aJ fZ.1 (fun k_ hk => (⟨hk, hk.2⟩ : _ ∧ k_ ≠ rZ)))))) (fun _ h_ => h_.1))) hb) (Kd.bT eH)) (Kd.y7 lW)) (fun _ h_ => h_.1)); replace zX := am (Kd.dV (by refine rR ?_; exact (Kd.aT (fR (fR (fR (tR zX wL)))) (fun _ h_ => h_.1))) (Kd.bT eH) hb); replace a6 := am (aX (g := aW) (o := .cells #[.slice none 0 0, .slice none 0 0] 26 (0, 0)) (qF a6 OE) hb); replace lD := am (aX (g := fK) (o := .cells #[.slice EJ mV.length EV, .slice none 0 0] 26 (0, 0)) (qF lD OL) hb); replace fC := am (aX (g := dG) (o := .cells #[.slice BH j6.length AM, .slice K0 lF.length IC] 26 (0, 0)) (qF fC ON) hb); replace wL := am (aX (g := rZ) (o := .cells #[.int .i64 M0, .string lJ, .slice t8 tN.length sR] 31 (0, 0)) pY5 hb); replace HB := bS UL hb; replace nR := am (bE.below (show bE w (((w32.setCell ⟨rZ, 0, none⟩ (.int .i64 M0)).setCell ⟨rZ, 1, none⟩ (.string lJ)).setCell ⟨rZ, 2, none⟩ (.slice t8 tN.length sR)) g104 vA PL from Ml) hb); clear hb eH lW; obtain ⟨zW, zY, nh⟩ := Kd.cZ C3.1; subst nh; have Z42 := cz2 fC; obtain ⟨MD, MU, Wy⟩ := Kd.gM vG.1; subst Wy) | ((with_reducible refine FX (t := 26) (p := 6) rfl ?_); refine DY (t := 26) (p := 6) (v := ?vo_w44) (w1 := ((w40.setCell ⟨dG, 0, none⟩ (.slice zW uC.length zY)).setCell ⟨dG, 1, none⟩ (.slice MD zN.length MU))) ?hg ?ho ?hn ?hr ?_; (case ho => rfl); (case hg => rfl); (case hn => rfl); (case hr => first | (go_simp; done) | (go_simp; rfl)); intro ZK hw; replace wO : aC (Kd.N k31 31 ZK w.heap.size (fun k_ => (w.heap.size ≤ k_) ∧ some k_ ≠ (.slice EJ mV.length EV : Value).ownBlock ∧ some k_ ≠ (.slice BH j6.length AM : Value).ownBlock ∧ some k_ ≠ (.slice K0 lF.length IC : Value).ownBlock ∧ some k_ ≠ (.slice t8 tN.length sR : Value).ownBlock ∧ some k_ ≠ (.slice zW uC.length zY : Value).ownBlock ∧ some k_ ≠ (.slice MD zN.length MU : Value).ownBlock ∧ k_ ≠ aW ∧ k_ ≠ fK ∧ k_ ≠ dG ∧ k_ ≠ g104 ∧ k_ ≠ rZ) u7 oG) := ⟨(by rw [hw]; exact (by refine rN ?_; exact Kd.aJ (fN (fN (Kd.aJ wO.1 (fun k_ hk => (⟨hk, hk.1.1.1.1.2.2.2.2.2.2.1⟩ : _ ∧ k_ ≠ dG))))) (fun _ hk => ⟨hk.1.1.1.1.1.1, ⟨hk.1.1.1.1.1.2.1, ⟨hk.1.1.1.1.1.2.2.1, ⟨hk.1.1.1.1.1.2.2.2.1, ⟨hk.1.1.1.1.2, ⟨hk.1.1.2, ⟨hk.1.2, ⟨hk.1.1.1.1.1.2.2.2.2.1, ⟨hk.1.1.1.1.1.2.2.2.2.2.1, ⟨hk.1.1.1.1.1.2.2.2.2.2.2.1, ⟨hk.1.1.1.1.1.2.2.2.2.2.2.2, hk.1.1.1.2⟩⟩⟩⟩⟩⟩⟩⟩⟩⟩⟩)))⟩; replace nP : aC (Kd.R Kd.string 9 ZK w.heap.size (F20 w (.slice t8 tN.length sR) (.slice zW uC.length zY)) (.slice EJ mV.length EV) mV) := ⟨(by rw [hw]; exact (by refine rR ?_; exact Kd.aT (fR (fR (tR nP fC))) (fun _ hk => ⟨hk.1.1.1, ⟨hk.1.1.2, hk.1.2⟩⟩)))⟩; replace fY : aC (Kd.R Kd.string 9 ZK w.heap.size (F20 w (.slice t8 tN.length sR) (.slice zW uC.length zY)) (.slice BH j6.length AM) j6) := ⟨(by rw [hw]; exact (by refine rR ?_; exact Kd.aT (fR (fR (tR fY fC))) (fun _ hk => ⟨hk.1.1.1, ⟨hk.1.1.2, hk.1.2⟩⟩)))⟩; replace fZ : aC (Kd.N k52 52 ZK w.heap.size (fun k_ => (w.heap.size ≤ k_) ∧ some k_ ≠ (u7 : Value).ownBlock ∧ some k_ ≠ (.slice EJ mV.length EV : Value).ownBlock ∧ some k_ ≠ (.slice BH j6.length AM : Value).ownBlock ∧ some k_ ≠ (.slice t8 tN.length sR : Value).ownBlock ∧ some k_ ≠ (.slice zW uC.length zY : Value).ownBlock ∧ some k_ ≠ (.slice MD zN.length MU : Value).ownBlock ∧ k_ ≠ aW ∧ k_ ≠ fK ∧ k_ ≠ dG ∧ k_ ≠ g104 ∧ k_ ≠ rZ) (.slice K0 lF.length IC) lF) := ⟨(by rw [hw]; exact (by refine rN ?_; exact Kd.aJ (fN (fN (Kd.aJ fZ.1 (fun k_ hk => (⟨hk, hk.1.1.1.1.2.2.2.2.2.2.1⟩ : _ ∧ k_ ≠ dG))))) (fun _ hk => ⟨hk.1.1.1.1.1.1, ⟨hk.1.1.1.1.1.2.1, ⟨hk.1.1.1.1.1.2.2.1, ⟨hk.1.1.1.1.1.2.2.2.1, ⟨hk.1.1.1.1.2, ⟨hk.1.1.2, ⟨hk.1.2, ⟨hk.1.1.1.1.1.2.2.2.2.1, ⟨hk.1.1.1.1.1.2.2.2.2.2.1, ⟨hk.1.1.1.1.1.2.2.2.2.2.2.1, ⟨hk.1.1.1.1.1.2.2.2.2.2.2.2, hk.1.1.1.2⟩⟩⟩⟩⟩⟩⟩⟩⟩⟩⟩)))⟩; replace zX : aC (Kd.R Kd.string 9 ZK w.heap.size (F30 w (.slice EJ mV.length EV) (.slice BH j6.length AM) (.slice zW uC.length zY)) (.slice t8 tN.length sR) tN) := ⟨(by rw [hw]; exact (by refine rR ?_; exact Kd.aT (fR (fR (tR zX fC))) (fun _ hk => ⟨hk.1.1.1.1.1, ⟨hk.1.1.1.2, ⟨hk.1.1.2, hk.1.2⟩⟩⟩)))⟩; replace C3 : aC (Kd.R Kd.string 9 ZK w.heap.size (F30 w (.slice EJ mV.length EV) (.slice BH j6.length AM) (.slice t8 tN.length sR)) (.slice zW uC.length zY) uC) := ⟨(by rw [hw]; exact (by refine rR ?_; exact Kd.aT (fR (fR (tR C3 fC))) (fun _ hk => ⟨hk.1.1.1.1.1, ⟨hk.1.1.1.2, ⟨hk.1.1.2, hk.1.2⟩⟩⟩)))⟩; replace vG : aC (Kd.N k52 52 ZK w.heap.size (fun k_ => (w.heap.size ≤ k_) ∧ some k_ ≠ (u7 : Value).ownBlock ∧ some k_ ≠ (.slice EJ mV.length EV : Value).ownBlock ∧ some k_ ≠ (.slice BH j6.length AM : Value).ownBlock ∧ some k_ ≠ (.slice K0 lF.length IC : Value).ownBlock ∧ some k_ ≠ (.slice t8 tN.length sR : Value).ownBlock ∧ some k_ ≠ (.slice zW uC.length zY : Value).ownBlock ∧ k_ ≠ aW ∧ k_ ≠ fK ∧ k_ ≠ dG ∧ k_ ≠ rZ ∧ k_ ≠ g104) (.slice MD zN.length MU) zN) := ⟨(by rw [hw]; exact (by refine rN ?_; exact Kd.aJ (fN (fN (Kd.aJ vG.1 (fun k_ hk => (⟨hk, hk.2.2.2.2.2.2.2.2.2.1⟩ : _ ∧ k_ ≠ dG))))) (fun _ hk => ⟨hk.1.1, ⟨hk.1.2.2.1, ⟨hk.1.2.2.2.1, ⟨hk.1.2.2.2.2.1, ⟨hk.1.2.2.2.2.2.1, ⟨hk.1.2.2.2.2.2.2.1, ⟨hk.1.2.1, ⟨hk.1.2.2.2.2.2.2.2.1, ⟨hk.1.2.2.2.2.2.2.2.2.1, ⟨hk.1.2.2.2.2.2.2.2.2.2.1, ⟨hk.1.2.2.2.2.2.2.2.2.2.2.1, hk.1.2.2.2.2.2.2.2.2.2.2.2⟩⟩⟩⟩⟩⟩⟩⟩⟩⟩⟩)))⟩; replace a6 : aC (ZK.heap[aW]? = some (.cells #[.slice none 0 0, .slice none 0 0] 26 (0, 0))) := ⟨(by rw [hw]; exact qq)⟩; replace lD : aC (ZK.heap[fK]? = some (.cells #[.slice EJ mV.length EV, .slice none 0 0] 26 (0, 0))) := ⟨(by rw [hw]; exact NV)⟩; replace fC : aC (ZK.heap[dG]? = some (.cells #[.slice zW uC.length zY, .slice MD zN.length MU] 26 (0, 0))) := ⟨(by rw [hw]; exact (qP fC))⟩; replace wL : aC (ZK.heap[rZ]? = some (.cells #[.int .i64 M0, .string lJ, .slice t8 tN.length sR] 31 (0, 0))) := ⟨(by rw [hw]; exact (qF wL VC))⟩; replace HB : aC (Below w.heap.size w ZK) := ⟨(by rw [hw]; exact UL)⟩; replace nR : aC (bE w ZK g104 vA PL) := ⟨(by rw [hw]; exact Ml)⟩; clear hw; have zd := cz3 wL) | ((with_reducible refine lQ (b := .append) (xs := #[.tmp 28, .tmp 30]) rfl ?_); at_builtin; refine Kd.Pd k31 (w0 := w) w.heap.size rfl (.tmp 28) (.tmp 30) 27 31 (.agg #[(.int .i64 0), (.string ⟨#[]⟩), (.slice none 0 0)]) 48 rfl Tryz.underlying27 pz rfl (by decide) (by omega) u7 oG (⟨M0, lJ, tN⟩ : S31) [.int .i64 M0, .string lJ, .slice t8 tN.length sR] (fun k_ => (w.heap.size ≤ k_) ∧ some k_ ≠ (.slice EJ mV.length EV : Value).ownBlock ∧ some k_ ≠ (.slice BH j6.length AM : Value).ownBlock ∧ some k_ ≠ (.slice K0 lF.length IC : Value).ownBlock ∧ some k_ ≠ (.slice zW uC.length zY : Value).ownBlock ∧ some k_ ≠ (.slice MD zN.length MU : Value).ownBlock ∧ k_ ≠ aW ∧ k_ ≠ fK ∧ k_ ≠ dG ∧ k_ ≠ rZ ∧ k_ ≠ g104) (fun k_ => ((fun k_ => (w.heap.size ≤ k_) ∧ some k_ ≠ (.slice EJ mV.length EV : Value).ownBlock ∧ some k_ ≠ (.slice BH j6.length AM : Value).ownBlock ∧ some k_ ≠ (.slice K0 lF.length IC : Value).ownBlock ∧ some k_ ≠ (.slice zW uC.length zY : Value).ownBlock ∧ some k_ ≠ (.slice MD zN.length MU : Value).ownBlock ∧ k_ ≠ aW ∧ k_ ≠ fK ∧ k_ ≠ dG ∧ k_ ≠ rZ ∧ k_ ≠ g104)) k_ ∧ some k_ ≠ (u7 : Value).ownBlock) rfl rfl ?aP (fun _ hk => hk) ?aF ?aO ?aB ?aS ?aL ?_; (case aP => exact (Xq _ _ (⟨M0, lJ, tN⟩ : S31) (Kd.bH (Kd.aT (ok' := (fun k_ => ((fun k_ => (w.heap.size ≤ k_) ∧ some k_ ≠ (.slice EJ mV.length EV : Value).ownBlock ∧ some k_ ≠ (.slice BH j6.length AM : Value).ownBlock ∧ some k_ ≠ (.slice K0 lF.length IC : Value).ownBlock ∧ some k_ ≠ (.slice zW uC.length zY : Value).ownBlock ∧ some k_ ≠ (.slice MD zN.length MU : Value).ownBlock ∧ k_ ≠ aW ∧ k_ ≠ fK ∧ k_ ≠ dG ∧ k_ ≠ rZ ∧ k_ ≠ g104)) k_ ∧ some k_ ≠ (u7 : Value).ownBlock)) (bE.apart nR.out (Kd.gZ (Kd.gZ (Kd.gZ (Kd.gZ (Kd.iU (Kd.iU (Kd.iU (zX.1) (Kd.lZ fZ.1) (by decide)) (Kd.lZ vG.1) (by decide)) (Kd.lZ wO.1) (by decide)) a6.1 (by decide)) lD.1 (by decide)) fC.1 (by decide)) wL.1 (by decide)) (by decide)) (fun k_ hk => ⟨⟨hk.1.1.1.1.1.1.1.1.1, ⟨hk.1.1.1.1.1.1.1.1.2.1, ⟨hk.1.1.1.1.1.1.1.1.2.2.1, ⟨hk.1.1.1.1.1.1.1.2, ⟨hk.1.1.1.1.1.1.1.1.2.2.2, ⟨hk.1.1.1.1.1.1.2, ⟨hk.1.1.1.1.2, ⟨hk.1.1.1.2, ⟨hk.1.1.2, ⟨hk.1.2, hk.2⟩⟩⟩⟩⟩⟩⟩⟩⟩⟩, hk.1.1.1.1.1.2⟩))).2.1 (Kd.R_F (Kd.aT (ok' := (fun k_ => ((fun k_ => (w.heap.size ≤ k_) ∧ some k_ ≠ (.slice EJ mV.length EV : Value).ownBlock ∧ some k_ ≠ (.slice BH j6.length AM : Value).ownBlock ∧ some k_ ≠ (.slice K0 lF.length IC : Value).ownBlock ∧ some k_ ≠ (.slice zW uC.length zY : Value).ownBlock ∧ some k_ ≠ (.slice MD zN.length MU : Value).ownBlock ∧ k_ ≠ aW ∧ k_ ≠ fK ∧ k_ ≠ dG ∧ k_ ≠ rZ ∧ k_ ≠ g104)) k_ ∧ some k_ ≠ (u7 : Value).ownBlock)) (bE.apart nR.out (Kd.gZ (Kd.gZ (Kd.gZ (Kd.gZ (Kd.iU (Kd.iU (Kd.iU (zX.1) (Kd.lZ fZ.1) (by decide)) (Kd.lZ vG.1) (by decide)) (Kd.lZ wO.1) (by decide)) a6.1 (by decide)) lD.1 (by decide)) fC.1 (by decide)) wL.1 (by decide)) (by decide)) (fun k_ hk => ⟨⟨hk.1.1.1.1.1.1.1.1.1, ⟨hk.1.1.1.1.1.1.1.1.2.1, ⟨hk.1.1.1.1.1.1.1.1.2.2.1, ⟨hk.1.1.1.1.1.1.1.2, ⟨hk.1.1.1.1.1.1.1.1.2.2.2, ⟨hk.1.1.1.1.1.1.2, ⟨hk.1.1.1.1.2, ⟨hk.1.1.1.2, ⟨hk.1.1.2, ⟨hk.1.2, hk.2⟩⟩⟩⟩⟩⟩⟩⟩⟩⟩, hk.1.1.1.1.1.2⟩))))); (case aB => exact UL); (case aF => exact (fun k_ hk => ⟨(Nat.le_trans (aG UL) hk), Kd.fresh' (Kd.R_lt (rR nP.1)) k_ hk, Kd.fresh' (Kd.R_lt KQ) k_ hk, Kd.fresh' (Kd.N_lt NQ) k_ hk, Kd.fresh' (Kd.R_lt (rR C3.1)) k_ hk, Kd.fresh' (Kd.N_lt (rN vG.1)) k_ hk, fB d3 k_ hk, fB Gg k_ hk, fB QM k_ hk, Kd.jD (g := rZ) (o := .cells #[.int .i64 M0, .string lJ, .slice t8 tN.length sR] 31 (0, 0)) (rB wL.1) k_ hk, bE.fresh Ml k_ hk⟩)); (case aO => exact (by refine rN ?_; exact Kd.aJ wO.1 (fun _ hk => ⟨hk.1, ⟨hk.2.1, ⟨hk.2.2.1, ⟨hk.2.2.2.1, ⟨hk.2.2.2.2.2.1, ⟨hk.2.2.2.2.2.2.1, ⟨hk.2.2.2.2.2.2.2.1, ⟨hk.2.2.2.2.2.2.2.2.1, ⟨hk.2.2.2.2.2.2.2.2.2.1, ⟨hk.2.2.2.2.2.2.2.2.2.2.2, hk.2.2.2.2.2.2.2.2.2.2.1⟩⟩⟩⟩⟩⟩⟩⟩⟩⟩))); (case aS => exact (aG UL)); (case aL => have := wk.out; omega); intro mJ w46 ho hb hg hat; rw [← VE.out] at ho; replace nP := am (Kd.uQ (rR nP.1) (Kd.lZ (rN wO.1)) (by decide) hg); replace fY := am (Kd.uQ KQ (Kd.lZ (rN wO.1)) (by decide) hg); replace fZ := am (Kd.vH (ok := (fun k_ => (w.heap.size ≤ k_) ∧ some k_ ≠ (.slice EJ mV.length EV : Value).ownBlock ∧ some k_ ≠ (.slice BH j6.length AM : Value).ownBlock ∧ some k_ ≠ (.slice t8 tN.length sR : Value).ownBlock ∧ some k_ ≠ (.slice zW uC.length zY : Value).ownBlock ∧ some k_ ≠ (.slice MD zN.length MU : Value).ownBlock ∧ k_ ≠ aW ∧ k_ ≠ fK ∧ k_ ≠ dG ∧ k_ ≠ g104 ∧ k_ ≠ rZ)) (by refine rN ?_; exact Kd.aJ fZ.1 (fun _ hk => ⟨⟨hk.1, ⟨hk.2.2.1, ⟨hk.2.2.2.1, ⟨hk.2.2.2.2.1, ⟨hk.2.2.2.2.2.1, ⟨hk.2.2.2.2.2.2.1, ⟨hk.2.2.2.2.2.2.2.1, ⟨hk.2.2.2.2.2.2.2.2.1, ⟨hk.2.2.2.2.2.2.2.2.2.1, ⟨hk.2.2.2.2.2.2.2.2.2.2.1, hk.2.2.2.2.2.2.2.2.2.2.2⟩⟩⟩⟩⟩⟩⟩⟩⟩⟩, hk.2.1⟩)) hg hat); replace a6 := gkN d3 hg wO a6; replace lD := gkN Gg hg wO lD; replace fC := gkN QM hg wO fC; replace nR := am (bE.grown Ml hg (bE.Xw nR.out wO.1 (by decide))); replace wL := am (wC (g := rZ) (o := .cells #[.int .i64 M0, .string lJ, .slice t8 tN.length sR] 31 (0, 0)) (rB wL.1) hg (Kd.HV wO.1 (fun _ hk => hk.2.2.2.2.2.2.2.2.2.2.2))); replace C3 := am (Kd.uQ (rR C3.1) (Kd.lZ (rN wO.1)) (by decide) hg); replace vG := am (Kd.vH (ok := (fun k_ => (w.heap.size ≤ k_) ∧ some k_ ≠ (.slice EJ mV.length EV : Value).ownBlock ∧ some k_ ≠ (.slice BH j6.length AM : Value).ownBlock ∧ some k_ ≠ (.slice K0 lF.length IC : Value).ownBlock ∧ some k_ ≠ (.slice t8 tN.length sR : Value).ownBlock ∧ some k_ ≠ (.slice zW uC.length zY : Value).ownBlock ∧ k_ ≠ aW ∧ k_ ≠ fK ∧ k_ ≠ dG ∧ k_ ≠ rZ ∧ k_ ≠ g104)) (by refine rN ?_; exact Kd.aJ vG.1 (fun _ hk => ⟨⟨hk.1, ⟨hk.2.2.1, ⟨hk.2.2.2.1, ⟨hk.2.2.2.2.1, ⟨hk.2.2.2.2.2.1, ⟨hk.2.2.2.2.2.2.1, ⟨hk.2.2.2.2.2.2.2.1, ⟨hk.2.2.2.2.2.2.2.2.1, ⟨hk.2.2.2.2.2.2.2.2.2.1, ⟨hk.2.2.2.2.2.2.2.2.2.2.1, hk.2.2.2.2.2.2.2.2.2.2.2⟩⟩⟩⟩⟩⟩⟩⟩⟩⟩, hk.2.1⟩)) hg hat); replace HB := am hb; have y5 := am ho; clear wO; clear zX; clear ho hb hg hat))
   go_roundg k1
   case measure => have := HK1.out; omega
   case rel => exact ⟨(O9), (wrap64 (AE - 1)), (PL), (uC), (zN), (.slice zW uC.length zY), (.slice MD zN.length MU), dU, H', ⟨by have := HK1.out; omega⟩, ⟨by refine rN ?_; exact Kd.aJ y5.1 (fun _ hk => ⟨hk.1, ⟨hk.2.1, ⟨hk.2.2.2.2.1, ⟨hk.2.2.2.2.2.1, ⟨hk.2.2.2.2.2.2.1, ⟨hk.2.2.2.2.2.2.2.1, ⟨hk.2.2.2.2.2.2.2.2.1, hk.2.2.2.2.2.2.2.2.2.2⟩⟩⟩⟩⟩⟩⟩)⟩, ⟨by refine rR ?_; exact Kd.aT nP.1 (fun _ hk => hk.1)⟩, ⟨by refine rR ?_; exact Kd.aT C3.1 (fun _ hk => hk.1)⟩, ⟨by refine rN ?_; exact Kd.aJ vG.1 (fun _ hk => ⟨hk.1.1, ⟨hk.2, ⟨hk.1.2.1, ⟨hk.1.2.2.2.2.2.1, ⟨hk.1.2.2.2.2.2.2.1, ⟨hk.1.2.2.2.2.2.2.2.1, ⟨hk.1.2.2.2.2.2.2.2.2.1, hk.1.2.2.2.2.2.2.2.2.2.2⟩⟩⟩⟩⟩⟩⟩)⟩, ⟨rB a6.1⟩, ⟨rB lD.1⟩, ⟨rB fC.1⟩, ⟨Ml⟩, ⟨UL⟩⟩
  ·rw [if_neg sy] at H
   have bg : decide (0 < AE) = false := decide_eq_false sy
   clear sy
   obtain ⟨rfl, rfl, rfl⟩ := sZ3 H
   repeat clear H
   have Z47 := nZ3 VB J4 tD vY JB yZ
   have Z50 := cz2 lD
   have Z51 := nZ2 EM OM rG rI
   have Z53 := cz2 a6
   go_wp2
   refine cT aW 26 #[.slice EJ mV.length EV, .slice none 0 0] (qP a6) Tryz.underlying26 ?_
   exact ⟨_, _, _, eR, mR nP a6, by first | exact Kd.wU _ _ _ _ _ | exact Kd.yR _ _ _ _ _ | exact Kd.yT _ _ _ _ _ | exact Kd.yS _ _ _ _ _ | exact Kd.sP _ _ _ _ _, by refine rN ?_; exact Kd.aJ (fN (fN (Kd.aJ wO.1 (fun k_ hk => (⟨hk, hk.2.2.2.2.1⟩ : _ ∧ k_ ≠ aW))))) (fun _ hk => ⟨hk.1.1, ⟨hk.1.2.1, (by simp [Value.ownBlock])⟩⟩), TU⟩
abbrev EC := ByteArray × (Option Addr × Nat × Nat) × (Option Addr × Nat × Nat)
def encE (p : EC) : List Value := [.string p.1, .slice p.2.1.1 p.2.1.2.1 p.2.1.2.2, .slice p.2.2.1 p.2.2.2.1 p.2.2.2.2]
theorem vK (p : EC) : (encE p).length = 3 := rfl
structure EZ where
  c : EC
  x : S52
  o : Nat → Prop
def EZ.apart (a b : EZ) : Prop := ∀ k, a.o k → b.o k → False
theorem VZ {α β : Type} (f : α → β) : ∀ {L : List β} {Z : List α}, (Z.map f).Perm L → ∃ Z' : List α, Z'.Perm Z ∧ Z'.map f = L
 | [], Z, h => by
  have := h.length_eq
  simp at this
  exact ⟨[], by rw [this], rfl⟩
 | b :: L, Z, h => by
  have hb : b ∈ Z.map f := h.symm.subset (List.mem_cons_self ..)
  obtain ⟨z, hz, rfl⟩ := List.mem_map.1 hb
  obtain ⟨s, t, rfl⟩ := List.append_of_mem hz
  have hp : ((s ++ z :: t).map f).Perm (f z :: (s ++ t).map f) := by
   rw [List.map_append, List.map_cons, List.map_append]
   exact List.perm_middle
  obtain ⟨Z', h1, h2⟩ := VZ f (L := L) (Z := s ++ t) (List.Perm.cons_inv (hp.symm.trans h))
  exact ⟨z :: Z', (List.Perm.cons z h1).trans List.perm_middle.symm, by rw [List.map_cons, h2]⟩
theorem flat3 : ∀ (n : Nat) (inner : List Value) (G : Nat → List Value), inner.length = n * 3 → (∀ j, j < n → (inner.drop (j * 3)).take 3 = G j) → inner = ((List.range n).map G).flatten
  | 0, inner, G, h, _ => by
    rw [List.range_zero, List.map_nil, List.flatten_nil]
    exact List.length_eq_zero_iff.1 (by omega)
  | n + 1, inner, G, h, hG => by
    have h0 := hG 0 (by omega)
    rw [Nat.zero_mul, List.drop_zero] at h0
    have ih := flat3 n (inner.drop 3) (fun j => G (j + 1)) (by rw [List.length_drop]; omega) (fun j hj => by
      rw [List.drop_drop, show 3 + j * 3 = (j + 1) * 3 by omega]; exact hG (j + 1) (by omega))
    rw [List.range_succ_eq_map, List.map_cons, List.flatten_cons, ← h0, List.map_map]
    conv => lhs; rw [← List.take_append_drop 3 inner, ih]
    rfl
theorem ym {w : World} {base g n cap : Nat} {P : Nat → Prop} {xs : List S52} (h : Kd.S k52 52 w base P (.slice (some ⟨g, 0, none⟩) n cap) xs) :
  P g ∧ base ≤ g ∧ n = xs.length ∧ n ≤ cap ∧ cap ≤ maxLen ∧ ∃ (cur : Array Value) (Z : List EZ), w.heap[g]? = some (.cells cur 52 (0, 0)) ∧ cur.size = cap * 3 ∧ Z.map EZ.x = xs ∧ cur.toList.take (n * 3) = (Z.map fun z => encE z.c).flatten ∧ Z.Pairwise EZ.apart ∧
   ∀ z ∈ Z, z.c.1 = z.x.f0 ∧ k52.M w base (fun k => (P k ∧ k ≠ g) ∧ z.o k) z.x (encE z.c) := by
 obtain ⟨f, h0, inner, ⟨hil, ho⟩, hr⟩ := h
 rw [List.length_zipIdx] at hil
 have hP : P g := h0 g rfl
 rcases ho with ⟨hv, _⟩ | ⟨g', cap', cur, hv, hb, hh, hn, hm, hc, ht⟩
 ·cases hv
 injection hv with ha hn2 hcap
 injection ha with ha
 injection ha with ha _ _
 subst ha; subst hcap
 rw [List.length_zipIdx] at hn2 hn ht
 refine ⟨hP, hb, hn2, by omega, hm, cur, ?_⟩
 have hel : ∀ j (hj : j < xs.length), ∃ c : EC, (inner.drop (j * 3)).take 3 = encE c ∧ c.1 = xs[j].f0 ∧ k52.M w base (fun k => (P k ∧ k ≠ g) ∧ f k = j) xs[j] (encE c) := by
  intro j hj
  have hM : k52.M w base (fun k => (P k ∧ some k ≠ (Value.slice (some ⟨g, 0, none⟩) n cap).ownBlock) ∧ f k = j) xs[j] ((inner.drop (j * 3)).take 3) := hr.2 j (xs[j], j) (Kd.AY (List.getElem?_eq_getElem hj))
  have hM2 : k52.M w base (fun k => (P k ∧ k ≠ g) ∧ f k = j) xs[j] ((inner.drop (j * 3)).take 3) := k52.M_mono (fun k hk => ⟨⟨hk.1.1, fun e => hk.1.2 (by rw [e]; rfl)⟩, hk.2⟩) hM
  obtain ⟨v1, v2, e, g1, g2⟩ := uG hM2
  obtain ⟨A1, c1, rfl⟩ := Kd.cZ g1
  obtain ⟨A2, c2, rfl⟩ := Kd.cZ g2
  refine ⟨(xs[j].f0, (A1, xs[j].f1.length, c1), (A2, xs[j].f2.length, c2)), e, rfl, ?_⟩
  rw [← show _ = encE _ from e]
  exact hM2
 have hchoose : ∀ j, ∃ c : EC, ∀ hj : j < xs.length, (inner.drop (j * 3)).take 3 = encE c ∧ c.1 = xs[j].f0 ∧ k52.M w base (fun k => (P k ∧ k ≠ g) ∧ f k = j) xs[j] (encE c) := by
  intro j
  by_cases hj : j < xs.length
  ·obtain ⟨c, hc⟩ := hel j hj; exact ⟨c, fun _ => hc⟩
  ·exact ⟨(ByteArray.empty, (none, 0, 0), (none, 0, 0)), fun h => absurd h hj⟩
 obtain ⟨F, hF⟩ := Classical.axiomOfChoice hchoose
 refine ⟨xs.zipIdx.map fun q => ⟨F q.2, q.1, fun k => f k = q.2⟩, hh, hc, ?_, ?_, ?_, ?_⟩
 ·rw [List.map_map]
  exact List.zipIdx_map_fst 0 xs
 ·have hl : inner.length = xs.length * 3 := hil
  rw [hn2, show cur.toList.take (xs.length * 3) = inner from ht, List.map_map]
  have e : xs.zipIdx.map ((fun z => encE z.c) ∘ fun q => (⟨F q.2, q.1, fun k => f k = q.2⟩ : EZ)) = (List.range xs.length).map fun j => encE (F j) := by
   rw [List.range_eq_range', ← List.zipIdx_map_snd 0 xs, List.map_map]; rfl
  rw [e]
  exact flat3 xs.length inner _ hl (fun j hj => (hF j hj).1)
 ·rw [List.pairwise_map]
  rw [List.pairwise_iff_getElem]
  intro i j hi hj hij k h1 h2
  simp only [List.getElem_zipIdx, Nat.zero_add] at h1 h2
  omega
 intro z hz
 obtain ⟨q, hq, rfl⟩ := List.mem_map.1 hz
 obtain ⟨j, hj, rfl⟩ := List.getElem_of_mem hq
 rw [List.length_zipIdx] at hj
 simp only [List.getElem_zipIdx, Nat.zero_add]
 exact (hF j hj).2
theorem yh {w w' : World} {base g n cap : Nat} {P : Nat → Prop} {Z : List EZ} {cur : Array Value} (hP : P g) (hb : base ≤ g) (hn : n = Z.length) (hc : n ≤ cap) (hm : cap ≤ maxLen)
  (hh : w'.heap[g]? = some (.cells cur 52 (0, 0))) (hs : cur.size = cap * 3) (ht : cur.toList.take (n * 3) = (Z.map fun z => encE z.c).flatten) (hp : Z.Pairwise EZ.apart)
  (hZ : ∀ z ∈ Z, k52.M w base (fun k => (P k ∧ k ≠ g) ∧ z.o k) z.x (encE z.c)) (hk : Kept w w' (fun k => k = g)) :
  Kd.S k52 52 w' base P (.slice (some ⟨g, 0, none⟩) n cap) (Z.map EZ.x) := by
 subst hn
 have hlen : ∀ L : List EZ, (L.map fun z => encE z.c).flatten.length = L.length * 3 := by
  intro L; induction L with
  | nil => rfl
  | cons a l ih => rw [List.map_cons, List.flatten_cons, List.length_append, ih, List.length_cons, vK]; omega
 have hdrop : ∀ (L : List EZ) (j : Nat) (hj : j < L.length), (((L.map fun z => encE z.c).flatten).drop (j * 3)).take 3 = encE L[j].c := by
  intro L; induction L with
  | nil => intro j hj; exact absurd hj (by simp)
  | cons a l ih =>
   intro j hj
   rw [List.map_cons, List.flatten_cons]
   cases j with
   | zero => rw [Nat.zero_mul, List.drop_zero, List.take_append_of_le_length (by rw [vK]; omega), List.take_of_length_le (by rw [vK]; omega)]; rfl
   | succ j =>
    rw [List.drop_append, List.drop_eq_nil_of_le (by rw [vK]; omega), List.nil_append, vK, show (j + 1) * 3 - 3 = j * 3 by omega]
    exact ih j (by simpa using hj)
 have hZ2 : ∀ j (hj : j < Z.length), ∀ i (hi : i < Z.length), ∀ k, Z[i].o k → Z[j].o k → i = j := by
  intro j hj i hi k h1 h2
  rw [List.pairwise_iff_getElem] at hp
  rcases Nat.lt_trichotomy i j with h | h | h
  ·exact (hp i j hi hj h k h1 h2).elim
  ·exact h
  ·exact (hp j i hj hi h k h2 h1).elim
 have hf : ∀ k, ∃ i, ∀ j (hj : j < Z.length), Z[j].o k → i = j := by
  intro k
  by_cases h : ∃ i, ∃ hi : i < Z.length, Z[i].o k
  ·obtain ⟨i, hi, h1⟩ := h
   exact ⟨i, fun j hj h2 => hZ2 j hj i hi k h1 h2⟩
  ·exact ⟨0, fun j hj h2 => absurd ⟨j, hj, h2⟩ h⟩
 obtain ⟨f, hf⟩ := Classical.axiomOfChoice hf
 have hl : (Z.map EZ.x).length = Z.length := List.length_map ..
 refine ⟨f, fun k hk => by (have e : g = k := by simpa [Value.ownBlock] using hk); subst e; exact hP, (Z.map fun z => encE z.c).flatten, ⟨?_, .inr ⟨g, cap, cur, ?_, hb, hh, ?_, hm, hs, ?_⟩⟩, ?_, ?_⟩
 ·rw [hlen, List.length_zipIdx, hl]; rfl
 ·rw [List.length_zipIdx, hl]
 ·rw [List.length_zipIdx, hl]; exact hc
 ·rw [List.length_zipIdx, hl]; exact ht
 ·rw [hlen, List.length_zipIdx, hl]; rfl
 intro j p hj
 rw [List.getElem?_zipIdx] at hj
 obtain ⟨x, hx, rfl⟩ := Option.map_eq_some_iff.mp hj
 have hjl : j < Z.length := by rw [← hl]; exact (List.getElem?_eq_some_iff.1 hx).1
 rw [List.getElem?_map, List.getElem?_eq_getElem hjl] at hx
 obtain rfl := Option.some.inj hx
 show (Kd.tag f k52).M _ _ _ _ ((((Z.map fun z => encE z.c).flatten).drop (j * 3)).take 3)
 rw [hdrop Z j hjl]
 have hM := hZ Z[j] (List.getElem_mem hjl)
 have hM2 := Kd.OB (d := k52) (w1 := w') hM (fun k hk1 hlt => hk.2 k hlt (fun e => hk1.1.2 e))
 refine k52.M_mono (fun k hk1 => ⟨⟨hk1.1.1, fun e => hk1.1.2 (by simpa [Value.ownBlock] using e)⟩, ?_⟩) hM2
 show f k = 0 + j
 rw [Nat.zero_add]
 exact hf k j hjl hk1.2
end Go.Proofs.YtaofjgnhapnndaaGreat.Q
