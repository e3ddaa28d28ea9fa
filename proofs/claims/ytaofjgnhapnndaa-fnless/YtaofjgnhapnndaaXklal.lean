/- Texts that the row needs: words on memory and rows, the contracts of the functions it reaches, and the plain lemmas on what they compute. -/
import Derived.Test.YtaofjgnhapnndaaXklak
set_option maxHeartbeats 8000000
set_option maxRecDepth 100000
open Go.Proofs.YtaofjgnhapnndaaFkl
namespace Go.Proofs.Ytaofjgnhapnndaa.Q
open Go.RowKit Go.Proofs.YtaofjgnhapnndaaW.PrintWords Go.Proofs.YtaofjgnhapnndaaW.PrintLast Go.Proofs.YtaofjgnhapnndaaW.PrintMore
set_option linter.unusedVariables false
set_option linter.unusedSimpArgs false
def dD.l0 : Nat → List ByteArray → ByteArray → Int → Option (List ByteArray)
 | 0, _, _, _ => none
 | k + 1, b, c, a => if a < (b.length : Int) then (if 0 ≤ a then (if (Op.bytesLess ((rdOf ByteArray.empty b a).toList) c.toList) = true then (dD.l0 k b c (wrap64 (a + 1))) else (if (rdOf ByteArray.empty b a).toList = c.toList then (none) else ((some (([] : List ByteArray) : List ByteArray)).bind fun d => (if a ≤ (b.length : Int) then (if d.length + (b.take (a : Int).toNat).length < 8796093022208 then ((some (d ++ (b.take (a : Int).toNat) : List ByteArray)).bind fun e => ((some (([c] : List ByteArray) : List ByteArray)).bind fun f => (if e.length + f.length < 8796093022208 then ((some (e ++ f : List ByteArray)).bind fun g => (if g.length + (b.drop (a : Int).toNat).length < 8796093022208 then (some (g ++ (b.drop (a : Int).toNat))) else (none))) else (none)))) else (none)) else (none))))) else (none)) else ((some (([] : List ByteArray) : List ByteArray)).bind fun h => (if 0 ≤ a then (if a ≤ (b.length : Int) then (if h.length + (b.take (a : Int).toNat).length < 8796093022208 then ((some (h ++ (b.take (a : Int).toNat) : List ByteArray)).bind fun i => ((some (([c] : List ByteArray) : List ByteArray)).bind fun j => (if i.length + j.length < 8796093022208 then ((some (i ++ j : List ByteArray)).bind fun l => (if l.length + (b.drop (a : Int).toNat).length < 8796093022208 then (some (l ++ (b.drop (a : Int).toNat))) else (none))) else (none)))) else (none)) else (none)) else (none)))
def dD.f (k : Nat) (l0 : List ByteArray) (a1 : ByteArray) : Option (List ByteArray) := dD.l0 k l0 a1 0
def dD.T6 : Bool × List (List Nat × List Nat) := (true, [([], []), ([], []), ([], []), ([1, 2], [1, 2]), ([0, 3], [0, 3]), ([], []), ([5], [5]), ([4, 6, 4], [4, 6]), ([], []), ([], []), ([8, 9], [8, 9]), ([7, 10, 7], [7, 10]), ([11, 11, 0, 1, 2, 3, 4, 5, 6, 7, 8, 9, 10, 11], [11])])
def dD.B6 : List Nat := [0, 0, 0, 6, 15, 0, 32, 127, 0, 0, 768, 2047, 4095]
theorem dD.tab6 : rtab .any (opsOf Try.f106 6) = dD.T6 := by kernel_rfl
theorem dD.AL : kP dD.T6.2 dD.B6 = true := by kernel_rfl
theorem dD.calls (k : Nat) (A0 : Option Addr) (c0 : Nat) (l0 : List ByteArray) (a1 : ByteArray) (r : List ByteArray) (w : World) (sJ : Kd.C Kd.string w A0 l0.length l0) (yR : l0.length ≤ c0) (h : dD.f k l0 a1 = some r) :
  Calls Try.prog 106 #[.slice A0 l0.length c0, .string a1] w fun e w' => ∃ v0_ : Value, e = .returned (v0_) ∧ Kd.R Kd.string 9 w' w.heap.size (fun _ => True) v0_ r ∧ Below w.heap.size w w' := by
 obtain ⟨tO, QP⟩ := mZ2 sJ yR
 clear sJ yR
 have HB := am (Below.refl w.heap.size w)
 unfold dD.f at h
 have H := h
 clear h
 have H' := am H
 repeat clear H
 go_enter Try.func106, Try.ntmps106
 go_wp2
 go_loopg [5] k (fun kq v5 w' => ∃ (dW : Int), v5 = .int .i64 dW ∧ aC (dD.l0 kq l0 a1 dW = some r) ∧ aC (kq ≤ k) ∧ aC (Below w.heap.size w w'))
 case atStart => exact ⟨(0), dM, H', ⟨Nat.le_refl _⟩, ⟨eG⟩⟩
 clear H'
 obtain ⟨dW, rfl, HA, HK1, HB⟩ := hrel
 cases gk with
 | zero => exact absurd HA.out (by simp [dD.l0])
 | succ k1 =>
  have H := HA.out
  clear HA
  simp only [dD.l0] at H
  refine ic H ?_ ?_ <;> clear H <;> intro IM H
  ·obtain ⟨yF, H⟩ := cN H
   refine tC H ?_ ?_ <;> clear H <;> intro IP H
   ·have H' := am H
    repeat clear H
    obtain ⟨kK, pN, lH, zO, zR⟩ := aS tO HB dW
    cases pN
    go_wp2
    go_roundg k1
    case measure => have := HK1.out; omega
    case rel => exact ⟨(wrap64 (dW + 1)), dM, H', ⟨by have := HK1.out; omega⟩, ⟨eG⟩⟩
   ·refine iq H ?_ ?_ <;> clear H <;> intro c6 RQ Bi H
    ·cases H
    ·obtain ⟨LF, hy103⟩ : ∃ y_ : List ByteArray, y_ = (([] : List ByteArray)) := ⟨_, rfl⟩
     replace H : (if dW ≤ (l0.length : Int) then (if LF.length + (l0.take (dW : Int).toNat).length < 8796093022208 then ((some (LF ++ (l0.take (dW : Int).toNat) : List ByteArray)).bind fun VD => ((some (([a1] : List ByteArray) : List ByteArray)).bind fun K4 => (if VD.length + K4.length < 8796093022208 then ((some (VD ++ K4 : List ByteArray)).bind fun Um => (if Um.length + (l0.drop (dW : Int).toNat).length < 8796093022208 then (some (Um ++ (l0.drop (dW : Int).toNat))) else (none))) else (none)))) else (none)) else (none)) = some r := by first | (rw [hy103]; with_reducible exact H) | (have H2_ := (Option.bind_some _ _).symm.trans H; rw [hy103]; with_reducible exact H2_) | (have H2_ := (Option.bind_some _ _).symm.trans H; with_reducible exact H2_) | with_reducible exact H | (rw [hy103]; exact H) | exact H
     have QU := am hy103
     clear hy103
     have XW := eq_true (oT : 0 ≤ dW)
     obtain ⟨LB, aDY, H⟩ := cP H
     obtain ⟨jp, H⟩ := cL H
     obtain ⟨VD, NH, H⟩ := bY H
     obtain ⟨K4, VS, H⟩ := bY H
     obtain ⟨Oj, H⟩ := cL H
     obtain ⟨Um, yy, H⟩ := bY H
     have NM := eq_true (oT : 0 ≤ dW)
     have QX := eq_true (oT : dW ≤ (l0.length : Int))
     obtain ⟨Ol, H⟩ := cL H
     obtain ⟨Dc, J6⟩ := yv (Um ++ (l0.drop (dW : Int).toNat)); first | replace H := bW J6 H | rw [← J6.1] at H
     obtain rfl := Option.some.inj H
     repeat clear H
     obtain ⟨kK, pN, lH, zO, zR⟩ := aS tO HB dW
     cases pN
     obtain ⟨pF, uK, oR, F7, FB⟩ := aS tO HB dW
     obtain rfl : kK = pF := (by injection uK)
     try go_wp2
     replace HB := am (aV HB.1)
     obtain ⟨i015, dt, _, hsz15, _⟩ := info_parts rY
     obtain ⟨hcut15, hA15, hC15⟩ := F9 (P := Try.prog) Value.string (⟨#[]⟩ : ByteArray) 23 9 .i64 Try.underlying23 dt hsz15 (some kK) c0 l0 dW (oT) (oT) QP.1
     have Hh := am (Kd.vC (h1 := fun _ => rfl) (hA15 _ (Kd.vP tO.1)))
     have aI3 := am hC15
     clear hA15 hC15 dt hsz15
     obtain ⟨i016, du, _, hsz16, _⟩ := info_parts rY
     obtain ⟨Kn, hcut16, hA16, hC16⟩ := M0 (P := Try.prog) Value.string (⟨#[]⟩ : ByteArray) 23 9 .i64 Try.underlying23 du hsz16 (some kK) c0 l0 dW (oT) (oT) QP.1
     have Oe := am (Kd.vC (h1 := fun _ => rfl) (hA16 _ (Kd.vP tO.1)))
     have aI5 := am hC16
     clear hA16 hC16 du hsz16
     refine sT (S := fun w' => True) [] 13 ⟨trivial⟩ (fun hHeld => ?_)
     refine eO dD.tab6 dD.AL (fun HT_ HW_ => ?_)
     generalize wr.drew = vx at HB Hh Oe hHeld ⊢
     refine pU7 1 2 3 5 8 9 10 ?_
     refine Sd (σ := Value × Value × Value) 3 (bz 13 1919) (fun s_ => [(33, s_.1), (37, s_.2.1), (39, s_.2.2)]) (fun s_ w' => (Kd.R Kd.string 9 w' w.heap.size (fun k_ => some k_ ≠ (s_.2.2 : Value).ownBlock) s_.2.1 VD) ∧ (Kd.R Kd.string 9 w' w.heap.size (fun k_ => some k_ ≠ (s_.2.1 : Value).ownBlock) s_.2.2 K4) ∧ (Below w.heap.size w w')) ?_ ?_
     rotate_left
     ·intro hCont
      refine two_ (i := 0) (j := 6) (Ni := some 33) (Nj := some 39) (bz 13 1839) (bz 13 1902) rfl rfl rfl rfl (UH HT_.out (by kernel_rfl)) (by decide) (by decide) (fun K hK => ?_) (fun K hK => ?_)
      ·skip
       refine lT 9 33 QU ?_
       intro FD w17 Rv hb
       have mY := am (Kd.d9 Rv (aG eG))
       replace HB := bS eG hb
       clear hb Rv
       refine hK.out _ _ trivial (fun hHeld => ?_)
       clear hK K
       refine nM ?_
       refine two_ (i := 4) (j := 6) (Ni := some 37) (Nj := some 39) (bz 13 1855) (bz 13 1903) rfl rfl rfl rfl (UH HT_.out (by kernel_rfl)) (by decide) (by decide) (fun K hK => ?_) (fun K hK => ?_)
       ·skip
        refine Kd.iQ Kd.string (w0 := w) w.heap.size (by rfl) (.tmp 33) (.tmp 36) 23 9 (.string ⟨#[]⟩) 16 rfl Try.underlying23 rY rfl (by decide) (by omega) FD LF (l0.take (dW : Int).toNat) _ _ _ (fun _ => True) (fun _ => False) rfl rfl ?aO ?aR (fun _ _ h => h) (fun _ h => h.elim) ?aF ?aB ?aS ?aL ?_
        (case aR => (have e_ : (l0.take (dW : Int).toNat).length = dW.toNat := (by rw [List.length_take]; have h_ : (dW : Int) ≤ (l0.length : Int) := oT; omega); have q_ := Kd.aX Hh.1 HB.1; rw [e_] at q_; exact q_))
        (case aB => exact eG)
        (case aF => exact (fun _ _ => trivial))
        (case aO => exact LW)
        (case aS => exact (aG eG))
        (case aL => have := jp.out; have hlx_ := (show (l0.take (dW : Int).toNat).length = dW.toNat from (by rw [List.length_take]; have h_ : (dW : Int) ≤ (l0.length : Int) := oT; omega)); omega)
        intro IV w19 ho hb hg hat
        rw [← NH.out] at ho
        replace HB := am hb
        have fU := am ho
        clear mY
        clear ho hb hg hat
        refine hK.out _ _ trivial (fun hHeld => ?_)
        clear hK K
        refine nM ?_
        refine oN 6 (some 39) fun K hK => ?_
        refine lT 9 39 VS ?_
        intro RY Mu qr hb
        have xN := am (Kd.d9 (Kd.fA qr (Kd.R_lt (rR fU.1))) (aG eG))
        replace fU := am (Kd.dS (rR fU.1) (Kd.bZ qr) hb)
        replace HB := bS eG hb
        clear hb qr
        refine hK.out _ _ trivial (fun hHeld => ?_)
        clear hK K
        refine nM ?_
        exact G7 RI (hCont (FD, IV, RY) _ ⟨(by refine rR ?_; exact Kd.aM fU.1 (fun _ hk => hk.2)), (by refine rR ?_; exact Kd.aM xN.1 (fun _ hk => hk.2)), eG⟩)
       ·skip
        refine lT 9 39 VS ?_
        intro RY w19 Fd hb
        have xN := am (Kd.d9 (Kd.fA Fd (Kd.R_lt LW)) (aG eG))
        replace mY := am (Kd.dS LW (Kd.bZ Fd) hb)
        replace HB := bS eG hb
        clear hb Fd
        refine hK.out _ _ trivial (fun hHeld => ?_)
        clear hK K
        refine nM ?_
        refine oN 4 (some 37) fun K hK => ?_
        refine Kd.iQ Kd.string (w0 := w) w.heap.size (by rfl) (.tmp 33) (.tmp 36) 23 9 (.string ⟨#[]⟩) 16 rfl Try.underlying23 rY rfl (by decide) (by omega) FD LF (l0.take (dW : Int).toNat) _ _ _ (fun k_ => some k_ ≠ (RY : Value).ownBlock) (fun _ => False) rfl rfl ?aO ?aR (fun _ _ h => h) (fun _ h => h.elim) ?aF ?aB ?aS ?aL ?_
        (case aR => (have e_ : (l0.take (dW : Int).toNat).length = dW.toNat := (by rw [List.length_take]; have h_ : (dW : Int) ≤ (l0.length : Int) := oT; omega); have q_ := Kd.aX Hh.1 HB.1; rw [e_] at q_; exact q_))
        (case aB => exact eG)
        (case aF => exact (fun k_ hk => Kd.fresh' (Kd.R_lt OY) k_ hk))
        (case aO => exact (by refine rR ?_; exact Kd.aM mY.1 (fun _ hk => hk.2)))
        (case aS => exact (aG eG))
        (case aL => have := jp.out; have hlx_ := (show (l0.take (dW : Int).toNat).length = dW.toNat from (by rw [List.length_take]; have h_ : (dW : Int) ≤ (l0.length : Int) := oT; omega)); omega)
        intro IV Uw ho hb hg hat
        rw [← NH.out] at ho
        replace xN := am (Kd.nA (ok := (fun _ => True)) OY hg hat)
        replace HB := am hb
        have fU := am ho
        clear mY
        clear ho hb hg hat
        refine hK.out _ _ trivial (fun hHeld => ?_)
        clear hK K
        refine nM ?_
        exact G7 RI (hCont (FD, IV, RY) _ ⟨(rR fU.1), (by refine rR ?_; exact Kd.aM xN.1 (fun _ hk => hk.2)), eG⟩)
      ·skip
       refine lT 9 39 VS ?_
       intro RY w17 Rv hb
       have xN := am (Kd.d9 Rv (aG eG))
       replace HB := bS eG hb
       clear hb Rv
       refine hK.out _ _ trivial (fun hHeld => ?_)
       clear hK K
       refine nM ?_
       refine oN 0 (some 33) fun K hK => ?_
       refine lT 9 33 QU ?_
       intro FD w19 Fd hb
       have mY := am (Kd.d9 (Kd.fA Fd (Kd.R_lt OY)) (aG eG))
       replace xN := am (Kd.dS OY (Kd.bZ Fd) hb)
       replace HB := bS eG hb
       clear hb Fd
       refine hK.out _ _ trivial (fun hHeld => ?_)
       clear hK K
       refine nM ?_
       refine oN 4 (some 37) fun K hK => ?_
       refine Kd.iQ Kd.string (w0 := w) w.heap.size (by rfl) (.tmp 33) (.tmp 36) 23 9 (.string ⟨#[]⟩) 16 rfl Try.underlying23 rY rfl (by decide) (by omega) FD LF (l0.take (dW : Int).toNat) _ _ _ (fun k_ => some k_ ≠ (RY : Value).ownBlock) (fun _ => False) rfl rfl ?aO ?aR (fun _ _ h => h) (fun _ h => h.elim) ?aF ?aB ?aS ?aL ?_
       (case aR => (have e_ : (l0.take (dW : Int).toNat).length = dW.toNat := (by rw [List.length_take]; have h_ : (dW : Int) ≤ (l0.length : Int) := oT; omega); have q_ := Kd.aX Hh.1 HB.1; rw [e_] at q_; exact q_))
       (case aB => exact eG)
       (case aF => exact (fun k_ hk => Kd.fresh' (Kd.R_lt OY) k_ hk))
       (case aO => exact (by refine rR ?_; exact Kd.aM mY.1 (fun _ hk => hk.2)))
       (case aS => exact (aG eG))
       (case aL => have := jp.out; have hlx_ := (show (l0.take (dW : Int).toNat).length = dW.toNat from (by rw [List.length_take]; have h_ : (dW : Int) ≤ (l0.length : Int) := oT; omega)); omega)
       intro IV Uw ho hb hg hat
       rw [← NH.out] at ho
       replace xN := am (Kd.nA (ok := (fun _ => True)) OY hg hat)
       replace HB := am hb
       have fU := am ho
       clear mY
       clear ho hb hg hat
       refine hK.out _ _ trivial (fun hHeld => ?_)
       clear hK K
       refine nM ?_
       exact G7 RI (hCont (FD, IV, RY) _ ⟨(rR fU.1), (by refine rR ?_; exact Kd.aM xN.1 (fun _ hk => hk.2)), eG⟩)
     rintro ⟨FD, IV, RY⟩ Ux ⟨h0_, h1_, h2_⟩
     have fU : aC (Kd.R Kd.string 9 Ux w.heap.size (fun k_ => some k_ ≠ (RY : Value).ownBlock) IV VD) := ⟨h0_⟩
     have xN : aC (Kd.R Kd.string 9 Ux w.heap.size (fun k_ => some k_ ≠ (IV : Value).ownBlock) RY K4) := ⟨h1_⟩
     replace HB : aC (Below w.heap.size w Ux) := ⟨h2_⟩
     clear h0_ h1_ h2_
     have hHeld := trivial
     obtain ⟨M7, uY, Br⟩ := Kd.bP xN.1
     (first | subst Br | (obtain ⟨f4_, f5_⟩ := sj Br; subst f4_; subst f5_))
     refine G7 (a' := ?_) ?_ ?_
     rotate_left
     ·simp only [MS, Act.put, List.setIfInBounds_toArray, List.set_cons_zero, List.set_cons_succ]
      rfl
     refine oN 7 (some 40) fun K hK => ?_
     refine Kd.iQ Kd.string (w0 := w) w.heap.size (by rfl) (.tmp 37) (.tmp 39) 23 9 (.string ⟨#[]⟩) 16 rfl Try.underlying23 rY rfl (by decide) (by omega) IV VD K4 _ _ _ (fun k_ => some k_ ≠ (.slice M7 K4.length uY : Value).ownBlock) (fun _ => False) rfl rfl ?aO ?aR (fun _ _ h => h) (fun _ h => h.elim) ?aF ?aB ?aS ?aL ?_
     (case aR => repeat (first | exact (Kd.aU xN.1).2.2 | (with_reducible refine Kd.mO ?_ _) | (with_reducible refine Kd.mP ?_ _) | (with_reducible refine Kd.oD ?_)))
     (case aB => exact eG)
     (case aF => exact (fun k_ hk => Kd.fresh' (Kd.R_lt OY) k_ hk))
     (case aO => exact (rR fU.1))
     (case aS => exact (aG eG))
     (case aL => have := Oj.out; omega)
     intro Gk VA ho hb hg hat
     rw [← yy.out] at ho
     replace xN := am (Kd.nA (ok := (fun _ => True)) (by refine rR ?_; exact Kd.aM xN.1 (fun _ hk => ⟨trivial, hk⟩)) hg hat)
     replace HB := am hb
     have vD := am ho
     clear fU
     clear ho hb hg hat
     refine hK.out _ _ trivial (fun hHeld => ?_)
     clear hK K
     refine nM ?_
     refine oN 11 (some 44) fun K hK => ?_
     refine Kd.iQ Kd.string (w0 := w) w.heap.size (by rfl) (.tmp 40) (.tmp 43) 23 9 (.string ⟨#[]⟩) 16 rfl Try.underlying23 rY rfl (by decide) (by omega) Gk Um (l0.drop (dW : Int).toNat) _ _ _ (fun k_ => some k_ ≠ (.slice M7 K4.length uY : Value).ownBlock) (fun _ => False) rfl rfl ?aO ?aR (fun _ _ h => h) (fun _ h => h.elim) ?aF ?aB ?aS ?aL ?_
     (case aR => first | (rw [← show (l0.drop (dW : Int).toNat).length = (l0.length - dW.toNat) from List.length_drop]; repeat (first | exact (Kd.aX Oe.1 HB.1) | (with_reducible refine Kd.mO ?_ _) | (with_reducible refine Kd.mP ?_ _) | (with_reducible refine Kd.oD ?_))) | (repeat (first | exact (Kd.aX Oe.1 HB.1) | (with_reducible refine Kd.mO ?_ _) | (with_reducible refine Kd.mP ?_ _) | (with_reducible refine Kd.oD ?_))))
     (case aB => exact eG)
     (case aF => exact (fun k_ hk => Kd.fresh' (Kd.R_lt OY) k_ hk))
     (case aO => exact RE)
     (case aS => exact (aG eG))
     (case aL => have := Ol.out; have hlx_ := (show (l0.drop (dW : Int).toNat).length = (l0.length - dW.toNat) from List.length_drop); omega)
     intro a4R vy ho hb hg hat
     rw [← J6.out] at ho
     replace xN := am (Kd.nA (ok := (fun _ => True)) OY hg hat)
     replace HB := am hb
     have BI := am ho
     clear vD
     clear ho hb hg hat
     refine hK.out _ _ trivial (fun hHeld => ?_)
     clear hK K
     refine nM ?_
     refine pU1 12 ?_
     refine dN ?_
     try go_wp2
     go_ret
     exact ⟨_, eR, by refine rR ?_; exact Kd.aM BI.1 (fun _ hk => trivial), eG⟩
  ·obtain ⟨QJ, hy120⟩ : ∃ y_ : List ByteArray, y_ = (([] : List ByteArray)) := ⟨_, rfl⟩
   replace H : (if 0 ≤ dW then (if dW ≤ (l0.length : Int) then (if QJ.length + (l0.take (dW : Int).toNat).length < 8796093022208 then ((some (QJ ++ (l0.take (dW : Int).toNat) : List ByteArray)).bind fun PG => ((some (([a1] : List ByteArray) : List ByteArray)).bind fun QK => (if PG.length + QK.length < 8796093022208 then ((some (PG ++ QK : List ByteArray)).bind fun UL => (if UL.length + (l0.drop (dW : Int).toNat).length < 8796093022208 then (some (UL ++ (l0.drop (dW : Int).toNat))) else (none))) else (none)))) else (none)) else (none)) else (none)) = some r := by first | (rw [hy120]; with_reducible exact H) | (have H2_ := (Option.bind_some _ _).symm.trans H; rw [hy120]; with_reducible exact H2_) | (have H2_ := (Option.bind_some _ _).symm.trans H; with_reducible exact H2_) | with_reducible exact H | (rw [hy120]; exact H) | exact H
   have Ii := am hy120
   clear hy120
   obtain ⟨Bd, a0E, H⟩ := cP H
   obtain ⟨Be, aLH, H⟩ := cP H
   obtain ⟨Oo, H⟩ := cL H
   obtain ⟨PG, J7, H⟩ := bY H
   obtain ⟨QK, J8, H⟩ := bY H
   obtain ⟨xu, H⟩ := cL H
   obtain ⟨UL, As, H⟩ := bY H
   have NO := eq_true (oT : 0 ≤ dW)
   have a0H := eq_true (oT : dW ≤ (l0.length : Int))
   obtain ⟨xv, H⟩ := cL H
   obtain ⟨aX9, Pi⟩ := yv (UL ++ (l0.drop (dW : Int).toNat)); first | replace H := bW Pi H | rw [← Pi.1] at H
   obtain rfl := Option.some.inj H
   repeat clear H
   try go_wp2
   replace HB := am (aV HB.1)
   obtain ⟨i034, dv, _, hsz34, _⟩ := info_parts rY
   obtain ⟨hcut34, hA34, hC34⟩ := F9 (P := Try.prog) Value.string (⟨#[]⟩ : ByteArray) 23 9 .i64 Try.underlying23 dv hsz34 A0 c0 l0 dW (oT) (oT) QP.1
   have Hl := am (Kd.vC (h1 := fun _ => rfl) (hA34 _ (Kd.vP tO.1)))
   have aI8 := am hC34
   clear hA34 hC34 dv hsz34
   obtain ⟨i035, dw, _, hsz35, _⟩ := info_parts rY
   obtain ⟨A35, hcut35, hA35, hC35⟩ := M0 (P := Try.prog) Value.string (⟨#[]⟩ : ByteArray) 23 9 .i64 Try.underlying23 dw hsz35 A0 c0 l0 dW (oT) (oT) QP.1
   have Of := am (Kd.vC (h1 := fun _ => rfl) (hA35 _ (Kd.vP tO.1)))
   have aIA := am hC35
   clear hA35 hC35 dw hsz35
   refine sT (S := fun w' => True) [] 13 ⟨trivial⟩ (fun hHeld => ?_)
   refine eO dD.tab6 dD.AL (fun HT_ HW_ => ?_)
   generalize wr.drew = wa at HB Hl Of hHeld ⊢
   refine pU7 1 2 3 5 8 9 10 ?_
   refine Sd (σ := Value × Value × Value) 3 (bz 13 1919) (fun s_ => [(33, s_.1), (37, s_.2.1), (39, s_.2.2)]) (fun s_ w' => (Kd.R Kd.string 9 w' w.heap.size (fun k_ => some k_ ≠ (s_.2.2 : Value).ownBlock) s_.2.1 PG) ∧ (Kd.R Kd.string 9 w' w.heap.size (fun k_ => some k_ ≠ (s_.2.1 : Value).ownBlock) s_.2.2 QK) ∧ (Below w.heap.size w w')) ?_ ?_
   rotate_left
   ·intro hCont
    refine two_ (i := 0) (j := 6) (Ni := some 33) (Nj := some 39) (bz 13 1839) (bz 13 1902) rfl rfl rfl rfl (UH HT_.out (by kernel_rfl)) (by decide) (by decide) (fun K hK => ?_) (fun K hK => ?_)
    ·skip
     refine lT 9 33 Ii ?_
     intro PB uf Rx hb
     have kI := am (Kd.d9 Rx (aG eG))
     replace HB := bS eG hb
     clear hb Rx
     refine hK.out _ _ trivial (fun hHeld => ?_)
     clear hK K
     refine nM ?_
     refine two_ (i := 4) (j := 6) (Ni := some 37) (Nj := some 39) (bz 13 1855) (bz 13 1903) rfl rfl rfl rfl (UH HT_.out (by kernel_rfl)) (by decide) (by decide) (fun K hK => ?_) (fun K hK => ?_)
     ·skip
      refine Kd.iQ Kd.string (w0 := w) w.heap.size (by rfl) (.tmp 33) (.tmp 36) 23 9 (.string ⟨#[]⟩) 16 rfl Try.underlying23 rY rfl (by decide) (by omega) PB QJ (l0.take (dW : Int).toNat) _ _ _ (fun _ => True) (fun _ => False) rfl rfl ?aO ?aR (fun _ _ h => h) (fun _ h => h.elim) ?aF ?aB ?aS ?aL ?_
      (case aR => (have e_ : (l0.take (dW : Int).toNat).length = dW.toNat := (by rw [List.length_take]; have h_ : (dW : Int) ≤ (l0.length : Int) := oT; omega); have q_ := Kd.aX Hl.1 HB.1; rw [e_] at q_; exact q_))
      (case aB => exact eG)
      (case aF => exact (fun _ _ => trivial))
      (case aO => exact RF)
      (case aS => exact (aG eG))
      (case aL => have := Oo.out; have hlx_ := (show (l0.take (dW : Int).toNat).length = dW.toNat from (by rw [List.length_take]; have h_ : (dW : Int) ≤ (l0.length : Int) := oT; omega)); omega)
      intro IC uh ho hb hg hat
      rw [← J7.out] at ho
      replace HB := am hb
      have tN := am ho
      clear kI
      clear ho hb hg hat
      refine hK.out _ _ trivial (fun hHeld => ?_)
      clear hK K
      refine nM ?_
      refine oN 6 (some 39) fun K hK => ?_
      refine lT 9 39 J8 ?_
      intro PD w39 qt hb
      have sV := am (Kd.d9 (Kd.fA qt (Kd.R_lt OZ)) (aG eG))
      replace tN := am (Kd.dS OZ (Kd.bZ qt) hb)
      replace HB := bS eG hb
      clear hb qt
      refine hK.out _ _ trivial (fun hHeld => ?_)
      clear hK K
      refine nM ?_
      exact G7 RI (hCont (PB, IC, PD) _ ⟨(by refine rR ?_; exact Kd.aM tN.1 (fun _ hk => hk.2)), (by refine rR ?_; exact Kd.aM sV.1 (fun _ hk => hk.2)), eG⟩)
     ·skip
      refine lT 9 39 J8 ?_
      intro PD uh Fe hb
      have sV := am (Kd.d9 (Kd.fA Fe (Kd.R_lt RF)) (aG eG))
      replace kI := am (Kd.dS RF (Kd.bZ Fe) hb)
      replace HB := bS eG hb
      clear hb Fe
      refine hK.out _ _ trivial (fun hHeld => ?_)
      clear hK K
      refine nM ?_
      refine oN 4 (some 37) fun K hK => ?_
      refine Kd.iQ Kd.string (w0 := w) w.heap.size (by rfl) (.tmp 33) (.tmp 36) 23 9 (.string ⟨#[]⟩) 16 rfl Try.underlying23 rY rfl (by decide) (by omega) PB QJ (l0.take (dW : Int).toNat) _ _ _ (fun k_ => some k_ ≠ (PD : Value).ownBlock) (fun _ => False) rfl rfl ?aO ?aR (fun _ _ h => h) (fun _ h => h.elim) ?aF ?aB ?aS ?aL ?_
      (case aR => (have e_ : (l0.take (dW : Int).toNat).length = dW.toNat := (by rw [List.length_take]; have h_ : (dW : Int) ≤ (l0.length : Int) := oT; omega); have q_ := Kd.aX Hl.1 HB.1; rw [e_] at q_; exact q_))
      (case aB => exact eG)
      (case aF => exact (fun k_ hk => Kd.fresh' (Kd.R_lt LY) k_ hk))
      (case aO => exact (by refine rR ?_; exact Kd.aM kI.1 (fun _ hk => hk.2)))
      (case aS => exact (aG eG))
      (case aL => have := Oo.out; have hlx_ := (show (l0.take (dW : Int).toNat).length = dW.toNat from (by rw [List.length_take]; have h_ : (dW : Int) ≤ (l0.length : Int) := oT; omega)); omega)
      intro IC w40 ho hb hg hat
      rw [← J7.out] at ho
      replace sV := am (Kd.nA (ok := (fun _ => True)) LY hg hat)
      replace HB := am hb
      have tN := am ho
      clear kI
      clear ho hb hg hat
      refine hK.out _ _ trivial (fun hHeld => ?_)
      clear hK K
      refine nM ?_
      exact G7 RI (hCont (PB, IC, PD) _ ⟨OZ, (by refine rR ?_; exact Kd.aM sV.1 (fun _ hk => hk.2)), eG⟩)
    ·skip
     refine lT 9 39 J8 ?_
     intro PD uf Rx hb
     have sV := am (Kd.d9 Rx (aG eG))
     replace HB := bS eG hb
     clear hb Rx
     refine hK.out _ _ trivial (fun hHeld => ?_)
     clear hK K
     refine nM ?_
     refine oN 0 (some 33) fun K hK => ?_
     refine lT 9 33 Ii ?_
     intro PB uh Fe hb
     have kI := am (Kd.d9 (Kd.fA Fe (Kd.R_lt LY)) (aG eG))
     replace sV := am (Kd.dS LY (Kd.bZ Fe) hb)
     replace HB := bS eG hb
     clear hb Fe
     refine hK.out _ _ trivial (fun hHeld => ?_)
     clear hK K
     refine nM ?_
     refine oN 4 (some 37) fun K hK => ?_
     refine Kd.iQ Kd.string (w0 := w) w.heap.size (by rfl) (.tmp 33) (.tmp 36) 23 9 (.string ⟨#[]⟩) 16 rfl Try.underlying23 rY rfl (by decide) (by omega) PB QJ (l0.take (dW : Int).toNat) _ _ _ (fun k_ => some k_ ≠ (PD : Value).ownBlock) (fun _ => False) rfl rfl ?aO ?aR (fun _ _ h => h) (fun _ h => h.elim) ?aF ?aB ?aS ?aL ?_
     (case aR => (have e_ : (l0.take (dW : Int).toNat).length = dW.toNat := (by rw [List.length_take]; have h_ : (dW : Int) ≤ (l0.length : Int) := oT; omega); have q_ := Kd.aX Hl.1 HB.1; rw [e_] at q_; exact q_))
     (case aB => exact eG)
     (case aF => exact (fun k_ hk => Kd.fresh' (Kd.R_lt LY) k_ hk))
     (case aO => exact (by refine rR ?_; exact Kd.aM kI.1 (fun _ hk => hk.2)))
     (case aS => exact (aG eG))
     (case aL => have := Oo.out; have hlx_ := (show (l0.take (dW : Int).toNat).length = dW.toNat from (by rw [List.length_take]; have h_ : (dW : Int) ≤ (l0.length : Int) := oT; omega)); omega)
     intro IC w40 ho hb hg hat
     rw [← J7.out] at ho
     replace sV := am (Kd.nA (ok := (fun _ => True)) LY hg hat)
     replace HB := am hb
     have tN := am ho
     clear kI
     clear ho hb hg hat
     refine hK.out _ _ trivial (fun hHeld => ?_)
     clear hK K
     refine nM ?_
     exact G7 RI (hCont (PB, IC, PD) _ ⟨OZ, (by refine rR ?_; exact Kd.aM sV.1 (fun _ hk => hk.2)), eG⟩)
   rintro ⟨PB, IC, PD⟩ w41 ⟨h0_, h1_, h2_⟩
   have tN : aC (Kd.R Kd.string 9 w41 w.heap.size (fun k_ => some k_ ≠ (PD : Value).ownBlock) IC PG) := ⟨h0_⟩
   have sV : aC (Kd.R Kd.string 9 w41 w.heap.size (fun k_ => some k_ ≠ (IC : Value).ownBlock) PD QK) := ⟨h1_⟩
   replace HB : aC (Below w.heap.size w w41) := ⟨h2_⟩
   clear h0_ h1_ h2_
   have hHeld := trivial
   obtain ⟨wt, a18, a1N⟩ := Kd.bP sV.1
   (first | subst a1N | (obtain ⟨f4_, f5_⟩ := sj a1N; subst f4_; subst f5_))
   refine G7 (a' := ?_) ?_ ?_
   rotate_left
   ·simp only [MS, Act.put, List.setIfInBounds_toArray, List.set_cons_zero, List.set_cons_succ]
    rfl
   refine oN 7 (some 40) fun K hK => ?_
   refine Kd.iQ Kd.string (w0 := w) w.heap.size (by rfl) (.tmp 37) (.tmp 39) 23 9 (.string ⟨#[]⟩) 16 rfl Try.underlying23 rY rfl (by decide) (by omega) IC PG QK _ _ _ (fun k_ => some k_ ≠ (.slice wt QK.length a18 : Value).ownBlock) (fun _ => False) rfl rfl ?aO ?aR (fun _ _ h => h) (fun _ h => h.elim) ?aF ?aB ?aS ?aL ?_
   (case aR => repeat (first | exact (Kd.aU sV.1).2.2 | (with_reducible refine Kd.mO ?_ _) | (with_reducible refine Kd.mP ?_ _) | (with_reducible refine Kd.oD ?_)))
   (case aB => exact eG)
   (case aF => exact (fun k_ hk => Kd.fresh' (Kd.R_lt LY) k_ hk))
   (case aO => exact OZ)
   (case aS => exact (aG eG))
   (case aL => have := xu.out; omega)
   intro Zf w42 ho hb hg hat
   rw [← As.out] at ho
   replace sV := am (Kd.nA (ok := (fun _ => True)) (by refine rR ?_; exact Kd.aM sV.1 (fun _ hk => ⟨trivial, hk⟩)) hg hat)
   replace HB := am hb
   have QR := am ho
   clear tN
   clear ho hb hg hat
   refine hK.out _ _ trivial (fun hHeld => ?_)
   clear hK K
   refine nM ?_
   refine oN 11 (some 44) fun K hK => ?_
   refine Kd.iQ Kd.string (w0 := w) w.heap.size (by rfl) (.tmp 40) (.tmp 43) 23 9 (.string ⟨#[]⟩) 16 rfl Try.underlying23 rY rfl (by decide) (by omega) Zf UL (l0.drop (dW : Int).toNat) _ _ _ (fun k_ => some k_ ≠ (.slice wt QK.length a18 : Value).ownBlock) (fun _ => False) rfl rfl ?aO ?aR (fun _ _ h => h) (fun _ h => h.elim) ?aF ?aB ?aS ?aL ?_
   (case aR => first | (rw [← show (l0.drop (dW : Int).toNat).length = (l0.length - dW.toNat) from List.length_drop]; repeat (first | exact (Kd.aX Of.1 HB.1) | (with_reducible refine Kd.mO ?_ _) | (with_reducible refine Kd.mP ?_ _) | (with_reducible refine Kd.oD ?_))) | (repeat (first | exact (Kd.aX Of.1 HB.1) | (with_reducible refine Kd.mO ?_ _) | (with_reducible refine Kd.mP ?_ _) | (with_reducible refine Kd.oD ?_))))
   (case aB => exact eG)
   (case aF => exact (fun k_ hk => Kd.fresh' (Kd.R_lt LY) k_ hk))
   (case aO => exact (rR QR.1))
   (case aS => exact (aG eG))
   (case aL => have := xv.out; have hlx_ := (show (l0.drop (dW : Int).toNat).length = (l0.length - dW.toNat) from List.length_drop); omega)
   intro aH0 w44 ho hb hg hat
   rw [← Pi.out] at ho
   replace sV := am (Kd.nA (ok := (fun _ => True)) LY hg hat)
   replace HB := am hb
   have yB := am ho
   clear QR
   clear ho hb hg hat
   refine hK.out _ _ trivial (fun hHeld => ?_)
   clear hK K
   refine nM ?_
   refine pU1 12 ?_
   refine dN ?_
   try go_wp2
   go_ret
   exact ⟨_, eR, by refine rR ?_; exact Kd.aM yB.1 (fun _ hk => trivial), eG⟩
def insF (a : ByteArray) : List ByteArray → Bool
 | [] => false
 | x :: t => if Op.bytesLess x.toList a.toList = true then insF a t else x.toList == a.toList
def dD.q0 : Nat → List ByteArray → ByteArray → Int → Option Bool
 | 0, _, _, _ => none
 | k + 1, b, c, a => if a < (b.length : Int) then (if 0 ≤ a then (if (Op.bytesLess ((rdOf ByteArray.empty b a).toList) c.toList) = true then (dD.q0 k b c (wrap64 (a + 1))) else (if (rdOf ByteArray.empty b a).toList = c.toList then some true else none)) else none) else none
theorem dD.eu (l : List ByteArray) (a : ByteArray) (hl : l.length ≤ 9223372036854775807) : ∀ (n i : Nat), i + n = l.length → insF a (l.drop i) = true → dD.q0 (n + 1) l a i = some true
 | 0, i, hi, h => by rw [List.drop_eq_nil_of_le (by omega)] at h; cases h
 | n + 1, i, hi, h => by
  have hlt : i < l.length := by omega
  rw [List.drop_eq_getElem_cons hlt] at h
  have e1 : rdOf ByteArray.empty l (i : Int) = l[i] := by unfold rdOf; rw [Int.toNat_natCast]; simp [List.getD_eq_getElem?_getD, hlt]
  unfold dD.q0
  rw [if_pos (by omega), if_pos (by omega), e1]
  unfold insF at h
  by_cases hc : Op.bytesLess l[i].toList a.toList = true
  ·rw [if_pos hc] at h ⊢
   rw [show wrap64 ((i : Int) + 1) = ((i + 1 : Nat) : Int) by unfold wrap64; omega]
   exact dD.eu l a hl n (i + 1) (by omega) h
  ·rw [if_neg hc] at h ⊢
   rw [if_pos (by simpa using h)]
theorem dD.same (k : Nat) (A0 : Option Addr) (c0 : Nat) (l0 : List ByteArray) (a1 : ByteArray) (w : World) (sJ : Kd.C Kd.string w A0 l0.length l0) (yR : l0.length ≤ c0) (h : dD.q0 k l0 a1 0 = some true) :
  Calls Try.prog 106 #[.slice A0 l0.length c0, .string a1] w fun e w' => e = .returned (.slice A0 l0.length c0) ∧ Below w.heap.size w w' := by
 obtain ⟨tO, QP⟩ := mZ2 sJ yR
 clear sJ yR
 have HB := am (Below.refl w.heap.size w)
 have H := h
 clear h
 have H' := am H
 repeat clear H
 go_enter Try.func106, Try.ntmps106
 go_wp2
 go_loopg [5] k (fun kq v5 w' => ∃ (dW : Int), v5 = .int .i64 dW ∧ aC (dD.q0 kq l0 a1 dW = some true) ∧ aC (kq ≤ k) ∧ aC (Below w.heap.size w w'))
 case atStart => exact ⟨(0), dM, H', ⟨Nat.le_refl _⟩, ⟨eG⟩⟩
 clear H'
 obtain ⟨dW, rfl, HA, HK1, HB⟩ := hrel
 cases gk with
 | zero => exact absurd HA.out (by simp [dD.q0])
 | succ k1 =>
  have H := HA.out
  clear HA
  simp only [dD.q0] at H
  by_cases c3 : dW < (l0.length : Int)
  ·rw [if_pos c3] at H
   have IM : decide (dW < (l0.length : Int)) = true := decide_eq_true c3
   clear c3
   by_cases c4 : 0 ≤ dW
   ·rw [if_pos c4] at H
    have yF : decide (0 ≤ dW) = true := decide_eq_true c4
    clear c4
    refine tC H ?_ ?_ <;> clear H <;> intro IP H
    ·have H' := am H
     repeat clear H
     obtain ⟨kK, pN, lH, zO, zR⟩ := aS tO HB dW
     cases pN
     go_wp2
     go_roundg k1
     case measure => have := HK1.out; omega
     case rel => exact ⟨(wrap64 (dW + 1)), dM, H', ⟨by have := HK1.out; omega⟩, ⟨eG⟩⟩
    ·by_cases c6 : (rdOf ByteArray.empty l0 dW).toList = a1.toList
     ·rw [if_pos c6] at H
      have RQ : ((rdOf ByteArray.empty l0 dW).toList == a1.toList) = true := beq_iff_eq.mpr c6
      have Bi : ((rdOf ByteArray.empty l0 dW).toList != a1.toList) = false := bne_eq_false_iff_eq.mpr c6
      clear c6 H
      obtain ⟨kK, pN, lH, zO, zR⟩ := aS tO HB dW
      cases pN
      obtain ⟨pF, uK, oR, F7, FB⟩ := aS tO HB dW
      obtain rfl : kK = pF := (by injection uK)
      go_wp2
      go_ret
      exact ⟨rfl, eG⟩
     ·rw [if_neg c6] at H; cases H
   ·rw [if_neg c4] at H; cases H
  ·rw [if_neg c3] at H; cases H
theorem ZV {w : World} {b o : Nat} {v : Value} (h : w.cell? ⟨b, o, none⟩ = some v) : w.setCell ⟨b, o, none⟩ v = w := by
 have e : (w.setCell ⟨b, o, none⟩ v).heap = w.heap := by
  have h' : (match w.heap[b]? with | some (.cells c _ _) => c[o]? | _ => none) = some v := h
  show w.heap.modify b (fun | .cells c elem frozen => .cells (c.setIfInBounds o v) elem frozen | o => o) = w.heap
  apply Array.ext_getElem?
  intro i
  rw [Array.getElem?_modify]
  by_cases hi : b = i
  ·subst hi
   rw [if_pos rfl]
   cases hb : w.heap[b]? with
   | none => rfl
   | some ob =>
    rw [hb] at h'
    cases ob with
    | cells c el fr =>
     have h2 : c[o]? = some v := h'
     have : c.setIfInBounds o v = c := by
      apply Array.ext_getElem?
      intro j
      rw [Array.getElem?_setIfInBounds]
      by_cases hj : o = j
      ·subst hj
       rw [if_pos rfl, h2]
       by_cases hh : o < c.size
       ·rw [if_pos hh]
       ·rw [Array.getElem?_eq_none (by omega)] at h2; cases h2
      ·rw [if_neg hj]
     show some (Obj.cells (c.setIfInBounds o v) el fr) = _
     rw [this]
    | _ => rfl
  ·rw [if_neg hi]
 show { w with heap := (w.setCell ⟨b, o, none⟩ v).heap } = w
 rw [e]
def fC.l0 : Nat → List ByteArray → Int → Int → List ByteArray → List (S56) → List ByteArray → List (S56) → List ByteArray → List (S56) → Option (List ByteArray × (List (S56)) × Int)
 | 0, _, _, _, _, _, _, _, _, _ => none
 | k + 1, d, b, c, g, h, i, j, e, a => if c < (d.length : Int) then (if 0 ≤ b then (if b < (a.length : Int) then (if 0 ≤ c then (if insF (rdOf ByteArray.empty d c) ((aA a b).f1) = true then (fC.l0 k d b (wrap64 (c + 1)) g h i j e a) else ((dD.f k ((aA a b).f1) (rdOf ByteArray.empty d c)).bind fun n => (fC.l0 k d b (wrap64 (c + 1)) g h i j e (a.set (b : Int).toNat (⟨(aA a b).f0, n, (aA a b).f2⟩ : S56))))) else (none)) else (none)) else (none)) else ((lW.f k g h).bind fun o => (if o = true then ((lW.f k e a).bind fun p => (if p = true then ((dE.f k e a).bind fun l => (some (l.1, l.2, 0))) else (some (i, j, 6)))) else ((dE.f k e a).bind fun m => (some (m.1, m.2, 0)))))
def fC.f (k : Nat) (bF : List ByteArray) (aN : List (S56)) (a1 : ByteArray) (l2 : List ByteArray) : Option (List ByteArray × (List (S56)) × Int) := (aK.f k bF aN).bind fun d => (if d = true then ((dE.f k bF aN).bind fun a => ((gV.f k bF aN a1).bind fun b => (if b < 0 then (some (a.1, a.2, 3)) else (if 0 ≤ b then (if b < (aN.length : Int) then ((dA.f k l2 ((aA aN b).f2)).bind fun e => (if e = true then ((iU.f k bF aN b l2).bind fun g => (if g = true then (some (a.1, a.2, 5)) else ((dE.f k bF aN).bind fun c => (fC.l0 k l2 b 0 bF aN a.1 a.2 c.1 c.2)))) else (some (a.1, a.2, 2)))) else (none)) else (none))))) else (some (([] : List ByteArray), ([] : List (S56)), 1)))
def fC.T15 : Bool × List (List Nat × List Nat) := (true, [([], []), ([0], [0]), ([], []), ([], []), ([3], [3]), ([], []), ([4, 5], [4, 5]), ([6], [6]), ([7], [7]), ([], []), ([], []), ([9, 10], [9, 10]), ([11], [11]), ([8, 12], [8, 12]), ([1, 2, 0, 1, 2, 3, 4, 5, 6, 7, 8, 9, 10, 11, 12, 13], [1, 2]), ([14, 0, 1, 2, 3, 4, 5, 6, 7, 8, 9, 10, 11, 12, 13], [14]), ([15, 13, 13, 0, 1, 2, 3, 4, 5, 6, 7, 8, 9, 10, 11, 12, 13], [13, 15])])
def fC.B15 : List Nat := [0, 1, 0, 0, 8, 0, 56, 120, 248, 0, 0, 1536, 3584, 8184, 16383, 32767, 65535]
theorem fC.P9 : rtab .any (opsOf Try.f61 15) = fC.T15 := by kernel_rfl
theorem fC.GZ : kP fC.T15.2 fC.B15 = true := by kernel_rfl
theorem fC.calls (k : Nat) (eU : Option Addr) (eY : Nat) (bF : List ByteArray) (fG : Option Addr) (eQ : Nat) (aN : List (S56)) (a1 : ByteArray) (A2 : Option Addr) (c2 : Nat) (l2 : List ByteArray) (r1 : List ByteArray) (r2 : List (S56)) (r3 : Int) (w : World) (iG : Kd.C Kd.string w eU bF.length bF) (iD : bF.length ≤ eY) (iC : Kd.C k56 w fG aN.length aN) (iE : aN.length ≤ eQ) (U2 : Kd.C Kd.string w A2 l2.length l2) (PZ : l2.length ≤ c2) (h : fC.f k bF aN a1 l2 = some (r1, r2, r3)) :
  Calls Try.prog 61 #[.agg #[.slice eU bF.length eY, .slice fG aN.length eQ], .string a1, .slice A2 l2.length c2] w fun e w' => ∃ v0_ v1_ : Value, e = .returned (.tuple #[.agg #[v0_, v1_], .int .i64 r3]) ∧ Kd.R Kd.string 9 w' w.heap.size (fun k_ => (w.heap.size ≤ k_)) v0_ r1 ∧ Kd.N k56 56 w' w.heap.size (F10 w v0_) v1_ r2 ∧ Below w.heap.size w w' := by
 have hu31 := Try.underlying31
 obtain ⟨dY, dX⟩ := mZ2 iG iD
 obtain ⟨cU, f4⟩ := mZ2 iC iE
 obtain ⟨EE, zZ⟩ := mZ2 U2 PZ
 clear iG iD iC iE U2 PZ
 have HB := am (Below.refl w.heap.size w)
 unfold fC.f at h
 have H := h
 clear h
 obtain ⟨eF, A4, H⟩ := bd H
 refine tC H ?_ ?_ <;> clear H <;> intro c5 H <;> subst c5
 obtain ⟨⟨dC, dZ⟩, A6, H⟩ := bd H
 dsimp only at H
 obtain ⟨dJ, A7, H⟩ := bd H
 refine ic H ?_ ?_ <;> clear H <;> intro LB H
 obtain ⟨rfl, rfl, rfl⟩ := sZ3 H
 repeat clear H
 have XJ := trivial
 have ac := trivial
 rotate_left
 obtain ⟨Bd, H⟩ := cN H
 obtain ⟨Be, H⟩ := cN H
 obtain ⟨E7, wg, H⟩ := bd H
 refine tC H ?_ ?_ <;> clear H <;> intro ml H <;> subst ml
 obtain ⟨JX, Nk, H⟩ := bd H
 refine tC H ?_ ?_ <;> clear H <;> intro ur H <;> subst ur
 obtain ⟨rfl, rfl, rfl⟩ := sZ3 H
 repeat clear H
 have XJ := trivial
 have Hv := trivial
 have Ot := trivial
 have ae := trivial
 rotate_left
 obtain ⟨⟨m0, qZ⟩, A52, H⟩ := bd H
 dsimp only at H
 have H' := am H
 repeat clear H
 have XJ := trivial
 have Hv := trivial
 have Ot := trivial
 have VL := trivial
 rotate_left
 obtain ⟨rfl, rfl, rfl⟩ := sZ3 H
 repeat clear H
 have XJ := trivial
 have Hv := trivial
 have af := trivial
 rotate_left
 obtain ⟨rfl, rfl, rfl⟩ := sZ3 H
 repeat clear H
 have ag := trivial
 rotate_left
 all_goals
  go_enter Try.func61, Try.ntmps61
  go_wp2_with (first | ((with_reducible refine gD 3 ?_); refine bX 3 #[.slice eU bF.length eY, .slice fG aN.length eQ] 31 ?_; intro aT hg aPQ hbox hb; have a6 := am hbox; have g5 := am (oS : w.heap.size ≤ aT); have iJ := g5; replace HB := bS eG hb; clear hb hbox hg) | ((with_reducible refine gD 6 ?_); refine bX 6 #[.slice none 0 0, .slice none 0 0] 31 ?_; intro aZ hg aPS hbox hb; have aH := am hbox; have m4 := am (I1 : w.heap.size ≤ aZ); have nX := m4; replace HB := bS eE hb; have cO := nL aW hg; have cV := nG aW hg; replace a6 := bB aW hb; clear hb hbox hg; have aJD := nZ1 cO cV; have zp := cz2 a6) | ((with_reducible refine gC 22 ?_); revert XJ; intro XJ; refine cQ (some 13) Try.func22 (aK.calls k _ _ bF _ _ aN true _ (pB dY) dX.1 (pB cU) f4.1 A4.out) ?_; rintro aPT hb; replace a6 := bB aW hb; replace aH := bB cB hb; replace HB := bS l6 hb; clear hb; have zq := cz2 a6) | ((with_reducible refine gC 89 ?_); revert XJ; intro XJ; refine cE (some 17) Try.func89 (dE.calls k _ _ bF _ _ aN dC dZ _ (pB dY) dX.1 (pB cU) f4.1 A6.out) ?_; rintro e aPU ⟨LE, IV, rfl, f3, lL, hb⟩; refine ⟨_, rfl, ?_⟩; have eP := am (Kd.d9 (Kd.jQ (M := fun k_ => (w.heap.size ≤ k_)) f3 (aG l6) (fun k_ h_ => h_)) (aG l6)); have fU := am (Kd.jD (Kd.aJ (ok' := F12 w LE aT aZ) (Kd.S_N (Kd.nP lL)) (fun k_ hk_ => ⟨(Nat.le_trans (aG l6) hk_.2.1), hk_.1, (fB aW k_ hk_.2.1), (fB cB k_ hk_.2.1)⟩)) (aG l6)); replace a6 := bB aW hb; replace aH := bB cB hb; replace HB := bS l6 hb; clear hb f3 lL) | ((with_reducible refine gD 8 ?_); revert XJ; intro XJ; refine bX 8 #[.slice none 0 0, .slice none 0 0] 31 ?_; intro cS hg aPV hbox hb; replace eP := RB vO hb; replace fU := am (Kd.dQ (Kd.iO yY cS (Nat.le_of_eq hg.symm)) hb); have bV := am hbox; have J4 := am (ZN : w.heap.size ≤ cS); have LI := J4; replace HB := bS l6 hb; have gI := nL aW hg; have iH := nG aW hg; replace a6 := bB aW hb; have gU := nL cB hg; have jC := nG cB hg; replace aH := bB cB hb; clear hb hbox hg; obtain ⟨qH, qK, om⟩ := Kd.bP eP.1; subst om; have aJE := nZ2 iH gI jC gU; have zr := cz2 bV; obtain ⟨CA, CX, oo⟩ := Kd.gM fU.1; subst oo; have zt := cz2 a6) | ((with_reducible refine gC 82 ?_); revert ac; intro ac; refine cQ (some 20) Try.func82 (gV.calls k _ _ bF _ _ aN a1 dJ _ (Kd.aX dY.1 g4) dX.1 (Kd.aX cU.1 g4) f4.1 A7.out) ?_; rintro aPW hb; replace eP := am (Kd.fP (by refine rR ?_; exact (Kd.aM (fR (fR (tR eP bV))) (fun _ h_ => h_.1))) hb); replace fU := am (Kd.dQ (by refine rN ?_; exact (Kd.aJ (fN (fN (Kd.aJ fU.1 (fun k_ hk => (⟨hk, hk.2⟩ : _ ∧ k_ ≠ cS))))) (fun _ h_ => h_.1))) hb); replace a6 := am (bH (g := aT) (o := .cells #[.slice eU bF.length eY, .slice fG aN.length eQ] 31 (0, 0)) sg hb); replace aH := am (bH (g := aZ) (o := .cells #[.slice none 0 0, .slice none 0 0] 31 (0, 0)) si hb); replace bV := am (bH (g := cS) (o := .cells #[.slice qH dC.length qK, .slice CA dZ.length CX] 31 (0, 0)) (qP bV) hb); replace HB := bS g4 hb; clear hb; have aJF := cz2 bV; have aJG := cz2 aH) | ((with_reducible refine gC 82 ?_); revert Hv; intro Hv; refine cQ (some 20) Try.func82 (gV.calls k _ _ bF _ _ aN a1 dJ _ (Kd.aX dY.1 g4) dX.1 (Kd.aX cU.1 g4) f4.1 A7.out) ?_; rintro yZ hb; replace eP := am (Kd.fP (by refine rR ?_; exact (Kd.aM (fR (fR (tR eP bV))) (fun _ h_ => h_.1))) hb); replace fU := am (Kd.dQ (by refine rN ?_; exact (Kd.aJ (fN (fN (Kd.aJ fU.1 (fun k_ hk => (⟨hk, hk.2⟩ : _ ∧ k_ ≠ cS))))) (fun _ h_ => h_.1))) hb); replace a6 := am (bH (g := aT) (o := .cells #[.slice eU bF.length eY, .slice fG aN.length eQ] 31 (0, 0)) sg hb); replace aH := am (bH (g := aZ) (o := .cells #[.slice none 0 0, .slice none 0 0] 31 (0, 0)) si hb); replace bV := am (bH (g := cS) (o := .cells #[.slice qH dC.length qK, .slice CA dZ.length CX] 31 (0, 0)) (qP bV) hb); replace HB := bS g4 hb; clear hb; have zu := cz2 a6; obtain ⟨BK, Dg, Ee, Dh, Ef, Es, KU, HV, HX, S8, XA, BP, ED, Tb, Tj⟩ := aT56 cU HB dJ; cases Es) | ((with_reducible refine gC 71 ?_); revert Ot; intro Ot; refine cQ (some 31) Try.func71 (dA.calls k _ _ l2 _ _ ((aA aN dJ).f2) true _ (pB EE) zZ.1 (pB BP) ED.1 wg.out) ?_; rintro w' ⟨nd, rfl⟩; (try (rw [H7 yZ]; generalize hq_ : World.drewN yZ _ = yZ; have n0_ : aC (Kd.R Kd.string 9 yZ w.heap.size (fun k_ => (((w.heap.size ≤ k_)) ∧ True)) (.slice qH dC.length qK) dC) := ⟨by rw [← hq_]; exact vO⟩; have n1_ : aC (Kd.N k56 56 yZ w.heap.size (fun k_ => ((((w.heap.size ≤ k_)) ∧ (some k_ ≠ (.slice qH dC.length qK : Value).ownBlock ∧ (k_ ≠ aT ∧ k_ ≠ aZ))) ∧ k_ ≠ cS)) (.slice CA dZ.length CX) dZ) := ⟨by rw [← hq_]; exact yY⟩; have n2_ : aC (yZ.heap[aT]? = some (.cells #[.slice eU bF.length eY, .slice (some BK) aN.length eQ] 31 (0, 0))) := ⟨by rw [← hq_]; exact aW⟩; have n3_ : aC (yZ.heap[aZ]? = some (.cells #[.slice none 0 0, .slice none 0 0] 31 (0, 0))) := ⟨by rw [← hq_]; exact cB⟩; have n4_ : aC (yZ.heap[cS]? = some (.cells #[.slice qH dC.length qK, .slice CA dZ.length CX] 31 (0, 0))) := ⟨by rw [← hq_]; exact jM⟩; have n5_ : aC (Below w.heap.size w yZ) := ⟨by rw [← hq_]; exact g4⟩; clear eP fU a6 aH bV HB hq_; have eP := n0_; have fU := n1_; have a6 := n2_; have aH := n3_; have bV := n4_; have HB := n5_; clear n0_ n1_ n2_ n3_ n4_ n5_)); have zv := cz2 a6) | ((with_reducible refine gC 105 ?_); revert ae; intro ae; refine cQ (some 37) Try.func105 (iU.calls k _ _ bF _ _ aN dJ _ _ l2 true _ (pB dY) dX.1 (pB cU) f4.1 (pB EE) zZ.1 Nk.out) ?_; rintro aPX hb; replace eP := RB vO hb; replace fU := NE yY hb; replace a6 := bB aW hb; replace aH := bB cB hb; replace bV := bB jM hb; replace HB := bS g4 hb; clear hb; have aJI := cz2 bV; have aJJ := cz2 aH) | ((with_reducible refine gC 105 ?_); revert VL; intro VL; refine cQ (some 37) Try.func105 (iU.calls k _ _ bF _ _ aN dJ _ _ l2 false _ (pB dY) dX.1 (pB cU) f4.1 (pB EE) zZ.1 Nk.out) ?_; rintro aPY hb; replace eP := RB vO hb; replace fU := NE yY hb; replace a6 := bB aW hb; replace aH := bB cB hb; replace bV := bB jM hb; replace HB := bS g4 hb; clear hb; have zw := cz2 a6) | ((with_reducible refine gC 89 ?_); revert VL; intro VL; refine cE (some 40) Try.func89 (dE.calls k _ _ bF _ _ aN m0 qZ _ (pB dY) dX.1 (pB cU) f4.1 A52.out) ?_; rintro e aPZ ⟨V7, ua, rfl, f3, lL, hb⟩; refine ⟨_, rfl, ?_⟩; have iN := am (Kd.d9 (Kd.fA (Kd.jQ (M := fun k_ => (w.heap.size ≤ k_)) f3 (aG g4) (fun k_ h_ => h_)) (Kd.R_lt vO)) (aG g4)); have AA := am (Kd.jD (Kd.aJ (ok' := F33 w V7 (.slice qH dC.length qK) (.slice CA dZ.length CX) aT aZ cS) (Kd.S_N (Kd.nP lL)) (fun k_ hk_ => ⟨(Nat.le_trans (aG g4) hk_.2.1), hk_.1, (Kd.fresh' (Kd.R_lt vO) k_ hk_.2.1), (Kd.fresh' (Kd.N_lt yY) k_ hk_.2.1), (fB aW k_ hk_.2.1), (fB cB k_ hk_.2.1), (fB jM k_ hk_.2.1)⟩)) (aG g4)); replace eP := am (Kd.dS vO (Kd.bZ f3) hb); replace fU := am (Kd.aJ (Kd.iP (Kd.iP (Kd.xR yY hb) (Kd.bZ f3)) uG) (fun _ h_ => h_.1)); replace a6 := bB aW hb; replace aH := bB cB hb; replace bV := bB jM hb; replace HB := bS g4 hb; clear hb f3 lL) | ((with_reducible refine gD 10 ?_); revert VL; intro VL; refine bX 10 #[.slice none 0 0, .slice none 0 0] 31 ?_; intro D9 hg aQ0 hbox hb; replace eP := RB vO hb; replace fU := am (Kd.dQ (Kd.iO yY D9 (Nat.le_of_eq hg.symm)) hb); replace iN := am (Kd.fP (rR iN.1) hb); replace AA := am (Kd.dQ (Kd.iO (rN AA.1) D9 (Nat.le_of_eq hg.symm)) hb); have rJ := am hbox; have xh := am (aG8 : w.heap.size ≤ D9); have Zp := xh; replace HB := bS g4 hb; have FO := nL aW hg; have KD := nG aW hg; replace a6 := bB aW hb; have K9 := nL cB hg; have PP := nG cB hg; replace aH := bB cB hb; have KA := nL jM hg; have PQ := nG jM hg; replace bV := bB jM hb; clear hb hbox hg; obtain ⟨CB, CY, oq⟩ := Kd.bP iN.1; subst oq; have aJK := nZ3 KD FO PP K9 PQ KA; have zx := cz2 rJ; obtain ⟨gt, mu, ot⟩ := Kd.gM AA.1; subst ot) | ((with_reducible refine gC 71 ?_); revert af; intro af; refine cQ (some 31) Try.func71 (dA.calls k _ _ l2 _ _ ((aA aN dJ).f2) false _ (pB EE) zZ.1 (pB BP) ED.1 wg.out) ?_; rintro w' ⟨nd, rfl⟩; (try (rw [H7 yZ]; generalize hq_ : World.drewN yZ _ = yZ; have n0_ : aC (Kd.R Kd.string 9 yZ w.heap.size (fun k_ => (((w.heap.size ≤ k_)) ∧ True)) (.slice qH dC.length qK) dC) := ⟨by rw [← hq_]; exact vO⟩; have n1_ : aC (Kd.N k56 56 yZ w.heap.size (fun k_ => ((((w.heap.size ≤ k_)) ∧ (some k_ ≠ (.slice qH dC.length qK : Value).ownBlock ∧ (k_ ≠ aT ∧ k_ ≠ aZ))) ∧ k_ ≠ cS)) (.slice CA dZ.length CX) dZ) := ⟨by rw [← hq_]; exact yY⟩; have n2_ : aC (yZ.heap[aT]? = some (.cells #[.slice eU bF.length eY, .slice (some BK) aN.length eQ] 31 (0, 0))) := ⟨by rw [← hq_]; exact aW⟩; have n3_ : aC (yZ.heap[aZ]? = some (.cells #[.slice none 0 0, .slice none 0 0] 31 (0, 0))) := ⟨by rw [← hq_]; exact cB⟩; have n4_ : aC (yZ.heap[cS]? = some (.cells #[.slice qH dC.length qK, .slice CA dZ.length CX] 31 (0, 0))) := ⟨by rw [← hq_]; exact jM⟩; have n5_ : aC (Below w.heap.size w yZ) := ⟨by rw [← hq_]; exact g4⟩; clear eP fU a6 aH bV HB hq_; have eP := n0_; have fU := n1_; have a6 := n2_; have aH := n3_; have bV := n4_; have HB := n5_; clear n0_ n1_ n2_ n3_ n4_ n5_)); have aJL := cz2 bV; have aJM := cz2 aH) | ((with_reducible refine gC 22 ?_); revert ag; intro ag; refine cQ (some 13) Try.func22 (aK.calls k _ _ bF _ _ aN false _ (pB dY) dX.1 (pB cU) f4.1 A4.out) ?_; rintro aQ1 hb; replace a6 := bB aW hb; replace aH := bB cB hb; replace HB := bS l6 hb; clear hb; have aJN := cz2 aH))
 ·refine cT aZ 31 #[.slice qH dC.length qK, .slice CA dZ.length CX] (qP aH) Try.underlying31 ?_
  exact ⟨_, _, eR, mR eP aH, by refine rN ?_; exact Kd.aJ (fN (fN (Kd.aJ fU.1 (fun k_ hk => (⟨hk, hk.1.2.2.2⟩ : _ ∧ k_ ≠ aZ))))) (fun _ hk => ⟨hk.1.1.1, hk.1.1.2.1⟩), g4⟩
 ·refine cT aZ 31 #[.slice qH dC.length qK, .slice CA dZ.length CX] (qP aH) Try.underlying31 ?_
  exact ⟨_, _, eR, mR eP aH, by refine rN ?_; exact Kd.aJ (fN (fN (Kd.aJ fU.1 (fun k_ hk => (⟨hk, hk.1.2.2.2⟩ : _ ∧ k_ ≠ aZ))))) (fun _ hk => ⟨hk.1.1.1, hk.1.1.2.1⟩), g4⟩
 ·go_loopg [11] k (fun kq v11 w' => ∃ (sG : Int) (C9 : List (S56)) (e6 : List (S56)) (yP : Value) (SX : Value), v11 = .int .i64 sG ∧ aC (fC.l0 kq l2 dJ sG bF aN dC C9 m0 e6 = some (r1, r2, r3)) ∧ aC (kq ≤ k) ∧ aC (Kd.R Kd.string 9 w' w.heap.size (F10 w (.slice CB m0.length CY)) (.slice qH dC.length qK) dC) ∧ aC (Kd.N k56 56 w' w.heap.size (F34 w (.slice qH dC.length qK) (.slice CB m0.length CY) SX aT aZ cS D9) yP C9) ∧ aC (Kd.R Kd.string 9 w' w.heap.size (F10 w (.slice qH dC.length qK)) (.slice CB m0.length CY) m0) ∧ aC (Kd.N k56 56 w' w.heap.size (F34 w (.slice qH dC.length qK) yP (.slice CB m0.length CY) aT aZ cS D9) SX e6) ∧ aC (w'.heap[aT]? = some (.cells #[(.slice eU bF.length eY), (.slice (some BK) aN.length eQ)] 31 (0, 0))) ∧ aC (w'.heap[aZ]? = some (.cells #[(.slice none 0 0), (.slice none 0 0)] 31 (0, 0))) ∧ aC (w'.heap[cS]? = some (.cells #[(.slice qH dC.length qK), yP] 31 (0, 0))) ∧ aC (w'.heap[D9]? = some (.cells #[(.slice CB m0.length CY), SX] 31 (0, 0))) ∧ aC (Below w.heap.size w w'))
  case atStart => exact ⟨(0), (dZ), (qZ), (.slice CA dZ.length CX), (.slice gt qZ.length mu), dM, H', ⟨Nat.le_refl _⟩, ⟨by refine rR ?_; exact Kd.aM (fR (fR (tR eP rJ))) (fun _ hk => ⟨hk.1.1.1, hk.1.2⟩)⟩, ⟨by refine rN ?_; exact Kd.aJ (fN (fN (Kd.aJ fU.1 (fun k_ hk => (⟨hk, hk.2⟩ : _ ∧ k_ ≠ D9))))) (fun _ hk => ⟨hk.1.1.1.1.1.1, ⟨hk.1.1.1.1.1.2.1, ⟨hk.1.1.1.2, ⟨hk.1.1.2, ⟨hk.1.1.1.1.1.2.2.1, ⟨hk.1.1.1.1.1.2.2.2, ⟨hk.1.1.1.1.2, hk.1.2⟩⟩⟩⟩⟩⟩⟩)⟩, ⟨by refine rR ?_; exact Kd.aM (fR (fR (tR iN rJ))) (fun _ hk => ⟨hk.1.1.1, hk.1.2⟩)⟩, ⟨by refine rN ?_; exact Kd.aJ (fN (fN (Kd.aJ AA.1 (fun k_ hk => (⟨hk, hk.2⟩ : _ ∧ k_ ≠ D9))))) (fun _ hk => ⟨hk.1.1.1, ⟨hk.1.1.2.2.1, ⟨hk.1.1.2.2.2.1, ⟨hk.1.1.2.1, ⟨hk.1.1.2.2.2.2.1, ⟨hk.1.1.2.2.2.2.2.1, ⟨hk.1.1.2.2.2.2.2.2, hk.1.2⟩⟩⟩⟩⟩⟩⟩)⟩, ⟨qF a6 FO⟩, ⟨qF aH K9⟩, ⟨qF bV KA⟩, ⟨qP rJ⟩, ⟨E3⟩⟩
  clear H'
  try clear c2
  try clear c5
  try clear LB
  try clear Bd
  try clear Be
  try clear ml
  try clear ur
  try clear zp
  try clear zq
  try clear zr
  try clear zt
  try clear zu
  try clear zv
  try clear zw
  try clear zx
  try clear KU HV HX
  try clear Tb Tj
  obtain ⟨sG, C9, e6, yP, SX, rfl, HA, HK1, d4, bJ, jO, fI, a6, aH, bV, rJ, HB⟩ := hrel
  cases gk with
  | zero => exact absurd HA.out (by simp [fC.l0])
  | succ k1 =>
   have H := HA.out
   clear HA
   simp only [fC.l0] at H
   refine ic H ?_ ?_ <;> clear H <;> intro aM5 H
   obtain ⟨aM6, H⟩ := cN H
   obtain ⟨aM7, H⟩ := cN H
   obtain ⟨aM8, H⟩ := cN H
   have HF := am H
   clear H
   rotate_left
   obtain ⟨ZX, A90, H⟩ := bd H
   refine tC H ?_ ?_ <;> clear H <;> intro c91 H <;> subst c91
   obtain ⟨aGN, Zk, H⟩ := bd H
   refine tC H ?_ ?_ <;> clear H <;> intro c93 H <;> subst c93
   obtain ⟨⟨RX, a4G⟩, A94, H⟩ := bd H
   dsimp only at H
   obtain ⟨rfl, rfl, rfl⟩ := sZ3 H
   repeat clear H
   have Z95 := nZ3 cO cV gI iH FO KD
   have Z98 := cz2 a6
   have Ou := trivial
   have Hw := trivial
   rotate_left
   obtain ⟨rfl, rfl, rfl⟩ := sZ3 H
   repeat clear H
   have aSI := nZ3 cO cV gI iH FO KD
   have aSK := cz2 a6
   have Ou := trivial
   have ah := trivial
   rotate_left
   obtain ⟨⟨QE, a4H⟩, aBW, H⟩ := bd H
   dsimp only at H
   obtain ⟨rfl, rfl, rfl⟩ := sZ3 H
   repeat clear H
   have aCY := nZ3 cO cV gI iH FO KD
   have aCZ := cz2 a6
   have Hx := trivial
   rotate_left
   all_goals
    try go_wp2_with (first | ((with_reducible refine gC 35 ?_); revert Ou; intro Ou; refine cQ (some 64) Try.func35 (lW.calls k1 _ _ bF _ _ aN true _ (pB dY) dX.1 (pB cU) f4.1 A90.out) ?_; rintro aQ2 hb; replace d4 := RB lI hb; replace bJ := NE uW hb; replace jO := RB G9 hb; replace fI := NE LV hb; replace a6 := bB aW hb; replace aH := bB cB hb; replace bV := bB jM hb; replace rJ := bB LU hb; replace HB := bS E3 hb; clear hb; have aJP := nZ2 PP K9 PQ KA; have aJQ := cz2 rJ; obtain ⟨gu, mv, ou⟩ := Kd.gM fI.1; subst ou) | (go_at_call 35; revert Hw; intro Hw; revert Zk; intro Zk; refine cM (lW.calls k1 _ _ m0 _ _ e6 true _ (pC (Kd.aU jO.1).2.2) ((Kd.aU jO.1).2.1) (pC (Kd.bL fI.1).2.2) ((Kd.bL fI.1).2.1) Zk.out) ?_; rintro aQ3 hb; replace d4 := RB lI hb; replace bJ := NE uW hb; replace jO := RB G9 hb; replace fI := NE LV hb; replace a6 := bB aW hb; replace aH := bB cB hb; replace bV := bB jM hb; replace rJ := bB LU hb; replace HB := bS E3 hb; clear hb; have aJR := cz2 rJ; clear Zk) | ((with_reducible refine gC 89 ?_); revert Hw; intro Hw; refine cE (some 72) Try.func89 (dE.calls k1 _ _ m0 _ _ e6 RX a4G _ (pC (Kd.aU jO.1).2.2) ((Kd.aU jO.1).2.1) (pC (Kd.bL fI.1).2.2) ((Kd.bL fI.1).2.1) A94.out) ?_; rintro e aQ4 ⟨Zf, aVR, rfl, f3, lL, hb⟩; refine ⟨_, rfl, ?_⟩; have QR := am (Kd.d9 (Kd.fA (Kd.fA (Kd.jQ (M := fun k_ => (w.heap.size ≤ k_)) f3 (aG E3) (fun k_ h_ => h_)) (Kd.R_lt lI)) (Kd.R_lt G9)) (aG E3)); have Zv := am (Kd.jD (Kd.aJ (ok' := F54 w Zf (.slice qH dC.length qK) yP (.slice CB m0.length CY) (.slice gu e6.length mv) aT aZ cS D9) (Kd.S_N (Kd.nP lL)) (fun k_ hk_ => ⟨(Nat.le_trans (aG E3) hk_.2.1), hk_.1, (Kd.fresh' (Kd.R_lt lI) k_ hk_.2.1), (Kd.fresh' (Kd.N_lt uW) k_ hk_.2.1), (Kd.fresh' (Kd.R_lt G9) k_ hk_.2.1), (Kd.fresh' (Kd.N_lt LV) k_ hk_.2.1), (fB aW k_ hk_.2.1), (fB cB k_ hk_.2.1), (fB jM k_ hk_.2.1), (fB LU k_ hk_.2.1)⟩)) (aG E3)); replace d4 := am (Kd.dS lI (Kd.bZ f3) hb); replace bJ := am (Kd.aJ (Kd.iP (Kd.iP (Kd.xR uW hb) (Kd.bZ f3)) uG) (fun _ h_ => h_.1)); replace jO := am (Kd.dS G9 (Kd.bZ f3) hb); replace fI := am (Kd.aJ (Kd.iP (Kd.iP (Kd.xR LV hb) (Kd.bZ f3)) uG) (fun _ h_ => h_.1)); replace a6 := bB aW hb; replace aH := bB cB hb; replace bV := bB jM hb; replace rJ := bB LU hb; replace HB := bS E3 hb; clear hb f3 lL; obtain ⟨gv, mw, ov⟩ := Kd.bP QR.1; subst ov; have aJS := nZ1 gU jC; have aJT := cz2 aH; obtain ⟨gw, mx, ow⟩ := Kd.gM Zv.1; subst ow) | (go_at_call 35; revert ah; intro ah; revert Zk; intro Zk; refine cM (lW.calls k1 _ _ m0 _ _ e6 false _ (pC (Kd.aU jO.1).2.2) ((Kd.aU jO.1).2.1) (pC (Kd.bL fI.1).2.2) ((Kd.bL fI.1).2.1) Zk.out) ?_; rintro aQ5 hb; replace d4 := RB lI hb; replace bJ := NE uW hb; replace jO := RB G9 hb; replace fI := NE LV hb; replace a6 := bB aW hb; replace aH := bB cB hb; replace bV := bB jM hb; replace rJ := bB LU hb; replace HB := bS E3 hb; clear hb; have aJU := nZ1 jC gU; have aJV := cz2 bV; have aJW := cz2 aH; obtain ⟨gx, mz, ox⟩ := Kd.gM bJ.1; subst ox; clear Zk) | ((with_reducible refine gC 35 ?_); revert Hx; intro Hx; refine cQ (some 64) Try.func35 (lW.calls k1 _ _ bF _ _ aN false _ (pB dY) dX.1 (pB cU) f4.1 A90.out) ?_; rintro aQ6 hb; replace d4 := RB lI hb; replace bJ := NE uW hb; replace jO := RB G9 hb; replace fI := NE LV hb; replace a6 := bB aW hb; replace aH := bB cB hb; replace bV := bB jM hb; replace rJ := bB LU hb; replace HB := bS E3 hb; clear hb; have aJX := nZ2 PP K9 PQ KA; have aJY := cz2 rJ; obtain ⟨gy, na, oy⟩ := Kd.gM fI.1; subst oy) | ((with_reducible refine gC 89 ?_); revert Hx; intro Hx; refine cE (some 72) Try.func89 (dE.calls k1 _ _ m0 _ _ e6 QE a4H _ (pC (Kd.aU jO.1).2.2) ((Kd.aU jO.1).2.1) (pC (Kd.bL fI.1).2.2) ((Kd.bL fI.1).2.1) aBW.out) ?_; rintro e aQ7 ⟨a4T, aVT, rfl, f3, lL, hb⟩; refine ⟨_, rfl, ?_⟩; have Ar := am (Kd.d9 (Kd.fA (Kd.fA (Kd.jQ (M := fun k_ => (w.heap.size ≤ k_)) f3 (aG E3) (fun k_ h_ => h_)) (Kd.R_lt lI)) (Kd.R_lt G9)) (aG E3)); have Zw := am (Kd.jD (Kd.aJ (ok' := F54 w a4T (.slice qH dC.length qK) yP (.slice CB m0.length CY) (.slice gy e6.length na) aT aZ cS D9) (Kd.S_N (Kd.nP lL)) (fun k_ hk_ => ⟨(Nat.le_trans (aG E3) hk_.2.1), hk_.1, (Kd.fresh' (Kd.R_lt lI) k_ hk_.2.1), (Kd.fresh' (Kd.N_lt uW) k_ hk_.2.1), (Kd.fresh' (Kd.R_lt G9) k_ hk_.2.1), (Kd.fresh' (Kd.N_lt LV) k_ hk_.2.1), (fB aW k_ hk_.2.1), (fB cB k_ hk_.2.1), (fB jM k_ hk_.2.1), (fB LU k_ hk_.2.1)⟩)) (aG E3)); replace d4 := am (Kd.dS lI (Kd.bZ f3) hb); replace bJ := am (Kd.aJ (Kd.iP (Kd.iP (Kd.xR uW hb) (Kd.bZ f3)) uG) (fun _ h_ => h_.1)); replace jO := am (Kd.dS G9 (Kd.bZ f3) hb); replace fI := am (Kd.aJ (Kd.iP (Kd.iP (Kd.xR LV hb) (Kd.bZ f3)) uG) (fun _ h_ => h_.1)); replace a6 := bB aW hb; replace aH := bB cB hb; replace bV := bB jM hb; replace rJ := bB LU hb; replace HB := bS E3 hb; clear hb f3 lL; obtain ⟨gz, nb, oz⟩ := Kd.bP Ar.1; subst oz; have aJZ := nZ1 gU jC; have aK0 := cz2 aH; obtain ⟨ia, nc, pa⟩ := Kd.gM Zw.1; subst pa))
   ·replace d4 := RD d4
    replace bJ := ND bJ
    replace jO := RD jO
    replace fI := ND fI
    replace a6 := BD a6
    replace aH := BD aH
    replace bV := BD bV
    replace rJ := BD rJ
    replace HB := am (aV HB.1)
    obtain ⟨aSA, Rb, a1V⟩ := Kd.gM fI.1
    (first | subst a1V | (obtain ⟨f4_, f5_⟩ := sj a1V; subst f4_; subst f5_))
    have Tc : 0 ≤ (dJ : Int) := oT
    have Tk : dJ < (e6.length : Int) := oT
    obtain ⟨TI, SY, TK, gf, lz, nw, OE, OG, OH, Jo, Ji, Jp, Jj⟩ := zG (Kd.bL fI.1).2.2 dJ Tc Tk
    cases nw
    obtain ⟨ce122, hce122, hMe122, hcc122⟩ := Kd.Ih fI.1 z56 dJ Tc (by first | exact Tk | exact oT | (have e_ := (Kd.bL fI.1).1; omega))
    obtain ⟨ua122_1, uc122_1, ua122_2, uc122_2, rfl, ZY, Y9, ZZ, YA⟩ := uH hMe122
    have SN := hcc122 1 _ rfl
    rw [oL _ _ 1 (by omega)] at SN
    replace SN := Option.some.inj (SN.symm.trans OG)
    injection SN with hva_ hvn_ hvc_
    rw [hva_] at Y9
    rw [hvc_] at ZY
    have S4 := am (show Kd.V Kd.string 9 _ w.heap.size _ _ ((aA e6 dJ).f1) from Kd.V_mk ZY Y9)
    clear hva_ hvn_ hvc_ Y9 ZY
    have SO := hcc122 2 _ rfl
    rw [oL _ _ 2 (by omega)] at SO
    replace SO := Option.some.inj (SO.symm.trans OH)
    injection SO with hva_ hvn_ hvc_
    rw [hva_] at YA
    rw [hvc_] at ZZ
    have S5 := am (show Kd.V Kd.string 9 _ w.heap.size _ _ ((aA e6 dJ).f2) from Kd.V_mk ZZ YA)
    clear hva_ hvn_ hvc_ YA ZZ
    clear hcc122 hce122
    have wY := am Ji
    have Hb := am Jo
    clear Ji Jo
    have GW := am Jj
    have a6A := am Jp
    clear Jj Jp
    replace Tc := eq_true Tc
    replace Tk := eq_true Tk
    obtain ⟨a01, aEE, YW, Yf, aVA, aVE⟩ := aSw EE HB sG
    cases aEE
    refine sT (S := fun w' => w'.cell? ⟨D9, 0, none⟩ = some (.slice CB m0.length CY) ∧ w'.cell? ⟨D9, 1, none⟩ = some (.slice (some TI) e6.length Rb) ∧ w'.cell? (TI.add ((dJ).toNat * 3)) = some (.string ((aA e6 dJ).f0)) ∧ w'.cell? ⟨(TI.add ((dJ).toNat * 3)).block, (TI.add ((dJ).toNat * 3)).off + 1, none⟩ = some (.slice SY ((aA e6 dJ).f1).length TK) ∧ w'.cell? ⟨(TI.add ((dJ).toNat * 3)).block, (TI.add ((dJ).toNat * 3)).off + 2, none⟩ = some (.slice gf ((aA e6 dJ).f2).length lz) ∧ w'.cell? (a01.add (sG).toNat) = some (.string (rdOf ByteArray.empty l2 sG))) [16] 17 ⟨⟨(bC rJ.1 0).trans rfl, (bC rJ.1 1).trans rfl, OE, OG, OH, (hX HB YW)⟩⟩ (fun hHeld => ?_)
    refine eO fC.P9 fC.GZ (fun HT_ HW_ => ?_)
    generalize wr.drew = w86 at d4 bJ jO fI a6 aH bV rJ HB S4 S5 wY GW OE OG OH Yf hHeld ⊢
    refine pU7 0 2 3 5 9 10 11 ?_
    refine tK6 1 (some 48) ?_
    refine tK6 4 (some 51) ?_
    refine pU2 6 7 ?_
    refine tK6 8 (some 55) ?_
    refine tK6 12 (some 59) ?_
    have H := HF.out
    clear HF
    by_cases cF : insF (rdOf ByteArray.empty l2 sG) ((aA e6 dJ).f1) = true
    ·rw [if_pos cF] at H
     have H' := am H
     repeat clear H
     have A84 := am (show dD.q0 (((aA e6 dJ).f1).length + 1) ((aA e6 dJ).f1) (rdOf ByteArray.empty l2 sG) 0 = some true from dD.eu ((aA e6 dJ).f1) (rdOf ByteArray.empty l2 sG) wY.1.2.1 ((aA e6 dJ).f1).length 0 (by omega) (by simpa using cF))
     refine oN 13 (some 60) fun K hK => ?_
     refine NS Try.func106 (by kernel_rfl) rfl #[.slice SY ((aA e6 dJ).f1).length TK, .string (rdOf ByteArray.empty l2 sG)] (by rfl) rfl rfl xV ?_
     with_reducible refine (dD.same (((aA e6 dJ).f1).length + 1) _ _ ((aA e6 dJ).f1) (rdOf ByteArray.empty l2 sG) _ ?side1 ?side2 A84.out).mono ?_
     (case side1 => exact pC (by repeat (first | (with_reducible exact wY.1) | (with_reducible refine Kd.mO ?_ _) | (with_reducible refine Kd.mP ?_ _) | (with_reducible refine Kd.oD ?_) | exact wY.1)))
     (case side2 => exact Hb.1)
     rintro e w88 ⟨rfl, hb⟩
     have HS2_ := (hb.cell (World.block_lt_of_cell? _ _ (hHeld.2.2.1))).trans (hHeld.2.2.1)
     have HS3_ := (hb.cell (World.block_lt_of_cell? _ _ (hHeld.2.2.2.1))).trans (hHeld.2.2.2.1)
     have HS4_ := (hb.cell (World.block_lt_of_cell? _ _ (hHeld.2.2.2.2.1))).trans (hHeld.2.2.2.2.1)
     refine ⟨_, rfl, ?_⟩
     replace d4 := RB lI hb
     replace bJ := NE uW hb
     replace jO := RB G9 hb
     replace fI := NE LV hb
     replace a6 := bB aW hb
     replace aH := bB cB hb
     replace bV := bB jM hb
     replace rJ := bB LU hb
     replace wY := am (Kd.aX (by repeat (first | (with_reducible exact wY.1) | (with_reducible refine Kd.mO ?_ _) | (with_reducible refine Kd.mP ?_ _) | (with_reducible refine Kd.oD ?_) | exact wY.1)) hb)
     replace GW := am (Kd.aX (by repeat (first | (with_reducible exact GW.1) | (with_reducible refine Kd.mO ?_ _) | (with_reducible refine Kd.mP ?_ _) | (with_reducible refine Kd.oD ?_) | exact GW.1)) hb)
     replace HB := bS E3 hb
     clear S4
     clear S5
     clear hb
     have sc : 0 ≤ (dJ : Int) := oT
     have sm : (dJ : Int) < ((e6.length : Int) : Int) := oT
     obtain ⟨AX, IU, Fc, Rp, gl85, cl85, HG85⟩ := Kd.Dy fI.1 (by omega)
     (first | cases Fc | (injection Fc with ea_ en_ ec_; (first | subst ea_ | (injection ea_ with ea_; subst ea_)); subst ec_; clear en_))
     have GB85 := am Rp
     have GG85 := am HG85
     clear Rp gl85 HG85
     (first | simp only [add_plain] at OE | skip)
     (first | simp only [add_plain] at OG | skip)
     (first | simp only [add_plain] at OH | skip)
     obtain ⟨ce85, hcl85, hM85, hcc85, hfr85⟩ := Kd.ME fI.1 z56 (dJ : Int) sc sm
     obtain ⟨ua85_1, uc85_1, ua85_2, uc85_2, rfl, tw, qj, tx, qk⟩ := uH hM85
     have qz : World.cell? _ ⟨AX, (dJ : Int).toNat * 3, none⟩ = some (.string ((aA e6 dJ).f0)) := hcc85 0 _ rfl
     have ra : World.cell? _ ⟨AX, (dJ : Int).toNat * 3 + 1, none⟩ = some (.slice ua85_1 ((aA e6 dJ).f1).length uc85_1) := hcc85 1 _ rfl
     have rb : World.cell? _ ⟨AX, (dJ : Int).toNat * 3 + 2, none⟩ = some (.slice ua85_2 ((aA e6 dJ).f2).length uc85_2) := hcc85 2 _ rfl
     have hf85_0 : World.frozen? _ ⟨AX, (dJ : Int).toNat * 3, none⟩ = false := hfr85 0
     have hf85_1 : World.frozen? _ ⟨AX, (dJ : Int).toNat * 3 + 1, none⟩ = false := hfr85 1
     have hf85_2 : World.frozen? _ ⟨AX, (dJ : Int).toNat * 3 + 2, none⟩ = false := hfr85 2
     clear hcl85 hcc85 hfr85 hM85
     replace sc := eq_true sc
     replace sm := eq_true sm
     refine hK.out _ _ ⟨(bC rJ.1 0).trans rfl, (bC rJ.1 1).trans rfl, HS2_, HS3_, HS4_, (hX HB YW)⟩ (fun hHeld => ?_)
     clear hK K
     refine nM ?_
     refine pU2 14 15 ?_
     refine lN 16 none fun K hK => ?_
     have hst_ : w88.cell? ⟨AX, (dJ : Int).toNat * 3 + 1, none⟩ = some (.slice SY ((aA e6 dJ).f1).length TK) := by
      have h_ := HS3_
      simp only [add_plain] at h_
      exact h_
     refine uX (w1 := (w88.setCell ⟨AX, (dJ : Int).toNat * 3 + 1, none⟩ (.slice SY ((aA e6 dJ).f1).length TK))) (by rfl) rfl ?_ ?_
     ·go_simp
      (try rfl)
     refine hK.out _ _ ?_
     clear hK K
     refine dN ?_
     rw [ZV hst_]
     try go_wp2
     go_roundg k1
     case measure => have := HK1.out; omega
     case rel => exact ⟨(wrap64 (sG + 1)), (C9), (e6), (yP), (.slice (some ⟨AX, 0, none⟩) e6.length Rb), rfl, H', ⟨by have := HK1.out; omega⟩, d4, bJ, jO, fI, a6, aH, bV, rJ, HB⟩
    ·rw [if_neg cF] at H
     obtain ⟨Ms, A84, H⟩ := bd H
     obtain ⟨QK, J8⟩ := yv (e6.set (dJ : Int).toNat (⟨(aA e6 dJ).f0, Ms, (aA e6 dJ).f2⟩ : S56)); first | replace H := bW J8 H | rw [← J8.1] at H
     have H' := am H
     repeat clear H
     refine oN 13 (some 60) fun K hK => ?_
     refine NS Try.func106 (by kernel_rfl) rfl #[.slice SY ((aA e6 dJ).f1).length TK, .string (rdOf ByteArray.empty l2 sG)] (by rfl) rfl rfl xV ?_
     with_reducible refine (dD.calls k1 _ _ ((aA e6 dJ).f1) (rdOf ByteArray.empty l2 sG) Ms _ ?side1 ?side2 A84.out).mono ?_
     (case side1 => exact pC (by repeat (first | (with_reducible exact wY.1) | (with_reducible refine Kd.mO ?_ _) | (with_reducible refine Kd.mP ?_ _) | (with_reducible refine Kd.oD ?_) | exact wY.1)))
     (case side2 => exact Hb.1)
     rintro e w88 ⟨IC, rfl, f3, hb⟩
     have HS2_ := (hb.cell (World.block_lt_of_cell? _ _ (hHeld.2.2.1))).trans (hHeld.2.2.1)
     have HS3_ := (hb.cell (World.block_lt_of_cell? _ _ (hHeld.2.2.2.1))).trans (hHeld.2.2.2.1)
     have HS4_ := (hb.cell (World.block_lt_of_cell? _ _ (hHeld.2.2.2.2.1))).trans (hHeld.2.2.2.2.1)
     refine ⟨_, rfl, ?_⟩
     replace bJ := am (Kd.rQ uW (Kd.bZ f3) hb)
     replace fI := am (Kd.rQ LV (Kd.bZ f3) hb)
     replace S4 := am (Kd.pE (rV S4.out) (Kd.bZ f3) hb)
     replace S5 := am (Kd.pE (rV S5.out) (Kd.bZ f3) hb)
     have tN := am (Kd.d9 (Kd.fA (Kd.fA (Kd.jQ (M := fun k_ => (w.heap.size ≤ k_)) f3 (aG E3) (fun k_ h_ => h_)) (Kd.R_lt lI)) (Kd.R_lt G9)) (aG E3))
     replace d4 := am (Kd.dS lI (Kd.bZ f3) hb)
     replace jO := am (Kd.dS G9 (Kd.bZ f3) hb)
     replace a6 := bB aW hb
     replace aH := bB cB hb
     replace bV := bB jM hb
     replace rJ := bB LU hb
     replace wY := am (Kd.aX (by repeat (first | (with_reducible exact wY.1) | (with_reducible refine Kd.mO ?_ _) | (with_reducible refine Kd.mP ?_ _) | (with_reducible refine Kd.oD ?_) | exact wY.1)) hb)
     replace GW := am (Kd.aX (by repeat (first | (with_reducible exact GW.1) | (with_reducible refine Kd.mO ?_ _) | (with_reducible refine Kd.mP ?_ _) | (with_reducible refine Kd.oD ?_) | exact GW.1)) hb)
     replace HB := bS E3 hb
     clear hb f3
     have sc : 0 ≤ (dJ : Int) := oT
     have sm : (dJ : Int) < ((e6.length : Int) : Int) := oT
     obtain ⟨AX, IU, Fc, Rp, gl85, cl85, HG85⟩ := Kd.Dy fI.1 (by omega)
     (first | cases Fc | (injection Fc with ea_ en_ ec_; (first | subst ea_ | (injection ea_ with ea_; subst ea_)); subst ec_; clear en_))
     have GB85 := am Rp
     have GG85 := am HG85
     clear Rp gl85 HG85
     (first | simp only [add_plain] at OE | skip)
     (first | simp only [add_plain] at OG | skip)
     (first | simp only [add_plain] at OH | skip)
     obtain ⟨ce85, hcl85, hM85, hcc85, hfr85⟩ := Kd.ME fI.1 z56 (dJ : Int) sc sm
     obtain ⟨ua85_1, uc85_1, ua85_2, uc85_2, rfl, tw, qj, tx, qk⟩ := uH hM85
     have qz : World.cell? _ ⟨AX, (dJ : Int).toNat * 3, none⟩ = some (.string ((aA e6 dJ).f0)) := hcc85 0 _ rfl
     have ra : World.cell? _ ⟨AX, (dJ : Int).toNat * 3 + 1, none⟩ = some (.slice ua85_1 ((aA e6 dJ).f1).length uc85_1) := hcc85 1 _ rfl
     have rb : World.cell? _ ⟨AX, (dJ : Int).toNat * 3 + 2, none⟩ = some (.slice ua85_2 ((aA e6 dJ).f2).length uc85_2) := hcc85 2 _ rfl
     have hf85_0 : World.frozen? _ ⟨AX, (dJ : Int).toNat * 3, none⟩ = false := hfr85 0
     have hf85_1 : World.frozen? _ ⟨AX, (dJ : Int).toNat * 3 + 1, none⟩ = false := hfr85 1
     have hf85_2 : World.frozen? _ ⟨AX, (dJ : Int).toNat * 3 + 2, none⟩ = false := hfr85 2
     clear hcl85 hcc85 hfr85 hM85
     replace sc := eq_true sc
     replace sm := eq_true sm
     have HX89 := am (show Kd.N k56 56 _ w.heap.size (F44 w (.slice qH dC.length qK) yP (.slice CB m0.length CY) IC aT aZ cS D9) (.slice (some ⟨AX, 0, none⟩) e6.length Rb) e6 from (Kd.aJ (fI.1) (fun k_ hk => ⟨hk.1.1, ⟨hk.1.2.1, ⟨hk.1.2.2.1, ⟨hk.1.2.2.2.1, ⟨hk.2, ⟨hk.1.2.2.2.2.1, ⟨hk.1.2.2.2.2.2.1, ⟨hk.1.2.2.2.2.2.2.1, hk.1.2.2.2.2.2.2.2⟩⟩⟩⟩⟩⟩⟩⟩)))
     replace HX89 := am (show Kd.N k56 56 _ w.heap.size (F34 w (.slice qH dC.length qK) yP (.slice CB m0.length CY) aT aZ cS D9) (.slice (some ⟨AX, 0, none⟩) e6.length Rb) e6 from Kd.aJ HX89.out (fun k_ hk => ⟨hk.1, ⟨hk.2.1, ⟨hk.2.2.1, ⟨hk.2.2.2.1, ⟨hk.2.2.2.2.2.1, ⟨hk.2.2.2.2.2.2.1, ⟨hk.2.2.2.2.2.2.2.1, hk.2.2.2.2.2.2.2.2⟩⟩⟩⟩⟩⟩⟩))
     obtain ⟨ce89, hcl89, hM89, hcc89, hfr89⟩ := Kd.ME HX89.out z56 (dJ : Int) (oT) (by have h_ : (dJ : Int) < ((e6.length : Int) : Int) := oT; first | exact h_ | (have e_ := (Kd.bL fI.1).1; omega) | simpa using h_)
     obtain ⟨ua89_1, uc89_1, ua89_2, uc89_2, rfl, aGU, aF9, tz, ql⟩ := uH hM89
     have HP89 := (Kd.Oz HX89.out (dJ : Int) (oT) (by have h_ : (dJ : Int) < ((e6.length : Int) : Int) := oT; first | exact h_ | (have e_ := (Kd.bL fI.1).1; omega) | simpa using h_) (seg := [IC]) (j := 1) hcl89 hcc89 (show 2 ≤ 3 from by decide) (x' := (⟨(aA e6 dJ).f0, Ms, (aA e6 dJ).f2⟩ : S56)) (Cj _ _ (⟨(aA e6 dJ).f0, Ms, (aA e6 dJ).f2⟩ : S56) (Kd.aM (ok' := (fun k_ => ((F34 w (.slice qH dC.length qK) yP (.slice CB m0.length CY) aT aZ cS D9)) k_ ∧ k_ ≠ AX)) (Kd.fQ (Kd.fQ (Kd.fQ (Kd.fQ (Kd.mJ (Kd.mJ (tN.1) (Kd.lY bJ.1) (by decide)) (Kd.lY fI.1) (by decide)) a6.1 (by decide)) aH.1 (by decide)) bV.1 (by decide)) rJ.1 (by decide)) (fun k_ hk => ⟨⟨hk.1.1.1.1.1.1.1.1.1, ⟨hk.1.1.1.1.1.1.1.2, ⟨hk.1.1.1.1.1.2, ⟨hk.1.1.1.1.1.1.2, ⟨hk.1.1.1.2, ⟨hk.1.1.2, ⟨hk.1.2, hk.2⟩⟩⟩⟩⟩⟩⟩, fun e_ => (hk.1.1.1.1.2) (by rw [e_]; rfl)⟩)) tz ql) (fun _ hk => hk)).1
     rw [← J8.out] at HP89
     have HQ89 := am HP89
     clear hcl89 hcc89 hfr89 hM89 HP89
     refine hK.out _ _ ⟨(bC rJ.1 0).trans rfl, (bC rJ.1 1).trans rfl, HS2_, HS3_, HS4_, (hX HB YW)⟩ (fun hHeld => ?_)
     clear hK K
     refine nM ?_
     refine pU2 14 15 ?_
     refine lN 16 none fun K hK => ?_
     refine uX (w1 := (w88.setCell ⟨AX, (dJ : Int).toNat * 3 + 1, none⟩ (IC))) (by rfl) rfl ?_ ?_
     skip
     ·obtain ⟨Az_, cz_, ez_⟩ := Kd.bP tN.1
      subst ez_
      go_simp
      (try rfl)
     refine hK.out _ _ ?_
     clear hK K
     refine dN ?_
     try go_wp2
     go_roundg k1
     case measure => have := HK1.out; omega
     case rel => exact ⟨(wrap64 (sG + 1)), (C9), (QK), (yP), (.slice (some ⟨AX, 0, none⟩) e6.length Rb), dM, H', ⟨by have := HK1.out; omega⟩, ⟨by refine rR ?_; exact Kd.aM (Kd.tF (p := ⟨AX, (dJ : Int).toNat * 3 + 1, none⟩) (tR d4 GG85) (fun _ hk => hk.2) (IC)) (fun _ hk => ⟨hk.1.1.1, hk.1.1.2⟩)⟩, ⟨by refine rN ?_; exact Kd.aJ (Kd.EF (p := ⟨AX, (dJ : Int).toNat * 3 + 1, none⟩) (Kd.aJ bJ.1 (fun k_ hk => (⟨hk, fun e_ => hk.1.2.2.2.1 (by rw [e_]; rfl)⟩ : _ ∧ k_ ≠ AX))) (fun _ hk => hk.2) (IC)) (fun _ hk => ⟨hk.1.1.1, ⟨hk.1.1.2.1, ⟨hk.1.1.2.2.1, ⟨hk.1.1.2.2.2.1, ⟨hk.1.1.2.2.2.2.1, ⟨hk.1.1.2.2.2.2.2.1, ⟨hk.1.1.2.2.2.2.2.2.1, hk.1.1.2.2.2.2.2.2.2⟩⟩⟩⟩⟩⟩⟩)⟩, ⟨by refine rR ?_; exact Kd.aM (Kd.tF (p := ⟨AX, (dJ : Int).toNat * 3 + 1, none⟩) (tR jO GG85) (fun _ hk => hk.2) (IC)) (fun _ hk => ⟨hk.1.1.1, hk.1.1.2⟩)⟩, ⟨rN HQ89.out⟩, ⟨by refine rB ?_; refine dF ?_ (by have h_ := Kd.J5 fI.1 (fun _ hk => by first | exact hk.2.2.2.2.1 | exact hk.1.2.2.2.2.1); intro e_; exact h_ (by rw [e_]; rfl)) _; refine rB ?_; exact a6.1⟩, ⟨by refine rB ?_; refine dF ?_ (by have h_ := Kd.J5 fI.1 (fun _ hk => by first | exact hk.2.2.2.2.2.1 | exact hk.1.2.2.2.2.2.1); intro e_; exact h_ (by rw [e_]; rfl)) _; refine rB ?_; exact aH.1⟩, ⟨by refine rB ?_; refine dF ?_ (by have h_ := Kd.J5 fI.1 (fun _ hk => by first | exact hk.2.2.2.2.2.2.1 | exact hk.1.2.2.2.2.2.2.1); intro e_; exact h_ (by rw [e_]; rfl)) _; refine rB ?_; exact bV.1⟩, ⟨by refine rB ?_; refine dF ?_ (by have h_ := Kd.J5 fI.1 (fun _ hk => by first | exact hk.2.2.2.2.2.2.2 | exact hk.1.2.2.2.2.2.2.2); intro e_; exact h_ (by rw [e_]; rfl)) _; refine rB ?_; exact rJ.1⟩, ⟨by repeat (first | (with_reducible first | exact HB.1 | apply bQ | apply bA | apply aV | refine aI ?_ GB85.out | refine aI ?_ iJ.1 | refine aI ?_ nX.1 | refine aI ?_ LI.1 | refine aI ?_ Zp.1) | exact HB.1)⟩⟩
   ·refine cT aZ 31 #[.slice gv RX.length mw, .slice gw a4G.length mx] (qP aH) Try.underlying31 ?_
    exact ⟨_, _, eR, by refine rR ?_; exact Kd.aM (fR (fR (tR QR aH))) (fun _ hk => hk.1.1.1.1), by refine rN ?_; exact Kd.aJ (fN (fN (Kd.aJ Zv.1 (fun k_ hk => (⟨hk, hk.2.2.2.2.2.2.2.1⟩ : _ ∧ k_ ≠ aZ))))) (fun _ hk => ⟨hk.1.1, hk.1.2.1⟩), E3⟩
   ·refine cT aZ 31 #[.slice qH dC.length qK, .slice gx C9.length mz] (qP aH) Try.underlying31 ?_
    exact ⟨_, _, eR, mR d4 aH, by refine rN ?_; exact Kd.aJ (fN (fN (Kd.aJ bJ.1 (fun k_ hk => (⟨hk, hk.2.2.2.2.2.1⟩ : _ ∧ k_ ≠ aZ))))) (fun _ hk => ⟨hk.1.1, hk.1.2.1⟩), E3⟩
   ·refine cT aZ 31 #[.slice gz QE.length nb, .slice ia a4H.length nc] (qP aH) Try.underlying31 ?_
    exact ⟨_, _, eR, by refine rR ?_; exact Kd.aM (fR (fR (tR Ar aH))) (fun _ hk => hk.1.1.1.1), by refine rN ?_; exact Kd.aJ (fN (fN (Kd.aJ Zw.1 (fun k_ hk => (⟨hk, hk.2.2.2.2.2.2.2.1⟩ : _ ∧ k_ ≠ aZ))))) (fun _ hk => ⟨hk.1.1, hk.1.2.1⟩), E3⟩
 ·refine cT aZ 31 #[.slice qH dC.length qK, .slice CA dZ.length CX] (qP aH) Try.underlying31 ?_
  exact ⟨_, _, eR, mR eP aH, by refine rN ?_; exact Kd.aJ (fN (fN (Kd.aJ fU.1 (fun k_ hk => (⟨hk, hk.1.2.2.2⟩ : _ ∧ k_ ≠ aZ))))) (fun _ hk => ⟨hk.1.1.1, hk.1.1.2.1⟩), g4⟩
 refine cT aZ 31 #[.slice none 0 0, .slice none 0 0] pY6 Try.underlying31 ?_
 exact ⟨_, _, eR, by first | exact Kd.uE _ _ _ _ _ | exact Kd.CG _ _ _ _ _ | exact Kd.CO _ _ _ _ _ | exact Kd.CJ _ _ _ _ _ | exact Kd.yU _ _ _ _ _, by first | exact Kd.yU _ _ _ _ _ | exact Kd.CG _ _ _ _ _ | exact Kd.CO _ _ _ _ _ | exact Kd.CJ _ _ _ _ _ | exact Kd.uE _ _ _ _ _, l6⟩
def vQ.f (k : Nat) (bF : List ByteArray) (aN : List (S56)) (a1_0 : Int) (a1_1 : ByteArray) (Q1 : List ByteArray) : Option (List ByteArray × (List (S56))) := if a1_0 = 1 then ((cK.f k bF aN a1_1 Q1).bind fun a => (some (a.1, a.2.1))) else (if a1_0 = 2 then ((fC.f k bF aN a1_1 Q1).bind fun b => (some (b.1, b.2.1))) else (if a1_0 = 3 then ((eD.f k bF aN a1_1 Q1).bind fun c => (some (c.1, c.2.1))) else ((fV.f k bF aN a1_1).bind fun d => (some (d.1, d.2.1)))))
theorem vQ.calls (k : Nat) (eU : Option Addr) (eY : Nat) (bF : List ByteArray) (fG : Option Addr) (eQ : Nat) (aN : List (S56)) (a1_0 : Int) (a1_1 : ByteArray) (gl : Option Addr) (mj : Nat) (Q1 : List ByteArray) (r1 : List ByteArray) (r2 : List (S56)) (w : World) (iG : Kd.C Kd.string w eU bF.length bF) (iD : bF.length ≤ eY) (iC : Kd.C k56 w fG aN.length aN) (iE : aN.length ≤ eQ) (ef : Kd.C Kd.string w gl Q1.length Q1) (dr : Q1.length ≤ mj) (h : vQ.f k bF aN a1_0 a1_1 Q1 = some (r1, r2)) :
  Calls Try.prog 130 #[.agg #[.slice eU bF.length eY, .slice fG aN.length eQ], .agg #[.int .i64 a1_0, .string a1_1, .slice gl Q1.length mj]] w fun e w' => ∃ v0_ v1_ : Value, e = .returned (.agg #[v0_, v1_]) ∧ Kd.R Kd.string 9 w' w.heap.size (fun k_ => (w.heap.size ≤ k_)) v0_ r1 ∧ Kd.N k56 56 w' w.heap.size (F10 w v0_) v1_ r2 ∧ Below w.heap.size w w' := by
 have hu31 := Try.underlying31
 have hu106 := Try.underlying106
 obtain ⟨dY, dX⟩ := mZ2 iG iD
 obtain ⟨cU, f4⟩ := mZ2 iC iE
 obtain ⟨Og, Oc⟩ := mZ2 ef dr
 clear iG iD iC iE ef dr
 have HB := am (Below.refl w.heap.size w)
 unfold vQ.f at h
 have H := h
 clear h
 refine iq H ?_ ?_ <;> clear H <;> intro c3 IM Ld H
 obtain ⟨⟨dC, dZ, xJ⟩, A4, H⟩ := bd H
 dsimp only at H
 obtain ⟨rfl, rfl⟩ := sZ2 H
 repeat clear H
 have ai := trivial
 rotate_left
 refine iq H ?_ ?_ <;> clear H <;> intro Ei CS cd H
 obtain ⟨⟨dJ, JX, P8⟩, wd, H⟩ := bd H
 dsimp only at H
 obtain ⟨rfl, rfl⟩ := sZ2 H
 repeat clear H
 have aj := trivial
 rotate_left
 refine iq H ?_ ?_ <;> clear H <;> intro c33 a0I a0J H
 obtain ⟨⟨qZ, LC, Ms⟩, Mx, H⟩ := bd H
 dsimp only at H
 obtain ⟨rfl, rfl⟩ := sZ2 H
 repeat clear H
 have ak := trivial
 rotate_left
 obtain ⟨⟨Tr, ZX, QD⟩, A48, H⟩ := bd H
 dsimp only at H
 obtain ⟨rfl, rfl⟩ := sZ2 H
 repeat clear H
 have al := trivial
 rotate_left
 all_goals
  go_enter Try.func130, Try.ntmps130
  go_wp2_with (first | ((with_reducible refine gD 2 ?_); refine bX 2 #[.slice eU bF.length eY, .slice fG aN.length eQ] 31 ?_; intro aT hg aQ8 hbox hb; have a6 := am hbox; have g5 := am (oS : w.heap.size ≤ aT); have iJ := g5; replace HB := bS eG hb; clear hb hbox hg) | ((with_reducible refine gD 3 ?_); refine bX 3 #[.int .i64 a1_0, .string a1_1, .slice gl Q1.length mj] 106 ?_; intro aZ hg aQ9 hbox hb; have aH := am hbox; have m4 := am (I1 : w.heap.size ≤ aZ); have nX := m4; replace HB := bS eE hb; have cO := nL aW hg; have cV := nG aW hg; replace a6 := bB aW hb; clear hb hbox hg) | ((with_reducible refine gD 4 ?_); refine bX 4 #[.slice none 0 0, .slice none 0 0] 31 ?_; intro uQ hg aQA hbox hb; have jU := am hbox; have Ap := am (ZN : w.heap.size ≤ uQ); have LH := Ap; replace HB := bS l6 hb; have z7 := nL aW hg; have sZ := nG aW hg; replace a6 := bB aW hb; have Kq := nL cB hg; have Kr := nG cB hg; replace aH := bB cB hb; clear hb hbox hg; have aK1 := nZ2 cV cO Kq Kr; have aK2 := cz3 aH; have aK3 := nZ1 z7 sZ; have aK4 := cz2 a6) | ((with_reducible refine gC 59 ?_); revert ai; intro ai; refine cE (some 22) Try.func59 (cK.calls k _ _ bF _ _ aN a1_1 _ _ Q1 dC dZ xJ _ (pB dY) dX.1 (pB cU) f4.1 (pB Og) Oc.1 A4.out) ?_; rintro e aQB ⟨LE, IV, rfl, f3, lL, hb⟩; refine ⟨_, rfl, ?_⟩; have eP := am (Kd.d9 (Kd.jQ (M := fun k_ => (w.heap.size ≤ k_)) (Kd.aM (ok' := fun k_ => True) f3 (fun _ hk_ => trivial)) (aG C0) (fun k_ h_ => h_)) (aG C0)); have fU := am (Kd.jD (Kd.aJ (ok' := F13 w LE aT aZ uQ) lL (fun k_ hk_ => ⟨(Nat.le_trans (aG C0) hk_.1), hk_.2, (fB aW k_ hk_.1), (fB cB k_ hk_.1), (fB LS k_ hk_.1)⟩)) (aG C0)); replace a6 := bB aW hb; replace aH := bB cB hb; replace jU := bB LS hb; replace HB := bS C0 hb; clear hb f3 lL; obtain ⟨X0, XZ, pb⟩ := Kd.bP eP.1; subst pb; have aK5 := cz2 a6; obtain ⟨Dl, El, pc⟩ := Kd.gM fU.1; subst pc; have aK6 := cz2 jU) | ((with_reducible refine gC 61 ?_); revert aj; intro aj; refine cE (some 33) Try.func61 (fC.calls k _ _ bF _ _ aN a1_1 _ _ Q1 dJ JX P8 _ (pB dY) dX.1 (pB cU) f4.1 (pB Og) Oc.1 wd.out) ?_; rintro e aQC ⟨a4Q, aGY, rfl, f3, lL, hb⟩; refine ⟨_, rfl, ?_⟩; have He := am (Kd.d9 (Kd.jQ (M := fun k_ => (w.heap.size ≤ k_)) (Kd.aM (ok' := fun k_ => True) f3 (fun _ hk_ => trivial)) (aG C0) (fun k_ h_ => h_)) (aG C0)); have Hf := am (Kd.jD (Kd.aJ (ok' := F13 w a4Q aT aZ uQ) lL (fun k_ hk_ => ⟨(Nat.le_trans (aG C0) hk_.1), hk_.2, (fB aW k_ hk_.1), (fB cB k_ hk_.1), (fB LS k_ hk_.1)⟩)) (aG C0)); replace a6 := bB aW hb; replace aH := bB cB hb; replace jU := bB LS hb; replace HB := bS C0 hb; clear hb f3 lL; obtain ⟨X1, Y0, pd⟩ := Kd.bP He.1; subst pd; have aK7 := cz2 a6; obtain ⟨Dm, Em, pe⟩ := Kd.gM Hf.1; subst pe; have aK8 := cz2 jU) | ((with_reducible refine gC 49 ?_); revert ak; intro ak; refine cE (some 44) Try.func49 (eD.calls k _ _ bF _ _ aN a1_1 _ _ Q1 qZ LC Ms _ (pB dY) dX.1 (pB cU) f4.1 (pB Og) Oc.1 Mx.out) ?_; rintro e aQD ⟨ua, aVP, rfl, f3, lL, hb⟩; refine ⟨_, rfl, ?_⟩; have AA := am (Kd.d9 (Kd.jQ (M := fun k_ => (w.heap.size ≤ k_)) (Kd.aM (ok' := fun k_ => True) f3 (fun _ hk_ => trivial)) (aG C0) (fun k_ h_ => h_)) (aG C0)); have Zu := am (Kd.jD (Kd.aJ (ok' := F13 w ua aT aZ uQ) lL (fun k_ hk_ => ⟨(Nat.le_trans (aG C0) hk_.1), hk_.2, (fB aW k_ hk_.1), (fB cB k_ hk_.1), (fB LS k_ hk_.1)⟩)) (aG C0)); replace a6 := bB aW hb; replace aH := bB cB hb; replace jU := bB LS hb; replace HB := bS C0 hb; clear hb f3 lL; obtain ⟨X2, Y1, pf⟩ := Kd.bP AA.1; subst pf; have aK9 := cz2 a6; obtain ⟨Dn, En, pg⟩ := Kd.gM Zu.1; subst pg; have aKA := cz2 jU) | ((with_reducible refine gC 46 ?_); revert al; intro al; refine cE (some 11) Try.func46 (fV.calls k _ _ bF _ _ aN a1_1 Tr ZX QD _ (pB dY) dX.1 (pB cU) f4.1 A48.out) ?_; rintro e aQE ⟨Ac, aGZ, rfl, f3, lL, hb⟩; refine ⟨_, rfl, ?_⟩; have y9 := am (Kd.d9 (Kd.jQ (M := fun k_ => (w.heap.size ≤ k_)) (Kd.aM (ok' := fun k_ => True) f3 (fun _ hk_ => trivial)) (aG C0) (fun k_ h_ => h_)) (aG C0)); have Aq := am (Kd.jD (Kd.aJ (ok' := F13 w Ac aT aZ uQ) lL (fun k_ hk_ => ⟨(Nat.le_trans (aG C0) hk_.1), hk_.2, (fB aW k_ hk_.1), (fB cB k_ hk_.1), (fB LS k_ hk_.1)⟩)) (aG C0)); replace a6 := bB aW hb; replace aH := bB cB hb; replace jU := bB LS hb; replace HB := bS C0 hb; clear hb f3 lL; obtain ⟨X3, Y2, ph⟩ := Kd.bP y9.1; subst ph; have aKB := cz2 a6; obtain ⟨Do, Eo, pi⟩ := Kd.gM Aq.1; subst pi; have aKC := cz2 jU))
 ·refine cR uQ 31 #[.slice X0 dC.length XZ, .slice Dl dZ.length El] (by refine rB ?_; refine bR (cs := #[.slice X0 dC.length XZ, .slice none 0 0]) ?_ 1 _ rfl; refine rB ?_; refine bR (cs := #[.slice none 0 0, .slice none 0 0]) ?_ 0 _ rfl; refine rB ?_; refine dF ?_ sZ.1 _; refine rB ?_; refine dF ?_ sZ.1 _; refine rB ?_; exact jU.1) Try.underlying31 ?_
  exact ⟨_, _, eR, by refine rR ?_; exact Kd.aM (fR (fR (Kd.tF (p := ⟨aT, 1, none⟩) (Kd.tF (p := ⟨aT, 0, none⟩) (Kd.fQ (tR eP a6) jU.1 (by decide)) (fun _ hk => hk.1.2) (.slice X0 dC.length XZ)) (fun _ hk => hk.1.2) (.slice Dl dZ.length El)))) (fun _ hk => hk.1.1.1), by refine rN ?_; exact Kd.aJ (fN (fN (Kd.EF (p := ⟨aT, 1, none⟩) (Kd.EF (p := ⟨aT, 0, none⟩) (Kd.aJ (Kd.aJ fU.1 (fun k_ hk => (⟨hk, hk.2.2.1⟩ : _ ∧ k_ ≠ aT))) (fun k_ hk => (⟨hk, hk.1.2.2.2.2⟩ : _ ∧ k_ ≠ uQ))) (fun _ hk => hk.1.2) (.slice X0 dC.length XZ)) (fun _ hk => hk.1.2) (.slice Dl dZ.length El)))) (fun _ hk => ⟨hk.1.1.1, hk.1.1.2.1⟩), C0⟩
 ·refine cR uQ 31 #[.slice X1 dJ.length Y0, .slice Dm JX.length Em] (by refine rB ?_; refine bR (cs := #[.slice X1 dJ.length Y0, .slice none 0 0]) ?_ 1 _ rfl; refine rB ?_; refine bR (cs := #[.slice none 0 0, .slice none 0 0]) ?_ 0 _ rfl; refine rB ?_; refine dF ?_ sZ.1 _; refine rB ?_; refine dF ?_ sZ.1 _; refine rB ?_; exact jU.1) Try.underlying31 ?_
  exact ⟨_, _, eR, by refine rR ?_; exact Kd.aM (fR (fR (Kd.tF (p := ⟨aT, 1, none⟩) (Kd.tF (p := ⟨aT, 0, none⟩) (Kd.fQ (tR He a6) jU.1 (by decide)) (fun _ hk => hk.1.2) (.slice X1 dJ.length Y0)) (fun _ hk => hk.1.2) (.slice Dm JX.length Em)))) (fun _ hk => hk.1.1.1), by refine rN ?_; exact Kd.aJ (fN (fN (Kd.EF (p := ⟨aT, 1, none⟩) (Kd.EF (p := ⟨aT, 0, none⟩) (Kd.aJ (Kd.aJ Hf.1 (fun k_ hk => (⟨hk, hk.2.2.1⟩ : _ ∧ k_ ≠ aT))) (fun k_ hk => (⟨hk, hk.1.2.2.2.2⟩ : _ ∧ k_ ≠ uQ))) (fun _ hk => hk.1.2) (.slice X1 dJ.length Y0)) (fun _ hk => hk.1.2) (.slice Dm JX.length Em)))) (fun _ hk => ⟨hk.1.1.1, hk.1.1.2.1⟩), C0⟩
 ·refine cR uQ 31 #[.slice X2 qZ.length Y1, .slice Dn LC.length En] (by refine rB ?_; refine bR (cs := #[.slice X2 qZ.length Y1, .slice none 0 0]) ?_ 1 _ rfl; refine rB ?_; refine bR (cs := #[.slice none 0 0, .slice none 0 0]) ?_ 0 _ rfl; refine rB ?_; refine dF ?_ sZ.1 _; refine rB ?_; refine dF ?_ sZ.1 _; refine rB ?_; exact jU.1) Try.underlying31 ?_
  exact ⟨_, _, eR, by refine rR ?_; exact Kd.aM (fR (fR (Kd.tF (p := ⟨aT, 1, none⟩) (Kd.tF (p := ⟨aT, 0, none⟩) (Kd.fQ (tR AA a6) jU.1 (by decide)) (fun _ hk => hk.1.2) (.slice X2 qZ.length Y1)) (fun _ hk => hk.1.2) (.slice Dn LC.length En)))) (fun _ hk => hk.1.1.1), by refine rN ?_; exact Kd.aJ (fN (fN (Kd.EF (p := ⟨aT, 1, none⟩) (Kd.EF (p := ⟨aT, 0, none⟩) (Kd.aJ (Kd.aJ Zu.1 (fun k_ hk => (⟨hk, hk.2.2.1⟩ : _ ∧ k_ ≠ aT))) (fun k_ hk => (⟨hk, hk.1.2.2.2.2⟩ : _ ∧ k_ ≠ uQ))) (fun _ hk => hk.1.2) (.slice X2 qZ.length Y1)) (fun _ hk => hk.1.2) (.slice Dn LC.length En)))) (fun _ hk => ⟨hk.1.1.1, hk.1.1.2.1⟩), C0⟩
 refine cR uQ 31 #[.slice X3 Tr.length Y2, .slice Do ZX.length Eo] (by refine rB ?_; refine bR (cs := #[.slice X3 Tr.length Y2, .slice none 0 0]) ?_ 1 _ rfl; refine rB ?_; refine bR (cs := #[.slice none 0 0, .slice none 0 0]) ?_ 0 _ rfl; refine rB ?_; refine dF ?_ sZ.1 _; refine rB ?_; refine dF ?_ sZ.1 _; refine rB ?_; exact jU.1) Try.underlying31 ?_
 exact ⟨_, _, eR, by refine rR ?_; exact Kd.aM (fR (fR (Kd.tF (p := ⟨aT, 1, none⟩) (Kd.tF (p := ⟨aT, 0, none⟩) (Kd.fQ (tR y9 a6) jU.1 (by decide)) (fun _ hk => hk.1.2) (.slice X3 Tr.length Y2)) (fun _ hk => hk.1.2) (.slice Do ZX.length Eo)))) (fun _ hk => hk.1.1.1), by refine rN ?_; exact Kd.aJ (fN (fN (Kd.EF (p := ⟨aT, 1, none⟩) (Kd.EF (p := ⟨aT, 0, none⟩) (Kd.aJ (Kd.aJ Aq.1 (fun k_ hk => (⟨hk, hk.2.2.1⟩ : _ ∧ k_ ≠ aT))) (fun k_ hk => (⟨hk, hk.1.2.2.2.2⟩ : _ ∧ k_ ≠ uQ))) (fun _ hk => hk.1.2) (.slice X3 Tr.length Y2)) (fun _ hk => hk.1.2) (.slice Do ZX.length Eo)))) (fun _ hk => ⟨hk.1.1.1, hk.1.1.2.1⟩), C0⟩
def kF.l0 : Nat → Int → List Int → Int → List ByteArray → List (S56) → Option (List ByteArray × (List (S56)) × Int)
 | 0, _, _, _, _, _ => none
 | k + 1, d, e, g, b, c => if d > 0 then ((bO.f k e g b c).bind fun a => ((vQ.f k b c a.1 a.2.1 a.2.2.1).bind fun h => (kF.l0 k (wrap64 (d - 1)) e a.2.2.2 h.1 h.2))) else (some (b, c, g))
def kF.f (k : Nat) (cW : List Int) (gW : Int) : Option (List ByteArray × (List (S56)) × Int) := (fZ.f k cW gW).bind fun a => ((bN.f k cW a.2.2 3).bind fun b => (if b.1 = 0 then ((dH.f k cW b.2 a.1 ([] : List (S56))).bind fun c => (some (c.1, c.2.1, c.2.2))) else ((bN.f k cW b.2 24).bind fun d => (kF.l0 k d.1 cW d.2 a.1 ([] : List (S56))))))
theorem kF.calls (k : Nat) (g : Nat) (cW : List Int) (gW : Int) (r1 : List ByteArray) (r2 : List (S56)) (r3 : Int) (w0 w : World) (hI : aD w0 w g cW gW) (hB : Below w0.heap.size w0 w) (h : kF.f k cW gW = some (r1, r2, r3)) :
  Calls Try.prog 119 #[.pointer (some ⟨g, 0, none⟩)] w fun e w' => ∃ v0_ v1_ : Value, e = .returned (.agg #[v0_, v1_]) ∧ Kd.R Kd.string 9 w' w.heap.size (fun k_ => (w.heap.size ≤ k_)) v0_ r1 ∧ Kd.N k56 56 w' w.heap.size (F10 w v0_) v1_ r2 ∧ aD w0 w' g cW r3 ∧ Below w0.heap.size w0 w' ∧ aY w w' g none := by
 have hu31 := Try.underlying31
 have gJ := am hI
 have HK := am (aY.refl w g none)
 have HL := am hB.size
 clear hI
 have HW0 := am hB.size
 have HB := am hB
 clear hB
 unfold kF.f at h
 have H := h
 clear h
 obtain ⟨⟨lD, oH, lJ⟩, A2, H⟩ := bd H
 dsimp only at H
 obtain ⟨⟨xJ, dJ⟩, A3, H⟩ := bd H
 dsimp only at H
 refine iq H ?_ ?_ <;> clear H <;> intro c4 yF Le H
 obtain ⟨⟨iI, m0, qZ⟩, A5, H⟩ := bd H
 dsimp only at H
 obtain ⟨rfl, rfl, rfl⟩ := sZ3 H
 repeat clear H
 have Hy := trivial
 rotate_left
 obtain ⟨⟨a4F, eH⟩, A20, H⟩ := bd H
 dsimp only at H
 have H' := am H
 repeat clear H
 have Hz := trivial
 rotate_left
 all_goals
  go_enter Try.func119, Try.ntmps119
  go_wp2_with (first | ((with_reducible refine gD 2 ?_); refine bX 2 #[.slice none 0 0, .slice none 0 0] 31 ?_; intro aT hg aQF hbox hb; replace HB := bS E5 hb; have a6 := am hbox; have g5 := am (V0 : w.heap.size ≤ aT); have iJ := am (Nat.le_trans HW0.out (V0 : w.heap.size ≤ aT) : w0.heap.size ≤ aT); replace HK := kU w g wJ hb; have l7 := am (by rw [hg]; exact Nat.ne_of_lt (aD.lt (show aD w0 _ g cW gW from oF)) : g ≠ aT); have fJ := am (by rw [hg]; exact Nat.ne_of_gt (aD.lt (show aD w0 _ g cW gW from oF)) : aT ≠ g); replace gJ := am (aD.below oF hb); clear hb hbox hg) | ((with_reducible refine gC 128 ?_); refine cE (some 6) Try.func128 (fZ.calls k g cW gW lD oH lJ w0 _ (F8) (ZP) A2.out) ?_; rintro e aQG ⟨Ab, rfl, f3, hi, hb, hk⟩; refine ⟨_, rfl, ?_⟩; replace a6 := kb aW hk fJ; have lM := am (Kd.d9 (Kd.jQ (M := fun k_ => (w.heap.size ≤ k_)) f3 (kz w g Q8) (fun k_ h_ => h_)) (kz w g Q8)); replace HK := kT w g Q8 hk; replace HB := am hb; replace gJ := am hi; clear hb hk hi f3) | ((with_reducible refine gD 3 ?_); refine bX 3 #[.slice none 0 0, .slice none 0 0] 31 ?_; intro gP hg aQH hbox hb; replace lM := RB RC hb; replace HB := bS ZP hb; have cA := am hbox; have QO := am (UZ : w.heap.size ≤ gP); have QN := am (Nat.le_trans HW0.out (UZ : w.heap.size ≤ gP) : w0.heap.size ≤ gP); replace HK := kU w g Q8 hb; have iW := nL aW hg; have kS := nG aW hg; replace a6 := bB aW hb; have nO := am (by rw [hg]; exact Nat.ne_of_lt (aD.lt (show aD w0 _ g cW lJ from F8)) : g ≠ gP); have jK := am (by rw [hg]; exact Nat.ne_of_gt (aD.lt (show aD w0 _ g cW lJ from F8)) : gP ≠ g); replace gJ := am (aD.below F8 hb); clear hb hbox hg; obtain ⟨SZ, TM, pj⟩ := Kd.bP lM.1; subst pj; have aKD := nZ2 kS iW jK nO; have zy := cz2 cA) | ((with_reducible refine gC 100 ?_); revert Hy; intro Hy; refine cQ (some 8) Try.func100 (bN.calls k g cW lJ 3 xJ dJ w0 _ (AZ) (MR) A3.out) ?_; rintro aQI ⟨hi, hb, hk⟩; replace a6 := am (aY.blk hk (g' := aT) (o := .cells #[.slice none 0 0, .slice none 0 0] 31 (0, 0)) Td fJ.1 (by simp)); replace lM := am (Kd.aM (Kd.lQ (aD.apart (show aD w0 _ g cW lJ from AZ) (by refine rR ?_; exact (Kd.aM (fR (fR (tR lM cA))) (fun _ h_ => h_.1))) (by decide)) hk (fun _ h => h.2)) (fun _ h => h.1)); replace cA := am (aY.blk hk (g' := gP) (o := .cells #[.slice SZ lD.length TM, .slice none 0 0] 31 (0, 0)) (qP cA) jK.1 (by simp)); replace HK := kT w g yL hk; replace HB := am hb; replace gJ := am hi; clear hb hk hi; have aKE := cz2 cA) | ((with_reducible refine gC 129 ?_); revert Hy; intro Hy; refine cE (some 12) Try.func129 (dH.calls k g cW dJ (fun k_ => some k_ = (.slice SZ lD.length TM : Value).ownBlock) (.slice SZ lD.length TM) lD _ _ ([] : List (S56)) iI m0 qZ w0 _ (AZ) (MR) (Kd.d9 (Kd.rT rfl lM.1) HL.out) Kd.Dr (Nat.le_refl _) rfl rfl A5.out) ?_; rintro e aQJ ⟨IA, V7, rfl, f3, lL, hi, hb, hkp⟩; refine ⟨_, rfl, ?_⟩; have iM := am (Kd.aM (ok' := fun k_ => (w.heap.size ≤ k_)) (Kd.Wi (d := Kd.string) (b := w0.heap.size) (b' := w.heap.size) (fun _ _ _ _ h_ => h_) f3 (fun k_ e_ => Or.elim (f3.1 k_ e_) (fun hs_ => (fun e_ => Kd.bZ lM.1 k_ e_.symm) hs_) (fun hn_ => Nat.le_trans (kz w g yL) hn_))) (fun k_ hk_ => Or.elim hk_ (fun hs_ => (lM.1.1 k_ (hs_).symm).1) (fun hn_ => (Nat.le_trans (kz w g yL) hn_)))); have iN := am (Kd.jD (Kd.aJ (ok' := F13 w IA aT gP g) lL (fun k_ hk_ => ⟨Or.elim hk_.1 (fun hs_ => (lM.1.1 k_ (hs_).symm).1) (fun hn_ => (Nat.le_trans (kz w g yL) hn_)), hk_.2, Or.elim hk_.1 (fun hs_ => fun e_ => (Kd.R_ne lM.1 a6.1 (by decide)) (by rw [← e_]; exact hs_)) (fun hn_ => (fB aW k_ hn_)), Or.elim hk_.1 (fun hs_ => fun e_ => (Kd.R_ne lM.1 cA.1 (by decide)) (by rw [← e_]; exact hs_)) (fun hn_ => (fB uT k_ hn_)), Or.elim hk_.1 (fun hs_ => fun e_ => (aD.own_ne gJ.out lM.1 (by decide)) (by rw [← e_]; exact hs_)) (fun hn_ => (aD.fresh AZ k_ hn_))⟩)) (kz w g yL)); replace gJ := am hi; replace a6 := am (eX aW hkp (fun hs_ => Or.elim hs_ (fun hs_ => (fun e_ => (Kd.R_ne lM.1 a6.1 (by decide)) e_) hs_) (fun e_ => fJ.1 e_))); replace cA := am (eX uT hkp (fun hs_ => Or.elim hs_ (fun hs_ => (fun e_ => (Kd.R_ne lM.1 cA.1 (by decide)) e_) hs_) (fun e_ => jK.1 e_))); replace HK := am (Kept.a3N yL hkp (fun k_ hs_ => Or.elim hs_ (fun hs_ => (fun e_ => .inr (Kd.bZ lM.1 k_ e_.symm)) hs_) (fun e_ => .inl e_))); replace HB := am hb; clear lM; clear hb hkp f3 lL; obtain ⟨ie, nf, pl⟩ := Kd.bP iM.1; subst pl; have aKF := nZ1 fJ l7; have aKG := cz2 a6; obtain ⟨ig, ng, pm⟩ := Kd.gM iN.1; subst pm) | ((with_reducible refine gC 100 ?_); revert Hz; intro Hz; refine cQ (some 8) Try.func100 (bN.calls k g cW lJ 3 xJ dJ w0 _ (AZ) (MR) A3.out) ?_; rintro aQK ⟨hi, hb, hk⟩; replace a6 := am (aY.blk hk (g' := aT) (o := .cells #[.slice none 0 0, .slice none 0 0] 31 (0, 0)) Td fJ.1 (by simp)); replace lM := am (Kd.aM (Kd.lQ (aD.apart (show aD w0 _ g cW lJ from AZ) (by refine rR ?_; exact (Kd.aM (fR (fR (tR lM cA))) (fun _ h_ => h_.1))) (by decide)) hk (fun _ h => h.2)) (fun _ h => h.1)); replace cA := am (aY.blk hk (g' := gP) (o := .cells #[.slice SZ lD.length TM, .slice none 0 0] 31 (0, 0)) (qP cA) jK.1 (by simp)); replace HK := kT w g yL hk; replace HB := am hb; replace gJ := am hi; clear hb hk hi) | ((with_reducible refine gC 100 ?_); revert Hz; intro Hz; refine cQ (some 14) Try.func100 (bN.calls k g cW dJ 24 a4F eH w0 _ (AZ) (MR) A20.out) ?_; rintro aQL ⟨hi, hb, hk⟩; replace a6 := kb aW hk fJ; replace lM := iR AZ RC hk; replace cA := kb uT hk jK; replace HK := kT w g yL hk; replace HB := am hb; replace gJ := am hi; clear hb hk hi))
 ·refine cR aT 31 #[.slice ie iI.length nf, .slice ig m0.length ng] (qP a6) Try.underlying31 ?_
  exact ⟨_, _, eR, mR iM a6, by refine rN ?_; exact Kd.aJ (fN (fN (Kd.aJ iN.1 (fun k_ hk => (⟨hk, hk.2.2.1⟩ : _ ∧ k_ ≠ aT))))) (fun _ hk => ⟨hk.1.1, hk.1.2.1⟩), AZ, MR, yL⟩
 go_loopg [4] k (fun kq v4 w' => ∃ (mU : Int) (nV : Int) (uJ : List ByteArray) (xX : List (S56)) (SW : Value) (I7 : Value), v4 = .int .i64 mU ∧ aC (kF.l0 kq mU cW nV uJ xX = some (r1, r2, r3)) ∧ aC (kq ≤ k) ∧ aC (Kd.R Kd.string 9 w' w.heap.size (fun k_ => (w.heap.size ≤ k_)) SW uJ) ∧ aC (Kd.N k56 56 w' w.heap.size (F13 w SW aT gP g) I7 xX) ∧ aC (w'.heap[aT]? = some (.cells #[(.slice none 0 0), (.slice none 0 0)] 31 (0, 0))) ∧ aC (w'.heap[gP]? = some (.cells #[SW, I7] 31 (0, 0))) ∧ aC (aD w0 w' g cW nV) ∧ aC (aY w w' g none) ∧ aC (Below w0.heap.size w0 w'))
 case atStart => exact ⟨(a4F), (eH), (lD), (([] : List (S56))), (.slice SZ lD.length TM), (.slice none 0 0), dM, H', ⟨Nat.le_refl _⟩, ⟨by refine rR ?_; exact Kd.aM lM.1 (fun _ hk => hk.1)⟩, ⟨eN⟩, ⟨rB a6.1⟩, ⟨rB cA.1⟩, ⟨AZ⟩, ⟨yL⟩, ⟨MR⟩⟩
 clear H'
 try clear c4
 try clear yF
 try clear Le
 try clear zy
 obtain ⟨mU, nV, uJ, xX, SW, I7, rfl, HA, HK1, bU, bE, a6, cA, gJ, HK, HB⟩ := hrel
 cases gk with
 | zero => exact absurd HA.out (by simp [kF.l0])
 | succ k1 =>
  have H := HA.out
  clear HA
  simp only [kF.l0] at H
  by_cases Na : mU > 0
  ·rw [if_pos Na] at H
   have NO : decide (0 < mU) = true := decide_eq_true Na
   clear Na
   obtain ⟨⟨LC, LD, qE, AP⟩, wh, H⟩ := bd H
   dsimp only at H
   obtain ⟨⟨BE, RX⟩, un, H⟩ := bd H
   dsimp only at H
   have H' := am H
   repeat clear H
   try go_wp2
   replace bU := RD bU
   replace bE := ND bE
   replace a6 := BD a6
   replace cA := BD cA
   replace gJ := am (aD.drew gJ.out)
   replace HK := am (jP HK.out)
   replace HB := am (aV HB.1)
   obtain ⟨Uz, Wy, a1L⟩ := Kd.bP bU.1
   (first | subst a1L | (obtain ⟨f4_, f5_⟩ := sj a1L; subst f4_; subst f5_))
   obtain ⟨Dk, Ek, Fb⟩ := Kd.gM bE.1
   (first | subst Fb | (obtain ⟨f4_, f5_⟩ := sj Fb; subst f4_; subst f5_))
   refine sT [5] 6 (uA2 cA) (fun hHeld => ?_)
   generalize wr.drew = wa at bU bE a6 cA gJ HK HB hHeld ⊢
   refine pU0 1 (some 20) ?_
   refine tK2_ 0 (some 19) ?_
   refine tK2_ 2 (some 21) ?_
   refine oM 3 (some 22) fun K hK => ?_
   refine gE Try.func121 (bO.calls k1 g cW nV _ _ uJ _ _ xX LC LD qE AP w0 _ (AZ) (MR) (pC (Kd.aU bU.1).2.2) ((Kd.aU bU.1).2.1) (mM (aD.own_ne gJ.out bU.1 (by decide))) (Kd.J3 (base := 0) (Kd.N_V (Kd.aJ (ok := fun k_ => (((w.heap.size ≤ k_)) ∧ (some k_ ≠ (.slice Uz uJ.length Wy : Value).ownBlock ∧ (k_ ≠ aT ∧ (k_ ≠ gP ∧ k_ ≠ g))))) (rN bE.1) (fun k_ hk_ => (⟨hk_, hk_.2.2.2.2⟩ : _ ∧ k_ ≠ g)))) (fun _ h_ => h_.2)) ((Kd.bL bE.1).2.1) wh.out) ?_
   rintro e uf ⟨Da, rfl, f3, hi, hb, hk⟩
   refine ⟨_, rfl, ?_⟩
   replace bE := am (Kd.aJ (Kd.iP (Kd.PS (Kd.aJ (ok := fun k_ => (((w.heap.size ≤ k_)) ∧ (some k_ ≠ (.slice Uz uJ.length Wy : Value).ownBlock ∧ (k_ ≠ aT ∧ (k_ ≠ gP ∧ k_ ≠ g))))) (rN bE.1) (fun k_ hk_ => (⟨hk_, hk_.2.2.2.2⟩ : _ ∧ k_ ≠ g))) hk) (Kd.bZ f3)) (fun _ h_ => h_.1))
   replace a6 := kb aW hk fJ
   replace cA := kb uT hk jK
   have l4 := am (Kd.d9 (Kd.fA (Kd.jQ (M := fun k_ => (w.heap.size ≤ k_)) f3 (kz w g yL) (fun k_ h_ => h_)) (Kd.R_lt tL)) (kz w g yL))
   replace bU := am (Kd.aM (Kd.CL (Kd.CK (aD.apart (show aD w0 _ g cW nV from AZ) tL (by decide)) hk) (Kd.bZ f3)) (fun _ h_ => h_.1))
   replace HK := kT w g yL hk
   replace HB := am hb
   replace gJ := am hi
   clear hb hk hi f3
   obtain ⟨Va, Li, Xf⟩ := Kd.bP l4.1
   (first | subst Xf | (obtain ⟨f4_, f5_⟩ := sj Xf; subst f4_; subst f5_))
   refine nK hK (uA2 cA).1 fun hHeld => ?_
   clear hK K
   refine oM 4 (some 23) fun K hK => ?_
   refine gE Try.func130 (vQ.calls k1 _ _ uJ _ _ xX LC LD _ _ qE BE RX _ (pC (Kd.aU bU.1).2.2) ((Kd.aU bU.1).2.1) (pC (Kd.bL bE.1).2.2) ((Kd.bL bE.1).2.1) (pC (Kd.aU l4.1).2.2) ((Kd.aU l4.1).2.1) un.out) ?_
   rintro e uh ⟨PD, Zf, rfl, f3, lL, hb⟩
   refine ⟨_, rfl, ?_⟩
   have sV := am (Kd.d9 (Kd.fA (Kd.fA (Kd.jQ (M := fun k_ => (w.heap.size ≤ k_)) (Kd.aM (ok' := fun k_ => True) f3 (fun _ hk_ => trivial)) (kz w g yL) (fun k_ h_ => h_)) (Kd.R_lt tL)) (Kd.R_lt (rR l4.1))) (kz w g yL))
   have QR := am (Kd.jD (Kd.aJ (ok' := F43 w PD (.slice Uz uJ.length Wy) (.slice Dk xX.length Ek) (.slice Va qE.length Li) aT gP g) lL (fun k_ hk_ => ⟨(Nat.le_trans (kz w g yL) hk_.1), hk_.2, (Kd.fresh' (Kd.R_lt tL) k_ hk_.1), (Kd.fresh' (Kd.N_lt (rN bE.1)) k_ hk_.1), (Kd.fresh' (Kd.R_lt (rR l4.1)) k_ hk_.1), (fB aW k_ hk_.1), (fB uT k_ hk_.1), (aD.fresh AZ k_ hk_.1)⟩)) (kz w g yL))
   replace bU := am (Kd.dS tL (Kd.bZ f3) hb)
   replace bE := am (Kd.aJ (Kd.iP (Kd.iP (Kd.xR (rN bE.1) hb) (Kd.bZ f3)) (Kd.xG lL)) (fun _ h_ => h_.1))
   replace l4 := am (Kd.dS (rR l4.1) (Kd.bZ f3) hb)
   replace a6 := bB aW hb
   replace cA := bB uT hb
   replace HK := kU w g yL hb
   replace HB := bS MR hb
   replace gJ := am (aD.below AZ hb)
   clear hb f3 lL
   obtain ⟨gm, mq, Xh⟩ := Kd.bP sV.1
   (first | subst Xh | (obtain ⟨f4_, f5_⟩ := sj Xh; subst f4_; subst f5_))
   obtain ⟨aCA, aE2, a1M⟩ := Kd.gM QR.1
   (first | subst a1M | (obtain ⟨f4_, f5_⟩ := sj a1M; subst f4_; subst f5_))
   refine nK hK (uA2 cA).1 fun hHeld => ?_
   clear hK K
   refine Cm (i := 5) (N := none) (bz 6 63) rfl rfl (by kernel_rfl) (by decide) (fun K hK => ?_)
   have aV1 : uh.cell? ⟨gP, 0, none⟩ = some (.slice Uz uJ.length Wy) := (bC cA.1 0).trans rfl
   have aMV := eB cA.1 0
   have aAZ := iW.1
   have a9J := kS.1
   have aV2 : uh.cell? ⟨gP, 1, none⟩ = some (.slice Dk xX.length Ek) := (bC cA.1 1).trans rfl
   have aMW := eB cA.1 1
   have aB0 := iW.1
   have a9K := kS.1
   refine uX (w1 := ?_) (by rfl) rfl ?_ ?_
   rotate_left
   ·go_simp
    rfl
   refine hK.out _ _ ?_
   clear hK K
   refine QY (by kernel_rfl) ?_
   try go_wp2
   go_roundg k1
   case measure => have := HK1.out; omega
   case rel => exact ⟨(wrap64 (mU - 1)), (AP), (BE), (RX), (.slice gm BE.length mq), (.slice aCA RX.length aE2), dM, H', ⟨by have := HK1.out; omega⟩, ⟨by refine rR ?_; exact Kd.aM (fR (fR (tR sV cA))) (fun _ hk => hk.1.1.1.1)⟩, ⟨by refine rN ?_; exact Kd.aJ (fN (fN (Kd.aJ QR.1 (fun k_ hk => (⟨hk, hk.2.2.2.2.2.2.1⟩ : _ ∧ k_ ≠ gP))))) (fun _ hk => ⟨hk.1.1, ⟨hk.1.2.1, ⟨hk.1.2.2.2.2.2.1, ⟨hk.1.2.2.2.2.2.2.1, hk.1.2.2.2.2.2.2.2⟩⟩⟩⟩)⟩, ⟨qF a6 iW⟩, ⟨qP cA⟩, ⟨AZ⟩, ⟨yL⟩, ⟨MR⟩⟩
  ·rw [if_neg Na] at H
   have NO : decide (0 < mU) = false := decide_eq_false Na
   clear Na
   obtain ⟨rfl, rfl, rfl⟩ := sZ3 H
   repeat clear H
   have zn := nZ2 kS iW jK nO
   have Z45 := cz2 cA
   obtain ⟨gn, Qz, oe⟩ := Kd.bP bU.1
   subst oe
   have Z47 := nZ1 fJ l7
   have Z48 := cz2 a6
   obtain ⟨aCD, aE5, aEQ⟩ := Kd.gM bE.1
   subst aEQ
   go_wp2
   refine cR aT 31 #[.slice gn uJ.length Qz, .slice aCD xX.length aE5] (qP a6) Try.underlying31 ?_
   exact ⟨_, _, eR, mR bU a6, by refine rN ?_; exact Kd.aJ (fN (fN (Kd.aJ bE.1 (fun k_ hk => (⟨hk, hk.2.2.1⟩ : _ ∧ k_ ≠ aT))))) (fun _ hk => ⟨hk.1.1, hk.1.2.1⟩), AZ, MR, yL⟩
theorem su {α : Type} {d : Kd α} {e base : Nat} {W : World} {ok : Nat → Prop} {v1 v1' v2 : Value} {xs : List α} (hs : ∀ k, v1.ownBlock = some k → v2.ownBlock ≠ some k) (hat : v1'.ownBlock = v1.ownBlock ∨ ∃ b, v1'.ownBlock = some b ∧ W.heap.size ≤ b) (h2 : d.R e W base ok v2 xs) : ∀ k, v1'.ownBlock = some k → v2.ownBlock ≠ some k := fun k e1 e2 => hat.elim (fun e => hs k (e.symm.trans e1) e2) (fun hb => by obtain ⟨b, eb, hb⟩ := hb; have h := Kd.R_lt h2 k e2; rw [eb] at e1; injection e1 with e1; omega)
theorem sw {α : Type} {d : Kd α} {e base : Nat} {W : World} {ok : Nat → Prop} {v1 v2 v2' : Value} {xs : List α} (hs : ∀ k, v1.ownBlock = some k → v2.ownBlock ≠ some k) (hat : v2'.ownBlock = v2.ownBlock ∨ ∃ b, v2'.ownBlock = some b ∧ W.heap.size ≤ b) (h1 : d.R e W base ok v1 xs) : ∀ k, v1.ownBlock = some k → v2'.ownBlock ≠ some k := fun k e1 e2 => hat.elim (fun e => hs k e1 (e.symm.trans e2)) (fun hb => by obtain ⟨b, eb, hb⟩ := hb; have h := Kd.R_lt h1 k e1; rw [eb] at e2; injection e2 with e2; omega)
def DV.f (a0 : Int) : Option (ByteArray) := some (strOfNums (([(wrap64 (48 + a0)) % 256] : List Int)))
theorem DV.calls (a0 : Int) (r : ByteArray) (w : World) (h : DV.f a0 = some r) :
  Calls Try.prog 131 #[.int .i64 a0] w fun e w' => e = .returned (.string r) ∧ Below w.heap.size w w' := by
 have HB := am (Below.refl w.heap.size w)
 unfold DV.f at h
 have H := h
 clear h
 obtain ⟨Af, IG⟩ := yv (([(wrap64 (48 + a0)) % 256] : List Int)); first | replace H := bW IG H | rw [← IG.1] at H
 obtain rfl := Option.some.inj H
 repeat clear H
 go_enter Try.func131, Try.ntmps131
 go_wp2_with (first | ((with_reducible refine jW (N := 6) rfl ?_); refine Kd.Au (Kd.int .u8) _ 5 ?hg (N := 6) ?hd (xs := ([(wrap64 (48 + a0)) % 256] : List Int)) (inner := [.int .u8 ((wrap64 (48 + a0)) % 256)]) (ok := fun _ => True) (okp := fun _ => True) ?hr ?hp (fun _ hk => hk) trivial (Below.refl _ _) (Nat.le_refl _) (by simp) ?_; (case hd => rfl); (case hg => rfl); (case hr => first | (go_simp; done) | (go_simp; rfl)); (case hp => exact (Reps.one (show Kd.M (Kd.int .u8) _ _ _ ((wrap64 (48 + a0)) % 256) [.int .u8 ((wrap64 (48 + a0)) % 256)] from rfl) (Reps.none _ _))); intro Aa w2 ho3 hb hg_ hnew_; clear hg_ hnew_; (first | rw [← IG.out] at ho3 | (simp only [Int.reduceToNat] at ho3; rw [← IG.out] at ho3)); have kZ := am (Kd.d9 ho3 (aG eG)); replace HB := bS eG hb; clear hb ho3; have hcv4 := Fx (P := Try.prog) Try.underlying51 Try.underlying5 Try.underlying9 (Kd.Ta kZ.1)))
 go_ret
 exact ⟨eR, eG⟩
theorem XT {w : World} {k g t : Nat} {cs : Array Value} (h : ∃ q, q ∈ 56 :: (k56).E ∧ ∃ cells, w.heap[k]? = some (.cells cells q (0, 0))) (hb : w.heap[g]? = some (.cells cs t (0, 0))) (ht : ∀ q ∈ 56 :: (k56).E, q ≠ t) : k ≠ g := by
 obtain ⟨q, hq, cells, hc⟩ := h
 intro e
 subst e
 rw [hb] at hc
 injection hc with hc
 injection hc with _ hc _
 exact ht q hq hc.symm
theorem rq {w0 w : World} {k g : Nat} {f0 : List Int} {f1 : Int} (h : ∃ q, q ∈ 56 :: (k56).E ∧ ∃ cells, w.heap[k]? = some (.cells cells q (0, 0))) (hI : aD w0 w g f0 f1) : k ≠ g := by
 obtain ⟨_, _, hg, _⟩ := hI
 exact XT h hg (by decide)
theorem rf {w0 w : World} {g : Nat} {f0 : List Int} {f1 : Int} (hI : aD w0 w g f0 f1) : g < w.heap.size := by
 obtain ⟨_, _, hg, _⟩ := hI
 exact gL hg
theorem toN_ {w w' : World} {e : Ending} {r1 : List ByteArray} {r2 : List S56} {Q R S : Prop} (h : ∃ v0_ v1_ : Value, e = .returned (.agg #[v0_, v1_]) ∧ Kd.R Kd.string 9 w' w.heap.size (fun _ => True) v0_ r1 ∧ Kd.S k56 56 w' w.heap.size (fun k_ => some k_ ≠ (v0_ : Value).ownBlock) v1_ r2 ∧ Q ∧ R ∧ S) :
  ∃ v0_ v1_ : Value, e = .returned (.agg #[v0_, v1_]) ∧ Kd.R Kd.string 9 w' w.heap.size (fun k_ => (w.heap.size ≤ k_)) v0_ r1 ∧ Kd.N k56 56 w' w.heap.size (fun k_ => (w.heap.size ≤ k_) ∧ some k_ ≠ (v0_ : Value).ownBlock) v1_ r2 ∧ Q ∧ R ∧ S := by
 obtain ⟨v0, v1, h1, h2, h3, h4⟩ := h
 exact ⟨v0, v1, h1, Kd.aM (Kd.qR h2) (fun _ hk => hk.2.1), Kd.aJ (Kd.S_N (Kd.nP h3)) (fun _ hk => ⟨hk.2.1, hk.1⟩), h4⟩
mutual
def bK.j0 : Nat → Bool → List Int → Int → List ByteArray → List (S56) → Option (List ByteArray × (List (S56)) × Int)
 | 0, _, _, _, _, _ => none
 | k + 1, n, d, g, e, a => if n = true then ((fE.f k d g (([(⟨#[]⟩ : ByteArray), (⟨#[65]⟩ : ByteArray), (⟨#[97]⟩ : ByteArray), (⟨#[122, 122]⟩ : ByteArray)] : List ByteArray))).bind fun h => (if e.length < 8796093022208 then (some ((e ++ [h.1]), a, h.2)) else (none))) else ((bN.f k d g (a.length : Int)).bind fun b => ((bN.f k d b.2 5).bind fun c => (if c.1 = 0 then ((fE.f k d c.2 (([(⟨#[]⟩ : ByteArray), (⟨#[66]⟩ : ByteArray), (⟨#[122, 122]⟩ : ByteArray), (⟨#[97]⟩ : ByteArray)] : List ByteArray))).bind fun i => (if 0 ≤ b.1 then (if b.1 < (a.length : Int) then (some (e, (a.set (b.1 : Int).toNat (⟨i.1, (aA a b.1).f1, (aA a b.1).f2⟩ : S56)), i.2)) else (none)) else (none))) else (if c.1 = 1 then (if 0 ≤ b.1 then (if b.1 < (a.length : Int) then ((fE.f k d c.2 (([(⟨#[]⟩ : ByteArray), (⟨#[122, 122]⟩ : ByteArray), (⟨#[107, 101, 103]⟩ : ByteArray), (⟨#[119]⟩ : ByteArray)] : List ByteArray))).bind fun j => (if ((aA a b.1).f2).length < 8796093022208 then (some (e, (a.set (b.1 : Int).toNat (⟨(aA a b.1).f0, (aA a b.1).f1, (((aA a b.1).f2) ++ [j.1])⟩ : S56)), j.2)) else (none))) else (none)) else (none)) else (if c.1 = 2 then (if 0 ≤ b.1 then (if b.1 < (a.length : Int) then ((fE.f k d c.2 (([(⟨#[]⟩ : ByteArray), (⟨#[122, 122]⟩ : ByteArray), (⟨#[107, 101, 103]⟩ : ByteArray), (⟨#[119]⟩ : ByteArray)] : List ByteArray))).bind fun l => (if ((aA a b.1).f1).length < 8796093022208 then (some (e, (a.set (b.1 : Int).toNat (⟨(aA a b.1).f0, (((aA a b.1).f1) ++ [l.1]), (aA a b.1).f2⟩ : S56)), l.2)) else (none))) else (none)) else (none)) else (if c.1 = 3 then (if 0 ≤ b.1 then (if b.1 < (a.length : Int) then (if a.length < 2199023255552 then (some (e, a ++ [aA a b.1], c.2)) else (none)) else (none)) else (none)) else ((bN.f k d c.2 2).bind fun m => (bK.l0 k (wrap64 (5 + m.1)) 0 d m.2 e a))))))))
def bK.l0 : Nat → Int → Int → List Int → Int → List ByteArray → List (S56) → Option (List ByteArray × (List (S56)) × Int)
 | 0, _, _, _, _, _, _ => none
 | k + 1, b, c, h, d, e, a => if (a.length : Int) < b then ((DV.f c).bind fun g => (if 1 + g.size ≤ 9223372036854775807 then (if a.length < 2199023255552 then (bK.l0 k b (wrap64 (c + 1)) h d e (a ++ [(⟨(⟨#[122]⟩ : ByteArray) ++ g, ([] : List ByteArray), ([] : List ByteArray)⟩ : S56)])) else (none)) else (none))) else (some (e, a, d))
end
def bK.f (k : Nat) (cW : List Int) (gW : Int) (fK : List ByteArray) (jJ : List (S56)) : Option (List ByteArray × (List (S56)) × Int) := (dE.f k fK jJ).bind fun a => (if (a.2.length : Int) = 0 then (bK.j0 k true cW gW a.1 a.2) else ((bN.f k cW gW 4).bind fun b => (bK.j0 k (b.1 == 0) cW b.2 a.1 a.2)))
def bK.T3 : Bool × List (List Nat × List Nat) := (true, [([], []), ([0], [0]), ([], []), ([], []), ([2, 3], [2, 3]), ([4], [4]), ([1, 5, 4], [1, 5]), ([0, 1, 2, 3, 4, 5, 6], []), ([7, 6, 6, 0, 1, 2, 3, 4, 5, 6], [6, 7])])
def bK.B3 : List Nat := [0, 1, 0, 0, 12, 28, 63, 127, 255]
theorem bK.tab3 : rtab .any (opsOf Try.f120 3) = bK.T3 := by kernel_rfl
theorem bK.Qg : kP bK.T3.2 bK.B3 = true := by kernel_rfl
def bK.T11 : Bool × List (List Nat × List Nat) := (true, [([], []), ([0], [0]), ([], []), ([2], [2]), ([3], [3]), ([4], [4]), ([5], [5]), ([1, 6, 3], [1, 6]), ([0, 1, 2, 3, 4, 5, 6, 7], []), ([8, 7, 7, 0, 1, 2, 3, 4, 5, 6, 7], [7, 8])])
def bK.B11 : List Nat := [0, 1, 0, 4, 12, 28, 60, 127, 255, 511]
theorem bK.a4N : rtab .any (opsOf Try.f120 11) = bK.T11 := by kernel_rfl
theorem bK.lc : kP bK.T11.2 bK.B11 = true := by kernel_rfl
def bK.T13 : Bool × List (List Nat × List Nat) := (true, [([], []), ([0], [0]), ([], []), ([], []), ([], []), ([3, 4], [3, 4]), ([1, 2, 0, 1, 2, 3, 4, 5], [1, 2]), ([6, 0, 1, 2, 3, 4, 5], [6]), ([7, 5, 5, 0, 1, 2, 3, 4, 5], [5, 7])])
def bK.B13 : List Nat := [0, 1, 0, 0, 0, 24, 63, 127, 255]
theorem bK.WU : rtab .any (opsOf Try.f120 13) = bK.T13 := by kernel_rfl
theorem bK.PU : kP bK.T13.2 bK.B13 = true := by kernel_rfl
def bK.T15 : Bool × List (List Nat × List Nat) := (true, [([], []), ([0], [0]), ([], []), ([], []), ([3], [3]), ([], []), ([4, 5], [4, 5]), ([6], [6]), ([7], [7]), ([], []), ([], []), ([9, 10], [9, 10]), ([11], [11]), ([8, 12, 11], [8, 12]), ([1, 2, 0, 1, 2, 3, 4, 5, 6, 7, 8, 9, 10, 11, 12, 13], [1, 2]), ([14, 0, 1, 2, 3, 4, 5, 6, 7, 8, 9, 10, 11, 12, 13], [14]), ([15, 13, 13, 0, 1, 2, 3, 4, 5, 6, 7, 8, 9, 10, 11, 12, 13], [13, 15])])
def bK.B15 : List Nat := [0, 1, 0, 0, 8, 0, 56, 120, 248, 0, 0, 1536, 3584, 8184, 16383, 32767, 65535]
theorem bK.P9 : rtab .any (opsOf Try.f120 15) = bK.T15 := by kernel_rfl
theorem bK.GZ : kP bK.T15.2 bK.B15 = true := by kernel_rfl
def bK.T17 : Bool × List (List Nat × List Nat) := (true, [([], []), ([0], [0]), ([], []), ([], []), ([3], [3]), ([], []), ([4, 5], [4, 5]), ([6], [6]), ([7], [7]), ([], []), ([], []), ([9, 10], [9, 10]), ([11], [11]), ([8, 12, 11], [8, 12]), ([1, 2, 0, 1, 2, 3, 4, 5, 6, 7, 8, 9, 10, 11, 12, 13], [1, 2]), ([14, 0, 1, 2, 3, 4, 5, 6, 7, 8, 9, 10, 11, 12, 13], [14]), ([15, 13, 13, 0, 1, 2, 3, 4, 5, 6, 7, 8, 9, 10, 11, 12, 13], [13, 15])])
def bK.B17 : List Nat := [0, 1, 0, 0, 8, 0, 56, 120, 248, 0, 0, 1536, 3584, 8184, 16383, 32767, 65535]
theorem bK.a4O : rtab .any (opsOf Try.f120 17) = bK.T17 := by kernel_rfl
theorem bK.lg : kP bK.T17.2 bK.B17 = true := by kernel_rfl
theorem bK.calls (k : Nat) (g : Nat) (cW : List Int) (gW : Int) (xC : Option Addr) (yE : Nat) (fK : List ByteArray) (wP : Option Addr) (wM : Nat) (jJ : List (S56)) (r1 : List ByteArray) (r2 : List (S56)) (r3 : Int) (w0 w : World) (hI : aD w0 w g cW gW) (hB : Below w0.heap.size w0 w) (R5 : Kd.C Kd.string w xC fK.length fK) (R4 : fK.length ≤ yE) (hf1_0 : ∀ ad, xC = some ad → 0 < fK.length → ad.block ≠ g) (JO : ∀ W_, aY w W_ g none → Kd.C k56 W_ wP jJ.length jJ) (LL : jJ.length ≤ wM) (h : bK.f k cW gW fK jJ = some (r1, r2, r3)) :
  Calls Try.prog 120 #[.pointer (some ⟨g, 0, none⟩), .agg #[.slice xC fK.length yE, .slice wP jJ.length wM]] w fun e w' => ∃ v0_ v1_ : Value, e = .returned (.agg #[v0_, v1_]) ∧ Kd.R Kd.string 9 w' w.heap.size (fun k_ => (w.heap.size ≤ k_)) v0_ r1 ∧ Kd.N k56 56 w' w.heap.size (F10 w v0_) v1_ r2 ∧ aD w0 w' g cW r3 ∧ Below w0.heap.size w0 w' ∧ aY w w' g none := by
 have hu31 := Try.underlying31
 have hu56 := Try.underlying56
 obtain ⟨QS, QQ⟩ := mZ2 R5 R4
 obtain ⟨pS, Hc⟩ := mZ2 JO LL
 clear R5 R4 JO LL
 have gJ := am hI
 have HK := am (aY.refl w g none)
 have HL := am hB.size
 clear hI
 have HW0 := am hB.size
 have HB := am hB
 clear hB
 unfold bK.f at h
 have H := h
 clear h
 obtain ⟨⟨eF, fT⟩, A3, H⟩ := bd H
 dsimp only at H
 have HC4 := am H
 clear H
 go_enter Try.func120, Try.ntmps120
 go_upto_region 2 with (first | ((with_reducible refine gD 3 ?_); refine bX 3 #[.slice xC fK.length yE, .slice wP jJ.length wM] 31 ?_; intro aT hg w5 hbox hb; replace HB := bS E5 hb; have a6 := am hbox; have g5 := am (V0 : w.heap.size ≤ aT); have iJ := am (Nat.le_trans HW0.out (V0 : w.heap.size ≤ aT) : w0.heap.size ≤ aT); replace HK := kU w g wJ hb; have l7 := am (by rw [hg]; exact Nat.ne_of_lt (aD.lt (show aD w0 _ g cW gW from oF)) : g ≠ aT); have fJ := am (by rw [hg]; exact Nat.ne_of_gt (aD.lt (show aD w0 _ g cW gW from oF)) : aT ≠ g); replace gJ := am (aD.below oF hb); clear hb hbox hg) | ((with_reducible refine gD 4 ?_); refine bX 4 #[.slice none 0 0, .slice none 0 0] 31 ?_; intro aZ hg w6 hbox hb; replace HB := bS ZP hb; have aH := am hbox; have m4 := am (UZ : w.heap.size ≤ aZ); have nX := am (Nat.le_trans HW0.out (UZ : w.heap.size ≤ aZ) : w0.heap.size ≤ aZ); replace HK := kU w g Q8 hb; have cO := nL aW hg; have cV := nG aW hg; replace a6 := bB aW hb; have mT := am (by rw [hg]; exact Nat.ne_of_lt (aD.lt (show aD w0 _ g cW gW from F8)) : g ≠ aZ); have gX := am (by rw [hg]; exact Nat.ne_of_gt (aD.lt (show aD w0 _ g cW gW from F8)) : aZ ≠ g); replace gJ := am (aD.below F8 hb); clear hb hbox hg; have Z7 := nZ2 cO cV fJ l7; have Z9 := cz2 a6) | ((with_reducible refine gC 89 ?_); refine cE (some 10) Try.func89 (dE.calls k _ _ fK _ _ jJ eF fT _ (Kd.TA (⟨#[]⟩ : ByteArray) QS.1 I0 hf1_0) QQ.1 (Kd.GQ pS.1 I0) Hc.1 A3.out) ?_; rintro e w10 ⟨FD, aGW, rfl, f3, lL, hb⟩; refine ⟨_, rfl, ?_⟩; have mY := am (Kd.d9 f3 (kz w g I0)); have N9 := am (Kd.Ik lL (kz w g I0)); replace a6 := bB aW hb; replace aH := bB cB hb; replace HK := kU w g I0 hb; replace HB := bS zP hb; replace gJ := am (aD.below sL hb); clear hb f3 lL) | ((with_reducible refine gD 5 ?_); refine bX 5 #[.slice none 0 0, .slice none 0 0] 31 ?_; intro gP hg w11 hbox hb; replace mY := RB LW hb; replace N9 := am (Kd.GY (rS N9.1) hb); replace HB := bS zP hb; have cA := am hbox; have QO := am (Yo : w.heap.size ≤ gP); have QN := am (Nat.le_trans HW0.out (Yo : w.heap.size ≤ gP) : w0.heap.size ≤ gP); replace HK := kU w g I0 hb; have iW := nL aW hg; have kS := nG aW hg; replace a6 := bB aW hb; have lK := nL cB hg; have qD := nG cB hg; replace aH := bB cB hb; have nO := am (by rw [hg]; exact Nat.ne_of_lt (aD.lt (show aD w0 _ g cW gW from sL)) : g ≠ gP); have jK := am (by rw [hg]; exact Nat.ne_of_gt (aD.lt (show aD w0 _ g cW gW from sL)) : gP ≠ g); replace gJ := am (aD.below sL hb); clear hb hbox hg; obtain ⟨j5, iX, Rm⟩ := Kd.bP mY.1; subst Rm; have La := nZ3 kS iW qD lK jK nO; have Z16 := cz2 cA; obtain ⟨UM, lA, Rn⟩ := Kd.BR N9.1; subst Rn))
 (try simp only [Act.put, List.setIfInBounds_toArray, List.set_cons_zero, List.set_cons_succ])
 go_cut [19] (fun v19 wc => ∃ (kq : Nat) (Ue : Bool) (PE : Int), v19 = .bool Ue ∧ aC (bK.j0 kq Ue cW PE eF fT = some (r1, r2, r3)) ∧ aC (kq ≤ k) ∧ aC (Kd.R Kd.string 9 wc w.heap.size (fun _ => True) (.slice j5 eF.length iX) eF) ∧ aC (Kd.S k56 56 wc w.heap.size (fun k_ => some k_ ≠ ((.slice j5 eF.length iX) : Value).ownBlock) (.slice UM fT.length lA) fT) ∧ aC (wc.heap[aT]? = some (.cells #[(.slice xC fK.length yE), (.slice wP jJ.length wM)] 31 (0, 0))) ∧ aC (wc.heap[aZ]? = some (.cells #[(.slice none 0 0), (.slice none 0 0)] 31 (0, 0))) ∧ aC (wc.heap[gP]? = some (.cells #[(.slice j5 eF.length iX), (.slice UM fT.length lA)] 31 (0, 0))) ∧ aC (aD w0 wc g cW PE) ∧ aC (aY w wc g none) ∧ aC (Below w0.heap.size w0 wc))
 case first =>
  have H := HC4.1
  clear HC4
  refine iq H ?_ ?_ <;> clear H <;> intro Ei CS cd H
  ·(first | rw [CS] | (simp only [q8, uS]; rw [CS]) | skip)
   have H' := am H
   repeat clear H
   have uo := nZ3 kS iW qD lK jK nO
   have zl := cz2 cA
   go_wp2
   go_meet
   exact ⟨_, (true), (gW), dM, H', ⟨by first | omega | exact Nat.le_refl _⟩, ⟨mR mY cA⟩, ⟨mS N9 cA⟩, ⟨qF a6 iW⟩, ⟨qF aH lK⟩, ⟨qP cA⟩, ⟨pH⟩, ⟨vZ⟩, ⟨AN⟩⟩
  have aLA : ¬ (fT = []) := fun h_ => Ei (by rw [h_]; rfl)
  (first | rw [CS] | (simp only [q8, uS]; rw [CS]) | skip)
  obtain ⟨⟨xJ, dJ⟩, Gs, H⟩ := bd H
  dsimp only at H
  have H' := am H
  repeat clear H
  have Z24 := nZ3 kS iW qD lK jK nO
  have Z27 := cz2 cA
  go_wp2_with (first | (go_at_call 100; refine cM (bN.calls k g cW gW 4 xJ dJ w0 _ (pH) (AN) Gs.out) ?_; rintro w28 ⟨hi, hb, hk⟩; replace a6 := am (aY.blk hk (g' := aT) (o := .cells #[.slice xC fK.length yE, .slice wP jJ.length wM] 31 (0, 0)) Td fJ.1 (by simp)); replace aH := am (aY.blk hk (g' := aZ) (o := .cells #[.slice none 0 0, .slice none 0 0] 31 (0, 0)) (qF aH lK) gX.1 (by simp)); replace mY := am (Kd.aM (Kd.lQ (aD.apart (show aD w0 _ g cW gW from pH) (by refine rR ?_; exact (Kd.aM (fR (fR (tR mY cA))) (fun _ h_ => h_.1))) (by decide)) hk (fun _ h => h.2)) (fun _ h => h.1)); replace N9 := am (Kd.nD (Kd.Ps (aD.Qc (show aD w0 _ g cW gW from pH) (by refine rS ?_; exact (Kd.nD (fS (fS (tS N9 cA))) (fun _ h_ => h_.1))) (by decide)) hk (fun _ h => h.2)) (fun _ h => h.1)); replace cA := am (aY.blk hk (g' := gP) (o := .cells #[.slice j5 eF.length iX, .slice UM fT.length lA] 31 (0, 0)) (qP cA) jK.1 (by simp)); replace HK := kT w g vZ hk; replace HB := am hb; replace gJ := am hi; clear hb hk hi))
  go_meet
  exact ⟨_, ((xJ == 0)), (dJ), dM, H', ⟨by first | omega | exact Nat.le_refl _⟩, ⟨rR mY.1⟩, ⟨rS N9.1⟩, ⟨rB a6.1⟩, ⟨rB aH.1⟩, ⟨rB cA.1⟩, ⟨pH⟩, ⟨vZ⟩, ⟨AN⟩⟩
 clear HC4
 try clear Z16
 try clear Z9
 obtain ⟨kq, Ue, PE, rfl, HA, HJ3, bU, bE, a6, aH, cA, gJ, HK, HB⟩ := hcut
 cases kq with
 | zero => exact absurd HA.out (by simp [bK.j0])
 | succ kj3 =>
  have H := HA.out
  clear HA
  simp only [bK.j0] at H
  refine tC H ?_ ?_ <;> clear H <;> intro ml H <;> subst ml
  obtain ⟨DY, NI⟩ := yv (([(⟨#[]⟩ : ByteArray), (⟨#[65]⟩ : ByteArray), (⟨#[97]⟩ : ByteArray), (⟨#[122, 122]⟩ : ByteArray)] : List ByteArray)); first | replace H := bW NI H | rw [← NI.1] at H
  obtain ⟨⟨m0, RW⟩, Nk, H⟩ := bd H
  dsimp only at H
  obtain ⟨Oq, H⟩ := cL H
  obtain ⟨Dc, J6⟩ := yv (eF ++ [m0]); first | replace H := bW J6 H | rw [← J6.1] at H
  obtain ⟨rfl, rfl, rfl⟩ := sZ3 H
  repeat clear H
  rotate_left
  obtain ⟨⟨eH, LC⟩, A47, H⟩ := bd H
  dsimp only at H
  obtain ⟨⟨LD, qE⟩, A48, H⟩ := bd H
  dsimp only at H
  refine iq H ?_ ?_ <;> clear H <;> intro WG WH Ir H
  obtain ⟨PG, J7⟩ := yv (([(⟨#[]⟩ : ByteArray), (⟨#[66]⟩ : ByteArray), (⟨#[122, 122]⟩ : ByteArray), (⟨#[97]⟩ : ByteArray)] : List ByteArray)); first | replace H := bW J7 H | rw [← J7.1] at H
  obtain ⟨⟨BE, ZX⟩, A50, H⟩ := bd H
  dsimp only at H
  obtain ⟨a0Q, H⟩ := cN H
  obtain ⟨aLP, H⟩ := cN H
  obtain ⟨GJ, J9⟩ := yv (fT.set (eH : Int).toNat (⟨BE, (aA fT eH).f1, (aA fT eH).f2⟩ : S56)); first | replace H := bW J9 H | rw [← J9.1] at H
  obtain ⟨rfl, rfl, rfl⟩ := sZ3 H
  repeat clear H
  have Z54 := nZ3 kS iW qD lK jK nO
  have Z57 := cz2 cA
  have QT := trivial
  rotate_left
  refine iq H ?_ ?_ <;> clear H <;> intro c71 a0T a0U H
  obtain ⟨aLZ, H⟩ := cN H
  obtain ⟨aM0, H⟩ := cN H
  obtain ⟨Gp, Ph⟩ := yv (([(⟨#[]⟩ : ByteArray), (⟨#[122, 122]⟩ : ByteArray), (⟨#[107, 101, 103]⟩ : ByteArray), (⟨#[119]⟩ : ByteArray)] : List ByteArray)); first | replace H := bW Ph H | rw [← Ph.1] at H
  obtain ⟨⟨V6, xK⟩, A74, H⟩ := bd H
  dsimp only at H
  obtain ⟨yd, H⟩ := cL H
  obtain ⟨LG, Pj⟩ := yv (((aA fT eH).f2) ++ [V6]); first | replace H := bW Pj H | rw [← Pj.1] at H
  obtain ⟨aHP, Pk⟩ := yv (fT.set (eH : Int).toNat (⟨(aA fT eH).f0, (aA fT eH).f1, LG⟩ : S56)); first | replace H := bW Pk H | rw [← Pk.1] at H
  obtain ⟨rfl, rfl, rfl⟩ := sZ3 H
  repeat clear H
  have Z77 := nZ3 kS iW qD lK jK nO
  have Z80 := cz2 cA
  have QT := trivial
  rotate_left
  refine iq H ?_ ?_ <;> clear H <;> intro mo Qw cv H
  obtain ⟨a0X, H⟩ := cN H
  obtain ⟨aD9, H⟩ := cN H
  obtain ⟨Gq, Pl⟩ := yv (([(⟨#[]⟩ : ByteArray), (⟨#[122, 122]⟩ : ByteArray), (⟨#[107, 101, 103]⟩ : ByteArray), (⟨#[119]⟩ : ByteArray)] : List ByteArray)); first | replace H := bW Pl H | rw [← Pl.1] at H
  obtain ⟨⟨Yy, a4I⟩, Km, H⟩ := bd H
  dsimp only at H
  obtain ⟨jn, H⟩ := cL H
  obtain ⟨GK, VU⟩ := yv (((aA fT eH).f1) ++ [Yy]); first | replace H := bW VU H | rw [← VU.1] at H
  obtain ⟨VE, VV⟩ := yv (fT.set (eH : Int).toNat (⟨(aA fT eH).f0, GK, (aA fT eH).f2⟩ : S56)); first | replace H := bW VV H | rw [← VV.1] at H
  obtain ⟨rfl, rfl, rfl⟩ := sZ3 H
  repeat clear H
  have zj := nZ3 kS iW qD lK jK nO
  have aSH := cz2 cA
  have QT := trivial
  rotate_left
  refine iq H ?_ ?_ <;> clear H <;> intro aDJ ma mb H
  obtain ⟨aDK, H⟩ := cN H
  obtain ⟨aDL, H⟩ := cN H
  by_cases cL : fT.length < 2199023255552
  rw [if_pos cL] at H
  have LM := am cL
  clear cL
  obtain ⟨rfl, rfl, rfl⟩ := sZ3 H
  repeat clear H
  have Z77 := nZ3 kS iW qD lK jK nO
  have Z80 := cz2 cA
  have QT := trivial
  rotate_left
  rw [if_neg cL] at H
  exact absurd H (by simp)
  obtain ⟨⟨y5, tr⟩, aBX, H⟩ := bd H
  dsimp only at H
  have H' := am H
  repeat clear H
  have aCZ := nZ3 kS iW qD lK jK nO
  have aD0 := cz2 cA
  have QT := trivial
  have ao := trivial
  rotate_left
  all_goals
   try go_wp2_with (first | ((with_reducible refine gC 100 ?_); revert QT; intro QT; refine cQ (some 33) Try.func100 (bN.calls kj3 g cW PE (fT.length : Int) eH LC w0 _ (pH) (AN) A47.out) ?_; rintro aQM ⟨hi, hb, hk⟩; replace bU := iR pH tL hk; replace bE := iS pH GA hk; replace a6 := kb aW hk fJ; replace aH := kb cB hk gX; replace cA := kb uT hk jK; replace HK := kT w g vZ hk; replace HB := am hb; replace gJ := am hi; clear hb hk hi) | ((with_reducible refine gC 100 ?_); revert QT; intro QT; refine cQ (some 35) Try.func100 (bN.calls kj3 g cW LC 5 LD qE w0 _ (pH) (AN) A48.out) ?_; rintro WV ⟨hi, hb, hk⟩; replace bU := iR pH tL hk; replace bE := iS pH GA hk; replace a6 := kb aW hk fJ; replace aH := kb cB hk gX; replace cA := kb uT hk jK; replace HK := kT w g vZ hk; replace HB := am hb; replace gJ := am hi; clear hb hk hi) | ((with_reducible refine gC 100 ?_); revert ao; intro ao; refine cQ (some 37) Try.func100 (bN.calls kj3 g cW qE 2 y5 tr w0 _ (pH) (AN) aBX.out) ?_; rintro aQN ⟨hi, hb, hk⟩; replace bU := iR pH tL hk; replace bE := iS pH GA hk; replace a6 := kb aW hk fJ; replace aH := kb cB hk gX; replace cA := kb uT hk jK; replace HK := kT w g vZ hk; replace HB := am hb; replace gJ := am hi; clear hb hk hi))
  ·replace bU := RD bU
   replace bE := SD bE
   replace a6 := BD a6
   replace aH := BD aH
   replace cA := BD cA
   replace gJ := am (aD.drew gJ.out)
   replace HK := am (jP HK.out)
   replace HB := am (aV HB.1)
   refine sT [8] 9 (uA2 cA) (fun hHeld => ?_)
   refine eO bK.tab3 bK.Qg (fun HT_ HW_ => ?_)
   generalize wc.drew = w32 at bU bE a6 aH cA gJ HK HB hHeld ⊢
   refine pU2 0 2 ?_
   refine tK2 1 (some 21) ?_
   refine oN 3 (some 23) fun K hK => ?_
   refine lT 9 23 NI ?_
   intro IA wa Xs hb
   replace bE := am (Kd.AJ GA (Kd.bZ Xs) hb)
   have iM := am (Kd.d9 (Kd.fA Xs (Kd.R_lt tL)) (kz w g vZ))
   replace bU := am (Kd.dS tL (Kd.bZ Xs) hb)
   replace a6 := bB aW hb
   replace aH := bB cB hb
   replace cA := bB uT hb
   replace HK := kU w g vZ hb
   replace HB := bS AN hb
   replace gJ := am (aD.below pH hb)
   clear hb Xs
   obtain ⟨Dk, Ek, Fb⟩ := Kd.bP iM.1
   (first | subst Fb | (obtain ⟨f4_, f5_⟩ := sj Fb; subst f4_; subst f5_))
   refine nK hK (uA2 cA).1 fun hHeld => ?_
   clear hK K
   refine oN 4 (some 24) fun K hK => ?_
   refine gQ Try.func101 (fE.calls kj3 g cW PE _ _ DY m0 RW w0 _ (pH) (AN) (pC (Kd.aU iM.1).2.2) ((Kd.aU iM.1).2.1) (mM (aD.own_ne gJ.out iM.1 (by decide))) Nk.out) ?_
   rintro uf ⟨hi, hb, hk⟩
   replace bU := iR pH tL hk
   replace bE := iS pH GA hk
   replace a6 := kb aW hk fJ
   replace aH := kb cB hk gX
   replace cA := kb uT hk jK
   replace iM := iR pH LX hk
   replace HK := kT w g vZ hk
   replace HB := am hb
   replace gJ := am hi
   clear hb hk hi
   refine nK hK (uA2 cA).1 fun hHeld => ?_
   clear hK K
   refine oN 5 (some 25) fun K hK => ?_
   refine yQ (w1 := ?_) (v := ?_) (by rfl) rfl ?_ ?_
   rotate_left 2
   ·go_simp
    constructor
    ·rfl
    ·rfl
   refine hK.out _ _ ⟨(bC (bM cA.1 _) 0).trans rfl, (bC (bM cA.1 _) 1).trans rfl⟩ (fun hHeld => ?_)
   clear hK K
   refine nM ?_
   refine oN 6 (some 26) fun K hK => ?_
   refine Kd.pX Kd.string w.heap.size (by rfl) (.tmp 21) (.tmp 25) 23 9 (.string ⟨#[]⟩) 16 rfl Try.underlying23 rY rfl (by decide) (by omega) (.slice j5 eF.length iX) eF m0 [.string m0] (fun k_ => some k_ ≠ (.slice Dk DY.length Ek : Value).ownBlock) (fun _ => False) rfl rfl ?aP (fun _ hk => hk.elim) ?aF ?aO (Below.refl _ _) ?aS ?aL ?_
   (case aP => exact rfl)
   (case aF => exact (fun k_ hk => Kd.fresh' (Kd.R_lt LX) k_ hk))
   (case aO => exact (by refine rR ?_; exact Kd.aM bU.1 (fun _ hk => hk.2)))
   (case aS => exact (kz w g vZ))
   (case aL => have := Oq.out; omega)
   intro a4R ug ho hb hg hat
   rw [← J6.out] at ho
   replace bE := am (Kd.Wj (ok := (fun k_ => some k_ ≠ (.slice Dk DY.length Ek : Value).ownBlock)) (by refine rS ?_; exact Kd.nD bE.1 (fun _ hk => ⟨hk.2, hk.1⟩)) hg hat)
   replace a6 := gkR aW hg bU a6
   replace aH := gkR cB hg bU aH
   replace cA := gkR uT hg bU cA
   replace iM := am (Kd.nA (ok := (fun _ => True)) LX hg hat)
   replace HB := am (pM AN HL.out hb)
   replace gJ := am (aD.grown pH hg (aD.own_ne gJ.out bU.1 (by decide)))
   replace HK := am (aY.trans vZ (aY.rZ hg g) (Kd.EG bU.1))
   have BI := am ho
   clear bU
   clear ho hb hg hat
   obtain ⟨AS, AW, Xg⟩ := Kd.bP BI.1
   (first | subst Xg | (obtain ⟨f4_, f5_⟩ := sj Xg; subst f4_; subst f5_))
   refine nK hK (uA2 cA).1 fun hHeld => ?_
   clear hK K
   refine pU1 7 ?_
   refine lN 8 none fun K hK => ?_
   have aV0 : ug.cell? ⟨gP, 0, none⟩ = some (.slice j5 eF.length iX) := (bC cA.1 0).trans rfl
   have aMU := eB cA.1 0
   have aAX := iW.1
   have aAY := lK.1
   have a9H := kS.1
   have a9I := qD.1
   refine uX (w1 := ?_) (by rfl) rfl ?_ ?_
   rotate_left
   ·go_simp
    rfl
   refine hK.out _ _ ?_
   clear hK K
   refine dN ?_
   have Z40 := nZ3 kS iW qD lK jK nO
   have zn := cz2 cA
   have Z44 := nZ2 cV cO gX mT
   have Z46 := cz2 aH
   try go_wp2
   refine cR aZ 31 #[.slice AS Dc.length AW, .slice UM fT.length lA] (by refine rB ?_; refine bR (cs := #[.slice AS Dc.length AW, .slice none 0 0]) ?_ 1 _ rfl; refine rB ?_; refine bR (cs := #[.slice none 0 0, .slice none 0 0]) ?_ 0 _ rfl; refine rB ?_; refine dF ?_ lK.1 _; refine rB ?_; exact aH.1) Try.underlying31 ?_
   refine toN_ ?_
   exact ⟨_, _, eR, by refine rR ?_; exact Kd.aM (fR (fR (Kd.tF (p := ⟨gP, 0, none⟩) (Kd.fQ (tR BI cA) aH.1 (by decide)) (fun _ hk => hk.1.2) (.slice AS Dc.length AW)))) (fun _ hk => trivial), by refine rS ?_; exact Kd.nD (fS (fS (Kd.bq (p := ⟨gP, 0, none⟩) (Kd.SG (tS bE cA) aH.1 (by decide)) (fun _ hk => hk.1.2) (.slice AS Dc.length AW)))) (fun _ hk => hk.1.1.2), pH, AN, vZ⟩
  ·replace bU := RD bU
   replace bE := SD bE
   replace a6 := BD a6
   replace aH := BD aH
   replace cA := BD cA
   replace gJ := am (aD.drew gJ.out)
   replace HK := am (jP HK.out)
   replace HB := am (aV HB.1)
   refine sT [8] 9 (uA2 cA) (fun hHeld => ?_)
   refine eO bK.WU bK.PU (fun HT_ HW_ => ?_)
   generalize WV.drew = w60 at bU bE a6 aH cA gJ HK HB hHeld ⊢
   refine pU3 0 2 3 ?_
   refine tK2 1 (some 58) ?_
   refine oN 4 (some 61) fun K hK => ?_
   refine lT 9 61 J7 ?_
   intro IC w61 Xt hb
   replace bE := am (Kd.AJ GA (Kd.bZ Xt) hb)
   have tN := am (Kd.d9 (Kd.fA Xt (Kd.R_lt tL)) (kz w g vZ))
   replace bU := am (Kd.dS tL (Kd.bZ Xt) hb)
   replace a6 := bB aW hb
   replace aH := bB cB hb
   replace cA := bB uT hb
   replace HK := kU w g vZ hb
   replace HB := bS AN hb
   replace gJ := am (aD.below pH hb)
   clear hb Xt
   obtain ⟨Vb, Wz, a1R⟩ := Kd.bP tN.1
   (first | subst a1R | (obtain ⟨f4_, f5_⟩ := sj a1R; subst f4_; subst f5_))
   refine nK hK (uA2 cA).1 fun hHeld => ?_
   clear hK K
   refine oN 5 (some 62) fun K hK => ?_
   refine gQ Try.func101 (fE.calls kj3 g cW qE _ _ PG BE ZX w0 _ (pH) (AN) (pC (Kd.aU tN.1).2.2) ((Kd.aU tN.1).2.1) (mM (aD.own_ne gJ.out tN.1 (by decide))) A50.out) ?_
   rintro Ua ⟨hi, hb, hk⟩
   replace bU := iR pH tL hk
   replace bE := iS pH GA hk
   replace a6 := kb aW hk fJ
   replace aH := kb cB hk gX
   replace cA := kb uT hk jK
   replace tN := iR pH OZ hk
   replace HK := kT w g vZ hk
   replace HB := am hb
   replace gJ := am hi
   clear hb hk hi
   have p53 : 0 ≤ (eH : Int) := oT
   have Yt : (eH : Int) < ((fT.length : Int) : Int) := oT
   obtain ⟨DB, aUE, a1P, a1X, gl53, cl53, HG53⟩ := Kd.TH bE.1 (by omega)
   (first | cases a1P | (injection a1P with ea_ en_ ec_; (first | subst ea_ | (injection ea_ with ea_; subst ea_)); subst ec_; clear en_))
   have GB53 := am a1X
   have GG53 := am HG53
   clear a1X gl53 HG53
   obtain ⟨_, ce53, hcl53, hM53, hcc53, hfr53, _, _⟩ := Kd.JB bE.1 z56 (eH : Int) p53 Yt
   obtain ⟨ve53_1, ve53_2, rfl, aF3, aF4⟩ := uI hM53
   have aFT : World.cell? _ ⟨DB, (eH : Int).toNat * 3, none⟩ = some (.string ((aA fT eH).f0)) := hcc53 0 _ rfl
   have aFU : World.cell? _ ⟨DB, (eH : Int).toNat * 3 + 1, none⟩ = some (ve53_1) := hcc53 1 _ rfl
   have aFV : World.cell? _ ⟨DB, (eH : Int).toNat * 3 + 2, none⟩ = some (ve53_2) := hcc53 2 _ rfl
   have hf53_0 : World.frozen? _ ⟨DB, (eH : Int).toNat * 3, none⟩ = false := hfr53 0
   have hf53_1 : World.frozen? _ ⟨DB, (eH : Int).toNat * 3 + 1, none⟩ = false := hfr53 1
   have hf53_2 : World.frozen? _ ⟨DB, (eH : Int).toNat * 3 + 2, none⟩ = false := hfr53 2
   clear hcl53 hcc53 hfr53 hM53
   replace p53 := eq_true p53
   replace Yt := eq_true Yt
   have HN0_go53 := am (show g ≠ DB from by have h_ := aD.BZ gJ.out bE.1 (by decide); intro e_; exact h_ (by rw [e_]; rfl))
   have HX65 := am (show Kd.S k56 56 Ua w.heap.size (fun k_ => ((fun k_ => some k_ ≠ (.slice j5 eF.length iX : Value).ownBlock ∧ some k_ ≠ (.slice Vb PG.length Wz : Value).ownBlock)) k_ ∧ ¬ (fun _ => False) k_) (.slice (some ⟨DB, 0, none⟩) fT.length lA) fT from (by refine rS ?_; exact Kd.nD bE.1 (fun k_ hk => ⟨⟨hk.1, hk.2⟩, fun e_ => e_⟩)))
   obtain ⟨oki65, ce65, hcl65, hM65, hcc65, hfr65, hoki65, hH65⟩ := Kd.JB HX65.out z56 (eH : Int) (oT) (by have h_ : (eH : Int) < ((fT.length : Int) : Int) := oT; first | exact h_ | (have e_ := (Kd.wR bE.1).1; omega) | simpa using h_)
   obtain ⟨ve65_1, ve65_2, rfl, qf, qg⟩ := uI hM65
   have HP65 := (Kd.Pv hH65 (oT) (by have h_ : (eH : Int) < ((fT.length : Int) : Int) := oT; first | exact h_ | (have e_ := (Kd.wR bE.1).1; omega) | simpa using h_) (seg := [.string BE]) (j := 0) (show 1 ≤ 3 from by decide) (x' := (⟨BE, (aA fT eH).f1, (aA fT eH).f2⟩ : S56)) (BX _ _ _ (⟨BE, (aA fT eH).f1, (aA fT eH).f2⟩ : S56) qf qg (OT hM65)) (fun _ hk => Or.inl hk) (fun _ hk => hk.elim)).1
   rw [← J9.out] at HP65
   have HQ65 := am HP65
   clear hcl65 hcc65 hfr65 hM65 HP65
   refine nK hK (uA2 cA).1 fun hHeld => ?_
   clear hK K
   refine pU2 6 7 ?_
   refine lN 8 none fun K hK => ?_
   refine uX (w1 := ?_) (by rfl) rfl ?_ ?_
   rotate_left
   ·go_simp
    rfl
   refine hK.out _ _ ?_
   clear hK K
   refine dN ?_
   have n0_ : aC (Kd.R Kd.string 9 (Ua.setCell ⟨DB, (eH : Int).toNat * 3, none⟩ (.string BE)) w.heap.size (fun k_ => some k_ ≠ (.slice Vb PG.length Wz : Value).ownBlock) (.slice j5 eF.length iX) eF) := ⟨by refine rR ?_; exact Kd.aM (Kd.tF (p := ⟨DB, (eH : Int).toNat * 3, none⟩) (tR bU GG53) (fun _ hk => hk.2) (.string BE)) (fun _ hk => hk.1.2)⟩
   have n1_ : aC (Kd.S k56 56 (Ua.setCell ⟨DB, (eH : Int).toNat * 3, none⟩ (.string BE)) w.heap.size (fun k_ => some k_ ≠ (.slice j5 eF.length iX : Value).ownBlock ∧ some k_ ≠ (.slice Vb PG.length Wz : Value).ownBlock) (.slice (some ⟨DB, 0, none⟩) fT.length lA) GJ) := ⟨rS HQ65.out⟩
   have n2_ : aC (Kd.R Kd.string 9 (Ua.setCell ⟨DB, (eH : Int).toNat * 3, none⟩ (.string BE)) w.heap.size (fun k_ => some k_ ≠ (.slice j5 eF.length iX : Value).ownBlock) (.slice Vb PG.length Wz) PG) := ⟨by refine rR ?_; exact Kd.aM (Kd.tF (p := ⟨DB, (eH : Int).toNat * 3, none⟩) (tR tN GG53) (fun _ hk => hk.2) (.string BE)) (fun _ hk => hk.1.2)⟩
   have n3_ : aC ((Ua.setCell ⟨DB, (eH : Int).toNat * 3, none⟩ (.string BE)).heap[aT]? = some (.cells #[.slice xC fK.length yE, .slice wP jJ.length wM] 31 (0, 0))) := ⟨by refine rB ?_; refine dF ?_ (by have h_ := Kd.S_ne bE.1 a6.1 (by decide); intro e_; exact h_ (by rw [e_]; rfl)) _; refine rB ?_; exact a6.1⟩
   have n4_ : aC ((Ua.setCell ⟨DB, (eH : Int).toNat * 3, none⟩ (.string BE)).heap[aZ]? = some (.cells #[.slice none 0 0, .slice none 0 0] 31 (0, 0))) := ⟨by refine rB ?_; refine dF ?_ (by have h_ := Kd.S_ne bE.1 aH.1 (by decide); intro e_; exact h_ (by rw [e_]; rfl)) _; refine rB ?_; exact aH.1⟩
   have n5_ : aC ((Ua.setCell ⟨DB, (eH : Int).toNat * 3, none⟩ (.string BE)).heap[gP]? = some (.cells #[.slice j5 eF.length iX, .slice (some ⟨DB, 0, none⟩) fT.length lA] 31 (0, 0))) := ⟨by refine rB ?_; refine dF ?_ (by have h_ := Kd.S_ne bE.1 cA.1 (by decide); intro e_; exact h_ (by rw [e_]; rfl)) _; refine rB ?_; exact cA.1⟩
   have n6_ : aC (aD w0 (Ua.setCell ⟨DB, (eH : Int).toNat * 3, none⟩ (.string BE)) g cW ZX) := ⟨by repeat (first | (with_reducible first | exact gJ.out | apply aD.alloc | apply aD.drewN | apply aD.drew | apply aD.GG | refine aD.far ?_ HN0_go53.out _ | refine aD.far ?_ l7.1 _ | refine aD.far ?_ mT.1 _ | refine aD.far ?_ nO.1 _) | exact gJ.out)⟩
   have n7_ : aC (aY w (Ua.setCell ⟨DB, (eH : Int).toNat * 3, none⟩ (.string BE)) g none) := ⟨by repeat (first | (with_reducible first | exact HK.out | apply aY.set_ | apply p9 | apply jP | apply p8 | refine jA ?_ GB53.out _ | refine jA ?_ g5.out _ | refine jA ?_ m4.out _ | refine jA ?_ QO.out _) | exact HK.out)⟩
   have n8_ : aC (Below w0.heap.size w0 (Ua.setCell ⟨DB, (eH : Int).toNat * 3, none⟩ (.string BE))) := ⟨by repeat (first | (with_reducible first | exact HB.1 | apply bQ | apply bA | apply aV | refine aI ?_ (Nat.le_trans HL.out GB53.out) | refine aI ?_ (aD.ge gJ.out) | refine aI ?_ iJ.1 | refine aI ?_ nX.1 | refine aI ?_ QN.1) | exact HB.1)⟩
   (try clear bU)
   (try clear bE)
   (try clear tN)
   (try clear a6)
   (try clear aH)
   (try clear cA)
   (try clear gJ)
   (try clear HK)
   (try clear HB)
   generalize (Ua.setCell ⟨DB, (eH : Int).toNat * 3, none⟩ (.string BE)) = w66 at n0_ n1_ n2_ n3_ n4_ n5_ n6_ n7_ n8_ ⊢
   have bU := n0_
   have bE := n1_
   have tN := n2_
   have a6 := n3_
   have aH := n4_
   have cA := n5_
   have gJ := n6_
   have HK := n7_
   have HB := n8_
   clear n0_ n1_ n2_ n3_ n4_ n5_ n6_ n7_ n8_
   have Z67 := cz2 cA
   have Z68 := nZ2 cV cO gX mT
   have Z70 := cz2 aH
   try go_wp2
   refine cR aZ 31 #[.slice j5 eF.length iX, .slice (some ⟨DB, 0, none⟩) fT.length lA] (qP aH) Try.underlying31 ?_
   refine toN_ ?_
   exact ⟨_, _, eR, mR bU aH, mS bE aH, pH, AN, vZ⟩
  ·replace bU := RD bU
   replace bE := SD bE
   replace a6 := BD a6
   replace aH := BD aH
   replace cA := BD cA
   replace gJ := am (aD.drew gJ.out)
   replace HK := am (jP HK.out)
   replace HB := am (aV HB.1)
   have ZM : 0 ≤ (eH : Int) := oT
   have ZT : eH < (fT.length : Int) := oT
   obtain ⟨IH, Nh, Qp, WZ, XV, nx, KV, BU, BV, SL, SJ, SM, SK⟩ := zG (Kd.wR bE.1).2.2 eH ZM ZT
   cases nx
   obtain ⟨ce130, hce130, hMe130, hcc130⟩ := Kd.bu bE.1 z56 eH ZM (by first | exact ZT | exact oT | (have e_ := (Kd.wR bE.1).1; omega))
   obtain ⟨ve130_1, ve130_2, rfl, YB, YC⟩ := uI hMe130
   have O3 := hcc130 1 _ rfl
   rw [oL _ _ 1 (by omega)] at O3
   replace O3 := Option.some.inj (O3.symm.trans BU)
   rw [O3] at YB
   have GS := am (show Kd.R Kd.string 9 _ _ _ _ ((aA fT eH).f1) from YB)
   clear O3 YB
   have HX130_1 := am BU
   have O4 := hcc130 2 _ rfl
   rw [oL _ _ 2 (by omega)] at O4
   replace O4 := Option.some.inj (O4.symm.trans BV)
   rw [O4] at YC
   have rM := am (show Kd.R Kd.string 9 _ _ _ _ ((aA fT eH).f2) from YC)
   clear O4 YC
   have HX130_2 := am BV
   clear hcc130 hce130
   have S9 := am SJ
   have a6B := am SL
   clear SJ SL
   have SA := am SK
   have a6C := am SM
   clear SK SM
   replace ZM := eq_true ZM
   replace ZT := eq_true ZT
   refine sT (S := fun w' => w'.cell? ⟨gP, 0, none⟩ = some (.slice j5 eF.length iX) ∧ w'.cell? ⟨gP, 1, none⟩ = some (.slice (some IH) fT.length lA) ∧ w'.cell? (IH.add ((eH).toNat * 3)) = some (.string ((aA fT eH).f0)) ∧ w'.cell? ⟨(IH.add ((eH).toNat * 3)).block, (IH.add ((eH).toNat * 3)).off + 1, none⟩ = some (.slice Nh ((aA fT eH).f1).length Qp) ∧ w'.cell? ⟨(IH.add ((eH).toNat * 3)).block, (IH.add ((eH).toNat * 3)).off + 2, none⟩ = some (.slice WZ ((aA fT eH).f2).length XV)) [16] 17 ⟨⟨(bC cA.1 0).trans rfl, (bC cA.1 1).trans rfl, KV, BU, BV⟩⟩ (fun hHeld => ?_)
   refine eO bK.P9 bK.GZ (fun HT_ HW_ => ?_)
   generalize WV.drew = w83 at bU bE a6 aH cA gJ HK HB GS rM S9 SA HX130_1 HX130_2 KV BU BV hHeld ⊢
   refine pU5 0 2 3 5 9 ?_
   refine tK5 1 (some 68) ?_
   refine tK5 4 (some 71) ?_
   refine pU2 6 7 ?_
   refine tK5 8 (some 75) ?_
   refine oN 10 (some 77) fun K hK => ?_
   refine lT 9 77 Ph ?_
   intro ub Zi Ls hb
   have HS2_ := (hb.cell (World.block_lt_of_cell? _ _ (hHeld.2.2.1))).trans (hHeld.2.2.1)
   have HS3_ := (hb.cell (World.block_lt_of_cell? _ _ (hHeld.2.2.2.1))).trans (hHeld.2.2.2.1)
   have HS4_ := (hb.cell (World.block_lt_of_cell? _ _ (hHeld.2.2.2.2))).trans (hHeld.2.2.2.2)
   replace bE := am (Kd.AJ GA (Kd.bZ Ls) hb)
   have yA := am (Kd.d9 (Kd.fA (Kd.fA (Kd.fA Ls (Kd.R_lt tL)) (Kd.R_lt (rR GS.out))) (Kd.R_lt (rR rM.out))) (kz w g vZ))
   replace bU := am (Kd.dS tL (Kd.bZ Ls) hb)
   replace GS := am (Kd.dS (rR GS.out) (Kd.bZ Ls) hb)
   replace rM := am (Kd.dS (rR rM.out) (Kd.bZ Ls) hb)
   replace a6 := bB aW hb
   replace aH := bB cB hb
   replace cA := bB uT hb
   replace S9 := am (Kd.aX (by repeat (first | (with_reducible exact S9.1) | (with_reducible refine Kd.mO ?_ _) | (with_reducible refine Kd.mP ?_ _) | (with_reducible refine Kd.oD ?_) | exact S9.1)) hb)
   replace HX130_1 := am (mV hb HX130_1.out)
   replace SA := am (Kd.aX (by repeat (first | (with_reducible exact SA.1) | (with_reducible refine Kd.mO ?_ _) | (with_reducible refine Kd.mP ?_ _) | (with_reducible refine Kd.oD ?_) | exact SA.1)) hb)
   replace HX130_2 := am (mV hb HX130_2.out)
   replace HK := kU w g vZ hb
   replace HB := bS AN hb
   replace gJ := am (aD.below pH hb)
   clear hb Ls
   obtain ⟨Nn, Ra, a1U⟩ := Kd.bP yA.1
   (first | subst a1U | (obtain ⟨f4_, f5_⟩ := sj a1U; subst f4_; subst f5_))
   refine hK.out _ _ ⟨(bC cA.1 0).trans rfl, (bC cA.1 1).trans rfl, HS2_, HS3_, HS4_⟩ (fun hHeld => ?_)
   clear hK K
   refine nM ?_
   refine oN 11 (some 78) fun K hK => ?_
   refine NS Try.func101 (by kernel_rfl) rfl #[.pointer (some ⟨g, 0, none⟩), .slice Nn Gp.length Ra] (by rfl) rfl rfl xV ?_
   with_reducible refine (fE.calls kj3 g cW qE _ _ Gp V6 xK w0 _ ?side1 ?side2 ?side3 ?side4 ?side5 A74.out).mono ?_
   (case side1 => exact pH)
   (case side2 => exact AN)
   (case side3 => exact pC (Kd.aU yA.1).2.2)
   (case side4 => exact (Kd.aU yA.1).2.1)
   (case side5 => exact mM (aD.own_ne gJ.out yA.1 (by decide)))
   rintro e w87 ⟨rfl, hi, hb, hk⟩
   have HS2_ := kC hk (hHeld.2.2.1) Mj
   have HS3_ := kC hk (hHeld.2.2.2.1) Mj
   have HS4_ := kC hk (hHeld.2.2.2.2) Mj
   refine ⟨_, rfl, ?_⟩
   replace bU := iR pH tL hk
   replace a6 := kb aW hk fJ
   replace aH := kb cB hk gX
   replace cA := kb uT hk jK
   replace GS := am (Kd.aM (Kd.lQ (aD.apart (show aD w0 _ g cW qE from pH) (rR GS.out) (by decide)) hk (fun _ h => h.2)) (fun _ h => h.1))
   replace HX130_1 := am (kC hk HX130_1.out Yn)
   replace rM := am (Kd.aM (Kd.lQ (aD.apart (show aD w0 _ g cW qE from pH) (rR rM.out) (by decide)) hk (fun _ h => h.2)) (fun _ h => h.1))
   replace HX130_2 := am (kC hk HX130_2.out Yn)
   replace bE := iS pH GA hk
   replace yA := iR pH (rR yA.1) hk
   replace HK := kT w g vZ hk
   replace HB := am hb
   replace gJ := am hi
   clear hb hk hi
   obtain ⟨FZ, a1A, Xk, a1Z, gl88, cl88, HG88⟩ := Kd.TH bE.1 (by have h_ : (eH : Int) < ((fT.length : Int) : Int) := oT; have h2_ : 0 ≤ (eH : Int) := (oT); omega)
   (first | cases Xk | (injection Xk with ea_ en_ ec_; (first | subst ea_ | (injection ea_ with ea_; subst ea_)); subst ec_; clear en_))
   have GB88 := am a1Z
   have GG88 := am HG88
   clear a1Z gl88 HG88
   (first | simp only [add_plain] at KV | skip)
   (first | simp only [add_plain] at BU | skip)
   (first | simp only [add_plain] at BV | skip)
   obtain ⟨oki88, ce88, hcl88, hM88, hcc88, _, _, hH88⟩ := Kd.JB bE.1 z56 (eH : Int) (oT) (by have h_ : (eH : Int) < ((fT.length : Int) : Int) := oT; first | exact h_ | (have e_ := (Kd.wR bE.1).1; omega) | simpa using h_)
   obtain ⟨ve88_1, ve88_2, rfl, Rq, Rs⟩ := uI hM88
   have a3M := OT hM88
   clear hM88
   have Xv := hcc88 2 _ rfl
   have hX88 := HX130_2.out
   (try simp only [add_plain] at hX88)
   (try simp only [Nat.add_zero] at Xv)
   replace Xv := Option.some.inj (Xv.symm.trans hX88)
   subst Xv
   clear hX88 hcc88 hcl88
   have UU88 := am (show Kd.R Kd.string 9 _ w.heap.size oki88 (.slice WZ ((aA fT eH).f2).length XV) ((aA fT eH).f2) from Rs)
   have HH88 := am hH88
   have HN88 := am (Kd.wR bE.1).1
   have HE88_1 := am Rq
   have HSp88 := am a3M
   clear a3M
   clear hH88 Rq Rs
   refine hK.out _ _ ⟨(bC cA.1 0).trans rfl, (bC cA.1 1).trans rfl, HS2_, HS3_, HS4_⟩ (fun hHeld => ?_)
   clear hK K
   refine nM ?_
   refine oN 12 (some 79) fun K hK => ?_
   refine yQ (w1 := ?_) (v := ?_) (by rfl) rfl ?_ ?_
   rotate_left 2
   ·go_simp
    constructor
    ·rfl
    ·rfl
   refine hK.out _ _ ⟨(bC (bM cA.1 _) 0).trans rfl, (bC (bM cA.1 _) 1).trans rfl, (World.cell?_alloc_lt _ _ _ (World.block_lt_of_cell? _ _ (hHeld.2.2.1))).trans (hHeld.2.2.1), (World.cell?_alloc_lt _ _ _ (World.block_lt_of_cell? _ _ (hHeld.2.2.2.1))).trans (hHeld.2.2.2.1), (World.cell?_alloc_lt _ _ _ (World.block_lt_of_cell? _ _ (hHeld.2.2.2.2))).trans (hHeld.2.2.2.2)⟩ (fun hHeld => ?_)
   clear hK K
   refine nM ?_
   refine oN 13 (some 80) fun K hK => ?_
   refine Kd.pX Kd.string w.heap.size (by rfl) (.tmp 75) (.tmp 79) 23 9 (.string ⟨#[]⟩) 16 rfl Try.underlying23 rY rfl (by decide) (by omega) (.slice WZ ((aA fT eH).f2).length XV) ((aA fT eH).f2) V6 [.string V6] (fun k_ => oki88 k_ ∨ ((fun k_ => some k_ ≠ (.slice j5 eF.length iX : Value).ownBlock ∧ some k_ ≠ (.slice Nn Gp.length Ra : Value).ownBlock)) k_ ∧ w87.heap.size ≤ k_) (fun _ => False) rfl rfl ?aP (fun _ hk => hk.elim) ?aF ?aO (Below.refl _ _) ?aS ?aL ?_
   (case aP => exact rfl)
   (case aF => exact (fun k_ hk => .inr ⟨⟨Kd.fresh' (Kd.R_lt tL) k_ hk, Kd.fresh' (Kd.R_lt (rR yA.1)) k_ hk⟩, hk⟩))
   (case aO => exact (by refine rR ?_; exact Kd.aM UU88.out (fun _ hk => .inl hk)))
   (case aS => exact (kz w g vZ))
   (case aL => have := yd.out; omega)
   intro a4T Ub ho hb hg hat
   (first | have HS2_ := cell_grown hg (hHeld.2.2.1) Mk | have HS2_ := cell_grown hg (vX (hHeld.2.2.1) Mm) Mk)
   (first | have HS3_ := cell_grown hg (hHeld.2.2.2.1) Mk | have HS3_ := cell_grown hg (vX (hHeld.2.2.2.1) Mm) Mk)
   (first | have HS4_ := cell_grown hg (hHeld.2.2.2.2) Mk | have HS4_ := cell_grown hg (vX (hHeld.2.2.2.2) Mm) Mk)
   rw [← Pj.out] at ho
   have n0_ := am (Kd.FT tL rfl hg (fun k_ e_ => (rM.out.1 k_ e_).1.1))
   have n1_ := gkR aW hg rM a6
   have n2_ := gkR cB hg rM aH
   have n3_ := gkR uT hg rM cA
   have n4_ := am (aD.grown pH hg (aD.own_ne gJ.out rM.out (by decide)))
   have n5_ := am (Kd.FT (rR yA.1) rfl hg (fun k_ e_ => (rM.out.1 k_ e_).2))
   have n6_ := am (pM AN HL.out hb)
   have n7_ := am (aY.trans vZ (aY.rZ hg g) (Kd.EG rM.out))
   have n8_ := am (Kd.Hq (Kd.Ht (by repeat (first | exact HH88.out | refine Kd.Hm ?_ _ | refine Kd.Ho ?_ _ | refine Kd.Oh ?_))) hg (fun k_ e_ => .inl (UU88.out.1 k_ e_)))
   have n9_ := am (Kd.FT (rR HE88_1.out) rfl hg (fun k_ e_ => fun e2_ => HSp88.out k_ e2_.symm e_))
   have n10_ := am (sw HSp88.out hat (rR HE88_1.out))
   have n11_ := am ho
   clear bU
   clear a6
   clear aH
   clear cA
   clear gJ
   clear yA
   clear HB
   clear HK
   clear HH88
   clear HE88_1
   clear HSp88
   clear bE
   clear UU88
   clear GS
   clear rM
   have bU := n0_
   have a6 := n1_
   have aH := n2_
   have cA := n3_
   have gJ := n4_
   have yA := n5_
   have HB := n6_
   have HK := n7_
   have HH88 := n8_
   have HE88_1 := n9_
   have HSp88 := n10_
   have Ar := n11_
   clear n0_ n1_ n2_ n3_ n4_ n5_ n6_ n7_ n8_ n9_ n10_ n11_
   clear ho hb hg hat
   have p76 : 0 ≤ (eH : Int) := oT
   have vw : (eH : Int) < ((fT.length : Int) : Int) := oT
   replace p76 := eq_true p76
   replace vw := eq_true vw
   obtain ⟨PI, PX, a1W⟩ := Kd.bP Ar.1
   (first | subst a1W | (obtain ⟨f4_, f5_⟩ := sj a1W; subst f4_; subst f5_))
   obtain ⟨_, _, hraw90, _, _, hcc90, _⟩ := Kd.Hr HH88.out (oT) (by have h_ : (eH : Int) < ((fT.length : Int) : Int) := oT; first | exact h_ | (have e_ := (HN88.out); omega) | simpa using h_)
   obtain ⟨_, hfr90⟩ := Kd.H_at HH88.out (oT) (by have h_ : (eH : Int) < ((fT.length : Int) : Int) := oT; first | exact h_ | (have e_ := (HN88.out); omega) | simpa using h_)
   have rc := hcc90 2 _ rfl
   have hf90_0 := hfr90 2
   (try rw [show (k56).sz = 3 from rfl] at rc)
   (try rw [show (k56).sz = 3 from rfl] at hf90_0)
   have HP90 := Kd.Dz HH88.out (oT) (by have h_ : (eH : Int) < ((fT.length : Int) : Int) := oT; first | exact h_ | (have e_ := (HN88.out); omega) | simpa using h_) (seg := [.slice PI LG.length PX]) (j := 2) (show 3 ≤ 3 from by decide) (x' := (⟨(aA fT eH).f0, (aA fT eH).f1, LG⟩ : S56)) (BX _ _ _ (⟨(aA fT eH).f0, (aA fT eH).f1, LG⟩ : S56) (Kd.aM HE88_1.out (fun _ h_ => .inl h_)) Ar.1 HSp88.out) (fun _ hk => hk)
   clear hcc90 hfr90
   have HN0_go88 := am (show g ≠ FZ from by have h_ := aD.own_ne gJ.out hraw90 (by decide); intro e_; exact h_ (by rw [e_]; rfl))
   have HNB101_go88 := am (show aT ≠ FZ from by have h_ := Kd.R_ne hraw90 a6.1 (by decide); intro e_; exact h_ (by rw [e_]; rfl))
   have HNB102_go88 := am (show aZ ≠ FZ from by have h_ := Kd.R_ne hraw90 aH.1 (by decide); intro e_; exact h_ (by rw [e_]; rfl))
   have HNB109_go88 := am (show gP ≠ FZ from by have h_ := Kd.R_ne hraw90 cA.1 (by decide); intro e_; exact h_ (by rw [e_]; rfl))
   have HS90 := HP90.1
   rw [← Pk.out] at HS90
   have HQ90 := am HS90
   obtain ⟨_, hgg90⟩ := Kd.SF hraw90 FZ rfl
   have GG90_ := am hgg90
   clear HP90 HS90 hgg90
   refine hK.out _ _ ⟨(bC cA.1 0).trans rfl, (bC cA.1 1).trans rfl, HS2_, HS3_, HS4_⟩ (fun hHeld => ?_)
   clear hK K
   refine nM ?_
   refine pU2 14 15 ?_
   refine lN 16 none fun K hK => ?_
   refine uX (w1 := ?_) (by rfl) rfl ?_ ?_
   rotate_left
   ·go_simp
    rfl
   refine hK.out _ _ ?_
   clear hK K
   refine dN ?_
   have n0_ : aC (Kd.R Kd.string 9 (Ub.setCell ⟨FZ, (eH : Int).toNat * 3 + 2, none⟩ (.slice PI LG.length PX)) w.heap.size (fun k_ => some k_ ≠ (.slice Nn Gp.length Ra : Value).ownBlock) (.slice j5 eF.length iX) eF) := ⟨by refine rR ?_; exact Kd.aM (Kd.tF (p := ⟨FZ, (eH : Int).toNat * 3 + 2, none⟩) (tR bU GG90_) (fun _ hk => hk.2) (.slice PI LG.length PX)) (fun _ hk => hk.1.2)⟩
   have n1_ : aC (Kd.R Kd.string 9 (Ub.setCell ⟨FZ, (eH : Int).toNat * 3 + 2, none⟩ (.slice PI LG.length PX)) w.heap.size (fun k_ => some k_ ≠ (.slice j5 eF.length iX : Value).ownBlock) (.slice Nn Gp.length Ra) Gp) := ⟨by refine rR ?_; exact Kd.aM (Kd.tF (p := ⟨FZ, (eH : Int).toNat * 3 + 2, none⟩) (tR yA GG90_) (fun _ hk => hk.2) (.slice PI LG.length PX)) (fun _ hk => hk.1.1.1.2)⟩
   have n2_ : aC (Kd.S k56 56 (Ub.setCell ⟨FZ, (eH : Int).toNat * 3 + 2, none⟩ (.slice PI LG.length PX)) w.heap.size (fun k_ => some k_ ≠ (.slice j5 eF.length iX : Value).ownBlock ∧ some k_ ≠ (.slice Nn Gp.length Ra : Value).ownBlock) (.slice (some ⟨FZ, 0, none⟩) fT.length lA) aHP) := ⟨rS HQ90.out⟩
   have n3_ : aC ((Ub.setCell ⟨FZ, (eH : Int).toNat * 3 + 2, none⟩ (.slice PI LG.length PX)).heap[aT]? = some (.cells #[.slice xC fK.length yE, .slice wP jJ.length wM] 31 (0, 0))) := ⟨by refine rB ?_; refine dF ?_ HNB101_go88.out _; refine rB ?_; exact a6.1⟩
   have n4_ : aC ((Ub.setCell ⟨FZ, (eH : Int).toNat * 3 + 2, none⟩ (.slice PI LG.length PX)).heap[aZ]? = some (.cells #[.slice none 0 0, .slice none 0 0] 31 (0, 0))) := ⟨by refine rB ?_; refine dF ?_ HNB102_go88.out _; refine rB ?_; exact aH.1⟩
   have n5_ : aC ((Ub.setCell ⟨FZ, (eH : Int).toNat * 3 + 2, none⟩ (.slice PI LG.length PX)).heap[gP]? = some (.cells #[.slice j5 eF.length iX, .slice (some ⟨FZ, 0, none⟩) fT.length lA] 31 (0, 0))) := ⟨by refine rB ?_; refine dF ?_ HNB109_go88.out _; refine rB ?_; exact cA.1⟩
   have n6_ : aC (aD w0 (Ub.setCell ⟨FZ, (eH : Int).toNat * 3 + 2, none⟩ (.slice PI LG.length PX)) g cW xK) := ⟨by repeat (first | (with_reducible first | exact gJ.out | apply aD.alloc | apply aD.drewN | apply aD.drew | apply aD.GG | refine aD.far ?_ HN0_go88.out _ | refine aD.far ?_ l7.1 _ | refine aD.far ?_ mT.1 _ | refine aD.far ?_ nO.1 _) | exact gJ.out)⟩
   have n7_ : aC (aY w (Ub.setCell ⟨FZ, (eH : Int).toNat * 3 + 2, none⟩ (.slice PI LG.length PX)) g none) := ⟨by repeat (first | (with_reducible first | exact HK.out | apply aY.set_ | apply p9 | apply jP | apply p8 | refine jA ?_ GB88.out _ | refine jA ?_ g5.out _ | refine jA ?_ m4.out _ | refine jA ?_ QO.out _) | exact HK.out)⟩
   have n8_ : aC (Below w0.heap.size w0 (Ub.setCell ⟨FZ, (eH : Int).toNat * 3 + 2, none⟩ (.slice PI LG.length PX))) := ⟨by repeat (first | (with_reducible first | exact HB.1 | apply bQ | apply bA | apply aV | refine aI ?_ (Nat.le_trans HL.out GB88.out) | refine aI ?_ (aD.ge gJ.out) | refine aI ?_ iJ.1 | refine aI ?_ nX.1 | refine aI ?_ QN.1) | exact HB.1)⟩
   (try clear bU)
   (try clear yA)
   (try clear bE)
   (try clear a6)
   (try clear aH)
   (try clear cA)
   (try clear gJ)
   (try clear HK)
   (try clear HB)
   generalize (Ub.setCell ⟨FZ, (eH : Int).toNat * 3 + 2, none⟩ (.slice PI LG.length PX)) = w93 at n0_ n1_ n2_ n3_ n4_ n5_ n6_ n7_ n8_ ⊢
   have bU := n0_
   have yA := n1_
   have bE := n2_
   have a6 := n3_
   have aH := n4_
   have cA := n5_
   have gJ := n6_
   have HK := n7_
   have HB := n8_
   clear n0_ n1_ n2_ n3_ n4_ n5_ n6_ n7_ n8_
   have Z94 := cz2 cA
   have Z95 := nZ2 cV cO gX mT
   have Z97 := cz2 aH
   try go_wp2
   refine cR aZ 31 #[.slice j5 eF.length iX, .slice (some ⟨FZ, 0, none⟩) fT.length lA] (qP aH) Try.underlying31 ?_
   refine toN_ ?_
   exact ⟨_, _, eR, mR bU aH, mS bE aH, pH, AN, vZ⟩
  ·replace bU := RD bU
   replace bE := SD bE
   replace a6 := BD a6
   replace aH := BD aH
   replace cA := BD cA
   replace gJ := am (aD.drew gJ.out)
   replace HK := am (jP HK.out)
   replace HB := am (aV HB.1)
   have Ym : 0 ≤ (eH : Int) := oT
   have Ys : eH < (fT.length : Int) := oT
   obtain ⟨VY, Dj, Eh, gj, mh, aEH, ZF, OI, OJ, Jq, Jk, Jr, Jl⟩ := zG (Kd.wR bE.1).2.2 eH Ym Ys
   cases aEH
   obtain ⟨ce140, hce140, hMe140, hcc140⟩ := Kd.bu bE.1 z56 eH Ym (by first | exact Ys | exact oT | (have e_ := (Kd.wR bE.1).1; omega))
   obtain ⟨ve140_1, ve140_2, rfl, YD, YE⟩ := uI hMe140
   have O5 := hcc140 1 _ rfl
   rw [oL _ _ 1 (by omega)] at O5
   replace O5 := Option.some.inj (O5.symm.trans OI)
   rw [O5] at YD
   have rO := am (show Kd.R Kd.string 9 _ _ _ _ ((aA fT eH).f1) from YD)
   clear O5 YD
   have HX140_1 := am OI
   have O6 := hcc140 2 _ rfl
   rw [oL _ _ 2 (by omega)] at O6
   replace O6 := Option.some.inj (O6.symm.trans OJ)
   rw [O6] at YE
   have GT := am (show Kd.R Kd.string 9 _ _ _ _ ((aA fT eH).f2) from YE)
   clear O6 YE
   have HX140_2 := am OJ
   clear hcc140 hce140
   have SC := am Jk
   have a6D := am Jq
   clear Jk Jq
   have SE := am Jl
   have a6E := am Jr
   clear Jl Jr
   replace Ym := eq_true Ym
   replace Ys := eq_true Ys
   refine sT (S := fun w' => w'.cell? ⟨gP, 0, none⟩ = some (.slice j5 eF.length iX) ∧ w'.cell? ⟨gP, 1, none⟩ = some (.slice (some VY) fT.length lA) ∧ w'.cell? (VY.add ((eH).toNat * 3)) = some (.string ((aA fT eH).f0)) ∧ w'.cell? ⟨(VY.add ((eH).toNat * 3)).block, (VY.add ((eH).toNat * 3)).off + 1, none⟩ = some (.slice Dj ((aA fT eH).f1).length Eh) ∧ w'.cell? ⟨(VY.add ((eH).toNat * 3)).block, (VY.add ((eH).toNat * 3)).off + 2, none⟩ = some (.slice gj ((aA fT eH).f2).length mh)) [16] 17 ⟨⟨(bC cA.1 0).trans rfl, (bC cA.1 1).trans rfl, ZF, OI, OJ⟩⟩ (fun hHeld => ?_)
   refine eO bK.a4O bK.lg (fun HT_ HW_ => ?_)
   generalize WV.drew = aHA at bU bE a6 aH cA gJ HK HB rO GT SC SE HX140_1 HX140_2 ZF OI OJ hHeld ⊢
   refine pU5 0 2 3 5 9 ?_
   refine tK5 1 (some 86) ?_
   refine tK5 4 (some 89) ?_
   refine pU2 6 7 ?_
   refine tK5 8 (some 93) ?_
   refine oN 10 (some 95) fun K hK => ?_
   refine lT 9 95 Pl ?_
   intro aVU aWH WK hb
   have HS2_ := (hb.cell (World.block_lt_of_cell? _ _ (hHeld.2.2.1))).trans (hHeld.2.2.1)
   have HS3_ := (hb.cell (World.block_lt_of_cell? _ _ (hHeld.2.2.2.1))).trans (hHeld.2.2.2.1)
   have HS4_ := (hb.cell (World.block_lt_of_cell? _ _ (hHeld.2.2.2.2))).trans (hHeld.2.2.2.2)
   replace bE := am (Kd.AJ GA (Kd.bZ WK) hb)
   have FN := am (Kd.d9 (Kd.fA (Kd.fA (Kd.fA WK (Kd.R_lt tL)) (Kd.R_lt (rR rO.out))) (Kd.R_lt (rR GT.out))) (kz w g vZ))
   replace bU := am (Kd.dS tL (Kd.bZ WK) hb)
   replace rO := am (Kd.dS (rR rO.out) (Kd.bZ WK) hb)
   replace GT := am (Kd.dS (rR GT.out) (Kd.bZ WK) hb)
   replace a6 := bB aW hb
   replace aH := bB cB hb
   replace cA := bB uT hb
   replace SC := am (Kd.aX (by repeat (first | (with_reducible exact SC.1) | (with_reducible refine Kd.mO ?_ _) | (with_reducible refine Kd.mP ?_ _) | (with_reducible refine Kd.oD ?_) | exact SC.1)) hb)
   replace HX140_1 := am (mV hb HX140_1.out)
   replace SE := am (Kd.aX (by repeat (first | (with_reducible exact SE.1) | (with_reducible refine Kd.mO ?_ _) | (with_reducible refine Kd.mP ?_ _) | (with_reducible refine Kd.oD ?_) | exact SE.1)) hb)
   replace HX140_2 := am (mV hb HX140_2.out)
   replace HK := kU w g vZ hb
   replace HB := bS AN hb
   replace gJ := am (aD.below pH hb)
   clear hb WK
   obtain ⟨Ai, Bl, dj⟩ := Kd.bP FN.1
   (first | subst dj | (obtain ⟨f4_, f5_⟩ := sj dj; subst f4_; subst f5_))
   refine hK.out _ _ ⟨(bC cA.1 0).trans rfl, (bC cA.1 1).trans rfl, HS2_, HS3_, HS4_⟩ (fun hHeld => ?_)
   clear hK K
   refine nM ?_
   refine oN 11 (some 96) fun K hK => ?_
   refine NS Try.func101 (by kernel_rfl) rfl #[.pointer (some ⟨g, 0, none⟩), .slice Ai Gq.length Bl] (by rfl) rfl rfl xV ?_
   with_reducible refine (fE.calls kj3 g cW qE _ _ Gq Yy a4I w0 _ ?side1 ?side2 ?side3 ?side4 ?side5 Km.out).mono ?_
   (case side1 => exact pH)
   (case side2 => exact AN)
   (case side3 => exact pC (Kd.aU FN.1).2.2)
   (case side4 => exact (Kd.aU FN.1).2.1)
   (case side5 => exact mM (aD.own_ne gJ.out FN.1 (by decide)))
   rintro e aHC ⟨rfl, hi, hb, hk⟩
   have HS2_ := kC hk (hHeld.2.2.1) Mj
   have HS3_ := kC hk (hHeld.2.2.2.1) Mj
   have HS4_ := kC hk (hHeld.2.2.2.2) Mj
   refine ⟨_, rfl, ?_⟩
   replace bU := iR pH tL hk
   replace a6 := kb aW hk fJ
   replace aH := kb cB hk gX
   replace cA := kb uT hk jK
   replace rO := am (Kd.aM (Kd.lQ (aD.apart (show aD w0 _ g cW qE from pH) (rR rO.out) (by decide)) hk (fun _ h => h.2)) (fun _ h => h.1))
   replace HX140_1 := am (kC hk HX140_1.out Yn)
   replace GT := am (Kd.aM (Kd.lQ (aD.apart (show aD w0 _ g cW qE from pH) (rR GT.out) (by decide)) hk (fun _ h => h.2)) (fun _ h => h.1))
   replace HX140_2 := am (kC hk HX140_2.out Yn)
   replace bE := iS pH GA hk
   replace FN := iR pH (rR FN.1) hk
   replace HK := kT w g vZ hk
   replace HB := am hb
   replace gJ := am hi
   clear hb hk hi
   obtain ⟨xT, aMI, dm, dq, gl115, cl115, HG115⟩ := Kd.TH bE.1 (by have h_ : (eH : Int) < ((fT.length : Int) : Int) := oT; have h2_ : 0 ≤ (eH : Int) := (oT); omega)
   (first | cases dm | (injection dm with ea_ en_ ec_; (first | subst ea_ | (injection ea_ with ea_; subst ea_)); subst ec_; clear en_))
   have GB115 := am dq
   have GG115 := am HG115
   clear dq gl115 HG115
   (first | simp only [add_plain] at ZF | skip)
   (first | simp only [add_plain] at OI | skip)
   (first | simp only [add_plain] at OJ | skip)
   obtain ⟨oki115, ce115, hcl115, hM115, hcc115, _, _, hH115⟩ := Kd.JB bE.1 z56 (eH : Int) (oT) (by have h_ : (eH : Int) < ((fT.length : Int) : Int) := oT; first | exact h_ | (have e_ := (Kd.wR bE.1).1; omega) | simpa using h_)
   obtain ⟨ve115_1, ve115_2, rfl, Ja, Jb⟩ := uI hM115
   have Sb := OT hM115
   clear hM115
   have Js := hcc115 1 _ rfl
   have hX115 := HX140_1.out
   (try simp only [add_plain] at hX115)
   (try simp only [Nat.add_zero] at Js)
   replace Js := Option.some.inj (Js.symm.trans hX115)
   subst Js
   clear hX115 hcc115 hcl115
   have UU115 := am (show Kd.R Kd.string 9 _ w.heap.size oki115 (.slice Dj ((aA fT eH).f1).length Eh) ((aA fT eH).f1) from Ja)
   have HH115 := am hH115
   have HN115 := am (Kd.wR bE.1).1
   have HE115_2 := am Jb
   have HSp115 := am Sb
   clear Sb
   clear hH115 Ja Jb
   refine hK.out _ _ ⟨(bC cA.1 0).trans rfl, (bC cA.1 1).trans rfl, HS2_, HS3_, HS4_⟩ (fun hHeld => ?_)
   clear hK K
   refine nM ?_
   refine oN 12 (some 97) fun K hK => ?_
   refine yQ (w1 := ?_) (v := ?_) (by rfl) rfl ?_ ?_
   rotate_left 2
   ·go_simp
    constructor
    ·rfl
    ·rfl
   refine hK.out _ _ ⟨(bC (bM cA.1 _) 0).trans rfl, (bC (bM cA.1 _) 1).trans rfl, (World.cell?_alloc_lt _ _ _ (World.block_lt_of_cell? _ _ (hHeld.2.2.1))).trans (hHeld.2.2.1), (World.cell?_alloc_lt _ _ _ (World.block_lt_of_cell? _ _ (hHeld.2.2.2.1))).trans (hHeld.2.2.2.1), (World.cell?_alloc_lt _ _ _ (World.block_lt_of_cell? _ _ (hHeld.2.2.2.2))).trans (hHeld.2.2.2.2)⟩ (fun hHeld => ?_)
   clear hK K
   refine nM ?_
   refine oN 13 (some 98) fun K hK => ?_
   refine Kd.pX Kd.string w.heap.size (by rfl) (.tmp 93) (.tmp 97) 23 9 (.string ⟨#[]⟩) 16 rfl Try.underlying23 rY rfl (by decide) (by omega) (.slice Dj ((aA fT eH).f1).length Eh) ((aA fT eH).f1) Yy [.string Yy] (fun k_ => oki115 k_ ∨ ((fun k_ => some k_ ≠ (.slice j5 eF.length iX : Value).ownBlock ∧ some k_ ≠ (.slice Ai Gq.length Bl : Value).ownBlock)) k_ ∧ aHC.heap.size ≤ k_) (fun _ => False) rfl rfl ?aP (fun _ hk => hk.elim) ?aF ?aO (Below.refl _ _) ?aS ?aL ?_
   (case aP => exact rfl)
   (case aF => exact (fun k_ hk => .inr ⟨⟨Kd.fresh' (Kd.R_lt tL) k_ hk, Kd.fresh' (Kd.R_lt (rR FN.1)) k_ hk⟩, hk⟩))
   (case aO => exact (by refine rR ?_; exact Kd.aM UU115.out (fun _ hk => .inl hk)))
   (case aS => exact (kz w g vZ))
   (case aL => have := jn.out; omega)
   intro Zg V8 ho hb hg hat
   (first | have HS2_ := cell_grown hg (hHeld.2.2.1) Ml | have HS2_ := cell_grown hg (vX (hHeld.2.2.1) Mm) Ml)
   (first | have HS3_ := cell_grown hg (hHeld.2.2.2.1) Ml | have HS3_ := cell_grown hg (vX (hHeld.2.2.2.1) Mm) Ml)
   (first | have HS4_ := cell_grown hg (hHeld.2.2.2.2) Ml | have HS4_ := cell_grown hg (vX (hHeld.2.2.2.2) Mm) Ml)
   rw [← VU.out] at ho
   have n0_ := am (Kd.FT tL rfl hg (fun k_ e_ => (rO.out.1 k_ e_).1.1))
   have n1_ := gkR aW hg rO a6
   have n2_ := gkR cB hg rO aH
   have n3_ := gkR uT hg rO cA
   have n4_ := am (aD.grown pH hg (aD.own_ne gJ.out rO.out (by decide)))
   have n5_ := am (Kd.FT (rR FN.1) rfl hg (fun k_ e_ => (rO.out.1 k_ e_).2))
   have n6_ := am (pM AN HL.out hb)
   have n7_ := am (aY.trans vZ (aY.rZ hg g) (Kd.EG rO.out))
   have n8_ := am (Kd.Hq (Kd.Ht (by repeat (first | exact HH115.out | refine Kd.Hm ?_ _ | refine Kd.Ho ?_ _ | refine Kd.Oh ?_))) hg (fun k_ e_ => .inl (UU115.out.1 k_ e_)))
   have n9_ := am (Kd.FT (rR HE115_2.out) rfl hg (fun k_ e_ => fun e2_ => HSp115.out k_ e_ e2_.symm))
   have n10_ := am (su HSp115.out hat (rR HE115_2.out))
   have n11_ := am ho
   clear bU
   clear a6
   clear aH
   clear cA
   clear gJ
   clear FN
   clear HB
   clear HK
   clear HH115
   clear HE115_2
   clear HSp115
   clear bE
   clear UU115
   clear rO
   clear GT
   have bU := n0_
   have a6 := n1_
   have aH := n2_
   have cA := n3_
   have gJ := n4_
   have FN := n5_
   have HB := n6_
   have HK := n7_
   have HH115 := n8_
   have HE115_2 := n9_
   have HSp115 := n10_
   have NB := n11_
   clear n0_ n1_ n2_ n3_ n4_ n5_ n6_ n7_ n8_ n9_ n10_ n11_
   clear ho hb hg hat
   have E0 : 0 ≤ (eH : Int) := oT
   have E6 : (eH : Int) < ((fT.length : Int) : Int) := oT
   replace E0 := eq_true E0
   replace E6 := eq_true E6
   obtain ⟨FH, FX, dn⟩ := Kd.bP NB.1
   (first | subst dn | (obtain ⟨f4_, f5_⟩ := sj dn; subst f4_; subst f5_))
   obtain ⟨_, _, hraw117, _, _, hcc117, _⟩ := Kd.Hr HH115.out (oT) (by have h_ : (eH : Int) < ((fT.length : Int) : Int) := oT; first | exact h_ | (have e_ := (HN115.out); omega) | simpa using h_)
   obtain ⟨_, hfr117⟩ := Kd.H_at HH115.out (oT) (by have h_ : (eH : Int) < ((fT.length : Int) : Int) := oT; first | exact h_ | (have e_ := (HN115.out); omega) | simpa using h_)
   have SR := hcc117 1 _ rfl
   have hf117_0 := hfr117 1
   (try rw [show (k56).sz = 3 from rfl] at SR)
   (try rw [show (k56).sz = 3 from rfl] at hf117_0)
   have HP117 := Kd.Dz HH115.out (oT) (by have h_ : (eH : Int) < ((fT.length : Int) : Int) := oT; first | exact h_ | (have e_ := (HN115.out); omega) | simpa using h_) (seg := [.slice FH GK.length FX]) (j := 1) (show 2 ≤ 3 from by decide) (x' := (⟨(aA fT eH).f0, GK, (aA fT eH).f2⟩ : S56)) (BX _ _ _ (⟨(aA fT eH).f0, GK, (aA fT eH).f2⟩ : S56) NB.1 (Kd.aM HE115_2.out (fun _ h_ => .inl h_)) HSp115.out) (fun _ hk => hk)
   clear hcc117 hfr117
   have HN0_go115 := am (show g ≠ xT from by have h_ := aD.own_ne gJ.out hraw117 (by decide); intro e_; exact h_ (by rw [e_]; rfl))
   have HNB101_go115 := am (show aT ≠ xT from by have h_ := Kd.R_ne hraw117 a6.1 (by decide); intro e_; exact h_ (by rw [e_]; rfl))
   have HNB102_go115 := am (show aZ ≠ xT from by have h_ := Kd.R_ne hraw117 aH.1 (by decide); intro e_; exact h_ (by rw [e_]; rfl))
   have HNB109_go115 := am (show gP ≠ xT from by have h_ := Kd.R_ne hraw117 cA.1 (by decide); intro e_; exact h_ (by rw [e_]; rfl))
   have HS117 := HP117.1
   rw [← VV.out] at HS117
   have HQ117 := am HS117
   obtain ⟨_, hgg117⟩ := Kd.SF hraw117 xT rfl
   have GG117_ := am hgg117
   clear HP117 HS117 hgg117
   refine hK.out _ _ ⟨(bC cA.1 0).trans rfl, (bC cA.1 1).trans rfl, HS2_, HS3_, HS4_⟩ (fun hHeld => ?_)
   clear hK K
   refine nM ?_
   refine pU2 14 15 ?_
   refine lN 16 none fun K hK => ?_
   refine uX (w1 := ?_) (by rfl) rfl ?_ ?_
   rotate_left
   ·go_simp
    rfl
   refine hK.out _ _ ?_
   clear hK K
   refine dN ?_
   have n0_ : aC (Kd.R Kd.string 9 (V8.setCell ⟨xT, (eH : Int).toNat * 3 + 1, none⟩ (.slice FH GK.length FX)) w.heap.size (fun k_ => some k_ ≠ (.slice Ai Gq.length Bl : Value).ownBlock) (.slice j5 eF.length iX) eF) := ⟨by refine rR ?_; exact Kd.aM (Kd.tF (p := ⟨xT, (eH : Int).toNat * 3 + 1, none⟩) (tR bU GG117_) (fun _ hk => hk.2) (.slice FH GK.length FX)) (fun _ hk => hk.1.2)⟩
   have n1_ : aC (Kd.R Kd.string 9 (V8.setCell ⟨xT, (eH : Int).toNat * 3 + 1, none⟩ (.slice FH GK.length FX)) w.heap.size (fun k_ => some k_ ≠ (.slice j5 eF.length iX : Value).ownBlock) (.slice Ai Gq.length Bl) Gq) := ⟨by refine rR ?_; exact Kd.aM (Kd.tF (p := ⟨xT, (eH : Int).toNat * 3 + 1, none⟩) (tR FN GG117_) (fun _ hk => hk.2) (.slice FH GK.length FX)) (fun _ hk => hk.1.1.1.2)⟩
   have n2_ : aC (Kd.S k56 56 (V8.setCell ⟨xT, (eH : Int).toNat * 3 + 1, none⟩ (.slice FH GK.length FX)) w.heap.size (fun k_ => some k_ ≠ (.slice j5 eF.length iX : Value).ownBlock ∧ some k_ ≠ (.slice Ai Gq.length Bl : Value).ownBlock) (.slice (some ⟨xT, 0, none⟩) fT.length lA) VE) := ⟨rS HQ117.out⟩
   have n3_ : aC ((V8.setCell ⟨xT, (eH : Int).toNat * 3 + 1, none⟩ (.slice FH GK.length FX)).heap[aT]? = some (.cells #[.slice xC fK.length yE, .slice wP jJ.length wM] 31 (0, 0))) := ⟨by refine rB ?_; refine dF ?_ HNB101_go115.out _; refine rB ?_; exact a6.1⟩
   have n4_ : aC ((V8.setCell ⟨xT, (eH : Int).toNat * 3 + 1, none⟩ (.slice FH GK.length FX)).heap[aZ]? = some (.cells #[.slice none 0 0, .slice none 0 0] 31 (0, 0))) := ⟨by refine rB ?_; refine dF ?_ HNB102_go115.out _; refine rB ?_; exact aH.1⟩
   have n5_ : aC ((V8.setCell ⟨xT, (eH : Int).toNat * 3 + 1, none⟩ (.slice FH GK.length FX)).heap[gP]? = some (.cells #[.slice j5 eF.length iX, .slice (some ⟨xT, 0, none⟩) fT.length lA] 31 (0, 0))) := ⟨by refine rB ?_; refine dF ?_ HNB109_go115.out _; refine rB ?_; exact cA.1⟩
   have n6_ : aC (aD w0 (V8.setCell ⟨xT, (eH : Int).toNat * 3 + 1, none⟩ (.slice FH GK.length FX)) g cW a4I) := ⟨by repeat (first | (with_reducible first | exact gJ.out | apply aD.alloc | apply aD.drewN | apply aD.drew | apply aD.GG | refine aD.far ?_ HN0_go115.out _ | refine aD.far ?_ l7.1 _ | refine aD.far ?_ mT.1 _ | refine aD.far ?_ nO.1 _) | exact gJ.out)⟩
   have n7_ : aC (aY w (V8.setCell ⟨xT, (eH : Int).toNat * 3 + 1, none⟩ (.slice FH GK.length FX)) g none) := ⟨by repeat (first | (with_reducible first | exact HK.out | apply aY.set_ | apply p9 | apply jP | apply p8 | refine jA ?_ GB115.out _ | refine jA ?_ g5.out _ | refine jA ?_ m4.out _ | refine jA ?_ QO.out _) | exact HK.out)⟩
   have n8_ : aC (Below w0.heap.size w0 (V8.setCell ⟨xT, (eH : Int).toNat * 3 + 1, none⟩ (.slice FH GK.length FX))) := ⟨by repeat (first | (with_reducible first | exact HB.1 | apply bQ | apply bA | apply aV | refine aI ?_ (Nat.le_trans HL.out GB115.out) | refine aI ?_ (aD.ge gJ.out) | refine aI ?_ iJ.1 | refine aI ?_ nX.1 | refine aI ?_ QN.1) | exact HB.1)⟩
   (try clear bU)
   (try clear FN)
   (try clear bE)
   (try clear a6)
   (try clear aH)
   (try clear cA)
   (try clear gJ)
   (try clear HK)
   (try clear HB)
   generalize (V8.setCell ⟨xT, (eH : Int).toNat * 3 + 1, none⟩ (.slice FH GK.length FX)) = aWK at n0_ n1_ n2_ n3_ n4_ n5_ n6_ n7_ n8_ ⊢
   have bU := n0_
   have FN := n1_
   have bE := n2_
   have a6 := n3_
   have aH := n4_
   have cA := n5_
   have gJ := n6_
   have HK := n7_
   have HB := n8_
   clear n0_ n1_ n2_ n3_ n4_ n5_ n6_ n7_ n8_
   have aSP := cz2 cA
   have aCW := nZ2 cV cO gX mT
   have zk := cz2 aH
   try go_wp2
   refine cR aZ 31 #[.slice j5 eF.length iX, .slice (some ⟨xT, 0, none⟩) fT.length lA] (qP aH) Try.underlying31 ?_
   refine toN_ ?_
   exact ⟨_, _, eR, mR bU aH, mS bE aH, pH, AN, vZ⟩
  ·replace bU := RD bU
   replace bE := SD bE
   replace a6 := BD a6
   replace aH := BD aH
   replace cA := BD cA
   replace gJ := am (aD.drew gJ.out)
   replace HK := am (jP HK.out)
   replace HB := am (aV HB.1)
   have ZM : 0 ≤ (eH : Int) := oT
   have ZT : eH < (fT.length : Int) := oT
   have HN := am (show Kd.N k56 56 WV.drew w.heap.size (F14 w (.slice j5 eF.length iX) g aT aZ gP) _ fT from Kd.aJ (Kd.S_N (Kd.nP bE.1)) (fun k_ hk => ⟨hk.2.1, hk.1, rq hk.2.2.2 gJ.out, XT hk.2.2.2 a6.1 (by decide), XT hk.2.2.2 aH.1 (by decide), XT hk.2.2.2 cA.1 (by decide)⟩))
   clear bE
   obtain ⟨IH, Nh, Qp, WZ, XV, nx, KV, BU, BV, SL, SJ, SM, SK⟩ := zG (Kd.bL HN.out).2.2 eH ZM ZT
   cases nx
   clear SL SJ SM SK
   obtain ⟨ce_, hce_, hMe_, hcc_⟩ := Kd.Ih HN.out z56 eH ZM ZT
   obtain ⟨ua1, uc1, ua2, uc2, rfl, ul1, ge1, ul2, ge2⟩ := uH hMe_
   have vu := hcc_ 1 _ rfl
   rw [oL _ _ 1 (by omega)] at vu
   replace vu := Option.some.inj (vu.symm.trans BU)
   have vv := hcc_ 2 _ rfl
   rw [oL _ _ 2 (by omega)] at vv
   replace vv := Option.some.inj (vv.symm.trans BV)
   injection vu with vu _ hw1
   injection vv with vv _ hw2
   subst vu; subst hw1; subst vv; subst hw2
   clear hcc_ hce_ ul1 ge1 ul2 ge2
   have FKE := am (show Kd.FK k56 WV.drew (fun k => (F14 w (.slice j5 eF.length iX) g aT aZ gP) k ∧ some k ≠ (.slice (some IH) fT.length lA : Value).ownBlock) (aA fT eH) [.string (aA fT eH).f0, .slice ua1 (aA fT eH).f1.length uc1, .slice ua2 (aA fT eH).f2.length uc2] from hMe_)
   clear hMe_
   replace ZM := eq_true ZM
   replace ZT := eq_true ZT
   refine sT [10] 11 (uA2 cA) (fun hHeld => ?_)
   generalize WV.drew = w83 at bU HN a6 aH cA gJ HK HB FKE KV BU BV hHeld ⊢
   refine pU0 0 (some 103) ?_
   refine pU0 2 (some 105) ?_
   refine pU0 4 (some 107) ?_
   refine tK2_ 1 (some 104) ?_
   refine tK2_ 3 (some 106) ?_
   refine pU0 5 (some 108) ?_
   refine oM 6 (some 109) fun K hK => ?_
   refine yQ (w1 := ?_) (v := ?_) (by rfl) rfl ?_ ?_
   rotate_left 2
   ·go_simp
    constructor
    ·rfl
    ·rfl
   refine nK hK (uA2 cA).1 fun hHeld => ?_
   clear hK K
   refine oM 7 (some 110) fun K hK => ?_
   refine yQ (w1 := ?_) (v := ?_) (by rfl) rfl ?_ ?_
   rotate_left 2
   ·go_simp
    constructor
    ·rfl
    ·rfl
   refine hK.out _ _ ⟨(bC (bM cA.1 _) 0).trans rfl, (bC (bM cA.1 _) 1).trans rfl⟩ (fun hHeld => ?_)
   clear hK K
   refine nM ?_
   refine oM 8 (some 111) fun K hK => ?_
   refine Kd.EX k56 w.heap.size (by rfl) (.tmp 104) (.tmp 110) 29 56 Ag0 64 rfl Try.underlying29 rC rfl (by decide) (by omega) (.slice (some IH) fT.length lA) fT (aA fT eH) [.string (aA fT eH).f0, .slice ua1 (aA fT eH).f1.length uc1, .slice ua2 (aA fT eH).f2.length uc2] (F14 w (.slice j5 eF.length iX) g aT aZ gP) (fun k => (F14 w (.slice j5 eF.length iX) g aT aZ gP) k ∧ some k ≠ (.slice (some IH) fT.length lA : Value).ownBlock) rfl rfl FKE.out (fun _ hk => hk) (fun k_ hk => ⟨Nat.le_trans HK.out.1 hk, Kd.fresh' (Kd.R_lt bU.1) k_ hk, fun e_ => absurd (rf gJ.out) (by omega), Kd.uA a6.1 k_ hk, Kd.uA aH.1 k_ hk, Kd.uA cA.1 k_ hk⟩) HN.out (Below.refl _ _) HK.out.1 (by have := LM.out; omega) ?_
   intro vN Zi ho hb hg hat
   replace bU := am (Kd.sP bU.1 (Kd.lY HN.out) (by decide) hg)
   replace a6 := am (tH a6.1 hg (Kd.N_ne HN.out a6.1 (by decide)))
   replace aH := am (tH aH.1 hg (Kd.N_ne HN.out aH.1 (by decide)))
   replace cA := am (tH cA.1 hg (Kd.N_ne HN.out cA.1 (by decide)))
   replace gJ := am (aD.grown gJ.out hg (aD.Ke gJ.out HN.out (by decide)))
   replace HK := am (aY.trans HK.out (aY.rZ hg g) (Kd.We HN.out))
   replace HN := am ho
   replace HB := am (pM HB.1 HL.out hb)
   clear FKE KV BU BV ho hb hg hat
   generalize hyy : fT ++ [aA fT eH] = yN at HN ⊢
   obtain ⟨Ag, cg, rfl⟩ := Kd.gM HN.out
   refine nK hK (uA2 cA).1 fun hHeld => ?_
   clear hK K
   refine pU0 9 (some 112) ?_
   refine Cm (i := 10) (N := none) (bz 11 2047) rfl rfl (by kernel_rfl) (by decide) (fun K hK => ?_)
   have hs8 : Zi.cell? ⟨gP, 1, none⟩ = some (.slice (some IH) fT.length lA) := (bC cA.1 1).trans rfl
   have qo := eB cA.1 1
   refine uX (w1 := (Zi.setCell ⟨gP, 1, none⟩ (.slice Ag yN.length cg))) (by rfl) rfl ?_ ?_
   ·go_simp
    (try rfl)
   refine hK.out _ _ ?_
   clear hK K
   refine QY (by kernel_rfl) ?_
   clear hs8 qo
   have n0_ := am (Kd.aM (Kd.tF (p := ⟨gP, 1, none⟩) (tR bU cA) (fun _ hk => hk.2) (.slice Ag yN.length cg)) (fun _ hk => hk.1))
   have n1_ := am (Kd.EF (p := ⟨gP, 1, none⟩) HN.out (fun _ hk => hk.2.2.2.2.2) (.slice Ag yN.length cg))
   have n2_ := am (dF (p := ⟨gP, 1, none⟩) a6.1 iW.1 (.slice Ag yN.length cg))
   have n3_ := am (dF (p := ⟨gP, 1, none⟩) aH.1 lK.1 (.slice Ag yN.length cg))
   have n4_ := am (bR (cs := #[.slice j5 eF.length iX, .slice (some IH) fT.length lA]) cA.1 1 (.slice Ag yN.length cg) rfl)
   have n5_ : aC (aD w0 (Zi.setCell ⟨gP, 1, none⟩ (.slice Ag yN.length cg)) g cW qE) := ⟨by refine aD.far ?_ nO.1 _; exact gJ.out⟩
   have n6_ : aC (aY w (Zi.setCell ⟨gP, 1, none⟩ (.slice Ag yN.length cg)) g none) := ⟨by refine jA ?_ QO.out _; exact HK.out⟩
   have n7_ : aC (Below w0.heap.size w0 (Zi.setCell ⟨gP, 1, none⟩ (.slice Ag yN.length cg))) := ⟨by refine aI ?_ QN.1; exact HB.1⟩
   clear bU HN a6 aH cA gJ HK HB
   change aC ((Zi.setCell ⟨gP, 1, none⟩ (.slice Ag yN.length cg)).heap[gP]? = some (.cells #[.slice j5 eF.length iX, .slice Ag yN.length cg] 31 (0, 0))) at n4_
   generalize (Zi.setCell ⟨gP, 1, none⟩ (.slice Ag yN.length cg)) = w93 at n0_ n1_ n2_ n3_ n4_ n5_ n6_ n7_ ⊢
   have bU := n0_
   have HN := n1_
   have a6 := n2_
   have aH := n3_
   have cA := n4_
   have gJ := n5_
   have HK := n6_
   have HB := n7_
   clear n0_ n1_ n2_ n3_ n4_ n5_ n6_ n7_
   have a2C : w93.cell? ⟨gP, 0, none⟩ = some (.slice j5 eF.length iX) := (bC cA.1 0).trans rfl
   have a2M := eB cA.1 0
   have a2D : w93.cell? ⟨gP, 1, none⟩ = some (.slice Ag yN.length cg) := (bC cA.1 1).trans rfl
   have a2N := eB cA.1 1
   have a2A : w93.cell? ⟨aZ, 0, none⟩ = some (.slice none 0 0) := (bC aH.1 0).trans rfl
   have a2K := eB aH.1 0
   have a2B : w93.cell? ⟨aZ, 1, none⟩ = some (.slice none 0 0) := (bC aH.1 1).trans rfl
   have a2L := eB aH.1 1
   have hnbz1 := cV.1
   have hnbz2 := cO.1
   have hnbz3 := gX.1
   have hnbz4 := mT.1
   try go_wp2
   refine cR aZ 31 #[.slice j5 eF.length iX, .slice Ag yN.length cg] (bR (cs := #[.slice j5 eF.length iX, .slice none 0 0]) (bR (cs := #[.slice none 0 0, .slice none 0 0]) aH.1 0 _ rfl) 1 _ rfl) Try.underlying31 ?_
   rw [hyy]
   refine ⟨_, _, rfl, Kd.aM (Kd.qR (fR (fR (tR bU aH)))) (fun _ hk => hk.2.1), Kd.aJ (Kd.EF (p := ⟨aZ, 1, none⟩) (Kd.EF (p := ⟨aZ, 0, none⟩) HN.out (fun _ hk => hk.2.2.2.2.1) (.slice j5 eF.length iX)) (fun _ hk => hk.2.2.2.2.1) (.slice Ag yN.length cg)) (fun _ hk => ⟨hk.1, hk.2.1⟩), ?_, ?_, ?_⟩
   ·refine aD.far ?_ mT.1 _; refine aD.far ?_ mT.1 _; exact gJ.out
   ·exact aI (aI HB.1 nX.1) nX.1
   ·refine jA ?_ m4.out _; refine jA ?_ m4.out _; exact HK.out
  ·go_loopg [8] kj3 (fun kq v8 w' => ∃ (Ul : Int) (wD : List (S56)) (I7 : Value), v8 = .int .i64 Ul ∧ aC (bK.l0 kq (wrap64 (5 + y5)) Ul cW tr eF wD = some (r1, r2, r3)) ∧ aC (kq ≤ kj3) ∧ aC (Kd.R Kd.string 9 w' w.heap.size (fun _ => True) (.slice j5 eF.length iX) eF) ∧ aC (Kd.S k56 56 w' w.heap.size (fun k_ => some k_ ≠ ((.slice j5 eF.length iX) : Value).ownBlock) I7 wD) ∧ aC (w'.heap[aT]? = some (.cells #[(.slice xC fK.length yE), (.slice wP jJ.length wM)] 31 (0, 0))) ∧ aC (w'.heap[aZ]? = some (.cells #[(.slice none 0 0), (.slice none 0 0)] 31 (0, 0))) ∧ aC (w'.heap[gP]? = some (.cells #[(.slice j5 eF.length iX), I7] 31 (0, 0))) ∧ aC (aD w0 w' g cW tr) ∧ aC (aY w w' g none) ∧ aC (Below w0.heap.size w0 w'))
   case atStart => exact ⟨(0), (fT), (.slice UM fT.length lA), dM, H', ⟨Nat.le_refl _⟩, ⟨rR bU.1⟩, ⟨rS bE.1⟩, ⟨rB a6.1⟩, ⟨rB aH.1⟩, ⟨rB cA.1⟩, ⟨pH⟩, ⟨vZ⟩, ⟨AN⟩⟩
   case round =>
    clear H'
    try clear c71
    try clear a0T
    try clear a0U
    try clear mo
    try clear Qw
    try clear cv
    try clear aDJ
    try clear ma
    try clear mb
    try clear aD0
    obtain ⟨Ul, wD, I7, rfl, HA, HK2, bU, bE, a6, aH, cA, gJ, HK, HB⟩ := hrel
    cases gk with
    | zero => exact absurd HA.out (by simp [bK.l0])
    | succ k2 =>
     have H := HA.out
     clear HA
     simp only [bK.l0] at H
     refine ic H ?_ ?_ <;> clear H <;> intro aDS H
     ·obtain ⟨Cy, gi, H⟩ := bd H
      by_cases RP : 1 + Cy.size ≤ 9223372036854775807
      ·rw [if_pos RP] at H
       have mc := eq_true RP
       have mf : decide (1 + Cy.size ≤ 9223372036854775807) = true := decide_eq_true RP
       try have mg : (9223372036854775807 < 1 + Cy.size) = False := eq_false (Nat.not_lt.2 RP)
       obtain ⟨jo, H⟩ := cL H
       obtain ⟨Gr, At⟩ := yv (wD ++ [(⟨(⟨#[122]⟩ : ByteArray) ++ Cy, ([] : List ByteArray), ([] : List ByteArray)⟩ : S56)]); first | replace H := bW At H | rw [← At.1] at H
       have H' := am H
       repeat clear H
       have aSS := nZ3 kS iW qD lK jK nO
       have aST := cz2 cA
       obtain ⟨Nl, Qy, a1G⟩ := Kd.BR bE.1
       subst a1G
       try go_wp2
       replace bU := RD bU
       replace bE := SD bE
       replace a6 := BD a6
       replace aH := BD aH
       replace cA := BD cA
       replace gJ := am (aD.drew gJ.out)
       replace HK := am (jP HK.out)
       replace HB := am (aV HB.1)
       refine sT [9] 10 (uA2 cA) (fun hHeld => ?_)
       refine eO bK.a4N bK.lc (fun HT_ HW_ => ?_)
       generalize wr.drew = aWO at bU bE a6 aH cA gJ HK HB hHeld ⊢
       refine pU2 0 2 ?_
       refine tK2 1 (some 47) ?_
       refine oN 3 (some 49) fun K hK => ?_
       refine gQ Try.func131 (DV.calls Ul Cy _ gi.out) ?_
       rintro aWP hb
       replace bU := RB tL hb
       replace bE := SB GA hb
       replace a6 := bB aW hb
       replace aH := bB cB hb
       replace cA := bB uT hb
       replace HK := kU w g vZ hb
       replace HB := bS AN hb
       replace gJ := am (aD.below pH hb)
       clear hb
       refine nK hK (uA2 cA).1 fun hHeld => ?_
       clear hK K
       refine pU2 4 5 ?_
       refine oN 6 (some 52) fun K hK => ?_
       refine yQ (w1 := ?_) (v := ?_) (by rfl) rfl ?_ ?_
       rotate_left 2
       ·go_simp
        constructor
        ·rfl
        ·rfl
       refine hK.out _ _ ⟨(bC (bM cA.1 _) 0).trans rfl, (bC (bM cA.1 _) 1).trans rfl⟩ (fun hHeld => ?_)
       clear hK K
       refine nM ?_
       refine oN 7 (some 53) fun K hK => ?_
       refine Kd.zY k56 w.heap.size (by rfl) (.tmp 47) (.tmp 52) 29 56 Ag0 64 rfl Try.underlying29 rC rfl (by decide) (by omega) (.slice Nl wD.length Qy) wD (⟨(⟨#[122]⟩ : ByteArray) ++ Cy, ([] : List ByteArray), ([] : List ByteArray)⟩ : S56) [.string ((⟨#[122]⟩ : ByteArray) ++ Cy), .slice none 0 0, .slice none 0 0] (fun k_ => some k_ ≠ (.slice j5 eF.length iX : Value).ownBlock) (fun _ => False) rfl rfl ?aP (fun k_ hk_ => hk_.elim) ?aF ?aO (Below.refl _ _) ?aS ?aL ?_
       (case aP => exact BX _ _ _ (⟨(⟨#[122]⟩ : ByteArray) ++ Cy, ([] : List ByteArray), ([] : List ByteArray)⟩ : S56) (Kd.uE _ _ _ _ _) (Kd.uE _ _ _ _ _))
       (case aF => exact (fun k_ hk => Kd.fresh' (Kd.R_lt tL) k_ hk))
       (case aO => exact (by refine rS ?_; exact Kd.nD bE.1 (fun k_ hk => ⟨hk, fun e_ => e_⟩)))
       (case aS => exact (kz w g vZ))
       (case aL => have := jo.out; omega)
       intro Mt aHE ho hb hg hat
       rw [← At.out] at ho
       replace bU := am (Kd.sP tL (Kd.wZ GA) (by decide) hg)
       replace a6 := gkS aW hg bE a6
       replace aH := gkS cB hg bE aH
       replace cA := gkS uT hg bE cA
       replace HB := am (pM AN HL.out hb)
       replace gJ := am (aD.grown pH hg (aD.BZ gJ.out bE.1 (by decide)))
       replace HK := am (aY.trans vZ (aY.rZ hg g) (Kd.Wl bE.1))
       have lF := am ho
       clear bE
       clear ho hb hg hat
       obtain ⟨wm, a11, dp⟩ := Kd.BR lF.1
       (first | subst dp | (obtain ⟨f4_, f5_⟩ := sj dp; subst f4_; subst f5_))
       refine nK hK (uA2 cA).1 fun hHeld => ?_
       clear hK K
       refine pU1 8 ?_
       refine lN 9 none fun K hK => ?_
       have aOV : aHE.cell? ⟨gP, 1, none⟩ = some (.slice Nl wD.length Qy) := (bC cA.1 1).trans rfl
       have aFE := eB cA.1 1
       have a3F := iW.1
       have a3G := lK.1
       have a2Z := kS.1
       have a3A := qD.1
       refine uX (w1 := ?_) (by rfl) rfl ?_ ?_
       rotate_left
       ·go_simp
        rfl
       refine hK.out _ _ ?_
       clear hK K
       refine dN ?_
       try go_wp2
       go_roundg k2
       case measure => have := HJ3.out; have := HK2.out; omega
       case rel => exact ⟨(wrap64 (Ul + 1)), (Gr), (.slice wm Gr.length a11), dM, H', ⟨by have := HJ3.out; have := HK2.out; omega⟩, ⟨mR bU cA⟩, ⟨mS lF cA⟩, ⟨qF a6 iW⟩, ⟨qF aH lK⟩, ⟨by refine rB ?_; refine bR (cs := #[.slice j5 eF.length iX, .slice Nl wD.length Qy]) ?_ 1 _ rfl; refine rB ?_; exact cA.1⟩, ⟨pH⟩, ⟨vZ⟩, ⟨AN⟩⟩
      ·rw [if_neg RP] at H
       exact absurd H (by simp)
     ·obtain ⟨rfl, rfl, rfl⟩ := sZ3 H
      repeat clear H
      have aSU := nZ3 kS iW qD lK jK nO
      have aSV := cz2 cA
      obtain ⟨wn, a13, a1H⟩ := Kd.BR bE.1
      subst a1H
      have aSW := nZ2 cV cO gX mT
      have aSX := cz2 aH
      go_wp2
      refine cR aZ 31 #[.slice j5 eF.length iX, .slice wn wD.length a13] (qP aH) Try.underlying31 ?_
      refine toN_ ?_
      exact ⟨_, _, eR, mR bU aH, mS bE aH, pH, AN, vZ⟩
end Go.Proofs.Ytaofjgnhapnndaa.Q
namespace Go.Proofs.Ytaofjgnhapnndaa.Q
open Go.RowKit Go.Proofs.YtaofjgnhapnndaaW.PrintWords Go.Proofs.YtaofjgnhapnndaaW.PrintLast Go.Proofs.YtaofjgnhapnndaaW.PrintMore
set_option linter.unusedVariables false
set_option linter.unusedSimpArgs false
def uB.f (k : Nat) (cW : List Int) (gW : Int) : Option (List ByteArray × (List (S56)) × Int) := (kF.f k cW gW).bind fun a => ((bN.f k cW a.2.2 20).bind fun b => (if b.1 = 0 then ((bK.f k cW b.2 a.1 a.2.1).bind fun c => (some (c.1, c.2.1, c.2.2))) else (some (a.1, a.2.1, b.2))))
theorem uB.calls (k : Nat) (g : Nat) (cW : List Int) (gW : Int) (r1 : List ByteArray) (r2 : List (S56)) (r3 : Int) (w0 w : World) (hI : aD w0 w g cW gW) (hB : Below w0.heap.size w0 w) (h : uB.f k cW gW = some (r1, r2, r3)) :
  Calls Try.prog 98 #[.pointer (some ⟨g, 0, none⟩)] w fun e w' => ∃ v0_ v1_ : Value, e = .returned (.agg #[v0_, v1_]) ∧ Kd.R Kd.string 9 w' w.heap.size (fun k_ => (w.heap.size ≤ k_)) v0_ r1 ∧ Kd.N k56 56 w' w.heap.size (F10 w v0_) v1_ r2 ∧ aD w0 w' g cW r3 ∧ Below w0.heap.size w0 w' ∧ aY w w' g none := by
 have hu31 := Try.underlying31
 have gJ := am hI
 have HK := am (aY.refl w g none)
 have HL := am hB.size
 clear hI
 have HW0 := am hB.size
 have HB := am hB
 clear hB
 unfold uB.f at h
 have H := h
 clear h
 obtain ⟨⟨lD, oH, lJ⟩, A2, H⟩ := bd H
 dsimp only at H
 obtain ⟨⟨xJ, dJ⟩, A3, H⟩ := bd H
 dsimp only at H
 refine iq H ?_ ?_ <;> clear H <;> intro c4 yF Le H
 obtain ⟨⟨iI, m0, qZ⟩, A5, H⟩ := bd H
 dsimp only at H
 obtain ⟨rfl, rfl, rfl⟩ := sZ3 H
 repeat clear H
 have Ia := trivial
 rotate_left
 obtain ⟨rfl, rfl, rfl⟩ := sZ3 H
 repeat clear H
 have ap := trivial
 rotate_left
 all_goals
  go_enter Try.func98, Try.ntmps98
  go_wp2_with (first | ((with_reducible refine gD 2 ?_); refine bX 2 #[.slice none 0 0, .slice none 0 0] 31 ?_; intro aT hg aQO hbox hb; replace HB := bS E5 hb; have a6 := am hbox; have g5 := am (V0 : w.heap.size ≤ aT); have iJ := am (Nat.le_trans HW0.out (V0 : w.heap.size ≤ aT) : w0.heap.size ≤ aT); replace HK := kU w g wJ hb; have l7 := am (by rw [hg]; exact Nat.ne_of_lt (aD.lt (show aD w0 _ g cW gW from oF)) : g ≠ aT); have fJ := am (by rw [hg]; exact Nat.ne_of_gt (aD.lt (show aD w0 _ g cW gW from oF)) : aT ≠ g); replace gJ := am (aD.below oF hb); clear hb hbox hg) | ((with_reducible refine gC 119 ?_); refine cE (some 5) Try.func119 (kF.calls k g cW gW lD oH lJ w0 _ (F8) (ZP) A2.out) ?_; rintro e aQP ⟨Ab, Ty, rfl, f3, lL, hi, hb, hk⟩; refine ⟨_, rfl, ?_⟩; have lM := am (Kd.d9 (Kd.jQ (M := fun k_ => (w.heap.size ≤ k_)) (Kd.aM (ok' := fun k_ => True) f3 (fun _ hk_ => trivial)) (kz w g Q8) (fun k_ h_ => h_)) (kz w g Q8)); have j6 := am (Kd.jD (Kd.aJ (ok' := F12 w Ab aT g) lL (fun k_ hk_ => ⟨(Nat.le_trans (kz w g Q8) hk_.1), hk_.2, (fB aW k_ hk_.1), (aD.fresh F8 k_ hk_.1)⟩)) (kz w g Q8)); replace a6 := kb aW hk fJ; replace HK := kT w g Q8 hk; replace HB := am hb; replace gJ := am hi; clear hb hk hi f3 lL) | ((with_reducible refine gD 3 ?_); refine bX 3 #[.slice none 0 0, .slice none 0 0] 31 ?_; intro gP hg aQQ hbox hb; replace lM := RB RC hb; replace j6 := am (Kd.dQ (Kd.iO (rN j6.1) gP (Nat.le_of_eq hg.symm)) hb); replace HB := bS ZP hb; have cA := am hbox; have QO := am (UZ : w.heap.size ≤ gP); have QN := am (Nat.le_trans HW0.out (UZ : w.heap.size ≤ gP) : w0.heap.size ≤ gP); replace HK := kU w g Q8 hb; have iW := nL aW hg; have kS := nG aW hg; replace a6 := bB aW hb; have nO := am (by rw [hg]; exact Nat.ne_of_lt (aD.lt (show aD w0 _ g cW lJ from F8)) : g ≠ gP); have jK := am (by rw [hg]; exact Nat.ne_of_gt (aD.lt (show aD w0 _ g cW lJ from F8)) : gP ≠ g); replace gJ := am (aD.below F8 hb); clear hb hbox hg; obtain ⟨J2, JI, pn⟩ := Kd.bP lM.1; subst pn; have aKH := nZ2 kS iW jK nO; have aKI := cz2 cA; obtain ⟨X4, Y3, po⟩ := Kd.gM j6.1; subst po) | ((with_reducible refine gC 100 ?_); revert Ia; intro Ia; refine cQ (some 7) Try.func100 (bN.calls k g cW lJ 20 xJ dJ w0 _ (AZ) (MR) A3.out) ?_; rintro aQR ⟨hi, hb, hk⟩; replace a6 := am (aY.blk hk (g' := aT) (o := .cells #[.slice none 0 0, .slice none 0 0] 31 (0, 0)) Td fJ.1 (by simp)); replace lM := am (Kd.aM (Kd.lQ (aD.apart (show aD w0 _ g cW lJ from AZ) (by refine rR ?_; exact (Kd.aM (fR (fR (tR lM cA))) (fun _ h_ => h_.1))) (by decide)) hk (fun _ h => h.2)) (fun _ h => h.1)); replace j6 := am (Kd.aJ (Kd.CF (Kd.aJ (ok := fun k_ => ((((w.heap.size ≤ k_)) ∧ (some k_ ≠ (.slice J2 lD.length JI : Value).ownBlock ∧ (k_ ≠ aT ∧ k_ ≠ g))) ∧ k_ ≠ gP)) (by refine rN ?_; exact (Kd.aJ (fN (fN (Kd.aJ j6.1 (fun k_ hk => (⟨hk, hk.2⟩ : _ ∧ k_ ≠ gP))))) (fun _ h_ => h_.1))) (fun k_ hk_ => (⟨hk_, hk_.1.2.2.2⟩ : _ ∧ k_ ≠ g))) hk (fun _ h => h.2)) (fun _ h => h.1)); replace cA := am (aY.blk hk (g' := gP) (o := .cells #[.slice J2 lD.length JI, .slice X4 oH.length Y3] 31 (0, 0)) (qP cA) jK.1 (by simp)); replace HK := kT w g yL hk; replace HB := am hb; replace gJ := am hi; clear hb hk hi; have aKJ := cz2 cA) | ((with_reducible refine gC 120 ?_); revert Ia; intro Ia; refine cE (some 11) Try.func120 (bK.calls k g cW dJ _ _ lD _ _ oH iI m0 qZ w0 _ (AZ) (MR) (pC (Kd.aU lM.1).2.2) ((Kd.aU lM.1).2.1) (mM (aD.own_ne gJ.out lM.1 (by decide))) (Kd.J3 (base := 0) (Kd.N_V (Kd.aJ (ok := fun k_ => ((((w.heap.size ≤ k_)) ∧ (some k_ ≠ (.slice J2 lD.length JI : Value).ownBlock ∧ (k_ ≠ aT ∧ k_ ≠ g))) ∧ k_ ≠ gP)) (rN j6.1) (fun k_ hk_ => (⟨hk_, hk_.1.2.2.2⟩ : _ ∧ k_ ≠ g)))) (fun _ h_ => h_.2)) ((Kd.bL j6.1).2.1) A5.out) ?_; rintro e aQT ⟨IA, V7, rfl, f3, lL, hi, hb, hk⟩; refine ⟨_, rfl, ?_⟩; have iM := am (Kd.d9 (Kd.fA (Kd.jQ (M := fun k_ => (w.heap.size ≤ k_)) (Kd.aM (ok' := fun k_ => True) f3 (fun _ hk_ => trivial)) (kz w g yL) (fun k_ h_ => h_)) (Kd.R_lt RC)) (kz w g yL)); have iN := am (Kd.jD (Kd.aJ (ok' := F33 w IA (.slice J2 lD.length JI) (.slice X4 oH.length Y3) aT gP g) lL (fun k_ hk_ => ⟨(Nat.le_trans (kz w g yL) hk_.1), hk_.2, (Kd.fresh' (Kd.R_lt RC) k_ hk_.1), (Kd.fresh' (Kd.N_lt (rN j6.1)) k_ hk_.1), (fB aW k_ hk_.1), (fB uT k_ hk_.1), (aD.fresh AZ k_ hk_.1)⟩)) (kz w g yL)); replace a6 := kb aW hk fJ; replace lM := am (Kd.aM (Kd.CL (Kd.CK (aD.apart (show aD w0 _ g cW dJ from AZ) RC (by decide)) hk) (Kd.bZ f3)) (fun _ h_ => h_.1)); replace j6 := am (Kd.aJ (Kd.iP (Kd.iP (Kd.PS (Kd.aJ (ok := fun k_ => ((((w.heap.size ≤ k_)) ∧ (some k_ ≠ (.slice J2 lD.length JI : Value).ownBlock ∧ (k_ ≠ aT ∧ k_ ≠ g))) ∧ k_ ≠ gP)) (rN j6.1) (fun k_ hk_ => (⟨hk_, hk_.1.2.2.2⟩ : _ ∧ k_ ≠ g))) hk) (Kd.bZ f3)) (Kd.xG lL)) (fun _ h_ => h_.1)); replace cA := kb uT hk jK; replace HK := kT w g yL hk; replace HB := am hb; replace gJ := am hi; clear hb hk hi f3 lL; obtain ⟨ii, nh, pp⟩ := Kd.bP iM.1; subst pp; have aKK := nZ1 fJ l7; have aKL := cz2 a6; obtain ⟨ij, nk, pq⟩ := Kd.gM iN.1; subst pq) | ((with_reducible refine gC 100 ?_); revert ap; intro ap; refine cQ (some 7) Try.func100 (bN.calls k g cW lJ 20 xJ dJ w0 _ (AZ) (MR) A3.out) ?_; rintro aQU ⟨hi, hb, hk⟩; replace a6 := am (aY.blk hk (g' := aT) (o := .cells #[.slice none 0 0, .slice none 0 0] 31 (0, 0)) Td fJ.1 (by simp)); replace lM := am (Kd.aM (Kd.lQ (aD.apart (show aD w0 _ g cW lJ from AZ) (by refine rR ?_; exact (Kd.aM (fR (fR (tR lM cA))) (fun _ h_ => h_.1))) (by decide)) hk (fun _ h => h.2)) (fun _ h => h.1)); replace j6 := am (Kd.aJ (Kd.CF (Kd.aJ (ok := fun k_ => ((((w.heap.size ≤ k_)) ∧ (some k_ ≠ (.slice J2 lD.length JI : Value).ownBlock ∧ (k_ ≠ aT ∧ k_ ≠ g))) ∧ k_ ≠ gP)) (by refine rN ?_; exact (Kd.aJ (fN (fN (Kd.aJ j6.1 (fun k_ hk => (⟨hk, hk.2⟩ : _ ∧ k_ ≠ gP))))) (fun _ h_ => h_.1))) (fun k_ hk_ => (⟨hk_, hk_.1.2.2.2⟩ : _ ∧ k_ ≠ g))) hk (fun _ h => h.2)) (fun _ h => h.1)); replace cA := am (aY.blk hk (g' := gP) (o := .cells #[.slice J2 lD.length JI, .slice X4 oH.length Y3] 31 (0, 0)) (qP cA) jK.1 (by simp)); replace HK := kT w g yL hk; replace HB := am hb; replace gJ := am hi; clear hb hk hi; have aKM := cz2 cA; have aKN := nZ1 fJ l7; have aKO := cz2 a6))
 ·refine cR aT 31 #[.slice ii iI.length nh, .slice ij m0.length nk] (qP a6) Try.underlying31 ?_
  exact ⟨_, _, eR, mR iM a6, by refine rN ?_; exact Kd.aJ (fN (fN (Kd.aJ iN.1 (fun k_ hk => (⟨hk, hk.2.2.2.2.1⟩ : _ ∧ k_ ≠ aT))))) (fun _ hk => ⟨hk.1.1, hk.1.2.1⟩), AZ, MR, yL⟩
 refine cR aT 31 #[.slice J2 lD.length JI, .slice X4 oH.length Y3] (qP a6) Try.underlying31 ?_
 exact ⟨_, _, eR, mR lM a6, by refine rN ?_; exact Kd.aJ (fN (fN (Kd.aJ j6.1 (fun k_ hk => (⟨hk, hk.1.2.2.1⟩ : _ ∧ k_ ≠ aT))))) (fun _ hk => ⟨hk.1.1.1, hk.1.1.2.1⟩), AZ, MR, yL⟩
def kE.f (k : Nat) (l0 : List Int) : Option (List ByteArray × (List (S56)) × ByteArray × List ByteArray) := (sF.f l0).bind fun b => ((uB.f k b.1 b.2).bind fun a => ((bO.f k b.1 a.2.2 a.1 a.2.1).bind fun c => (some (a.1, a.2.1, c.2.1, c.2.2.1))))
def kE.T4 : Bool × List (List Nat × List Nat) := (true, [([], []), ([], []), ([1], [1]), ([], []), ([3], [3]), ([0, 0], [0]), ([2, 5, 0, 1, 2, 5], [2]), ([4, 6, 0, 1, 2, 3, 4, 5, 6], [4])])
def kE.B4 : List Nat := [0, 0, 2, 0, 8, 1, 39, 127]
theorem kE.tab4 : rtab .any (opsOf Try.f102 4) = kE.T4 := by kernel_rfl
theorem kE.WC : kP kE.T4.2 kE.B4 = true := by kernel_rfl
theorem kE.calls (k : Nat) (A0 : Option Addr) (c0 : Nat) (l0 : List Int) (r1 : List ByteArray) (r2 : List (S56)) (r3 : ByteArray) (r4 : List ByteArray) (w : World) (sJ : Kd.C (Kd.int .u8) w A0 l0.length l0) (yR : l0.length ≤ c0) (h : kE.f k l0 = some (r1, r2, r3, r4)) :
  Calls Try.prog 102 #[.slice A0 l0.length c0] w fun e w' => ∃ v0_ v1_ v3_ : Value, e = .returned (.tuple #[.agg #[v0_, v1_], .string r3, v3_]) ∧ Kd.R Kd.string 9 w' w.heap.size (F10 w v3_) v0_ r1 ∧ Kd.N k56 56 w' w.heap.size (F20 w v0_ v3_) v1_ r2 ∧ Kd.R Kd.string 9 w' w.heap.size (F10 w v0_) v3_ r4 ∧ Below w.heap.size w w' := by
 have hu31 := Try.underlying31
 have hu106 := Try.underlying106
 obtain ⟨tO, QP⟩ := mZ2 sJ yR
 clear sJ yR
 have HB := am (Below.refl w.heap.size w)
 unfold kE.f at h
 have H := h
 clear h
 obtain ⟨⟨lD, eF⟩, A2, H⟩ := bd H
 dsimp only at H
 obtain ⟨⟨oH, lJ, dJ⟩, A3, H⟩ := bd H
 dsimp only at H
 obtain ⟨⟨E7, JX, m0, qZ⟩, A4, H⟩ := bd H
 dsimp only at H
 simp only [Option.some.injEq, Prod.mk.injEq] at H
 obtain ⟨rfl, rfl, rfl, rfl⟩ := H
 go_enter Try.func102, Try.ntmps102
 try go_wp2_with (first | ((with_reducible refine gD 2 ?_); refine bX 2 #[.slice none 0 0, .slice none 0 0] 31 ?_; intro aT hg w5 hbox hb; have a6 := am hbox; have g5 := am (oS : w.heap.size ≤ aT); have iJ := g5; replace HB := bS eG hb; clear hb hbox hg) | ((with_reducible refine gC 97 ?_); refine cE (some 9) Try.func97 (sF.calls _ _ l0 lD eF w _ (eE) tO.1 QP.1 A2.out) ?_; rintro e w6 ⟨g104, rfl, hi, hb, hb2⟩; refine ⟨_, rfl, ?_⟩; replace HB := am hb; have m5 := am hi; have C3 := am (aD.ZJ hi (bH (g := aT) (o := .cells #[.slice none 0 0, .slice none 0 0] 31 (0, 0)) aW hb2) (by decide)); have mI := am (Ne.symm (aD.ZJ hi (bH (g := aT) (o := .cells #[.slice none 0 0, .slice none 0 0] 31 (0, 0)) aW hb2) (by decide))); replace a6 := am (bH (g := aT) (o := .cells #[.slice none 0 0, .slice none 0 0] 31 (0, 0)) aW hb2); clear hb hb2 hi) | ((with_reducible refine gC 98 ?_); refine cE (some 11) Try.func98 (uB.calls k g104 lD eF oH lJ dJ w _ (V1) (RS) A3.out) ?_; rintro e w7 ⟨Ty, Zd, rfl, f3, lL, hi, hb, hk⟩; refine ⟨_, rfl, ?_⟩; have j6 := am (Kd.d9 (Kd.jQ (M := fun k_ => (w.heap.size ≤ k_)) (Kd.aM (ok' := fun k_ => True) f3 (fun _ hk_ => trivial)) (aG RS) (fun k_ h_ => h_)) (aG RS)); have gZ := am (Kd.jD (Kd.aJ (ok' := fun k_ => (w.heap.size ≤ k_) ∧ some k_ ≠ (Ty : Value).ownBlock ∧ k_ ≠ aT ∧ k_ ≠ g104) lL (fun k_ hk_ => ⟨(Nat.le_trans (aG RS) hk_.1), hk_.2, (fB aW k_ hk_.1), (aD.fresh V1 k_ hk_.1)⟩)) (aG RS)); replace a6 := kb aW hk mI; replace HB := am hb; replace m5 := am hi; clear hb hk hi f3 lL) | ((with_reducible refine gD 6 ?_); refine bX 6 #[.slice none 0 0, .slice none 0 0] 31 ?_; intro vL hg w8 hbox hb; replace j6 := RB EJ hb; replace gZ := am (Kd.dQ (Kd.iO LZ vL (Nat.le_of_eq hg.symm)) hb); have m3 := am hbox; have Oa := am (a3W : w.heap.size ≤ vL); have Nx := Oa; replace HB := bS RS hb; have sX := nL aW hg; have k6 := nG aW hg; replace a6 := bB aW hb; have FP := am (by rw [hg]; exact Nat.ne_of_lt (aD.lt (show aD w _ g104 lD dJ from V1)) : g104 ≠ vL); have vV := am (by rw [hg]; exact Nat.ne_of_gt (aD.lt (show aD w _ g104 lD dJ from V1)) : vL ≠ g104); replace m5 := am (aD.below V1 hb); clear hb hbox hg; obtain ⟨Vc, Ur, eo9⟩ := Kd.bP j6.1; subst eo9; have Z10 := nZ2 k6 sX vV FP; have bv := cz2 m3; obtain ⟨Ko, Lh, ny⟩ := Kd.gM gZ.1; subst ny) | ((with_reducible refine lG (f := 121) rfl ?_); refine wO (some 14) rfl rfl Try.func121 (by kernel_rfl) rfl #[.pointer (some ⟨g104, 0, none⟩), .agg #[.slice Vc oH.length Ur, .slice Ko lJ.length Lh]] rfl xV ?_; (with_reducible refine (bO.calls k g104 lD dJ _ _ oH _ _ lJ E7 JX m0 qZ w _ ?side1 ?side2 ?side3 ?side4 ?side5 ?side6 ?side7 A4.out).mono ?_); (case side1 => exact zQ); (case side2 => exact AO); (case side3 => refine (Kd.aU (e := 9) (base := w.heap.size) (ok := fun k_ => (w.heap.size ≤ k_)) (n := oH.length) (c := Ur) ?_).2.2; exact (by refine rR ?_; exact Kd.aM (fR (fR (tR j6 m3))) (fun _ hk => hk.1.1))); (case side4 => exact (Kd.aU j6.1).2.1); (case side5 => exact mM (aD.own_ne m5.out j6.1 (by decide))); (case side6 => exact Kd.J3 (base := 0) (Kd.N_V (Kd.aJ (ok := fun k_ => ((((w.heap.size ≤ k_)) ∧ (some k_ ≠ (.slice Vc oH.length Ur : Value).ownBlock ∧ (k_ ≠ aT ∧ k_ ≠ g104))) ∧ k_ ≠ vL)) (by refine rN ?_; exact (Kd.aJ (fN (fN (Kd.aJ gZ.1 (fun k_ hk => (⟨hk, hk.2⟩ : _ ∧ k_ ≠ vL))))) (fun _ h_ => h_.1))) (fun k_ hk_ => (⟨hk_, hk_.1.2.2.2⟩ : _ ∧ k_ ≠ g104)))) (fun _ h_ => h_.2)); (case side7 => exact (Kd.bL gZ.1).2.1); rintro e vx ⟨V7, rfl, f3, hi, hb, hk⟩; refine ⟨_, rfl, ?_⟩; replace a6 := am (aY.blk hk (g' := aT) (o := .cells #[.slice none 0 0, .slice none 0 0] 31 (0, 0)) a3S mI.1 (by simp)); replace gZ := am (Kd.aJ (Kd.iP (Kd.PS (Kd.aJ (ok := fun k_ => ((((w.heap.size ≤ k_)) ∧ (some k_ ≠ (.slice Vc oH.length Ur : Value).ownBlock ∧ (k_ ≠ aT ∧ k_ ≠ g104))) ∧ k_ ≠ vL)) (by refine rN ?_; exact (Kd.aJ (fN (fN (Kd.aJ gZ.1 (fun k_ hk => (⟨hk, hk.2⟩ : _ ∧ k_ ≠ vL))))) (fun _ h_ => h_.1))) (fun k_ hk_ => (⟨hk_, hk_.1.2.2.2⟩ : _ ∧ k_ ≠ g104))) hk) (Kd.bZ f3)) (fun _ h_ => h_.1)); have iN := am (Kd.d9 (Kd.fA (Kd.jQ (M := fun k_ => (w.heap.size ≤ k_)) f3 (aG AO) (fun k_ h_ => h_)) (Kd.R_lt (by refine rR ?_; exact (Kd.aM (fR (fR (tR j6 m3))) (fun _ h_ => h_.1))))) (aG AO)); replace j6 := am (Kd.aM (Kd.CL (Kd.CK (aD.apart (show aD w _ g104 lD dJ from zQ) (by refine rR ?_; exact (Kd.aM (fR (fR (tR j6 m3))) (fun _ h_ => h_.1))) (by decide)) hk) (Kd.bZ f3)) (fun _ h_ => h_.1)); replace m3 := am (aY.blk hk (g' := vL) (o := .cells #[.slice Vc oH.length Ur, .slice Ko lJ.length Lh] 31 (0, 0)) (qP m3) vV.1 (by simp)); replace HB := am hb; replace m5 := am hi; clear hb hk hi f3) | ((with_reducible refine gD 7 ?_); refine bX 7 #[.int .i64 0, .string (⟨#[]⟩ : ByteArray), .slice none 0 0] 106 ?_; intro rW hg w15 hbox hb; replace j6 := RB EJ hb; replace gZ := am (Kd.dQ (Kd.iO LZ rW (Nat.le_of_eq hg.symm)) hb); replace iN := am (Kd.fP (rR iN.1) hb); have mH := am hbox; have Ob := am (by rw [hg]; exact (aG AO) : w.heap.size ≤ rW); have An := Ob; replace HB := bS AO hb; have K8 := nL aW hg; have vW := nG aW hg; replace a6 := bB aW hb; have VP := nL JP hg; have Kv := nG JP hg; replace m3 := bB JP hb; have VN := am (by rw [hg]; exact Nat.ne_of_lt (aD.lt (show aD w _ g104 lD qZ from zQ)) : g104 ≠ rW); have Ku := am (by rw [hg]; exact Nat.ne_of_gt (aD.lt (show aD w _ g104 lD qZ from zQ)) : rW ≠ g104); replace m5 := am (aD.below zQ hb); clear hb hbox hg; have Z16 := nZ3 vW K8 Kv VP Ku VN; have uo := cz3 mH; obtain ⟨xE, nY, Y7⟩ := Kd.bP iN.1; subst Y7))
 obtain ⟨Uw, eW_⟩ := eW3 w15 rW (.int .i64 E7) (.string JX) (.slice xE m0.length nY)
 rw [← eW_]
 replace j6 : aC (Kd.R Kd.string 9 Uw w.heap.size (F10 w (.slice xE m0.length nY)) (.slice Vc oH.length Ur) oH) := by rw [eW_]; exact ⟨by refine rR ?_; exact Kd.aM (fR (fR (fR (tR j6 mH)))) (fun _ hk => ⟨hk.1.1.1, hk.1.2⟩)⟩
 replace gZ : aC (Kd.N k56 56 Uw w.heap.size (fun k_ => (w.heap.size ≤ k_) ∧ some k_ ≠ (.slice Vc oH.length Ur : Value).ownBlock ∧ some k_ ≠ (.slice xE m0.length nY : Value).ownBlock ∧ k_ ≠ aT ∧ k_ ≠ g104 ∧ k_ ≠ vL ∧ k_ ≠ rW) (.slice Ko lJ.length Lh) lJ) := by rw [eW_]; exact ⟨by refine rN ?_; exact Kd.aJ (fN (fN (fN (Kd.aJ gZ.1 (fun k_ hk => (⟨hk, hk.2⟩ : _ ∧ k_ ≠ rW)))))) (fun _ hk => ⟨hk.1.1.1.1.1, ⟨hk.1.1.1.1.2.1, ⟨hk.1.1.2, ⟨hk.1.1.1.1.2.2.1, ⟨hk.1.1.1.1.2.2.2, ⟨hk.1.1.1.2, hk.1.2⟩⟩⟩⟩⟩⟩)⟩
 replace iN : aC (Kd.R Kd.string 9 Uw w.heap.size (F10 w (.slice Vc oH.length Ur)) (.slice xE m0.length nY) m0) := by rw [eW_]; exact ⟨by refine rR ?_; exact Kd.aM (fR (fR (fR (tR iN mH)))) (fun _ hk => ⟨hk.1.1.1, hk.1.2⟩)⟩
 replace a6 := uF3 eW_ a6 K8
 replace m3 := uF3 eW_ m3 VP
 replace mH := uP3 eW_ mH
 replace m5 : aC (aD w Uw g104 lD qZ) := by rw [eW_]; exact ⟨by repeat (first | (with_reducible first | exact m5.out | apply aD.alloc | apply aD.drewN | apply aD.drew | apply aD.GG | refine aD.far ?_ C3.1 _ | refine aD.far ?_ FP.1 _ | refine aD.far ?_ VN.1 _) | exact m5.out)⟩
 replace HB := uC3 eW_ HB An
 clear eW_
 replace j6 := RD j6
 replace gZ := ND gZ
 replace iN := RD iN
 replace a6 := BD a6
 replace m3 := BD m3
 replace mH := BD mH
 replace m5 := am (aD.drew m5.out)
 replace HB := am (aV HB.1)
 refine sT [] 8 (uB2 m3 (uA3 mH)) (fun hHeld => ?_)
 refine eO kE.tab4 kE.WC (fun HT_ HW_ => ?_)
 generalize Uw.drew = Ux at j6 gZ iN a6 m3 mH m5 HB hHeld ⊢
 refine pU2 1 3 ?_
 refine tK5 0 (some 15) ?_
 refine tK5 2 (some 17) ?_
 refine tK5 4 (some 19) ?_
 refine oN 5 none fun K hK => ?_
 have aUQ : Ux.cell? ⟨aT, 0, none⟩ = some (.slice none 0 0) := (bC a6.1 0).trans rfl
 have aMK := eB a6.1 0
 have aAE := k6.1
 have aAF := vW.1
 have a8W := sX.1
 have a8X := K8.1
 have aUR : Ux.cell? ⟨aT, 1, none⟩ = some (.slice none 0 0) := (bC a6.1 1).trans rfl
 have aML := eB a6.1 1
 have aAG := k6.1
 have aAH := vW.1
 have a8Y := sX.1
 have a8Z := K8.1
 refine uX (w1 := ?_) (by rfl) rfl ?_ ?_
 rotate_left
 ·go_simp
  rfl
 refine hK.out _ _ ⟨((cell_far (p := ⟨aT, _, none⟩) k6.1 _).trans (((cell_far (p := ⟨aT, _, none⟩) k6.1 _).trans (hHeld.1)))), ((cell_far (p := ⟨aT, _, none⟩) k6.1 _).trans (((cell_far (p := ⟨aT, _, none⟩) k6.1 _).trans (hHeld.2.1)))), ((cell_far (p := ⟨aT, _, none⟩) vW.1 _).trans (((cell_far (p := ⟨aT, _, none⟩) vW.1 _).trans (hHeld.2.2.1)))), ((cell_far (p := ⟨aT, _, none⟩) vW.1 _).trans (((cell_far (p := ⟨aT, _, none⟩) vW.1 _).trans (hHeld.2.2.2.1)))), ((cell_far (p := ⟨aT, _, none⟩) vW.1 _).trans (((cell_far (p := ⟨aT, _, none⟩) vW.1 _).trans (hHeld.2.2.2.2))))⟩ (fun hHeld => ?_)
 clear hK K
 refine pU2 6 7 ?_
 refine dN ?_
 try go_wp2
 refine bodyPost_ret (EN rfl _ _ aT 31 #[.slice Vc oH.length Ur, .slice Ko lJ.length Lh] (0, 0) _ rfl (qP a6) Try.underlying31 rfl (by kernel_rfl)) rfl ?_
 exact ⟨_, _, _, eR, by refine rR ?_; exact Kd.aM (fR (fR (tR j6 a6))) (fun _ hk => ⟨hk.1.1, hk.1.2⟩), by refine rN ?_; exact Kd.aJ (fN (fN (Kd.aJ gZ.1 (fun k_ hk => (⟨hk, hk.2.2.2.1⟩ : _ ∧ k_ ≠ aT))))) (fun _ hk => ⟨hk.1.1, ⟨hk.1.2.1, hk.1.2.2.1⟩⟩), by refine rR ?_; exact Kd.aM (fR (fR (tR iN a6))) (fun _ hk => ⟨hk.1.1, hk.1.2⟩), by repeat (first | (with_reducible first | exact HB.1 | apply bQ | apply bA | apply aV | refine aI ?_ (aD.ge m5.out) | refine aI ?_ iJ.1 | refine aI ?_ Nx.1 | refine aI ?_ An.1) | exact HB.1)⟩
def mE.f (k : Nat) (l0 : List Int) : Option (List ByteArray × (List (S56)) × ByteArray × List ByteArray) := (kE.f k l0).bind fun a => (some (a.1, a.2.1, a.2.2.1, a.2.2.2))
theorem mE.calls (k : Nat) (A0 : Option Addr) (c0 : Nat) (l0 : List Int) (r1 : List ByteArray) (r2 : List (S56)) (r3 : ByteArray) (r4 : List ByteArray) (w : World) (sJ : Kd.C (Kd.int .u8) w A0 l0.length l0) (yR : l0.length ≤ c0) (h : mE.f k l0 = some (r1, r2, r3, r4)) :
  Calls Try.prog 66 #[.slice A0 l0.length c0] w fun e w' => ∃ v0_ v1_ v3_ : Value, e = .returned (.tuple #[.agg #[v0_, v1_], .string r3, v3_]) ∧ Kd.R Kd.string 9 w' w.heap.size (F10 w v3_) v0_ r1 ∧ Kd.N k56 56 w' w.heap.size (F20 w v0_ v3_) v1_ r2 ∧ Kd.R Kd.string 9 w' w.heap.size (F10 w v0_) v3_ r4 ∧ Below w.heap.size w w' := by
 have hu31 := Try.underlying31
 obtain ⟨tO, QP⟩ := mZ2 sJ yR
 clear sJ yR
 have HB := am (Below.refl w.heap.size w)
 unfold mE.f at h
 have H := h
 clear h
 obtain ⟨⟨lD, oH, lJ, yT⟩, A2, H⟩ := bd H
 dsimp only at H
 simp only [Option.some.injEq, Prod.mk.injEq] at H
 obtain ⟨rfl, rfl, rfl, rfl⟩ := H
 go_enter Try.func66, Try.ntmps66
 go_wp2_with (first | ((with_reducible refine gD 2 ?_); refine bX 2 #[.slice none 0 0, .slice none 0 0] 31 ?_; intro aT hg w3 hbox hb; have a6 := am hbox; have g5 := am (oS : w.heap.size ≤ aT); have iJ := g5; replace HB := bS eG hb; clear hb hbox hg) | ((with_reducible refine gC 102 ?_); refine cE (some 6) Try.func102 (kE.calls k _ _ l0 lD oH lJ yT _ (pB tO) QP.1 A2.out) ?_; rintro e w4 ⟨Ab, Ty, Tz, rfl, f3, lL, Lq, hb⟩; refine ⟨_, rfl, ?_⟩; have lM := am (Kd.d9 (Kd.jQ (M := fun k_ => (w.heap.size ≤ k_)) (Kd.aM (ok' := fun k_ => some k_ ≠ (Tz : Value).ownBlock) f3 (fun _ hk_ => hk_.2)) (aG eE) (fun k_ h_ => h_)) (aG eE)); have j6 := am (Kd.jD (Kd.aJ (ok' := F21 w Ab Tz aT) lL (fun k_ hk_ => ⟨(Nat.le_trans (aG eE) hk_.1), hk_.2.1, hk_.2.2, (fB aW k_ hk_.1)⟩)) (aG eE)); have wE := am (Kd.d9 (Kd.jQ (M := fun k_ => (w.heap.size ≤ k_)) (Kd.aM (ok' := fun k_ => some k_ ≠ (Ab : Value).ownBlock) Lq (fun _ hk_ => hk_.2)) (aG eE) (fun k_ h_ => h_)) (aG eE)); replace a6 := bB aW hb; replace HB := bS eE hb; clear hb f3 lL Lq; obtain ⟨Ao5, co5, eo5⟩ := Kd.bP lM.1; subst eo5; have Z6 := cz2 a6; obtain ⟨Ao7, co7, eo7⟩ := Kd.gM j6.1; subst eo7))
 refine bodyPost_ret (EN rfl _ _ aT 31 #[.slice Ao5 lD.length co5, .slice Ao7 oH.length co7] (0, 0) _ rfl (qP a6) Try.underlying31 rfl (by kernel_rfl)) rfl ?_
 exact ⟨_, _, _, eR, by refine rR ?_; exact Kd.aM (fR (fR (tR lM a6))) (fun _ hk => ⟨hk.1.1, hk.1.2⟩), by refine rN ?_; exact Kd.aJ (fN (fN (Kd.aJ j6.1 (fun k_ hk => (⟨hk, hk.2.2.2⟩ : _ ∧ k_ ≠ aT))))) (fun _ hk => ⟨hk.1.1, ⟨hk.1.2.1, hk.1.2.2.1⟩⟩), by refine rR ?_; exact Kd.aM (fR (fR (tR wE a6))) (fun _ hk => ⟨hk.1.1, hk.1.2⟩), eE⟩
def eT.f (k : Nat) (l0 : List Int) : Option (List ByteArray × (List (S56)) × ByteArray × List ByteArray) := (sF.f l0).bind fun a => ((uB.f k a.1 a.2).bind fun b => ((fO.f k a.1 b.2.2 b.1 2).bind fun c => ((bN.f k a.1 c.2 12).bind fun d => (if d.1 = 0 then ((fE.f k a.1 d.2 (([(⟨#[]⟩ : ByteArray), (⟨#[122, 122]⟩ : ByteArray), (⟨#[97]⟩ : ByteArray)] : List ByteArray))).bind fun e => (if c.1.length < 8796093022208 then ((fE.f k a.1 e.2 (([(⟨#[97, 108, 101]⟩ : ByteArray), (⟨#[98]⟩ : ByteArray), (⟨#[99, 45, 99]⟩ : ByteArray), (⟨#[100, 97, 114, 107]⟩ : ByteArray), (⟨#[120, 57]⟩ : ByteArray), (⟨#[122, 122]⟩ : ByteArray), (⟨#[122, 122]⟩ : ByteArray), (⟨#[]⟩ : ByteArray)] : List ByteArray))).bind fun g => (some (b.1, b.2.1, g.1, (c.1 ++ [e.1])))) else (none))) else ((fE.f k a.1 d.2 (([(⟨#[97, 108, 101]⟩ : ByteArray), (⟨#[98]⟩ : ByteArray), (⟨#[99, 45, 99]⟩ : ByteArray), (⟨#[100, 97, 114, 107]⟩ : ByteArray), (⟨#[120, 57]⟩ : ByteArray), (⟨#[122, 122]⟩ : ByteArray), (⟨#[122, 122]⟩ : ByteArray), (⟨#[]⟩ : ByteArray)] : List ByteArray))).bind fun h => (some (b.1, b.2.1, h.1, c.1)))))))
def eT.T6 : Bool × List (List Nat × List Nat) := (true, [([], []), ([], []), ([], []), ([1, 2], [1, 2]), ([], []), ([0, 3, 0], [0]), ([3, 5, 0, 1, 2, 3, 5], [3]), ([4, 6, 0, 1, 2, 3, 4, 5, 6], [4])])
def eT.B6 : List Nat := [0, 0, 0, 6, 0, 15, 47, 127]
theorem eT.tab6 : rtab .any (opsOf Try.f67 6) = eT.T6 := by kernel_rfl
theorem eT.AL : kP eT.T6.2 eT.B6 = true := by kernel_rfl
theorem eT.calls (k : Nat) (A0 : Option Addr) (c0 : Nat) (l0 : List Int) (r1 : List ByteArray) (r2 : List (S56)) (r3 : ByteArray) (r4 : List ByteArray) (w : World) (sJ : Kd.C (Kd.int .u8) w A0 l0.length l0) (yR : l0.length ≤ c0) (h : eT.f k l0 = some (r1, r2, r3, r4)) :
  Calls Try.prog 67 #[.slice A0 l0.length c0] w fun e w' => ∃ v0_ v1_ v3_ : Value, e = .returned (.tuple #[.agg #[v0_, v1_], .string r3, v3_]) ∧ Kd.R Kd.string 9 w' w.heap.size (F10 w v3_) v0_ r1 ∧ Kd.N k56 56 w' w.heap.size (F20 w v0_ v3_) v1_ r2 ∧ Kd.R Kd.string 9 w' w.heap.size (F10 w v0_) v3_ r4 ∧ Below w.heap.size w w' := by
 have hu31 := Try.underlying31
 obtain ⟨tO, QP⟩ := mZ2 sJ yR
 clear sJ yR
 have HB := am (Below.refl w.heap.size w)
 unfold eT.f at h
 have H := h
 clear h
 obtain ⟨⟨lD, eF⟩, A2, H⟩ := bd H
 dsimp only at H
 obtain ⟨⟨oH, lJ, dJ⟩, A3, H⟩ := bd H
 dsimp only at H
 obtain ⟨⟨E7, RW⟩, A4, H⟩ := bd H
 dsimp only at H
 obtain ⟨⟨P8, qZ⟩, A5, H⟩ := bd H
 dsimp only at H
 refine iq H ?_ ?_ <;> clear H <;> intro c6 RQ Bi H
 obtain ⟨Mv, Pe⟩ := yv (([(⟨#[]⟩ : ByteArray), (⟨#[122, 122]⟩ : ByteArray), (⟨#[97]⟩ : ByteArray)] : List ByteArray)); first | replace H := bW Pe H | rw [← Pe.1] at H
 obtain ⟨⟨LD, qE⟩, A7, H⟩ := bd H
 dsimp only at H
 obtain ⟨aCQ, H⟩ := cL H
 obtain ⟨PG, J7⟩ := yv (E7 ++ [LD]); first | replace H := bW J7 H | rw [← J7.1] at H
 obtain ⟨QK, J8⟩ := yv (([(⟨#[97, 108, 101]⟩ : ByteArray), (⟨#[98]⟩ : ByteArray), (⟨#[99, 45, 99]⟩ : ByteArray), (⟨#[100, 97, 114, 107]⟩ : ByteArray), (⟨#[120, 57]⟩ : ByteArray), (⟨#[122, 122]⟩ : ByteArray), (⟨#[122, 122]⟩ : ByteArray), (⟨#[]⟩ : ByteArray)] : List ByteArray)); first | replace H := bW J8 H | rw [← J8.1] at H
 obtain ⟨⟨RX, QD⟩, A9, H⟩ := bd H
 dsimp only at H
 simp only [Option.some.injEq, Prod.mk.injEq] at H
 obtain ⟨rfl, rfl, rfl, rfl⟩ := H
 have VM := trivial
 rotate_left
 obtain ⟨N0, VT⟩ := yv (([(⟨#[97, 108, 101]⟩ : ByteArray), (⟨#[98]⟩ : ByteArray), (⟨#[99, 45, 99]⟩ : ByteArray), (⟨#[100, 97, 114, 107]⟩ : ByteArray), (⟨#[120, 57]⟩ : ByteArray), (⟨#[122, 122]⟩ : ByteArray), (⟨#[122, 122]⟩ : ByteArray), (⟨#[]⟩ : ByteArray)] : List ByteArray)); first | replace H := bW VT H | rw [← VT.1] at H
 obtain ⟨⟨xK, QE⟩, wi, H⟩ := bd H
 dsimp only at H
 simp only [Option.some.injEq, Prod.mk.injEq] at H
 obtain ⟨rfl, rfl, rfl, rfl⟩ := H
 rotate_left
 all_goals
  go_enter Try.func67, Try.ntmps67
  try go_wp2_with (first | ((with_reducible refine gD 2 ?_); refine bX 2 #[.slice none 0 0, .slice none 0 0] 31 ?_; intro aT hg aQV hbox hb; have a6 := am hbox; have g5 := am (oS : w.heap.size ≤ aT); have iJ := g5; replace HB := bS eG hb; clear hb hbox hg) | ((with_reducible refine gC 97 ?_); refine cE (some 9) Try.func97 (sF.calls _ _ l0 lD eF w _ (eE) tO.1 QP.1 A2.out) ?_; rintro e aQW ⟨g104, rfl, hi, hb, hb2⟩; refine ⟨_, rfl, ?_⟩; replace HB := am hb; have m5 := am hi; have C3 := am (aD.ZJ hi (bH (g := aT) (o := .cells #[.slice none 0 0, .slice none 0 0] 31 (0, 0)) aW hb2) (by decide)); have mI := am (Ne.symm (aD.ZJ hi (bH (g := aT) (o := .cells #[.slice none 0 0, .slice none 0 0] 31 (0, 0)) aW hb2) (by decide))); replace a6 := am (bH (g := aT) (o := .cells #[.slice none 0 0, .slice none 0 0] 31 (0, 0)) aW hb2); clear hb hb2 hi) | ((with_reducible refine gC 98 ?_); refine cE (some 11) Try.func98 (uB.calls k g104 lD eF oH lJ dJ w _ (V1) (RS) A3.out) ?_; rintro e aQX ⟨Ty, Zd, rfl, f3, lL, hi, hb, hk⟩; refine ⟨_, rfl, ?_⟩; have j6 := am (Kd.d9 (Kd.jQ (M := fun k_ => (w.heap.size ≤ k_)) (Kd.aM (ok' := fun k_ => True) f3 (fun _ hk_ => trivial)) (aG RS) (fun k_ h_ => h_)) (aG RS)); have gZ := am (Kd.jD (Kd.aJ (ok' := fun k_ => (w.heap.size ≤ k_) ∧ some k_ ≠ (Ty : Value).ownBlock ∧ k_ ≠ aT ∧ k_ ≠ g104) lL (fun k_ hk_ => ⟨(Nat.le_trans (aG RS) hk_.1), hk_.2, (fB aW k_ hk_.1), (aD.fresh V1 k_ hk_.1)⟩)) (aG RS)); replace a6 := kb aW hk mI; replace HB := am hb; replace m5 := am hi; clear hb hk hi f3 lL) | ((with_reducible refine gD 6 ?_); refine bX 6 #[.slice none 0 0, .slice none 0 0] 31 ?_; intro vL hg aQY hbox hb; replace j6 := RB EJ hb; replace gZ := am (Kd.dQ (Kd.iO LZ vL (Nat.le_of_eq hg.symm)) hb); have m3 := am hbox; have Oa := am (a3W : w.heap.size ≤ vL); have Nx := Oa; replace HB := bS RS hb; have sX := nL aW hg; have k6 := nG aW hg; replace a6 := bB aW hb; have FP := am (by rw [hg]; exact Nat.ne_of_lt (aD.lt (show aD w _ g104 lD dJ from V1)) : g104 ≠ vL); have vV := am (by rw [hg]; exact Nat.ne_of_gt (aD.lt (show aD w _ g104 lD dJ from V1)) : vL ≠ g104); replace m5 := am (aD.below V1 hb); clear hb hbox hg; obtain ⟨AU, zI, pr⟩ := Kd.bP j6.1; subst pr; have aKP := nZ2 k6 sX vV FP; have aKQ := cz2 m3; obtain ⟨Dp, Ep, pt⟩ := Kd.gM gZ.1; subst pt) | ((with_reducible refine lG (f := 109) rfl ?_); refine wO (some 15) rfl rfl Try.func109 (by kernel_rfl) rfl #[.pointer (some ⟨g104, 0, none⟩), .slice AU oH.length zI, .int .i64 2] rfl xV ?_; (with_reducible refine (fO.calls k g104 lD dJ _ _ oH 2 E7 RW w _ ?side1 ?side2 ?side3 ?side4 ?side5 A4.out).mono ?_); (case side1 => exact zQ); (case side2 => exact AO); (case side3 => refine (Kd.aU (e := 9) (base := w.heap.size) (ok := fun k_ => (w.heap.size ≤ k_)) (n := oH.length) (c := zI) ?_).2.2; exact (by refine rR ?_; exact Kd.aM (fR (fR (tR j6 m3))) (fun _ hk => hk.1.1))); (case side4 => exact (Kd.aU j6.1).2.1); (case side5 => exact mM (aD.own_ne m5.out j6.1 (by decide))); rintro e aQZ ⟨Gk, rfl, f3, hi, hb, hk⟩; refine ⟨_, rfl, ?_⟩; replace a6 := am (aY.blk hk (g' := aT) (o := .cells #[.slice none 0 0, .slice none 0 0] 31 (0, 0)) a3S mI.1 (by simp)); replace gZ := am (Kd.aJ (Kd.iP (Kd.PS (Kd.aJ (ok := fun k_ => ((((w.heap.size ≤ k_)) ∧ (some k_ ≠ (.slice AU oH.length zI : Value).ownBlock ∧ (k_ ≠ aT ∧ k_ ≠ g104))) ∧ k_ ≠ vL)) (by refine rN ?_; exact (Kd.aJ (fN (fN (Kd.aJ gZ.1 (fun k_ hk => (⟨hk, hk.2⟩ : _ ∧ k_ ≠ vL))))) (fun _ h_ => h_.1))) (fun k_ hk_ => (⟨hk_, hk_.1.2.2.2⟩ : _ ∧ k_ ≠ g104))) hk) (Kd.bZ f3)) (fun _ h_ => h_.1)); have vD := am (Kd.d9 (Kd.fA (Kd.jQ (M := fun k_ => (w.heap.size ≤ k_)) f3 (aG AO) (fun k_ h_ => h_)) (Kd.R_lt (by refine rR ?_; exact (Kd.aM (fR (fR (tR j6 m3))) (fun _ h_ => h_.1))))) (aG AO)); replace j6 := am (Kd.aM (Kd.CL (Kd.CK (aD.apart (show aD w _ g104 lD dJ from zQ) (by refine rR ?_; exact (Kd.aM (fR (fR (tR j6 m3))) (fun _ h_ => h_.1))) (by decide)) hk) (Kd.bZ f3)) (fun _ h_ => h_.1)); replace m3 := am (aY.blk hk (g' := vL) (o := .cells #[.slice AU oH.length zI, .slice Dp lJ.length Ep] 31 (0, 0)) (qP m3) vV.1 (by simp)); replace HB := am hb; replace m5 := am hi; clear hb hk hi f3) | ((with_reducible refine gC 100 ?_); refine cQ (some 17) Try.func100 (bN.calls k g104 lD RW 12 P8 qZ w _ (zQ) (AO) A5.out) ?_; rintro a5E ⟨hi, hb, hk⟩; replace a6 := kb aW hk mI; replace j6 := am (Kd.aM (Kd.lQ (aD.apart (show aD w _ g104 lD RW from zQ) EJ (by decide)) hk (fun _ h => h.2)) (fun _ h => h.1)); replace gZ := am (Kd.aJ (Kd.CF (Kd.aJ (ok := fun k_ => (((((w.heap.size ≤ k_)) ∧ (some k_ ≠ (.slice AU oH.length zI : Value).ownBlock ∧ (k_ ≠ aT ∧ k_ ≠ g104))) ∧ k_ ≠ vL) ∧ some k_ ≠ (Gk : Value).ownBlock)) LZ (fun k_ hk_ => (⟨hk_, hk_.1.1.2.2.2⟩ : _ ∧ k_ ≠ g104))) hk (fun _ h => h.2)) (fun _ h => h.1)); replace m3 := kb JP hk vV; replace vD := am (Kd.aM (Kd.lQ (aD.apart (show aD w _ g104 lD RW from zQ) RE (by decide)) hk (fun _ h => h.2)) (fun _ h => h.1)); replace HB := am hb; replace m5 := am hi; clear hb hk hi) | ((with_reducible refine jW (N := 21) rfl ?_); revert VM; intro VM; refine lS 9 21 Pe ?_; intro aVO aR0 Rw hb; replace gZ := am (Kd.rQ LZ (Kd.bZ Rw) hb); have AB := am (Kd.d9 (Kd.fA (Kd.fA (Kd.jQ (M := fun k_ => (w.heap.size ≤ k_)) Rw (aG AO) (fun k_ h_ => h_)) (Kd.R_lt EJ)) (Kd.R_lt RE)) (aG AO)); replace j6 := am (Kd.dS EJ (Kd.bZ Rw) hb); replace vD := am (Kd.dS RE (Kd.bZ Rw) hb); replace a6 := bB aW hb; replace m3 := bB JP hb; replace HB := bS AO hb; replace m5 := am (aD.below zQ hb); clear hb Rw; obtain ⟨T0, TN, pu⟩ := Kd.bP AB.1; subst pu) | ((with_reducible refine gC 101 ?_); revert VM; intro VM; refine cQ (some 22) Try.func101 (fE.calls k g104 lD qZ _ _ Mv LD qE w _ (zQ) (AO) (pC (Kd.aU AB.1).2.2) ((Kd.aU AB.1).2.1) (mM (aD.own_ne m5.out AB.1 (by decide))) A7.out) ?_; rintro aR1 ⟨hi, hb, hk⟩; replace a6 := kb aW hk mI; replace j6 := am (Kd.aM (Kd.lQ (aD.apart (show aD w _ g104 lD qZ from zQ) EJ (by decide)) hk (fun _ h => h.2)) (fun _ h => h.1)); replace gZ := am (Kd.aJ (Kd.CF (Kd.aJ (ok := fun k_ => ((((((w.heap.size ≤ k_)) ∧ (some k_ ≠ (.slice AU oH.length zI : Value).ownBlock ∧ (k_ ≠ aT ∧ k_ ≠ g104))) ∧ k_ ≠ vL) ∧ some k_ ≠ (Gk : Value).ownBlock) ∧ some k_ ≠ (.slice T0 Mv.length TN : Value).ownBlock)) LZ (fun k_ hk_ => (⟨hk_, hk_.1.1.1.2.2.2⟩ : _ ∧ k_ ≠ g104))) hk (fun _ h => h.2)) (fun _ h => h.1)); replace m3 := kb JP hk vV; replace vD := am (Kd.aM (Kd.lQ (aD.apart (show aD w _ g104 lD qZ from zQ) RE (by decide)) hk (fun _ h => h.2)) (fun _ h => h.1)); replace AB := am (Kd.aM (Kd.lQ (aD.apart (show aD w _ g104 lD qZ from zQ) (rR AB.1) (by decide)) hk (fun _ h => h.2)) (fun _ h => h.1)); replace HB := am hb; replace m5 := am hi; clear hb hk hi) | ((with_reducible refine o7 (b := .append) (xs := #[.tmp 19, .tmp 23]) rfl ?_); revert VM; intro VM; at_builtin; refine Kd.AC Kd.string (w0 := w) w.heap.size rfl (.tmp 19) (.tmp 23) 23 9 (.string ⟨#[]⟩) 16 rfl Try.underlying23 rY rfl (by decide) (by omega) Gk E7 LD [.string LD] (F20 w (.slice AU oH.length zI) (.slice T0 Mv.length TN)) (fun _ => False) rfl rfl ?aP (fun _ hk => hk.elim) ?aF ?aO ?aB ?aS ?aL ?_; (case aP => exact rfl); (case aB => exact AO); (case aF => exact (fun k_ hk => ⟨(Nat.le_trans (aG AO) hk), Kd.fresh' (Kd.R_lt EJ) k_ hk, Kd.fresh' (Kd.R_lt (rR AB.1)) k_ hk⟩)); (case aO => exact (by refine rR ?_; exact Kd.aM vD.1 (fun _ hk => ⟨hk.1.1.1, ⟨hk.1.2, hk.2⟩⟩))); (case aS => exact (aG AO)); (case aL => have := aCQ.out; omega); intro IC a5F ho hb hg hat; rw [← J7.out] at ho; replace a6 := gkR aW hg vD a6; replace m5 := am (aD.grown zQ hg (aD.own_ne m5.out vD.1 (by decide))); replace j6 := am (Kd.nA (ok := (F10 w (.slice T0 Mv.length TN))) (by refine rR ?_; exact Kd.aM j6.1 (fun _ hk => ⟨⟨hk.1.1.1, hk.2⟩, hk.1.2⟩)) hg hat); replace gZ := am (Kd.uD (ok := (fun k_ => (w.heap.size ≤ k_) ∧ some k_ ≠ (.slice AU oH.length zI : Value).ownBlock ∧ some k_ ≠ (.slice T0 Mv.length TN : Value).ownBlock ∧ k_ ≠ aT ∧ k_ ≠ g104 ∧ k_ ≠ vL)) (by refine rN ?_; exact Kd.aJ gZ.1 (fun _ hk => ⟨⟨hk.1.1.1.1, ⟨hk.1.1.1.2.1, ⟨hk.2, ⟨hk.1.1.1.2.2.1, ⟨hk.1.1.1.2.2.2, hk.1.1.2⟩⟩⟩⟩⟩, hk.1.2⟩)) hg hat); replace m3 := gkR JP hg vD m3; replace AB := am (Kd.nA (ok := (F10 w (.slice AU oH.length zI))) (by refine rR ?_; exact Kd.aM AB.1 (fun _ hk => ⟨⟨hk.1.1.1, hk.1.2⟩, hk.2⟩)) hg hat); replace HB := am hb; have tN := am ho; clear vD; clear ho hb hg hat))
 ·replace j6 := RD j6
  replace gZ := ND gZ
  replace AB := RD AB
  replace tN := RD tN
  replace a6 := BD a6
  replace m3 := BD m3
  replace m5 := am (aD.drew m5.out)
  replace HB := am (aV HB.1)
  refine sT [] 8 (uA2 m3) (fun hHeld => ?_)
  refine eO eT.tab6 eT.AL (fun HT_ HW_ => ?_)
  generalize a5F.drew = w26 at j6 gZ AB tN a6 m3 m5 HB hHeld ⊢
  refine pU2 1 4 ?_
  refine tK2 0 (some 25) ?_
  refine oN 2 (some 27) fun K hK => ?_
  refine lT 9 27 J8 ?_
  intro PD w27 Lr hb
  replace gZ := am (Kd.rQ LZ (Kd.bZ Lr) hb)
  have sV := am (Kd.d9 (Kd.fA (Kd.fA (Kd.fA (Kd.jQ (M := fun k_ => (w.heap.size ≤ k_)) Lr (aG AO) (fun k_ h_ => h_)) (Kd.R_lt EJ)) (Kd.R_lt (rR AB.1))) (Kd.R_lt OZ)) (aG AO))
  replace j6 := am (Kd.dS EJ (Kd.bZ Lr) hb)
  replace AB := am (Kd.dS (rR AB.1) (Kd.bZ Lr) hb)
  replace tN := am (Kd.dS OZ (Kd.bZ Lr) hb)
  replace a6 := bB aW hb
  replace m3 := bB JP hb
  replace HB := bS AO hb
  replace m5 := am (aD.below zQ hb)
  clear hb Lr
  obtain ⟨M8, IR, Fa⟩ := Kd.bP sV.1
  (first | subst Fa | (obtain ⟨f4_, f5_⟩ := sj Fa; subst f4_; subst f5_))
  refine nK hK (uA2 m3).1 fun hHeld => ?_
  clear hK K
  refine oN 3 (some 28) fun K hK => ?_
  refine gQ Try.func101 (fE.calls k g104 lD qE _ _ QK RX QD w _ (zQ) (AO) (pC (Kd.aU sV.1).2.2) ((Kd.aU sV.1).2.1) (mM (aD.own_ne m5.out sV.1 (by decide))) A9.out) ?_
  rintro ue ⟨hi, hb, hk⟩
  replace a6 := kb aW hk mI
  replace j6 := am (Kd.aM (Kd.lQ (aD.apart (show aD w _ g104 lD qE from zQ) EJ (by decide)) hk (fun _ h => h.2)) (fun _ h => h.1))
  replace gZ := am (Kd.aJ (Kd.CF (Kd.aJ (ok := fun k_ => (((((w.heap.size ≤ k_)) ∧ (some k_ ≠ (.slice AU oH.length zI : Value).ownBlock ∧ (some k_ ≠ (.slice T0 Mv.length TN : Value).ownBlock ∧ (k_ ≠ aT ∧ (k_ ≠ g104 ∧ k_ ≠ vL))))) ∧ some k_ ≠ (IC : Value).ownBlock) ∧ some k_ ≠ (.slice M8 QK.length IR : Value).ownBlock)) LZ (fun k_ hk_ => (⟨hk_, hk_.1.1.2.2.2.2.1⟩ : _ ∧ k_ ≠ g104))) hk (fun _ h => h.2)) (fun _ h => h.1))
  replace m3 := kb JP hk vV
  replace AB := am (Kd.aM (Kd.lQ (aD.apart (show aD w _ g104 lD qE from zQ) (rR AB.1) (by decide)) hk (fun _ h => h.2)) (fun _ h => h.1))
  replace tN := am (Kd.aM (Kd.lQ (aD.apart (show aD w _ g104 lD qE from zQ) OZ (by decide)) hk (fun _ h => h.2)) (fun _ h => h.1))
  replace sV := am (Kd.aM (Kd.lQ (aD.apart (show aD w _ g104 lD qE from zQ) LY (by decide)) hk (fun _ h => h.2)) (fun _ h => h.1))
  replace HB := am hb
  replace m5 := am hi
  clear hb hk hi
  refine nK hK (uA2 m3).1 fun hHeld => ?_
  clear hK K
  refine oN 5 none fun K hK => ?_
  have aUW : ue.cell? ⟨aT, 0, none⟩ = some (.slice none 0 0) := (bC a6.1 0).trans rfl
  have aMQ := eB a6.1 0
  have aAQ := k6.1
  have a9A := sX.1
  have aUX : ue.cell? ⟨aT, 1, none⟩ = some (.slice none 0 0) := (bC a6.1 1).trans rfl
  have aMR := eB a6.1 1
  have aAR := k6.1
  have a9B := sX.1
  refine uX (w1 := ?_) (by rfl) rfl ?_ ?_
  rotate_left
  ·go_simp
   rfl
  refine hK.out _ _ ⟨((cell_far (p := ⟨aT, _, none⟩) k6.1 _).trans (((cell_far (p := ⟨aT, _, none⟩) k6.1 _).trans (hHeld.1)))), ((cell_far (p := ⟨aT, _, none⟩) k6.1 _).trans (((cell_far (p := ⟨aT, _, none⟩) k6.1 _).trans (hHeld.2))))⟩ (fun hHeld => ?_)
  clear hK K
  refine pU2 6 7 ?_
  refine dN ?_
  try go_wp2
  refine bodyPost_ret (EN rfl _ _ aT 31 #[.slice AU oH.length zI, .slice Dp lJ.length Ep] (0, 0) _ rfl (qP a6) Try.underlying31 rfl (by kernel_rfl)) rfl ?_
  exact ⟨_, _, _, eR, by refine rR ?_; exact Kd.aM (fR (fR (tR j6 a6))) (fun _ hk => ⟨hk.1.1.1.1, hk.1.1.2⟩), by refine rN ?_; exact Kd.aJ (fN (fN (Kd.aJ gZ.1 (fun k_ hk => (⟨hk, hk.1.1.2.2.2.1⟩ : _ ∧ k_ ≠ aT))))) (fun _ hk => ⟨hk.1.1.1.1, ⟨hk.1.1.1.2.1, hk.1.1.2⟩⟩), by refine rR ?_; exact Kd.aM (fR (fR (tR tN a6))) (fun _ hk => ⟨hk.1.1.1, hk.1.1.2.1⟩), AO⟩
 replace j6 := RD j6
 replace gZ := ND gZ
 replace vD := RD vD
 replace a6 := BD a6
 replace m3 := BD m3
 replace m5 := am (aD.drew m5.out)
 replace HB := am (aV HB.1)
 refine sT [] 8 (uA2 m3) (fun hHeld => ?_)
 refine eO eT.tab6 eT.AL (fun HT_ HW_ => ?_)
 generalize a5E.drew = w45 at j6 gZ vD a6 m3 m5 HB hHeld ⊢
 refine pU2 1 4 ?_
 refine tK2 0 (some 25) ?_
 refine oN 2 (some 27) fun K hK => ?_
 refine lT 9 27 VT ?_
 intro a4S w46 Q0 hb
 replace gZ := am (Kd.rQ LZ (Kd.bZ Q0) hb)
 have pR := am (Kd.d9 (Kd.fA (Kd.fA (Kd.jQ (M := fun k_ => (w.heap.size ≤ k_)) Q0 (aG AO) (fun k_ h_ => h_)) (Kd.R_lt EJ)) (Kd.R_lt RE)) (aG AO))
 replace j6 := am (Kd.dS EJ (Kd.bZ Q0) hb)
 replace vD := am (Kd.dS RE (Kd.bZ Q0) hb)
 replace a6 := bB aW hb
 replace m3 := bB JP hb
 replace HB := bS AO hb
 replace m5 := am (aD.below zQ hb)
 clear hb Q0
 obtain ⟨aCC, aE4, a1O⟩ := Kd.bP pR.1
 (first | subst a1O | (obtain ⟨f4_, f5_⟩ := sj a1O; subst f4_; subst f5_))
 refine nK hK (uA2 m3).1 fun hHeld => ?_
 clear hK K
 refine oN 3 (some 28) fun K hK => ?_
 refine gQ Try.func101 (fE.calls k g104 lD qZ _ _ N0 xK QE w _ (zQ) (AO) (pC (Kd.aU pR.1).2.2) ((Kd.aU pR.1).2.1) (mM (aD.own_ne m5.out pR.1 (by decide))) wi.out) ?_
 rintro w49 ⟨hi, hb, hk⟩
 replace a6 := kb aW hk mI
 replace j6 := am (Kd.aM (Kd.lQ (aD.apart (show aD w _ g104 lD qZ from zQ) EJ (by decide)) hk (fun _ h => h.2)) (fun _ h => h.1))
 replace gZ := am (Kd.aJ (Kd.CF (Kd.aJ (ok := fun k_ => ((((((w.heap.size ≤ k_)) ∧ (some k_ ≠ (.slice AU oH.length zI : Value).ownBlock ∧ (k_ ≠ aT ∧ k_ ≠ g104))) ∧ k_ ≠ vL) ∧ some k_ ≠ (Gk : Value).ownBlock) ∧ some k_ ≠ (.slice aCC N0.length aE4 : Value).ownBlock)) LZ (fun k_ hk_ => (⟨hk_, hk_.1.1.1.2.2.2⟩ : _ ∧ k_ ≠ g104))) hk (fun _ h => h.2)) (fun _ h => h.1))
 replace m3 := kb JP hk vV
 replace vD := am (Kd.aM (Kd.lQ (aD.apart (show aD w _ g104 lD qZ from zQ) RE (by decide)) hk (fun _ h => h.2)) (fun _ h => h.1))
 replace pR := am (Kd.aM (Kd.lQ (aD.apart (show aD w _ g104 lD qZ from zQ) (rR pR.1) (by decide)) hk (fun _ h => h.2)) (fun _ h => h.1))
 replace HB := am hb
 replace m5 := am hi
 clear hb hk hi
 refine nK hK (uA2 m3).1 fun hHeld => ?_
 clear hK K
 refine oN 5 none fun K hK => ?_
 have aV3 : w49.cell? ⟨aT, 0, none⟩ = some (.slice none 0 0) := (bC a6.1 0).trans rfl
 have aMX := eB a6.1 0
 have aB1 := k6.1
 have a9L := sX.1
 have aV4 : w49.cell? ⟨aT, 1, none⟩ = some (.slice none 0 0) := (bC a6.1 1).trans rfl
 have aMY := eB a6.1 1
 have aB2 := k6.1
 have a9M := sX.1
 refine uX (w1 := ?_) (by rfl) rfl ?_ ?_
 rotate_left
 ·go_simp
  rfl
 refine hK.out _ _ ⟨((cell_far (p := ⟨aT, _, none⟩) k6.1 _).trans (((cell_far (p := ⟨aT, _, none⟩) k6.1 _).trans (hHeld.1)))), ((cell_far (p := ⟨aT, _, none⟩) k6.1 _).trans (((cell_far (p := ⟨aT, _, none⟩) k6.1 _).trans (hHeld.2))))⟩ (fun hHeld => ?_)
 clear hK K
 refine pU2 6 7 ?_
 refine dN ?_
 try go_wp2
 refine bodyPost_ret (EN rfl _ _ aT 31 #[.slice AU oH.length zI, .slice Dp lJ.length Ep] (0, 0) _ rfl (qP a6) Try.underlying31 rfl (by kernel_rfl)) rfl ?_
 exact ⟨_, _, _, eR, by refine rR ?_; exact Kd.aM (fR (fR (tR j6 a6))) (fun _ hk => ⟨hk.1.1.1.1, hk.1.1.2⟩), by refine rN ?_; exact Kd.aJ (fN (fN (Kd.aJ gZ.1 (fun k_ hk => (⟨hk, hk.1.1.1.2.2.1⟩ : _ ∧ k_ ≠ aT))))) (fun _ hk => ⟨hk.1.1.1.1.1, ⟨hk.1.1.1.1.2.1, hk.1.1.2⟩⟩), by refine rR ?_; exact Kd.aM (fR (fR (tR vD a6))) (fun _ hk => ⟨hk.1.1.1.1, hk.1.1.2⟩), AO⟩
end Go.Proofs.Ytaofjgnhapnndaa.Q
