/- Texts that the row needs: words on memory and rows, the contracts of the functions it reaches, and the plain lemmas on what they compute. -/
import Derived.Test.YtaofjgnhapnndaaXkwag
set_option maxHeartbeats 8000000
set_option maxRecDepth 100000
open Go.Proofs.YtaofjgnhapnndaaFkw
namespace Go.Proofs.Ytaofjgnhapnndaa.Q
open Go.RowKit Go.Proofs.YtaofjgnhapnndaaW.PrintWords Go.Proofs.YtaofjgnhapnndaaW.PrintLast Go.Proofs.YtaofjgnhapnndaaW.PrintMore
set_option linter.unusedVariables false
set_option linter.unusedSimpArgs false
def spec_l3Insert.l0 : Nat → List ByteArray → ByteArray → Int → Option (List ByteArray)
 | 0, _, _, _ => none
 | k + 1, x0, x1, x5 => if x5 < (x0.length : Int) then (if 0 ≤ x5 then (if (Op.bytesLess ((rdOf ByteArray.empty x0 x5).toList) x1.toList) = true then (spec_l3Insert.l0 k x0 x1 (wrap64 (x5 + 1))) else (if (rdOf ByteArray.empty x0 x5).toList = x1.toList then (none) else ((some (([] : List ByteArray) : List ByteArray)).bind fun y103 => (if x5 ≤ (x0.length : Int) then (if y103.length + (x0.take (x5 : Int).toNat).length < 8796093022208 then ((some (y103 ++ (x0.take (x5 : Int).toNat) : List ByteArray)).bind fun y107 => ((some (([x1] : List ByteArray) : List ByteArray)).bind fun y110 => (if y107.length + y110.length < 8796093022208 then ((some (y107 ++ y110 : List ByteArray)).bind fun y113 => (if y113.length + (x0.drop (x5 : Int).toNat).length < 8796093022208 then (some (y113 ++ (x0.drop (x5 : Int).toNat))) else (none))) else (none)))) else (none)) else (none))))) else (none)) else ((some (([] : List ByteArray) : List ByteArray)).bind fun y120 => (if 0 ≤ x5 then (if x5 ≤ (x0.length : Int) then (if y120.length + (x0.take (x5 : Int).toNat).length < 8796093022208 then ((some (y120 ++ (x0.take (x5 : Int).toNat) : List ByteArray)).bind fun y124 => ((some (([x1] : List ByteArray) : List ByteArray)).bind fun y127 => (if y124.length + y127.length < 8796093022208 then ((some (y124 ++ y127 : List ByteArray)).bind fun y130 => (if y130.length + (x0.drop (x5 : Int).toNat).length < 8796093022208 then (some (y130 ++ (x0.drop (x5 : Int).toNat))) else (none))) else (none)))) else (none)) else (none)) else (none)))
def spec_l3Insert.f (k : Nat) (l0 : List ByteArray) (a1 : ByteArray) : Option (List ByteArray) := spec_l3Insert.l0 k l0 a1 0
def spec_l3Insert.T6 : Bool × List (List Nat × List Nat) := (true, [([], []), ([], []), ([], []), ([1, 2], [1, 2]), ([0, 3], [0, 3]), ([], []), ([5], [5]), ([4, 6, 4], [4, 6]), ([], []), ([], []), ([8, 9], [8, 9]), ([7, 10, 7], [7, 10]), ([11, 11, 0, 1, 2, 3, 4, 5, 6, 7, 8, 9, 10, 11], [11])])
def spec_l3Insert.B6 : List Nat := [0, 0, 0, 6, 15, 0, 32, 127, 0, 0, 768, 2047, 4095]
theorem spec_l3Insert.tab6 : rtab .any (opsOf Try.f106 6) = spec_l3Insert.T6 := by kernel_rfl
theorem spec_l3Insert.bits6 : waitsOk spec_l3Insert.T6.2 spec_l3Insert.B6 = true := by kernel_rfl
theorem spec_l3Insert.calls (k : Nat) (A0 : Option Addr) (c0 : Nat) (l0 : List ByteArray) (a1 : ByteArray) (r : List ByteArray) (w : World) (hr0 : Kd.C Kd.string w A0 l0.length l0) (hc0 : l0.length ≤ c0) (h : spec_l3Insert.f k l0 a1 = some r) :
  Calls Try.prog 106 #[.slice A0 l0.length c0, .string a1] w fun e w' => ∃ v0_ : Value, e = .returned (v0_) ∧ Kd.R Kd.string 9 w' w.heap.size (fun _ => True) v0_ r ∧ Below w.heap.size w w' := by
 have HR0 := am hr0
 have HC0 := am hc0
 clear hr0 hc0
 have HB := am (Below.refl w.heap.size w)
 unfold spec_l3Insert.f at h
 have H := h
 clear h
 have H' := am H
 clear H
 go_enter Try.func106, Try.ntmps106
 go_wp2
 go_loopg [5] k (fun kq v5 w' => ∃ (x5_1 : Int), v5 = .int .i64 x5_1 ∧ Aside0 (spec_l3Insert.l0 kq l0 a1 x5_1 = some r) ∧ Aside0 (kq ≤ k) ∧ Aside0 (Below w.heap.size w w'))
 case atStart => exact ⟨(0), (pY136), H', ⟨Nat.le_refl _⟩, ⟨pY95⟩⟩
 case round =>
  clear H'
  obtain ⟨x5_1, rfl, HA, HK1, HB⟩ := hrel
  cases gk with
  | zero => exact absurd HA.out (by simp [spec_l3Insert.l0])
  | succ k1 =>
   have H := HA.out
   clear HA
   simp only [spec_l3Insert.l0] at H
   refine ic H ?_ ?_ <;> clear H <;> intro c3b0 H
   ·obtain ⟨c4b0, H⟩ := cN H
    by_cases c5 : (Op.bytesLess ((rdOf ByteArray.empty l0 x5_1).toList) a1.toList) = true
    ·rw [if_pos c5] at H
     have c5b0 : (Op.bytesLess ((rdOf ByteArray.empty l0 x5_1).toList) a1.toList) = true := c5
     clear c5
     have H' := am H
     clear H
     obtain ⟨ad101, e101, hx101_0, p101, q101⟩ := aS HR0 HB x5_1
     cases e101
     go_wp2
     go_roundg k1
     case measure => have := HK1.out; omega
     case rel => exact ⟨(wrap64 (x5_1 + 1)), (pY136), H', ⟨by have := HK1.out; omega⟩, ⟨pY95⟩⟩
    ·rw [if_neg c5] at H
     have c5b0 : (Op.bytesLess ((rdOf ByteArray.empty l0 x5_1).toList) a1.toList) = false := by simpa using c5
     clear c5
     by_cases c6 : (rdOf ByteArray.empty l0 x5_1).toList = a1.toList
     ·rw [if_pos c6] at H
      have c6b0 : ((rdOf ByteArray.empty l0 x5_1).toList == a1.toList) = true := beq_iff_eq.mpr c6
      have c6b1 : ((rdOf ByteArray.empty l0 x5_1).toList != a1.toList) = false := bne_eq_false_iff_eq.mpr c6
      clear c6
      cases H
     ·rw [if_neg c6] at H
      have c6b0 : ((rdOf ByteArray.empty l0 x5_1).toList == a1.toList) = false := beq_eq_false_iff_ne.mpr c6
      have c6b1 : ((rdOf ByteArray.empty l0 x5_1).toList != a1.toList) = true := bne_iff_ne.mpr c6
      obtain ⟨y103, Ny103⟩ := yv (([] : List ByteArray)); first | replace H := bW Ny103 H | rw [← Ny103.1] at H
      have c7b0 := eq_true (oT : 0 ≤ x5_1)
      by_cases c8 : x5_1 ≤ (l0.length : Int)
      ·rw [if_pos c8] at H
       have c8b0 := eq_true c8
       have c8b1 : decide (x5_1 ≤ (l0.length : Int)) = true := decide_eq_true c8
       clear c8
       by_cases c9 : y103.length + (l0.take (x5_1 : Int).toNat).length < 8796093022208
       ·rw [if_pos c9] at H
        have LMc9 := am c9
        clear c9
        obtain ⟨y107, Ny107, H⟩ := bY H
        obtain ⟨y110, Ny110, H⟩ := bY H
        by_cases c10 : y107.length + y110.length < 8796093022208
        ·rw [if_pos c10] at H
         have LMc10 := am c10
         clear c10
         obtain ⟨y113, Ny113, H⟩ := bY H
         have c11b0 := eq_true (oT : 0 ≤ x5_1)
         have c12b0 := eq_true (oT : x5_1 ≤ (l0.length : Int))
         by_cases c13 : y113.length + (l0.drop (x5_1 : Int).toNat).length < 8796093022208
         ·rw [if_pos c13] at H
          have LMc13 := am c13
          clear c13
          obtain ⟨y117, Ny117⟩ := yv (y113 ++ (l0.drop (x5_1 : Int).toNat)); first | replace H := bW Ny117 H | rw [← Ny117.1] at H
          obtain rfl := Option.some.inj H
          obtain ⟨ad101, e101, hx101_0, p101, q101⟩ := aS HR0 HB x5_1
          cases e101
          obtain ⟨ad102, e102, hx102_0, p102, q102⟩ := aS HR0 HB x5_1
          obtain rfl : ad101 = ad102 := (by injection e102)
          try go_wp2
          replace HB := am (below_drew1 HB.1)
          obtain ⟨i015, hi015, _, hsz15, _⟩ := info_parts info9
          obtain ⟨hcut15, hA15, hC15⟩ := print_take_of (P := Try.prog) Value.string (⟨#[]⟩ : ByteArray) 23 9 .i64 Try.underlying23 hi015 hsz15 (some ad101) c0 l0 x5_1 (oT) (oT) HC0.1
          have HR106 := am (Kd.C_of_reads (h1 := fun _ => rfl) (hA15 _ (Kd.reads_of_C HR0.1)))
          have HC106 := am hC15
          clear hA15 hC15 hi015 hsz15
          obtain ⟨i016, hi016, _, hsz16, _⟩ := info_parts info9
          obtain ⟨A16, hcut16, hA16, hC16⟩ := print_drop_of (P := Try.prog) Value.string (⟨#[]⟩ : ByteArray) 23 9 .i64 Try.underlying23 hi016 hsz16 (some ad101) c0 l0 x5_1 (oT) (oT) HC0.1
          have HR116 := am (Kd.C_of_reads (h1 := fun _ => rfl) (hA16 _ (Kd.reads_of_C HR0.1)))
          have HC116 := am hC16
          clear hA16 hC16 hi016 hsz16
          refine sT (S := fun w' => True) [] 13 ⟨trivial⟩ (fun hHeld => ?_); refine with_tabW spec_l3Insert.tab6 spec_l3Insert.bits6 (fun HT_ HW_ => ?_)
          generalize wr.drew = w14 at HB HR106 HR116 hHeld ⊢
          refine pU 1 (some 34) ?_
          refine pU 2 (some 35) ?_
          refine pU 3 (some 36) ?_
          refine pU 5 (some 38) ?_
          refine pU 8 (some 41) ?_
          refine pU 9 (some 42) ?_
          refine pU 10 (some 43) ?_
          refine join_ (σ := Value × Value × Value) 3 (bz 13 1919) (fun s_ => [(33, s_.1), (37, s_.2.1), (39, s_.2.2)]) (fun s_ w' => (Kd.R Kd.string 9 w' w.heap.size (fun k_ => some k_ ≠ (s_.2.2 : Value).ownBlock) s_.2.1 y107) ∧ (Kd.R Kd.string 9 w' w.heap.size (fun k_ => some k_ ≠ (s_.2.1 : Value).ownBlock) s_.2.2 y110) ∧ (Below w.heap.size w w')) ?_ ?_
          rotate_left
          ·intro hCont
           refine two_ (i := 0) (j := 6) (Ni := some 33) (Nj := some 39) (bz 13 1839) (bz 13 1902) rfl rfl rfl rfl (two_of HT_.out (by kernel_rfl)) (by decide) (by decide) (fun K hK => ?_) (fun K hK => ?_)
           ·skip
            refine Kd.R_lit_step Kd.string _ 9 ?hg (N := 33) ?hd (xs := ([] : List ByteArray)) (inner := []) (ok := fun _ => True) (okp := fun _ => True) ?hr ?hp (fun _ hk => hk) trivial (Below.refl _ _) (Nat.le_refl _) (by simp) ?_; (case hd => rfl); (case hg => rfl); (case hr => first | (go_simp; done) | (go_simp; rfl)); (case hp => exact (Reps.none _ _))
            intro v104 w17 ho18 hb hg_ hnew_
            clear hg_ hnew_
            (first | rw [← Ny103.out] at ho18 | (simp only [Int.reduceToNat] at ho18; rw [← Ny103.out] at ho18))
            have HO105 := am (Kd.R_lower ho18 (below_size (pY95)))
            replace HB := bS pY95 hb
            clear hb ho18
            refine hK.out _ _ trivial (fun hHeld => ?_)
            clear hK K
            refine nM ?_
            refine two_ (i := 4) (j := 6) (Ni := some 37) (Nj := some 39) (bz 13 1855) (bz 13 1903) rfl rfl rfl rfl (two_of HT_.out (by kernel_rfl)) (by decide) (by decide) (fun K hK => ?_) (fun K hK => ?_)
            ·skip
             refine Kd.R_append_rows_step Kd.string (w0 := w) w.heap.size (by rfl) (.tmp 33) (.tmp 36) 23 9 (.string ⟨#[]⟩) 16 rfl Try.underlying23 info9 rfl (by decide) (by omega) v104 y103 (l0.take (x5_1 : Int).toNat) _ _ _ (fun _ => True) (fun _ => False) rfl rfl ?aO ?aR (fun _ _ h => h) (fun _ h => h.elim) ?aF ?aB ?aS ?aL ?_
             (case aR => (have e_ : (l0.take (x5_1 : Int).toNat).length = x5_1.toNat := (by rw [List.length_take]; have h_ : (x5_1 : Int) ≤ (l0.length : Int) := oT; omega); have q_ := Kd.C_below HR106.1 HB.1; rw [e_] at q_; exact q_))
             (case aB => exact (pY95))
             (case aF => exact (fun _ _ => trivial))
             (case aO => exact (pY120))
             (case aS => exact (below_size (pY95)))
             (case aL => have := LMc9.out; have hlx_ := (show (l0.take (x5_1 : Int).toNat).length = x5_1.toNat from (by rw [List.length_take]; have h_ : (x5_1 : Int) ≤ (l0.length : Int) := oT; omega)); omega)
             intro v108 w19 ho hb hg hat
             rw [← Ny107.out] at ho
             replace HB := am (hb)
             have HO109 := am (ho)
             clear HO105
             clear ho hb hg hat
             refine hK.out _ _ trivial (fun hHeld => ?_)
             clear hK K
             refine nM ?_
             refine oN 6 (some 39) fun K hK => ?_
             refine Kd.R_lit_step Kd.string _ 9 ?hg (N := 39) ?hd (xs := ([a1] : List ByteArray)) (inner := [.string a1]) (ok := fun _ => True) (okp := fun _ => True) ?hr ?hp (fun _ hk => hk) trivial (Below.refl _ _) (Nat.le_refl _) (by simp) ?_; (case hd => rfl); (case hg => rfl); (case hr => first | (go_simp; done) | (go_simp; rfl)); (case hp => exact (Reps.one (show Kd.M Kd.string _ _ _ a1 [.string a1] from rfl) (Reps.none _ _)))
             intro v111 w20 ho21 hb hg_ hnew_
             clear hg_ hnew_
             (first | rw [← Ny110.out] at ho21 | (simp only [Int.reduceToNat] at ho21; rw [← Ny110.out] at ho21))
             have HO112 := am (Kd.R_lower (Kd.R_new' ho21 (Kd.R_lt (rR HO109.1))) (below_size (pY95)))
             replace HO109 := am (Kd.R_elder' (rR HO109.1) (Kd.R_base ho21) hb)
             replace HB := bS pY95 hb
             clear hb ho21
             refine hK.out _ _ trivial (fun hHeld => ?_)
             clear hK K
             refine nM ?_
             exact norm_ (pY132) (hCont (v104, v108, v111) _ ⟨(by refine rR ?_; exact Kd.R_mono HO109.1 (fun _ hk => hk.2)), (by refine rR ?_; exact Kd.R_mono HO112.1 (fun _ hk => hk.2)), (pY95)⟩)
            ·skip
             refine Kd.R_lit_step Kd.string _ 9 ?hg (N := 39) ?hd (xs := ([a1] : List ByteArray)) (inner := [.string a1]) (ok := fun _ => True) (okp := fun _ => True) ?hr ?hp (fun _ hk => hk) trivial (Below.refl _ _) (Nat.le_refl _) (by simp) ?_; (case hd => rfl); (case hg => rfl); (case hr => first | (go_simp; done) | (go_simp; rfl)); (case hp => exact (Reps.one (show Kd.M Kd.string _ _ _ a1 [.string a1] from rfl) (Reps.none _ _)))
             intro v111 w19 ho20 hb hg_ hnew_
             clear hg_ hnew_
             (first | rw [← Ny110.out] at ho20 | (simp only [Int.reduceToNat] at ho20; rw [← Ny110.out] at ho20))
             have HO112 := am (Kd.R_lower (Kd.R_new' ho20 (Kd.R_lt (pY120))) (below_size (pY95)))
             replace HO105 := am (Kd.R_elder' (pY120) (Kd.R_base ho20) hb)
             replace HB := bS pY95 hb
             clear hb ho20
             refine hK.out _ _ trivial (fun hHeld => ?_)
             clear hK K
             refine nM ?_
             refine oN 4 (some 37) fun K hK => ?_
             refine Kd.R_append_rows_step Kd.string (w0 := w) w.heap.size (by rfl) (.tmp 33) (.tmp 36) 23 9 (.string ⟨#[]⟩) 16 rfl Try.underlying23 info9 rfl (by decide) (by omega) v104 y103 (l0.take (x5_1 : Int).toNat) _ _ _ (fun k_ => some k_ ≠ (v111 : Value).ownBlock) (fun _ => False) rfl rfl ?aO ?aR (fun _ _ h => h) (fun _ h => h.elim) ?aF ?aB ?aS ?aL ?_
             (case aR => (have e_ : (l0.take (x5_1 : Int).toNat).length = x5_1.toNat := (by rw [List.length_take]; have h_ : (x5_1 : Int) ≤ (l0.length : Int) := oT; omega); have q_ := Kd.C_below HR106.1 HB.1; rw [e_] at q_; exact q_))
             (case aB => exact (pY95))
             (case aF => exact (fun k_ hk => Kd.fresh' (Kd.R_lt (pY123)) k_ hk))
             (case aO => exact (by refine rR ?_; exact Kd.R_mono HO105.1 (fun _ hk => hk.2)))
             (case aS => exact (below_size (pY95)))
             (case aL => have := LMc9.out; have hlx_ := (show (l0.take (x5_1 : Int).toNat).length = x5_1.toNat from (by rw [List.length_take]; have h_ : (x5_1 : Int) ≤ (l0.length : Int) := oT; omega)); omega)
             intro v108 w21 ho hb hg hat
             rw [← Ny107.out] at ho
             replace HO112 := am (Kd.R_after (ok := (fun _ => True)) (pY123) hg hat)
             replace HB := am (hb)
             have HO109 := am (ho)
             clear HO105
             clear ho hb hg hat
             refine hK.out _ _ trivial (fun hHeld => ?_)
             clear hK K
             refine nM ?_
             exact norm_ (pY132) (hCont (v104, v108, v111) _ ⟨(rR HO109.1), (by refine rR ?_; exact Kd.R_mono HO112.1 (fun _ hk => hk.2)), (pY95)⟩)
           ·skip
            refine Kd.R_lit_step Kd.string _ 9 ?hg (N := 39) ?hd (xs := ([a1] : List ByteArray)) (inner := [.string a1]) (ok := fun _ => True) (okp := fun _ => True) ?hr ?hp (fun _ hk => hk) trivial (Below.refl _ _) (Nat.le_refl _) (by simp) ?_; (case hd => rfl); (case hg => rfl); (case hr => first | (go_simp; done) | (go_simp; rfl)); (case hp => exact (Reps.one (show Kd.M Kd.string _ _ _ a1 [.string a1] from rfl) (Reps.none _ _)))
            intro v111 w17 ho18 hb hg_ hnew_
            clear hg_ hnew_
            (first | rw [← Ny110.out] at ho18 | (simp only [Int.reduceToNat] at ho18; rw [← Ny110.out] at ho18))
            have HO112 := am (Kd.R_lower ho18 (below_size (pY95)))
            replace HB := bS pY95 hb
            clear hb ho18
            refine hK.out _ _ trivial (fun hHeld => ?_)
            clear hK K
            refine nM ?_
            refine oN 0 (some 33) fun K hK => ?_
            refine Kd.R_lit_step Kd.string _ 9 ?hg (N := 33) ?hd (xs := ([] : List ByteArray)) (inner := []) (ok := fun _ => True) (okp := fun _ => True) ?hr ?hp (fun _ hk => hk) trivial (Below.refl _ _) (Nat.le_refl _) (by simp) ?_; (case hd => rfl); (case hg => rfl); (case hr => first | (go_simp; done) | (go_simp; rfl)); (case hp => exact (Reps.none _ _))
            intro v104 w19 ho20 hb hg_ hnew_
            clear hg_ hnew_
            (first | rw [← Ny103.out] at ho20 | (simp only [Int.reduceToNat] at ho20; rw [← Ny103.out] at ho20))
            have HO105 := am (Kd.R_lower (Kd.R_new' ho20 (Kd.R_lt (pY123))) (below_size (pY95)))
            replace HO112 := am (Kd.R_elder' (pY123) (Kd.R_base ho20) hb)
            replace HB := bS pY95 hb
            clear hb ho20
            refine hK.out _ _ trivial (fun hHeld => ?_)
            clear hK K
            refine nM ?_
            refine oN 4 (some 37) fun K hK => ?_
            refine Kd.R_append_rows_step Kd.string (w0 := w) w.heap.size (by rfl) (.tmp 33) (.tmp 36) 23 9 (.string ⟨#[]⟩) 16 rfl Try.underlying23 info9 rfl (by decide) (by omega) v104 y103 (l0.take (x5_1 : Int).toNat) _ _ _ (fun k_ => some k_ ≠ (v111 : Value).ownBlock) (fun _ => False) rfl rfl ?aO ?aR (fun _ _ h => h) (fun _ h => h.elim) ?aF ?aB ?aS ?aL ?_
            (case aR => (have e_ : (l0.take (x5_1 : Int).toNat).length = x5_1.toNat := (by rw [List.length_take]; have h_ : (x5_1 : Int) ≤ (l0.length : Int) := oT; omega); have q_ := Kd.C_below HR106.1 HB.1; rw [e_] at q_; exact q_))
            (case aB => exact (pY95))
            (case aF => exact (fun k_ hk => Kd.fresh' (Kd.R_lt (pY123)) k_ hk))
            (case aO => exact (by refine rR ?_; exact Kd.R_mono HO105.1 (fun _ hk => hk.2)))
            (case aS => exact (below_size (pY95)))
            (case aL => have := LMc9.out; have hlx_ := (show (l0.take (x5_1 : Int).toNat).length = x5_1.toNat from (by rw [List.length_take]; have h_ : (x5_1 : Int) ≤ (l0.length : Int) := oT; omega)); omega)
            intro v108 w21 ho hb hg hat
            rw [← Ny107.out] at ho
            replace HO112 := am (Kd.R_after (ok := (fun _ => True)) (pY123) hg hat)
            replace HB := am (hb)
            have HO109 := am (ho)
            clear HO105
            clear ho hb hg hat
            refine hK.out _ _ trivial (fun hHeld => ?_)
            clear hK K
            refine nM ?_
            exact norm_ (pY132) (hCont (v104, v108, v111) _ ⟨(rR HO109.1), (by refine rR ?_; exact Kd.R_mono HO112.1 (fun _ hk => hk.2)), (pY95)⟩)
          rintro ⟨v104, v108, v111⟩ w22 ⟨h0_, h1_, h2_⟩
          have HO109 : Aside0 (Kd.R Kd.string 9 w22 w.heap.size (fun k_ => some k_ ≠ (v111 : Value).ownBlock) v108 y107) := ⟨h0_⟩
          have HO112 : Aside0 (Kd.R Kd.string 9 w22 w.heap.size (fun k_ => some k_ ≠ (v108 : Value).ownBlock) v111 y110) := ⟨h1_⟩
          replace HB : Aside0 (Below w.heap.size w w22) := ⟨h2_⟩
          clear h0_ h1_ h2_
          have hHeld := trivial
          obtain ⟨Ao24, co24, eo24⟩ := Kd.R_slice HO112.1
          (first | subst eo24 | (injection eo24 with f1_ f2_ f3_; have f4_ := f1_.symm; have f5_ := f3_.symm; clear f1_ f2_ f3_; subst f4_; subst f5_))
          refine norm_ (a' := ?_) ?_ ?_
          rotate_left
          ·simp only [putAll, Act.put, List.setIfInBounds_toArray, List.set_cons_zero, List.set_cons_succ]
           rfl
          refine oN 7 (some 40) fun K hK => ?_
          refine Kd.R_append_rows_step Kd.string (w0 := w) w.heap.size (by rfl) (.tmp 37) (.tmp 39) 23 9 (.string ⟨#[]⟩) 16 rfl Try.underlying23 info9 rfl (by decide) (by omega) v108 y107 y110 _ _ _ (fun k_ => some k_ ≠ (.slice Ao24 y110.length co24 : Value).ownBlock) (fun _ => False) rfl rfl ?aO ?aR (fun _ _ h => h) (fun _ h => h.elim) ?aF ?aB ?aS ?aL ?_
          (case aR => repeat (first | exact (Kd.R_reads' HO112.1).2.2 | (with_reducible refine Kd.C_alloc ?_ _) | (with_reducible refine Kd.C_drewN ?_ _) | (with_reducible refine Kd.C_drew ?_)))
          (case aB => exact (pY95))
          (case aF => exact (fun k_ hk => Kd.fresh' (Kd.R_lt (pY123)) k_ hk))
          (case aO => exact (rR HO109.1))
          (case aS => exact (below_size (pY95)))
          (case aL => have := LMc10.out; omega)
          intro v114 w23 ho hb hg hat
          rw [← Ny113.out] at ho
          replace HO112 := am (Kd.R_after (ok := (fun _ => True)) (by refine rR ?_; exact Kd.R_mono HO112.1 (fun _ hk => ⟨trivial, hk⟩)) hg hat)
          replace HB := am (hb)
          have HO115 := am (ho)
          clear HO109
          clear ho hb hg hat
          refine hK.out _ _ trivial (fun hHeld => ?_)
          clear hK K
          refine nM ?_
          refine oN 11 (some 44) fun K hK => ?_
          refine Kd.R_append_rows_step Kd.string (w0 := w) w.heap.size (by rfl) (.tmp 40) (.tmp 43) 23 9 (.string ⟨#[]⟩) 16 rfl Try.underlying23 info9 rfl (by decide) (by omega) v114 y113 (l0.drop (x5_1 : Int).toNat) _ _ _ (fun k_ => some k_ ≠ (.slice Ao24 y110.length co24 : Value).ownBlock) (fun _ => False) rfl rfl ?aO ?aR (fun _ _ h => h) (fun _ h => h.elim) ?aF ?aB ?aS ?aL ?_
          (case aR => first | (rw [← show (l0.drop (x5_1 : Int).toNat).length = (l0.length - x5_1.toNat) from List.length_drop]; repeat (first | exact (Kd.C_below HR116.1 HB.1) | (with_reducible refine Kd.C_alloc ?_ _) | (with_reducible refine Kd.C_drewN ?_ _) | (with_reducible refine Kd.C_drew ?_))) | (repeat (first | exact (Kd.C_below HR116.1 HB.1) | (with_reducible refine Kd.C_alloc ?_ _) | (with_reducible refine Kd.C_drewN ?_ _) | (with_reducible refine Kd.C_drew ?_))))
          (case aB => exact (pY95))
          (case aF => exact (fun k_ hk => Kd.fresh' (Kd.R_lt (pY123)) k_ hk))
          (case aO => exact (rR HO115.1))
          (case aS => exact (below_size (pY95)))
          (case aL => have := LMc13.out; have hlx_ := (show (l0.drop (x5_1 : Int).toNat).length = (l0.length - x5_1.toNat) from List.length_drop); omega)
          intro v118 w25 ho hb hg hat
          rw [← Ny117.out] at ho
          replace HO112 := am (Kd.R_after (ok := (fun _ => True)) (pY123) hg hat)
          replace HB := am (hb)
          have HO119 := am (ho)
          clear HO115
          clear ho hb hg hat
          refine hK.out _ _ trivial (fun hHeld => ?_)
          clear hK K
          refine nM ?_
          refine pU 12 (some 4) ?_
          refine done_ (done_of HT_.out (by kernel_rfl)) ?_
          try go_wp2
          go_ret
          exact ⟨_, eR, by refine rR ?_; exact Kd.R_mono HO119.1 (fun _ hk => trivial), pY95⟩
         ·rw [if_neg c13] at H
          exact absurd H (by simp)
        ·rw [if_neg c10] at H
         exact absurd H (by simp)
       ·rw [if_neg c9] at H
        exact absurd H (by simp)
      ·rw [if_neg c8] at H
       exact absurd H (by simp)
   ·obtain ⟨y120, Ny120⟩ := yv (([] : List ByteArray)); first | replace H := bW Ny120 H | rw [← Ny120.1] at H
    by_cases c26 : 0 ≤ x5_1
    ·rw [if_pos c26] at H
     have c26b0 := eq_true c26
     have c26b1 : decide (0 ≤ x5_1) = true := decide_eq_true c26
     clear c26
     by_cases c27 : x5_1 ≤ (l0.length : Int)
     ·rw [if_pos c27] at H
      have c27b0 := eq_true c27
      have c27b1 : decide (x5_1 ≤ (l0.length : Int)) = true := decide_eq_true c27
      clear c27
      by_cases c28 : y120.length + (l0.take (x5_1 : Int).toNat).length < 8796093022208
      ·rw [if_pos c28] at H
       have LMc28 := am c28
       clear c28
       obtain ⟨y124, Ny124, H⟩ := bY H
       obtain ⟨y127, Ny127, H⟩ := bY H
       by_cases c29 : y124.length + y127.length < 8796093022208
       ·rw [if_pos c29] at H
        have LMc29 := am c29
        clear c29
        obtain ⟨y130, Ny130, H⟩ := bY H
        have c30b0 := eq_true (oT : 0 ≤ x5_1)
        have c31b0 := eq_true (oT : x5_1 ≤ (l0.length : Int))
        by_cases c32 : y130.length + (l0.drop (x5_1 : Int).toNat).length < 8796093022208
        ·rw [if_pos c32] at H
         have LMc32 := am c32
         clear c32
         obtain ⟨y134, Ny134⟩ := yv (y130 ++ (l0.drop (x5_1 : Int).toNat)); first | replace H := bW Ny134 H | rw [← Ny134.1] at H
         obtain rfl := Option.some.inj H
         try go_wp2
         replace HB := am (below_drew1 HB.1)
         obtain ⟨i034, hi034, _, hsz34, _⟩ := info_parts info9
         obtain ⟨hcut34, hA34, hC34⟩ := print_take_of (P := Try.prog) Value.string (⟨#[]⟩ : ByteArray) 23 9 .i64 Try.underlying23 hi034 hsz34 A0 c0 l0 x5_1 (oT) (oT) HC0.1
         have HR123 := am (Kd.C_of_reads (h1 := fun _ => rfl) (hA34 _ (Kd.reads_of_C HR0.1)))
         have HC123 := am hC34
         clear hA34 hC34 hi034 hsz34
         obtain ⟨i035, hi035, _, hsz35, _⟩ := info_parts info9
         obtain ⟨A35, hcut35, hA35, hC35⟩ := print_drop_of (P := Try.prog) Value.string (⟨#[]⟩ : ByteArray) 23 9 .i64 Try.underlying23 hi035 hsz35 A0 c0 l0 x5_1 (oT) (oT) HC0.1
         have HR133 := am (Kd.C_of_reads (h1 := fun _ => rfl) (hA35 _ (Kd.reads_of_C HR0.1)))
         have HC133 := am hC35
         clear hA35 hC35 hi035 hsz35
         refine sT (S := fun w' => True) [] 13 ⟨trivial⟩ (fun hHeld => ?_); refine with_tabW spec_l3Insert.tab6 spec_l3Insert.bits6 (fun HT_ HW_ => ?_)
         generalize wr.drew = w33 at HB HR123 HR133 hHeld ⊢
         refine pU 1 (some 34) ?_
         refine pU 2 (some 35) ?_
         refine pU 3 (some 36) ?_
         refine pU 5 (some 38) ?_
         refine pU 8 (some 41) ?_
         refine pU 9 (some 42) ?_
         refine pU 10 (some 43) ?_
         refine join_ (σ := Value × Value × Value) 3 (bz 13 1919) (fun s_ => [(33, s_.1), (37, s_.2.1), (39, s_.2.2)]) (fun s_ w' => (Kd.R Kd.string 9 w' w.heap.size (fun k_ => some k_ ≠ (s_.2.2 : Value).ownBlock) s_.2.1 y124) ∧ (Kd.R Kd.string 9 w' w.heap.size (fun k_ => some k_ ≠ (s_.2.1 : Value).ownBlock) s_.2.2 y127) ∧ (Below w.heap.size w w')) ?_ ?_
         rotate_left
         ·intro hCont
          refine two_ (i := 0) (j := 6) (Ni := some 33) (Nj := some 39) (bz 13 1839) (bz 13 1902) rfl rfl rfl rfl (two_of HT_.out (by kernel_rfl)) (by decide) (by decide) (fun K hK => ?_) (fun K hK => ?_)
          ·skip
           refine Kd.R_lit_step Kd.string _ 9 ?hg (N := 33) ?hd (xs := ([] : List ByteArray)) (inner := []) (ok := fun _ => True) (okp := fun _ => True) ?hr ?hp (fun _ hk => hk) trivial (Below.refl _ _) (Nat.le_refl _) (by simp) ?_; (case hd => rfl); (case hg => rfl); (case hr => first | (go_simp; done) | (go_simp; rfl)); (case hp => exact (Reps.none _ _))
           intro v121 w36 ho37 hb hg_ hnew_
           clear hg_ hnew_
           (first | rw [← Ny120.out] at ho37 | (simp only [Int.reduceToNat] at ho37; rw [← Ny120.out] at ho37))
           have HO122 := am (Kd.R_lower ho37 (below_size (pY95)))
           replace HB := bS pY95 hb
           clear hb ho37
           refine hK.out _ _ trivial (fun hHeld => ?_)
           clear hK K
           refine nM ?_
           refine two_ (i := 4) (j := 6) (Ni := some 37) (Nj := some 39) (bz 13 1855) (bz 13 1903) rfl rfl rfl rfl (two_of HT_.out (by kernel_rfl)) (by decide) (by decide) (fun K hK => ?_) (fun K hK => ?_)
           ·skip
            refine Kd.R_append_rows_step Kd.string (w0 := w) w.heap.size (by rfl) (.tmp 33) (.tmp 36) 23 9 (.string ⟨#[]⟩) 16 rfl Try.underlying23 info9 rfl (by decide) (by omega) v121 y120 (l0.take (x5_1 : Int).toNat) _ _ _ (fun _ => True) (fun _ => False) rfl rfl ?aO ?aR (fun _ _ h => h) (fun _ h => h.elim) ?aF ?aB ?aS ?aL ?_
            (case aR => (have e_ : (l0.take (x5_1 : Int).toNat).length = x5_1.toNat := (by rw [List.length_take]; have h_ : (x5_1 : Int) ≤ (l0.length : Int) := oT; omega); have q_ := Kd.C_below HR123.1 HB.1; rw [e_] at q_; exact q_))
            (case aB => exact (pY95))
            (case aF => exact (fun _ _ => trivial))
            (case aO => exact (rR HO122.1))
            (case aS => exact (below_size (pY95)))
            (case aL => have := LMc28.out; have hlx_ := (show (l0.take (x5_1 : Int).toNat).length = x5_1.toNat from (by rw [List.length_take]; have h_ : (x5_1 : Int) ≤ (l0.length : Int) := oT; omega)); omega)
            intro v125 w38 ho hb hg hat
            rw [← Ny124.out] at ho
            replace HB := am (hb)
            have HO126 := am (ho)
            clear HO122
            clear ho hb hg hat
            refine hK.out _ _ trivial (fun hHeld => ?_)
            clear hK K
            refine nM ?_
            refine oN 6 (some 39) fun K hK => ?_
            refine Kd.R_lit_step Kd.string _ 9 ?hg (N := 39) ?hd (xs := ([a1] : List ByteArray)) (inner := [.string a1]) (ok := fun _ => True) (okp := fun _ => True) ?hr ?hp (fun _ hk => hk) trivial (Below.refl _ _) (Nat.le_refl _) (by simp) ?_; (case hd => rfl); (case hg => rfl); (case hr => first | (go_simp; done) | (go_simp; rfl)); (case hp => exact (Reps.one (show Kd.M Kd.string _ _ _ a1 [.string a1] from rfl) (Reps.none _ _)))
            intro v128 w39 ho40 hb hg_ hnew_
            clear hg_ hnew_
            (first | rw [← Ny127.out] at ho40 | (simp only [Int.reduceToNat] at ho40; rw [← Ny127.out] at ho40))
            have HO129 := am (Kd.R_lower (Kd.R_new' ho40 (Kd.R_lt (rR HO126.1))) (below_size (pY95)))
            replace HO126 := am (Kd.R_elder' (rR HO126.1) (Kd.R_base ho40) hb)
            replace HB := bS pY95 hb
            clear hb ho40
            refine hK.out _ _ trivial (fun hHeld => ?_)
            clear hK K
            refine nM ?_
            exact norm_ (pY132) (hCont (v121, v125, v128) _ ⟨(by refine rR ?_; exact Kd.R_mono HO126.1 (fun _ hk => hk.2)), (by refine rR ?_; exact Kd.R_mono HO129.1 (fun _ hk => hk.2)), (pY95)⟩)
           ·skip
            refine Kd.R_lit_step Kd.string _ 9 ?hg (N := 39) ?hd (xs := ([a1] : List ByteArray)) (inner := [.string a1]) (ok := fun _ => True) (okp := fun _ => True) ?hr ?hp (fun _ hk => hk) trivial (Below.refl _ _) (Nat.le_refl _) (by simp) ?_; (case hd => rfl); (case hg => rfl); (case hr => first | (go_simp; done) | (go_simp; rfl)); (case hp => exact (Reps.one (show Kd.M Kd.string _ _ _ a1 [.string a1] from rfl) (Reps.none _ _)))
            intro v128 w38 ho39 hb hg_ hnew_
            clear hg_ hnew_
            (first | rw [← Ny127.out] at ho39 | (simp only [Int.reduceToNat] at ho39; rw [← Ny127.out] at ho39))
            have HO129 := am (Kd.R_lower (Kd.R_new' ho39 (Kd.R_lt (rR HO122.1))) (below_size (pY95)))
            replace HO122 := am (Kd.R_elder' (rR HO122.1) (Kd.R_base ho39) hb)
            replace HB := bS pY95 hb
            clear hb ho39
            refine hK.out _ _ trivial (fun hHeld => ?_)
            clear hK K
            refine nM ?_
            refine oN 4 (some 37) fun K hK => ?_
            refine Kd.R_append_rows_step Kd.string (w0 := w) w.heap.size (by rfl) (.tmp 33) (.tmp 36) 23 9 (.string ⟨#[]⟩) 16 rfl Try.underlying23 info9 rfl (by decide) (by omega) v121 y120 (l0.take (x5_1 : Int).toNat) _ _ _ (fun k_ => some k_ ≠ (v128 : Value).ownBlock) (fun _ => False) rfl rfl ?aO ?aR (fun _ _ h => h) (fun _ h => h.elim) ?aF ?aB ?aS ?aL ?_
            (case aR => (have e_ : (l0.take (x5_1 : Int).toNat).length = x5_1.toNat := (by rw [List.length_take]; have h_ : (x5_1 : Int) ≤ (l0.length : Int) := oT; omega); have q_ := Kd.C_below HR123.1 HB.1; rw [e_] at q_; exact q_))
            (case aB => exact (pY95))
            (case aF => exact (fun k_ hk => Kd.fresh' (Kd.R_lt (pY124)) k_ hk))
            (case aO => exact (by refine rR ?_; exact Kd.R_mono HO122.1 (fun _ hk => hk.2)))
            (case aS => exact (below_size (pY95)))
            (case aL => have := LMc28.out; have hlx_ := (show (l0.take (x5_1 : Int).toNat).length = x5_1.toNat from (by rw [List.length_take]; have h_ : (x5_1 : Int) ≤ (l0.length : Int) := oT; omega)); omega)
            intro v125 w40 ho hb hg hat
            rw [← Ny124.out] at ho
            replace HO129 := am (Kd.R_after (ok := (fun _ => True)) (pY124) hg hat)
            replace HB := am (hb)
            have HO126 := am (ho)
            clear HO122
            clear ho hb hg hat
            refine hK.out _ _ trivial (fun hHeld => ?_)
            clear hK K
            refine nM ?_
            exact norm_ (pY132) (hCont (v121, v125, v128) _ ⟨(rR HO126.1), (by refine rR ?_; exact Kd.R_mono HO129.1 (fun _ hk => hk.2)), (pY95)⟩)
          ·skip
           refine Kd.R_lit_step Kd.string _ 9 ?hg (N := 39) ?hd (xs := ([a1] : List ByteArray)) (inner := [.string a1]) (ok := fun _ => True) (okp := fun _ => True) ?hr ?hp (fun _ hk => hk) trivial (Below.refl _ _) (Nat.le_refl _) (by simp) ?_; (case hd => rfl); (case hg => rfl); (case hr => first | (go_simp; done) | (go_simp; rfl)); (case hp => exact (Reps.one (show Kd.M Kd.string _ _ _ a1 [.string a1] from rfl) (Reps.none _ _)))
           intro v128 w36 ho37 hb hg_ hnew_
           clear hg_ hnew_
           (first | rw [← Ny127.out] at ho37 | (simp only [Int.reduceToNat] at ho37; rw [← Ny127.out] at ho37))
           have HO129 := am (Kd.R_lower ho37 (below_size (pY95)))
           replace HB := bS pY95 hb
           clear hb ho37
           refine hK.out _ _ trivial (fun hHeld => ?_)
           clear hK K
           refine nM ?_
           refine oN 0 (some 33) fun K hK => ?_
           refine Kd.R_lit_step Kd.string _ 9 ?hg (N := 33) ?hd (xs := ([] : List ByteArray)) (inner := []) (ok := fun _ => True) (okp := fun _ => True) ?hr ?hp (fun _ hk => hk) trivial (Below.refl _ _) (Nat.le_refl _) (by simp) ?_; (case hd => rfl); (case hg => rfl); (case hr => first | (go_simp; done) | (go_simp; rfl)); (case hp => exact (Reps.none _ _))
           intro v121 w38 ho39 hb hg_ hnew_
           clear hg_ hnew_
           (first | rw [← Ny120.out] at ho39 | (simp only [Int.reduceToNat] at ho39; rw [← Ny120.out] at ho39))
           have HO122 := am (Kd.R_lower (Kd.R_new' ho39 (Kd.R_lt (pY124))) (below_size (pY95)))
           replace HO129 := am (Kd.R_elder' (pY124) (Kd.R_base ho39) hb)
           replace HB := bS pY95 hb
           clear hb ho39
           refine hK.out _ _ trivial (fun hHeld => ?_)
           clear hK K
           refine nM ?_
           refine oN 4 (some 37) fun K hK => ?_
           refine Kd.R_append_rows_step Kd.string (w0 := w) w.heap.size (by rfl) (.tmp 33) (.tmp 36) 23 9 (.string ⟨#[]⟩) 16 rfl Try.underlying23 info9 rfl (by decide) (by omega) v121 y120 (l0.take (x5_1 : Int).toNat) _ _ _ (fun k_ => some k_ ≠ (v128 : Value).ownBlock) (fun _ => False) rfl rfl ?aO ?aR (fun _ _ h => h) (fun _ h => h.elim) ?aF ?aB ?aS ?aL ?_
           (case aR => (have e_ : (l0.take (x5_1 : Int).toNat).length = x5_1.toNat := (by rw [List.length_take]; have h_ : (x5_1 : Int) ≤ (l0.length : Int) := oT; omega); have q_ := Kd.C_below HR123.1 HB.1; rw [e_] at q_; exact q_))
           (case aB => exact (pY95))
           (case aF => exact (fun k_ hk => Kd.fresh' (Kd.R_lt (pY124)) k_ hk))
           (case aO => exact (by refine rR ?_; exact Kd.R_mono HO122.1 (fun _ hk => hk.2)))
           (case aS => exact (below_size (pY95)))
           (case aL => have := LMc28.out; have hlx_ := (show (l0.take (x5_1 : Int).toNat).length = x5_1.toNat from (by rw [List.length_take]; have h_ : (x5_1 : Int) ≤ (l0.length : Int) := oT; omega)); omega)
           intro v125 w40 ho hb hg hat
           rw [← Ny124.out] at ho
           replace HO129 := am (Kd.R_after (ok := (fun _ => True)) (pY124) hg hat)
           replace HB := am (hb)
           have HO126 := am (ho)
           clear HO122
           clear ho hb hg hat
           refine hK.out _ _ trivial (fun hHeld => ?_)
           clear hK K
           refine nM ?_
           exact norm_ (pY132) (hCont (v121, v125, v128) _ ⟨(rR HO126.1), (by refine rR ?_; exact Kd.R_mono HO129.1 (fun _ hk => hk.2)), (pY95)⟩)
         rintro ⟨v121, v125, v128⟩ w41 ⟨h0_, h1_, h2_⟩
         have HO126 : Aside0 (Kd.R Kd.string 9 w41 w.heap.size (fun k_ => some k_ ≠ (v128 : Value).ownBlock) v125 y124) := ⟨h0_⟩
         have HO129 : Aside0 (Kd.R Kd.string 9 w41 w.heap.size (fun k_ => some k_ ≠ (v125 : Value).ownBlock) v128 y127) := ⟨h1_⟩
         replace HB : Aside0 (Below w.heap.size w w41) := ⟨h2_⟩
         clear h0_ h1_ h2_
         have hHeld := trivial
         obtain ⟨Ao43, co43, eo43⟩ := Kd.R_slice HO129.1
         (first | subst eo43 | (injection eo43 with f1_ f2_ f3_; have f4_ := f1_.symm; have f5_ := f3_.symm; clear f1_ f2_ f3_; subst f4_; subst f5_))
         refine norm_ (a' := ?_) ?_ ?_
         rotate_left
         ·simp only [putAll, Act.put, List.setIfInBounds_toArray, List.set_cons_zero, List.set_cons_succ]
          rfl
         refine oN 7 (some 40) fun K hK => ?_
         refine Kd.R_append_rows_step Kd.string (w0 := w) w.heap.size (by rfl) (.tmp 37) (.tmp 39) 23 9 (.string ⟨#[]⟩) 16 rfl Try.underlying23 info9 rfl (by decide) (by omega) v125 y124 y127 _ _ _ (fun k_ => some k_ ≠ (.slice Ao43 y127.length co43 : Value).ownBlock) (fun _ => False) rfl rfl ?aO ?aR (fun _ _ h => h) (fun _ h => h.elim) ?aF ?aB ?aS ?aL ?_
         (case aR => repeat (first | exact (Kd.R_reads' HO129.1).2.2 | (with_reducible refine Kd.C_alloc ?_ _) | (with_reducible refine Kd.C_drewN ?_ _) | (with_reducible refine Kd.C_drew ?_)))
         (case aB => exact (pY95))
         (case aF => exact (fun k_ hk => Kd.fresh' (Kd.R_lt (pY124)) k_ hk))
         (case aO => exact (rR HO126.1))
         (case aS => exact (below_size (pY95)))
         (case aL => have := LMc29.out; omega)
         intro v131 w42 ho hb hg hat
         rw [← Ny130.out] at ho
         replace HO129 := am (Kd.R_after (ok := (fun _ => True)) (by refine rR ?_; exact Kd.R_mono HO129.1 (fun _ hk => ⟨trivial, hk⟩)) hg hat)
         replace HB := am (hb)
         have HO132 := am (ho)
         clear HO126
         clear ho hb hg hat
         refine hK.out _ _ trivial (fun hHeld => ?_)
         clear hK K
         refine nM ?_
         refine oN 11 (some 44) fun K hK => ?_
         refine Kd.R_append_rows_step Kd.string (w0 := w) w.heap.size (by rfl) (.tmp 40) (.tmp 43) 23 9 (.string ⟨#[]⟩) 16 rfl Try.underlying23 info9 rfl (by decide) (by omega) v131 y130 (l0.drop (x5_1 : Int).toNat) _ _ _ (fun k_ => some k_ ≠ (.slice Ao43 y127.length co43 : Value).ownBlock) (fun _ => False) rfl rfl ?aO ?aR (fun _ _ h => h) (fun _ h => h.elim) ?aF ?aB ?aS ?aL ?_
         (case aR => first | (rw [← show (l0.drop (x5_1 : Int).toNat).length = (l0.length - x5_1.toNat) from List.length_drop]; repeat (first | exact (Kd.C_below HR133.1 HB.1) | (with_reducible refine Kd.C_alloc ?_ _) | (with_reducible refine Kd.C_drewN ?_ _) | (with_reducible refine Kd.C_drew ?_))) | (repeat (first | exact (Kd.C_below HR133.1 HB.1) | (with_reducible refine Kd.C_alloc ?_ _) | (with_reducible refine Kd.C_drewN ?_ _) | (with_reducible refine Kd.C_drew ?_))))
         (case aB => exact (pY95))
         (case aF => exact (fun k_ hk => Kd.fresh' (Kd.R_lt (pY124)) k_ hk))
         (case aO => exact (rR HO132.1))
         (case aS => exact (below_size (pY95)))
         (case aL => have := LMc32.out; have hlx_ := (show (l0.drop (x5_1 : Int).toNat).length = (l0.length - x5_1.toNat) from List.length_drop); omega)
         intro v135 w44 ho hb hg hat
         rw [← Ny134.out] at ho
         replace HO129 := am (Kd.R_after (ok := (fun _ => True)) (pY124) hg hat)
         replace HB := am (hb)
         have HO136 := am (ho)
         clear HO132
         clear ho hb hg hat
         refine hK.out _ _ trivial (fun hHeld => ?_)
         clear hK K
         refine nM ?_
         refine pU 12 (some 4) ?_
         refine done_ (done_of HT_.out (by kernel_rfl)) ?_
         try go_wp2
         go_ret
         exact ⟨_, eR, by refine rR ?_; exact Kd.R_mono HO136.1 (fun _ hk => trivial), pY95⟩
        ·rw [if_neg c32] at H
         exact absurd H (by simp)
       ·rw [if_neg c29] at H
        exact absurd H (by simp)
      ·rw [if_neg c28] at H
       exact absurd H (by simp)
     ·rw [if_neg c27] at H
      exact absurd H (by simp)
    ·rw [if_neg c26] at H
     exact absurd H (by simp)
def insF (a : ByteArray) : List ByteArray → Bool
 | [] => false
 | x :: t => if Op.bytesLess x.toList a.toList = true then insF a t else x.toList == a.toList
def spec_l3Insert.q0 : Nat → List ByteArray → ByteArray → Int → Option Bool
 | 0, _, _, _ => none
 | k + 1, x0, x1, x5 => if x5 < (x0.length : Int) then (if 0 ≤ x5 then (if (Op.bytesLess ((rdOf ByteArray.empty x0 x5).toList) x1.toList) = true then (spec_l3Insert.q0 k x0 x1 (wrap64 (x5 + 1))) else (if (rdOf ByteArray.empty x0 x5).toList = x1.toList then some true else none)) else none) else none
theorem spec_l3Insert.q0_of (l : List ByteArray) (a : ByteArray) (hl : l.length ≤ 9223372036854775807) : ∀ (n i : Nat), i + n = l.length → insF a (l.drop i) = true → spec_l3Insert.q0 (n + 1) l a i = some true
 | 0, i, hi, h => by rw [List.drop_eq_nil_of_le (by omega)] at h; cases h
 | n + 1, i, hi, h => by
  have hlt : i < l.length := by omega
  rw [List.drop_eq_getElem_cons hlt] at h
  have e1 : rdOf ByteArray.empty l (i : Int) = l[i] := by unfold rdOf; rw [Int.toNat_natCast]; simp [List.getD_eq_getElem?_getD, hlt]
  unfold spec_l3Insert.q0
  rw [if_pos (by omega), if_pos (by omega), e1]
  unfold insF at h
  by_cases hc : Op.bytesLess l[i].toList a.toList = true
  ·rw [if_pos hc] at h ⊢
   rw [show wrap64 ((i : Int) + 1) = ((i + 1 : Nat) : Int) by unfold wrap64; omega]
   exact spec_l3Insert.q0_of l a hl n (i + 1) (by omega) h
  ·rw [if_neg hc] at h ⊢
   rw [if_pos (by simpa using h)]
theorem spec_l3Insert.same (k : Nat) (A0 : Option Addr) (c0 : Nat) (l0 : List ByteArray) (a1 : ByteArray) (w : World) (hr0 : Kd.C Kd.string w A0 l0.length l0) (hc0 : l0.length ≤ c0) (h : spec_l3Insert.q0 k l0 a1 0 = some true) :
  Calls Try.prog 106 #[.slice A0 l0.length c0, .string a1] w fun e w' => e = .returned (.slice A0 l0.length c0) ∧ Below w.heap.size w w' := by
 have HR0 := am hr0
 have HC0 := am hc0
 clear hr0 hc0
 have HB := am (Below.refl w.heap.size w)
 have H := h
 clear h
 have H' := am H
 clear H
 go_enter Try.func106, Try.ntmps106
 go_wp2
 go_loopg [5] k (fun kq v5 w' => ∃ (x5_1 : Int), v5 = .int .i64 x5_1 ∧ Aside0 (spec_l3Insert.q0 kq l0 a1 x5_1 = some true) ∧ Aside0 (kq ≤ k) ∧ Aside0 (Below w.heap.size w w'))
 case atStart => exact ⟨(0), (pY136), H', ⟨Nat.le_refl _⟩, ⟨pY95⟩⟩
 case round =>
  clear H'
  obtain ⟨x5_1, rfl, HA, HK1, HB⟩ := hrel
  cases gk with
  | zero => exact absurd HA.out (by simp [spec_l3Insert.q0])
  | succ k1 =>
   have H := HA.out
   clear HA
   simp only [spec_l3Insert.q0] at H
   by_cases c3 : x5_1 < (l0.length : Int)
   ·rw [if_pos c3] at H
    have c3b0 : decide (x5_1 < (l0.length : Int)) = true := decide_eq_true c3
    clear c3
    by_cases c4 : 0 ≤ x5_1
    ·rw [if_pos c4] at H
     have c4b0 : decide (0 ≤ x5_1) = true := decide_eq_true c4
     clear c4
     by_cases c5 : (Op.bytesLess ((rdOf ByteArray.empty l0 x5_1).toList) a1.toList) = true
     ·rw [if_pos c5] at H
      have c5b0 : (Op.bytesLess ((rdOf ByteArray.empty l0 x5_1).toList) a1.toList) = true := c5
      clear c5
      have H' := am H
      clear H
      obtain ⟨ad101, e101, hx101_0, p101, q101⟩ := aS HR0 HB x5_1
      cases e101
      go_wp2
      go_roundg k1
      case measure => have := HK1.out; omega
      case rel => exact ⟨(wrap64 (x5_1 + 1)), (pY136), H', ⟨by have := HK1.out; omega⟩, ⟨pY95⟩⟩
     ·rw [if_neg c5] at H
      have c5b0 : (Op.bytesLess ((rdOf ByteArray.empty l0 x5_1).toList) a1.toList) = false := by simpa using c5
      clear c5
      by_cases c6 : (rdOf ByteArray.empty l0 x5_1).toList = a1.toList
      ·rw [if_pos c6] at H
       have c6b0 : ((rdOf ByteArray.empty l0 x5_1).toList == a1.toList) = true := beq_iff_eq.mpr c6
       have c6b1 : ((rdOf ByteArray.empty l0 x5_1).toList != a1.toList) = false := bne_eq_false_iff_eq.mpr c6
       clear c6 H
       obtain ⟨ad101, e101, hx101_0, p101, q101⟩ := aS HR0 HB x5_1
       cases e101
       obtain ⟨ad102, e102, hx102_0, p102, q102⟩ := aS HR0 HB x5_1
       obtain rfl : ad101 = ad102 := (by injection e102)
       go_wp2
       go_ret
       exact ⟨rfl, pY95⟩
      ·rw [if_neg c6] at H; cases H
    ·rw [if_neg c4] at H; cases H
   ·rw [if_neg c3] at H; cases H
def spec_l2Can.l0 : Nat → Int → List ByteArray → Int → List ByteArray → List (S56) → Option (Bool)
 | 0, _, _, _, _, _ => none
 | k + 1, x1, x2, x7, x102000, x102001 => if x7 < (x102001.length : Int) then (if x7 = x1 then (spec_l2Can.l0 k x1 x2 (wrap64 (x7 + 1)) x102000 x102001) else (if 0 ≤ x7 then ((spec_l1Has.f k x2 ((rd_T56 x102001 x7).f0)).bind fun t103 => (if t103 = true then (spec_l2Can.l0 k x1 x2 (wrap64 (x7 + 1)) x102000 x102001) else (if 0 ≤ x1 then (if x1 < (x102001.length : Int) then ((spec_l1Share.f k ((rd_T56 x102001 x7).f1) ((rd_T56 x102001 x1).f2)).bind fun t106 => (if t106 = true then (some false) else (spec_l2Can.l0 k x1 x2 (wrap64 (x7 + 1)) x102000 x102001))) else (none)) else (none)))) else (none))) else (some true)
def spec_l2Can.f (k : Nat) (l0_0 : List ByteArray) (l0_1 : List (S56)) (a1 : Int) (l2 : List ByteArray) : Option (Bool) := spec_l2Can.l0 k a1 l2 0 l0_0 l0_1
theorem spec_l2Can.calls (k : Nat) (A0_0 : Option Addr) (c0_0 : Nat) (l0_0 : List ByteArray) (A0_1 : Option Addr) (c0_1 : Nat) (l0_1 : List (S56)) (a1 : Int) (A2 : Option Addr) (c2 : Nat) (l2 : List ByteArray) (r : Bool) (w : World) (hr0_0 : Kd.C Kd.string w A0_0 l0_0.length l0_0) (hc0_0 : l0_0.length ≤ c0_0) (hr0_1 : Kd.C k56 w A0_1 l0_1.length l0_1) (hc0_1 : l0_1.length ≤ c0_1) (hr2 : Kd.C Kd.string w A2 l2.length l2) (hc2 : l2.length ≤ c2) (h : spec_l2Can.f k l0_0 l0_1 a1 l2 = some r) :
  Calls Try.prog 83 #[.agg #[.slice A0_0 l0_0.length c0_0, .slice A0_1 l0_1.length c0_1], .int .i64 a1, .slice A2 l2.length c2] w fun e w' => e = .returned (.bool r) ∧ Below w.heap.size w w' := by
 have hu31 := Try.underlying31
 have HR0_0 := am hr0_0
 have HC0_0 := am hc0_0
 clear hr0_0 hc0_0
 have HR0_1 := am hr0_1
 have HC0_1 := am hc0_1
 clear hr0_1 hc0_1
 have HR2 := am hr2
 have HC2 := am hc2
 clear hr2 hc2
 have HB := am (Below.refl w.heap.size w)
 unfold spec_l2Can.f at h
 have H := h
 clear h
 have H' := am H
 clear H
 go_enter Try.func83, Try.ntmps83
 go_wp2_with (first | ((with_reducible refine gD 3 ?_); refine bX 3 #[.slice A0_0 l0_0.length c0_0, .slice A0_1 l0_1.length c0_1] 31 ?_; intro gb101 hg w4 hbox hb; have BK101 := am (hbox); have GW101 := am (pY89 : w.heap.size ≤ gb101); have GE101 := am (pY89 : w.heap.size ≤ gb101); replace HB := bS pY95 hb; clear hb hbox hg))
 repeat (go_quiet (first | ((with_reducible refine gD 3 ?_); refine bX 3 #[.slice A0_0 l0_0.length c0_0, .slice A0_1 l0_1.length c0_1] 31 ?_; intro gb101 hg w4 hbox hb; have BK101 := am (hbox); have GW101 := am (pY89 : w.heap.size ≤ gb101); have GE101 := am (pY89 : w.heap.size ≤ gb101); replace HB := bS pY95 hb; clear hb hbox hg)); try go_wp2_with (first | ((with_reducible refine gD 3 ?_); refine bX 3 #[.slice A0_0 l0_0.length c0_0, .slice A0_1 l0_1.length c0_1] 31 ?_; intro gb101 hg w4 hbox hb; have BK101 := am (hbox); have GW101 := am (pY89 : w.heap.size ≤ gb101); have GE101 := am (pY89 : w.heap.size ≤ gb101); replace HB := bS pY95 hb; clear hb hbox hg)))
 go_loopg [7] k (fun kq v7 w' => ∃ (x7_1 : Int), v7 = .int .i64 x7_1 ∧ Aside0 (spec_l2Can.l0 kq a1 l2 x7_1 l0_0 l0_1 = some r) ∧ Aside0 (kq ≤ k) ∧ Aside0 (w'.heap[gb101]? = some (.cells #[(.slice A0_0 l0_0.length c0_0), (.slice A0_1 l0_1.length c0_1)] 31 (0, 0))) ∧ Aside0 (Below w.heap.size w w'))
 case atStart => exact ⟨(0), (pY136), H', ⟨Nat.le_refl _⟩, ⟨rB BK101.1⟩, ⟨pY90⟩⟩
 case round =>
  clear H'
  try clear c2
  obtain ⟨x7_1, rfl, HA, HK1, BK101, HB⟩ := hrel
  cases gk with
  | zero => exact absurd HA.out (by simp [spec_l2Can.l0])
  | succ k1 =>
   have H := HA.out
   clear HA
   simp only [spec_l2Can.l0] at H
   refine ic H ?_ ?_ <;> clear H <;> intro c5b0 H
   by_cases c6 : x7_1 = a1
   rw [if_pos c6] at H
   have c6b0 : (x7_1 == a1) = true := beq_iff_eq.mpr c6
   have c6b1 : (x7_1 != a1) = false := bne_eq_false_iff_eq.mpr c6
   clear c6
   have H' := am H
   clear H
   obtain ⟨hcz7_0, hcz7_1, hfz7_0, hfz7_1⟩ := cz2 BK101
   rotate_left
   rw [if_neg c6] at H
   have c6b0 : (x7_1 == a1) = false := beq_eq_false_iff_ne.mpr c6
   have c6b1 : (x7_1 != a1) = true := bne_iff_ne.mpr c6
   obtain ⟨c8b0, H⟩ := cN H
   obtain ⟨t103, A9, H⟩ := bd H
   refine tC H ?_ ?_ <;> clear H <;> intro c10 H <;> subst c10
   have H' := am H
   clear H
   obtain ⟨hcz11_0, hcz11_1, hfz11_0, hfz11_1⟩ := cz2 BK101
   obtain ⟨ad102, A102_1, c102_1, A102_2, c102_2, e102, hx102_0, hx102_1, hx102_2, HR102_1, HC102_1, HR102_2, HC102_2, p102, q102⟩ := aT56 HR0_1 HB x7_1
   cases e102
   have M34_ := trivial
   rotate_left
   obtain ⟨c12b0, H⟩ := cN H
   obtain ⟨c13b0, H⟩ := cN H
   obtain ⟨t106, A14, H⟩ := bd H
   refine tC H ?_ ?_ <;> clear H <;> intro c15 H <;> subst c15
   obtain rfl := Option.some.inj H
   obtain ⟨hcz16_0, hcz16_1, hfz16_0, hfz16_1⟩ := cz2 BK101
   obtain ⟨ad102, A102_1, c102_1, A102_2, c102_2, e102, hx102_0, hx102_1, hx102_2, HR102_1, HC102_1, HR102_2, HC102_2, p102, q102⟩ := aT56 HR0_1 HB x7_1
   cases e102
   have M35_ := trivial
   have M36_ := trivial
   rotate_left
   have H' := am H
   clear H
   obtain ⟨hcz17_0, hcz17_1, hfz17_0, hfz17_1⟩ := cz2 BK101
   obtain ⟨ad102, A102_1, c102_1, A102_2, c102_2, e102, hx102_0, hx102_1, hx102_2, HR102_1, HC102_1, HR102_2, HC102_2, p102, q102⟩ := aT56 HR0_1 HB x7_1
   cases e102
   have M35_ := trivial
   have M37_ := trivial
   rotate_left
   obtain rfl := Option.some.inj H
   obtain ⟨hcz18_0, hcz18_1, hfz18_0, hfz18_1⟩ := cz2 BK101
   rotate_left
   all_goals
    go_wp2_with (first | (go_at_call 80; clear M34_; refine cM (spec_l1Has.calls k1 _ _ l2 ((rd_T56 l0_1 x7_1).f0) true _ (pB HR2) HC2.1 A9.out) ?_; rintro w' ⟨nd, rfl⟩; (try first | exact ⟨rfl, _, World.drewN_drewN _ _ _⟩ | exact ⟨rfl, _, Eq.trans (World.drewN_drewN _ _ _) (congrArg (World.drewN _) (Nat.add_assoc _ _ _))⟩)) | (go_at_call 80; clear M35_; refine cM (spec_l1Has.calls k1 _ _ l2 ((rd_T56 l0_1 x7_1).f0) false _ (pB HR2) HC2.1 A9.out) ?_; rintro w' ⟨nd, rfl⟩; (try first | exact ⟨rfl, _, World.drewN_drewN _ _ _⟩ | exact ⟨rfl, _, Eq.trans (World.drewN_drewN _ _ _) (congrArg (World.drewN _) (Nat.add_assoc _ _ _))⟩); obtain ⟨ad104, A104_1, c104_1, A104_2, c104_2, e104, hx104_0, hx104_1, hx104_2, HR104_1, HC104_1, HR104_2, HC104_2, p104, q104⟩ := aT56 HR0_1 HB x7_1; obtain rfl : ad102 = ad104 := (by injection e104); have ea_ := Option.some.inj (hx102_1.symm.trans hx104_1); injection ea_ with ea_ en_ ec_; subst ea_; subst ec_; clear en_; have ea_ := Option.some.inj (hx102_2.symm.trans hx104_2); injection ea_ with ea_ en_ ec_; subst ea_; subst ec_; clear en_; obtain ⟨ad105, A105_1, c105_1, A105_2, c105_2, e105, hx105_0, hx105_1, hx105_2, HR105_1, HC105_1, HR105_2, HC105_2, p105, q105⟩ := aT56 HR0_1 HB a1; obtain rfl : ad102 = ad105 := (by injection e105)) | (go_at_call 72; clear M36_; refine cM (spec_l1Share.calls k1 _ _ ((rd_T56 l0_1 x7_1).f1) _ _ ((rd_T56 l0_1 a1).f2) true _ (pC (Kd.C_below HR104_1.1 (pY90))) HC104_1.1 (pC (Kd.C_below HR105_2.1 (pY90))) HC105_2.1 A14.out) ?_; rintro w' ⟨nd, rfl⟩; (try first | exact ⟨rfl, _, World.drewN_drewN _ _ _⟩ | exact ⟨rfl, _, Eq.trans (World.drewN_drewN _ _ _) (congrArg (World.drewN _) (Nat.add_assoc _ _ _))⟩)) | (go_at_call 72; clear M37_; refine cM (spec_l1Share.calls k1 _ _ ((rd_T56 l0_1 x7_1).f1) _ _ ((rd_T56 l0_1 a1).f2) false _ (pC (Kd.C_below HR104_1.1 (pY90))) HC104_1.1 (pC (Kd.C_below HR105_2.1 (pY90))) HC105_2.1 A14.out) ?_; rintro w' ⟨nd, rfl⟩; (try first | exact ⟨rfl, _, World.drewN_drewN _ _ _⟩ | exact ⟨rfl, _, Eq.trans (World.drewN_drewN _ _ _) (congrArg (World.drewN _) (Nat.add_assoc _ _ _))⟩)))
   ·repeat (go_quiet (fail); try go_wp2)
    go_roundg k1
    case measure => have := HK1.out; omega
    case rel => exact ⟨(wrap64 (x7_1 + 1)), (pY136), H', ⟨by have := HK1.out; omega⟩, ⟨rB BK101.1⟩, ⟨pY90⟩⟩
   ·repeat (go_quiet (first | (go_at_call 80; refine cM (spec_l1Has.calls k1 _ _ l2 ((rd_T56 l0_1 x7_1).f0) true _ (pB HR2) HC2.1 A9.out) ?_; rintro w' ⟨nd, rfl⟩; (try first | exact ⟨rfl, _, World.drewN_drewN _ _ _⟩ | exact ⟨rfl, _, Eq.trans (World.drewN_drewN _ _ _) (congrArg (World.drewN _) (Nat.add_assoc _ _ _))⟩))); try go_wp2_with (first | (go_at_call 80; refine cM (spec_l1Has.calls k1 _ _ l2 ((rd_T56 l0_1 x7_1).f0) true _ (pB HR2) HC2.1 A9.out) ?_; rintro w' ⟨nd, rfl⟩; (try first | exact ⟨rfl, _, World.drewN_drewN _ _ _⟩ | exact ⟨rfl, _, Eq.trans (World.drewN_drewN _ _ _) (congrArg (World.drewN _) (Nat.add_assoc _ _ _))⟩))))
    go_roundg k1
    case measure => have := HK1.out; omega
    case rel => exact ⟨(wrap64 (x7_1 + 1)), (pY136), H', ⟨by have := HK1.out; omega⟩, ⟨rB BK101.1⟩, ⟨pY90⟩⟩
   ·repeat (go_quiet (first | (go_at_call 80; refine cM (spec_l1Has.calls k1 _ _ l2 ((rd_T56 l0_1 x7_1).f0) false _ (pB HR2) HC2.1 A9.out) ?_; rintro w' ⟨nd, rfl⟩; (try first | exact ⟨rfl, _, World.drewN_drewN _ _ _⟩ | exact ⟨rfl, _, Eq.trans (World.drewN_drewN _ _ _) (congrArg (World.drewN _) (Nat.add_assoc _ _ _))⟩); obtain ⟨ad104, A104_1, c104_1, A104_2, c104_2, e104, hx104_0, hx104_1, hx104_2, HR104_1, HC104_1, HR104_2, HC104_2, p104, q104⟩ := aT56 HR0_1 HB x7_1; obtain rfl : ad102 = ad104 := (by injection e104); have ea_ := Option.some.inj (hx102_1.symm.trans hx104_1); injection ea_ with ea_ en_ ec_; subst ea_; subst ec_; clear en_; have ea_ := Option.some.inj (hx102_2.symm.trans hx104_2); injection ea_ with ea_ en_ ec_; subst ea_; subst ec_; clear en_; obtain ⟨ad105, A105_1, c105_1, A105_2, c105_2, e105, hx105_0, hx105_1, hx105_2, HR105_1, HC105_1, HR105_2, HC105_2, p105, q105⟩ := aT56 HR0_1 HB a1; obtain rfl : ad102 = ad105 := (by injection e105)) | (go_at_call 72; refine cM (spec_l1Share.calls k1 _ _ ((rd_T56 l0_1 x7_1).f1) _ _ ((rd_T56 l0_1 a1).f2) true _ (pC (Kd.C_below HR104_1.1 (pY90))) HC104_1.1 (pC (Kd.C_below HR105_2.1 (pY90))) HC105_2.1 A14.out) ?_; rintro w' ⟨nd, rfl⟩; (try first | exact ⟨rfl, _, World.drewN_drewN _ _ _⟩ | exact ⟨rfl, _, Eq.trans (World.drewN_drewN _ _ _) (congrArg (World.drewN _) (Nat.add_assoc _ _ _))⟩))); try go_wp2_with (first | (go_at_call 80; refine cM (spec_l1Has.calls k1 _ _ l2 ((rd_T56 l0_1 x7_1).f0) false _ (pB HR2) HC2.1 A9.out) ?_; rintro w' ⟨nd, rfl⟩; (try first | exact ⟨rfl, _, World.drewN_drewN _ _ _⟩ | exact ⟨rfl, _, Eq.trans (World.drewN_drewN _ _ _) (congrArg (World.drewN _) (Nat.add_assoc _ _ _))⟩); obtain ⟨ad104, A104_1, c104_1, A104_2, c104_2, e104, hx104_0, hx104_1, hx104_2, HR104_1, HC104_1, HR104_2, HC104_2, p104, q104⟩ := aT56 HR0_1 HB x7_1; obtain rfl : ad102 = ad104 := (by injection e104); have ea_ := Option.some.inj (hx102_1.symm.trans hx104_1); injection ea_ with ea_ en_ ec_; subst ea_; subst ec_; clear en_; have ea_ := Option.some.inj (hx102_2.symm.trans hx104_2); injection ea_ with ea_ en_ ec_; subst ea_; subst ec_; clear en_; obtain ⟨ad105, A105_1, c105_1, A105_2, c105_2, e105, hx105_0, hx105_1, hx105_2, HR105_1, HC105_1, HR105_2, HC105_2, p105, q105⟩ := aT56 HR0_1 HB a1; obtain rfl : ad102 = ad105 := (by injection e105)) | (go_at_call 72; refine cM (spec_l1Share.calls k1 _ _ ((rd_T56 l0_1 x7_1).f1) _ _ ((rd_T56 l0_1 a1).f2) true _ (pC (Kd.C_below HR104_1.1 (pY90))) HC104_1.1 (pC (Kd.C_below HR105_2.1 (pY90))) HC105_2.1 A14.out) ?_; rintro w' ⟨nd, rfl⟩; (try first | exact ⟨rfl, _, World.drewN_drewN _ _ _⟩ | exact ⟨rfl, _, Eq.trans (World.drewN_drewN _ _ _) (congrArg (World.drewN _) (Nat.add_assoc _ _ _))⟩))))
    go_ret
    exact ⟨eR, pY90⟩
   ·repeat (go_quiet (first | (go_at_call 80; refine cM (spec_l1Has.calls k1 _ _ l2 ((rd_T56 l0_1 x7_1).f0) false _ (pB HR2) HC2.1 A9.out) ?_; rintro w' ⟨nd, rfl⟩; (try first | exact ⟨rfl, _, World.drewN_drewN _ _ _⟩ | exact ⟨rfl, _, Eq.trans (World.drewN_drewN _ _ _) (congrArg (World.drewN _) (Nat.add_assoc _ _ _))⟩); obtain ⟨ad104, A104_1, c104_1, A104_2, c104_2, e104, hx104_0, hx104_1, hx104_2, HR104_1, HC104_1, HR104_2, HC104_2, p104, q104⟩ := aT56 HR0_1 HB x7_1; obtain rfl : ad102 = ad104 := (by injection e104); have ea_ := Option.some.inj (hx102_1.symm.trans hx104_1); injection ea_ with ea_ en_ ec_; subst ea_; subst ec_; clear en_; have ea_ := Option.some.inj (hx102_2.symm.trans hx104_2); injection ea_ with ea_ en_ ec_; subst ea_; subst ec_; clear en_; obtain ⟨ad105, A105_1, c105_1, A105_2, c105_2, e105, hx105_0, hx105_1, hx105_2, HR105_1, HC105_1, HR105_2, HC105_2, p105, q105⟩ := aT56 HR0_1 HB a1; obtain rfl : ad102 = ad105 := (by injection e105)) | (go_at_call 72; refine cM (spec_l1Share.calls k1 _ _ ((rd_T56 l0_1 x7_1).f1) _ _ ((rd_T56 l0_1 a1).f2) false _ (pC (Kd.C_below HR104_1.1 (pY90))) HC104_1.1 (pC (Kd.C_below HR105_2.1 (pY90))) HC105_2.1 A14.out) ?_; rintro w' ⟨nd, rfl⟩; (try first | exact ⟨rfl, _, World.drewN_drewN _ _ _⟩ | exact ⟨rfl, _, Eq.trans (World.drewN_drewN _ _ _) (congrArg (World.drewN _) (Nat.add_assoc _ _ _))⟩))); try go_wp2_with (first | (go_at_call 80; refine cM (spec_l1Has.calls k1 _ _ l2 ((rd_T56 l0_1 x7_1).f0) false _ (pB HR2) HC2.1 A9.out) ?_; rintro w' ⟨nd, rfl⟩; (try first | exact ⟨rfl, _, World.drewN_drewN _ _ _⟩ | exact ⟨rfl, _, Eq.trans (World.drewN_drewN _ _ _) (congrArg (World.drewN _) (Nat.add_assoc _ _ _))⟩); obtain ⟨ad104, A104_1, c104_1, A104_2, c104_2, e104, hx104_0, hx104_1, hx104_2, HR104_1, HC104_1, HR104_2, HC104_2, p104, q104⟩ := aT56 HR0_1 HB x7_1; obtain rfl : ad102 = ad104 := (by injection e104); have ea_ := Option.some.inj (hx102_1.symm.trans hx104_1); injection ea_ with ea_ en_ ec_; subst ea_; subst ec_; clear en_; have ea_ := Option.some.inj (hx102_2.symm.trans hx104_2); injection ea_ with ea_ en_ ec_; subst ea_; subst ec_; clear en_; obtain ⟨ad105, A105_1, c105_1, A105_2, c105_2, e105, hx105_0, hx105_1, hx105_2, HR105_1, HC105_1, HR105_2, HC105_2, p105, q105⟩ := aT56 HR0_1 HB a1; obtain rfl : ad102 = ad105 := (by injection e105)) | (go_at_call 72; refine cM (spec_l1Share.calls k1 _ _ ((rd_T56 l0_1 x7_1).f1) _ _ ((rd_T56 l0_1 a1).f2) false _ (pC (Kd.C_below HR104_1.1 (pY90))) HC104_1.1 (pC (Kd.C_below HR105_2.1 (pY90))) HC105_2.1 A14.out) ?_; rintro w' ⟨nd, rfl⟩; (try first | exact ⟨rfl, _, World.drewN_drewN _ _ _⟩ | exact ⟨rfl, _, Eq.trans (World.drewN_drewN _ _ _) (congrArg (World.drewN _) (Nat.add_assoc _ _ _))⟩))))
    go_roundg k1
    case measure => have := HK1.out; omega
    case rel => exact ⟨(wrap64 (x7_1 + 1)), (pY136), H', ⟨by have := HK1.out; omega⟩, ⟨rB BK101.1⟩, ⟨pY90⟩⟩
   ·repeat (go_quiet (fail); try go_wp2)
    go_ret
    exact ⟨eR, pY90⟩
def spec_l2Next.l0 : Nat → List ByteArray → Int → List ByteArray → List (S56) → Option (Int)
 | 0, _, _, _, _ => none
 | k + 1, x1, x5, x102000, x102001 => if x5 < (x102001.length : Int) then (if 0 ≤ x5 then ((spec_l1Has.f k x1 ((rd_T56 x102001 x5).f0)).bind fun t103 => (if t103 = true then (spec_l2Next.l0 k x1 (wrap64 (x5 + 1)) x102000 x102001) else ((spec_l2Can.f k x102000 x102001 x5 x1).bind fun t104 => (if t104 = true then (some x5) else (spec_l2Next.l0 k x1 (wrap64 (x5 + 1)) x102000 x102001))))) else (none)) else (some (-1))
def spec_l2Next.f (k : Nat) (l0_0 : List ByteArray) (l0_1 : List (S56)) (l1 : List ByteArray) : Option (Int) := spec_l2Next.l0 k l1 0 l0_0 l0_1
theorem spec_l2Next.calls (k : Nat) (A0_0 : Option Addr) (c0_0 : Nat) (l0_0 : List ByteArray) (A0_1 : Option Addr) (c0_1 : Nat) (l0_1 : List (S56)) (A1 : Option Addr) (c1 : Nat) (l1 : List ByteArray) (r : Int) (w : World) (hr0_0 : Kd.C Kd.string w A0_0 l0_0.length l0_0) (hc0_0 : l0_0.length ≤ c0_0) (hr0_1 : Kd.C k56 w A0_1 l0_1.length l0_1) (hc0_1 : l0_1.length ≤ c0_1) (hr1 : Kd.C Kd.string w A1 l1.length l1) (hc1 : l1.length ≤ c1) (h : spec_l2Next.f k l0_0 l0_1 l1 = some r) :
  Calls Try.prog 88 #[.agg #[.slice A0_0 l0_0.length c0_0, .slice A0_1 l0_1.length c0_1], .slice A1 l1.length c1] w fun e w' => e = .returned (.int .i64 r) ∧ Below w.heap.size w w' := by
 have hu31 := Try.underlying31
 have HR0_0 := am hr0_0
 have HC0_0 := am hc0_0
 clear hr0_0 hc0_0
 have HR0_1 := am hr0_1
 have HC0_1 := am hc0_1
 clear hr0_1 hc0_1
 have HR1 := am hr1
 have HC1 := am hc1
 clear hr1 hc1
 have HB := am (Below.refl w.heap.size w)
 unfold spec_l2Next.f at h
 have H := h
 clear h
 have H' := am H
 clear H
 go_enter Try.func88, Try.ntmps88
 go_wp2_with (first | ((with_reducible refine gD 2 ?_); refine bX 2 #[.slice A0_0 l0_0.length c0_0, .slice A0_1 l0_1.length c0_1] 31 ?_; intro gb101 hg w3 hbox hb; have BK101 := am (hbox); have GW101 := am (pY89 : w.heap.size ≤ gb101); have GE101 := am (pY89 : w.heap.size ≤ gb101); replace HB := bS pY95 hb; clear hb hbox hg))
 go_loopg [5] k (fun kq v5 w' => ∃ (x5_1 : Int), v5 = .int .i64 x5_1 ∧ Aside0 (spec_l2Next.l0 kq l1 x5_1 l0_0 l0_1 = some r) ∧ Aside0 (kq ≤ k) ∧ Aside0 (w'.heap[gb101]? = some (.cells #[(.slice A0_0 l0_0.length c0_0), (.slice A0_1 l0_1.length c0_1)] 31 (0, 0))) ∧ Aside0 (Below w.heap.size w w'))
 case atStart => exact ⟨(0), (pY136), H', ⟨Nat.le_refl _⟩, ⟨rB BK101.1⟩, ⟨pY90⟩⟩
 case round =>
  clear H'
  try clear c1
  obtain ⟨x5_1, rfl, HA, HK1, BK101, HB⟩ := hrel
  cases gk with
  | zero => exact absurd HA.out (by simp [spec_l2Next.l0])
  | succ k1 =>
   have H := HA.out
   clear HA
   simp only [spec_l2Next.l0] at H
   refine ic H ?_ ?_ <;> clear H <;> intro c4b0 H
   ·obtain ⟨c5b0, H⟩ := cN H
    obtain ⟨t103, A6, H⟩ := bd H
    refine tC H ?_ ?_ <;> clear H <;> intro c7 H <;> subst c7
    ·have H' := am H
     clear H
     obtain ⟨hcz8_0, hcz8_1, hfz8_0, hfz8_1⟩ := cz2 BK101
     obtain ⟨ad102, A102_1, c102_1, A102_2, c102_2, e102, hx102_0, hx102_1, hx102_2, HR102_1, HC102_1, HR102_2, HC102_2, p102, q102⟩ := aT56 HR0_1 HB x5_1
     cases e102
     go_wp2_with (first | ((with_reducible refine gC 80 ?_); refine cQ (some 20) Try.func80 (spec_l1Has.calls k1 _ _ l1 ((rd_T56 l0_1 x5_1).f0) true _ (pB HR1) HC1.1 A6.out) ?_; rintro w' ⟨nd, rfl⟩))
     go_roundg k1
     case measure => have := HK1.out; omega
     case rel => exact ⟨(wrap64 (x5_1 + 1)), (pY136), H', ⟨by have := HK1.out; omega⟩, ⟨rB BK101.1⟩, ⟨pY90⟩⟩
    ·obtain ⟨t104, A9, H⟩ := bd H
     refine tC H ?_ ?_ <;> clear H <;> intro c10 H <;> subst c10
     ·obtain rfl := Option.some.inj H
      obtain ⟨hcz11_0, hcz11_1, hfz11_0, hfz11_1⟩ := cz2 BK101
      obtain ⟨ad102, A102_1, c102_1, A102_2, c102_2, e102, hx102_0, hx102_1, hx102_2, HR102_1, HC102_1, HR102_2, HC102_2, p102, q102⟩ := aT56 HR0_1 HB x5_1
      cases e102
      go_wp2_with (first | ((with_reducible refine gC 80 ?_); refine cQ (some 20) Try.func80 (spec_l1Has.calls k1 _ _ l1 ((rd_T56 l0_1 x5_1).f0) false _ (pB HR1) HC1.1 A6.out) ?_; rintro w' ⟨nd, rfl⟩) | (go_at_call 83; refine cM (spec_l2Can.calls k1 _ _ l0_0 _ _ l0_1 x5_1 _ _ l1 true _ (pC (Kd.C_below HR0_0.1 (pY90))) HC0_0.1 (pC (Kd.C_below HR0_1.1 (pY90))) HC0_1.1 (pC (Kd.C_below HR1.1 (pY90))) HC1.1 A9.out) ?_; rintro w12 hb; replace BK101 := bB pY98 hb; replace HB := bS pY90 hb; (try clear hb)))
      go_ret
      exact ⟨eR, pY90⟩
     ·have H' := am H
      clear H
      obtain ⟨hcz13_0, hcz13_1, hfz13_0, hfz13_1⟩ := cz2 BK101
      obtain ⟨ad102, A102_1, c102_1, A102_2, c102_2, e102, hx102_0, hx102_1, hx102_2, HR102_1, HC102_1, HR102_2, HC102_2, p102, q102⟩ := aT56 HR0_1 HB x5_1
      cases e102
      go_wp2_with (first | ((with_reducible refine gC 80 ?_); refine cQ (some 20) Try.func80 (spec_l1Has.calls k1 _ _ l1 ((rd_T56 l0_1 x5_1).f0) false _ (pB HR1) HC1.1 A6.out) ?_; rintro w' ⟨nd, rfl⟩) | (go_at_call 83; refine cM (spec_l2Can.calls k1 _ _ l0_0 _ _ l0_1 x5_1 _ _ l1 false _ (pC (Kd.C_below HR0_0.1 (pY90))) HC0_0.1 (pC (Kd.C_below HR0_1.1 (pY90))) HC0_1.1 (pC (Kd.C_below HR1.1 (pY90))) HC1.1 A9.out) ?_; rintro w14 hb; replace BK101 := bB pY98 hb; replace HB := bS pY90 hb; (try clear hb)))
      go_roundg k1
      case measure => have := HK1.out; omega
      case rel => exact ⟨(wrap64 (x5_1 + 1)), (pY136), H', ⟨by have := HK1.out; omega⟩, ⟨rB BK101.1⟩, ⟨pY90⟩⟩
   ·obtain rfl := Option.some.inj H
    obtain ⟨hcz15_0, hcz15_1, hfz15_0, hfz15_1⟩ := cz2 BK101
    go_wp2
    go_ret
    exact ⟨eR, pY90⟩
def spec_ShareOrder.l0 : Nat → List ByteArray → List ByteArray → List (S56) → Option (List ByteArray × Bool)
 | 0, _, _, _ => none
 | k + 1, x4, x102000, x102001 => if (x4.length : Int) < (x102001.length : Int) then ((spec_l2Next.f k x102000 x102001 x4).bind fun t106 => (if t106 < 0 then (some ((([] : List ByteArray)), false)) else (if 0 ≤ t106 then (if t106 < (x102001.length : Int) then (if x4.length < 8796093022208 then (spec_ShareOrder.l0 k (x4 ++ [(rd_T56 x102001 t106).f0]) x102000 x102001) else (none)) else (none)) else (none)))) else (some (x4, true))
def spec_ShareOrder.f (k : Nat) (l0_0 : List ByteArray) (l0_1 : List (S56)) : Option (List ByteArray × Bool) := (some (([] : List ByteArray) : List ByteArray)).bind fun y102 => ((spec_ShareBookOk.f k l0_0 l0_1).bind fun t105 => (if t105 = true then (spec_ShareOrder.l0 k y102 l0_0 l0_1) else (some (y102, false))))
theorem spec_ShareOrder.calls (k : Nat) (A0_0 : Option Addr) (c0_0 : Nat) (l0_0 : List ByteArray) (A0_1 : Option Addr) (c0_1 : Nat) (l0_1 : List (S56)) (r1 : List ByteArray) (r2 : Bool) (w : World) (hr0_0 : Kd.C Kd.string w A0_0 l0_0.length l0_0) (hc0_0 : l0_0.length ≤ c0_0) (hr0_1 : Kd.C k56 w A0_1 l0_1.length l0_1) (hc0_1 : l0_1.length ≤ c0_1) (h : spec_ShareOrder.f k l0_0 l0_1 = some (r1, r2)) :
  Calls Try.prog 44 #[.agg #[.slice A0_0 l0_0.length c0_0, .slice A0_1 l0_1.length c0_1]] w fun e w' => ∃ v0_ : Value, e = .returned (.tuple #[v0_, .bool r2]) ∧ Kd.R Kd.string 9 w' w.heap.size (fun _ => True) v0_ r1 ∧ Below w.heap.size w w' := by
 have hu31 := Try.underlying31
 have HR0_0 := am hr0_0
 have HC0_0 := am hc0_0
 clear hr0_0 hc0_0
 have HR0_1 := am hr0_1
 have HC0_1 := am hc0_1
 clear hr0_1 hc0_1
 have HB := am (Below.refl w.heap.size w)
 unfold spec_ShareOrder.f at h
 have H := h
 clear h
 obtain ⟨y102, Ny102, H⟩ := bY H
 obtain ⟨t105, A2, H⟩ := bd H
 refine tC H ?_ ?_ <;> clear H <;> intro c3 H <;> subst c3
 ·have H' := am H
  clear H
  go_enter Try.func44, Try.ntmps44
  go_wp2_with (first | ((with_reducible refine gD 1 ?_); refine bX 1 #[.slice A0_0 l0_0.length c0_0, .slice A0_1 l0_1.length c0_1] 31 ?_; intro gb101 hg w4 hbox hb; have BK101 := am (hbox); have GW101 := am (pY89 : w.heap.size ≤ gb101); have GE101 := am (pY89 : w.heap.size ≤ gb101); replace HB := bS pY95 hb; clear hb hbox hg) | ((with_reducible refine gate_dst (N := 6) rfl ?_); refine Kd.R_lit Kd.string _ 9 ?hg (N := 6) ?hd (xs := ([] : List ByteArray)) (inner := []) (ok := fun _ => True) (okp := fun _ => True) ?hr ?hp (fun _ hk => hk) trivial (Below.refl _ _) (Nat.le_refl _) (by simp) ?_; (case hd => rfl); (case hg => rfl); (case hr => first | (go_simp; done) | (go_simp; rfl)); (case hp => exact (Reps.none _ _)); intro v103 w5 ho6 hb hg_ hnew_; clear hg_ hnew_; (first | rw [← Ny102.out] at ho6 | (simp only [Int.reduceToNat] at ho6; rw [← Ny102.out] at ho6)); have HO104 := am (Kd.R_lower ho6 (below_size (pY90))); replace BK101 := bB pY98 hb; replace HB := bS pY90 hb; clear hb ho6; obtain ⟨hcz7_0, hcz7_1, hfz7_0, hfz7_1⟩ := cz2 BK101) | ((with_reducible refine gC 22 ?_); refine cQ (some 8) Try.func22 (spec_ShareBookOk.calls k _ _ l0_0 _ _ l0_1 true _ (pB HR0_0) HC0_0.1 (pB HR0_1) HC0_1.1 A2.out) ?_; rintro w8 hb; replace HO104 := am (Kd.R_below (pY125) hb); replace BK101 := bB pY98 hb; replace HB := bS pY90 hb; (try clear hb)))
  go_loopg [4] k (fun kq v4 w' => ∃ (x4_1 : List ByteArray), Aside0 (spec_ShareOrder.l0 kq x4_1 l0_0 l0_1 = some (r1, r2)) ∧ Aside0 (kq ≤ k) ∧ Aside0 (Kd.R Kd.string 9 w' w.heap.size (fun _ => True) v4 x4_1) ∧ Aside0 (w'.heap[gb101]? = some (.cells #[(.slice A0_0 l0_0.length c0_0), (.slice A0_1 l0_1.length c0_1)] 31 (0, 0))) ∧ Aside0 (Below w.heap.size w w'))
  case atStart => exact ⟨(y102), H', ⟨Nat.le_refl _⟩, ⟨rR HO104.1⟩, ⟨rB BK101.1⟩, ⟨pY90⟩⟩
  case round =>
   clear H'
   try clear c3
   try clear hcz7_0 hcz7_1 hfz7_0 hfz7_1
   obtain ⟨x4_1, HA, HK1, HO_4, BK101, HB⟩ := hrel
   cases gk with
   | zero => exact absurd HA.out (by simp [spec_ShareOrder.l0])
   | succ k1 =>
    have H := HA.out
    clear HA
    simp only [spec_ShareOrder.l0] at H
    by_cases c9 : (x4_1.length : Int) < (l0_1.length : Int)
    ·rw [if_pos c9] at H
     have c9b0 : decide ((x4_1.length : Int) < (l0_1.length : Int)) = true := decide_eq_true c9
     have c9b1 : decide (x4_1.length < l0_1.length) = true := decide_eq_true (Int.ofNat_lt.mp c9)
     clear c9
     obtain ⟨t106, A10, H⟩ := bd H
     refine ic H ?_ ?_ <;> clear H <;> intro c11b0 H
     ·obtain ⟨y107, Ny107⟩ := yv (([] : List ByteArray)); first | replace H := bW Ny107 H | rw [← Ny107.1] at H
      simp only [Option.some.injEq, Prod.mk.injEq] at H
      obtain ⟨rfl, rfl⟩ := H
      obtain ⟨Ao12, co12, eo12⟩ := Kd.R_slice HO_4.1
      subst eo12
      obtain ⟨hcz13_0, hcz13_1, hfz13_0, hfz13_1⟩ := cz2 BK101
      go_wp2_with (first | ((with_reducible refine gC 88 ?_); refine cQ (some 19) Try.func88 (spec_l2Next.calls k1 _ _ l0_0 _ _ l0_1 _ _ x4_1 t106 _ (pB HR0_0) HC0_0.1 (pB HR0_1) HC0_1.1 (pC (Kd.R_reads' HO_4.1).2.2) ((Kd.R_reads' HO_4.1).2.1) A10.out) ?_; rintro w14 hb; replace HO_4 := am (Kd.R_below (pY128) hb); replace BK101 := bB pY98 hb; replace HB := bS pY90 hb; (try clear hb)) | ((with_reducible refine gate_dst (N := 22) rfl ?_); refine Kd.R_lit Kd.string _ 9 ?hg (N := 22) ?hd (xs := ([] : List ByteArray)) (inner := []) (ok := fun _ => True) (okp := fun _ => True) ?hr ?hp (fun _ hk => hk) trivial (Below.refl _ _) (Nat.le_refl _) (by simp) ?_; (case hd => rfl); (case hg => rfl); (case hr => first | (go_simp; done) | (go_simp; rfl)); (case hp => exact (Reps.none _ _)); intro v108 w15 ho16 hb hg_ hnew_; clear hg_ hnew_; (first | rw [← Ny107.out] at ho16 | (simp only [Int.reduceToNat] at ho16; rw [← Ny107.out] at ho16)); have HO109 := am (Kd.R_lower (Kd.R_new' ho16 (Kd.R_lt (pY128))) (below_size (pY90))); replace HO_4 := am (Kd.R_elder' (pY128) (Kd.R_base ho16) hb); replace BK101 := bB pY98 hb; replace HB := bS pY90 hb; clear hb ho16))
      go_ret2
      exact ⟨_, eR, by refine rR ?_; exact Kd.R_mono HO109.1 (fun _ hk => trivial), pY90⟩
     ·obtain ⟨c17b0, H⟩ := cN H
      obtain ⟨c18b0, H⟩ := cN H
      by_cases c19 : x4_1.length < 8796093022208
      ·rw [if_pos c19] at H
       have LMc19 := am c19
       clear c19
       obtain ⟨y111, Ny111⟩ := yv (x4_1 ++ [(rd_T56 l0_1 t106).f0]); first | replace H := bW Ny111 H | rw [← Ny111.1] at H
       have H' := am H
       clear H
       obtain ⟨Ao20, co20, eo20⟩ := Kd.R_slice HO_4.1
       subst eo20
       obtain ⟨hcz21_0, hcz21_1, hfz21_0, hfz21_1⟩ := cz2 BK101
       go_wp2_with (first | ((with_reducible refine gC 88 ?_); refine cQ (some 19) Try.func88 (spec_l2Next.calls k1 _ _ l0_0 _ _ l0_1 _ _ x4_1 t106 _ (pB HR0_0) HC0_0.1 (pB HR0_1) HC0_1.1 (pC (Kd.R_reads' HO_4.1).2.2) ((Kd.R_reads' HO_4.1).2.1) A10.out) ?_; rintro w22 hb; replace HO_4 := am (Kd.R_below (pY128) hb); replace BK101 := bB pY98 hb; replace HB := bS pY90 hb; (try clear hb); obtain ⟨hcz23_0, hcz23_1, hfz23_0, hfz23_1⟩ := cz2 BK101; obtain ⟨ad110, A110_1, c110_1, A110_2, c110_2, e110, hx110_0, hx110_1, hx110_2, HR110_1, HC110_1, HR110_2, HC110_2, p110, q110⟩ := aT56 HR0_1 HB t106; cases e110) | ((with_reducible refine gate_builtin (b := .append) (xs := #[.tmp 23, .tmp 30]) rfl ?_); at_builtin; refine Kd.R_append Kd.string (w0 := w) w.heap.size rfl (.tmp 23) (.tmp 30) 23 9 (.string ⟨#[]⟩) 16 rfl Try.underlying23 info9 rfl (by decide) (by omega) (.slice Ao20 x4_1.length co20) x4_1 ((rd_T56 l0_1 t106).f0) [.string ((rd_T56 l0_1 t106).f0)] (fun _ => True) (fun _ => False) rfl rfl ?aP (fun _ hk => hk.elim) ?aF ?aO ?aB ?aS ?aL ?_; (case aP => exact rfl); (case aB => exact (pY90)); (case aF => exact (fun _ _ => trivial)); (case aO => exact (pY128)); (case aS => exact (below_size (pY90))); (case aL => have := LMc19.out; omega); intro v112 w24 ho hb hg hat; rw [← Ny111.out] at ho; replace BK101 := gR pY98 hg HO_4 BK101; replace HB := am (hb); have HO113 := am (ho); clear HO_4; clear ho hb hg hat))
       go_roundg k1
       case measure => have := HK1.out; omega
       case rel => exact ⟨(y111), H', ⟨by have := HK1.out; omega⟩, ⟨rR HO113.1⟩, ⟨rB BK101.1⟩, ⟨pY90⟩⟩
      ·rw [if_neg c19] at H
       exact absurd H (by simp)
    ·rw [if_neg c9] at H
     have c9b0 : decide ((x4_1.length : Int) < (l0_1.length : Int)) = false := decide_eq_false c9
     have c9b1 : decide (x4_1.length < l0_1.length) = false := decide_eq_false (fun h => c9 (Int.ofNat_lt.mpr h))
     clear c9
     simp only [Option.some.injEq, Prod.mk.injEq] at H
     obtain ⟨rfl, rfl⟩ := H
     obtain ⟨Ao25, co25, eo25⟩ := Kd.R_slice HO_4.1
     subst eo25
     obtain ⟨hcz26_0, hcz26_1, hfz26_0, hfz26_1⟩ := cz2 BK101
     go_wp2
     go_ret2
     exact ⟨_, eR, rR HO_4.1, pY90⟩
 ·simp only [Option.some.injEq, Prod.mk.injEq] at H
  obtain ⟨rfl, rfl⟩ := H
  go_enter Try.func44, Try.ntmps44
  go_wp2_with (first | ((with_reducible refine gD 1 ?_); refine bX 1 #[.slice A0_0 l0_0.length c0_0, .slice A0_1 l0_1.length c0_1] 31 ?_; intro gb101 hg w27 hbox hb; have BK101 := am (hbox); have GW101 := am (pY89 : w.heap.size ≤ gb101); have GE101 := am (pY89 : w.heap.size ≤ gb101); replace HB := bS pY95 hb; clear hb hbox hg) | ((with_reducible refine gate_dst (N := 6) rfl ?_); refine Kd.R_lit Kd.string _ 9 ?hg (N := 6) ?hd (xs := ([] : List ByteArray)) (inner := []) (ok := fun _ => True) (okp := fun _ => True) ?hr ?hp (fun _ hk => hk) trivial (Below.refl _ _) (Nat.le_refl _) (by simp) ?_; (case hd => rfl); (case hg => rfl); (case hr => first | (go_simp; done) | (go_simp; rfl)); (case hp => exact (Reps.none _ _)); intro v103 w28 ho29 hb hg_ hnew_; clear hg_ hnew_; (first | rw [← Ny102.out] at ho29 | (simp only [Int.reduceToNat] at ho29; rw [← Ny102.out] at ho29)); have HO104 := am (Kd.R_lower ho29 (below_size (pY90))); replace BK101 := bB pY98 hb; replace HB := bS pY90 hb; clear hb ho29; obtain ⟨hcz30_0, hcz30_1, hfz30_0, hfz30_1⟩ := cz2 BK101) | ((with_reducible refine gC 22 ?_); refine cQ (some 8) Try.func22 (spec_ShareBookOk.calls k _ _ l0_0 _ _ l0_1 false _ (pB HR0_0) HC0_0.1 (pB HR0_1) HC0_1.1 A2.out) ?_; rintro w31 hb; replace HO104 := am (Kd.R_below (pY125) hb); replace BK101 := bB pY98 hb; replace HB := bS pY90 hb; (try clear hb)))
  go_ret2
  exact ⟨_, eR, rR HO104.1, pY90⟩
def spec_ShareSafe.f (k : Nat) (l0_0 : List ByteArray) (l0_1 : List (S56)) : Option (Bool) := (spec_ShareOrder.f k l0_0 l0_1).bind fun bt102 => (some bt102.2)
theorem spec_ShareSafe.calls (k : Nat) (A0_0 : Option Addr) (c0_0 : Nat) (l0_0 : List ByteArray) (A0_1 : Option Addr) (c0_1 : Nat) (l0_1 : List (S56)) (r : Bool) (w : World) (hr0_0 : Kd.C Kd.string w A0_0 l0_0.length l0_0) (hc0_0 : l0_0.length ≤ c0_0) (hr0_1 : Kd.C k56 w A0_1 l0_1.length l0_1) (hc0_1 : l0_1.length ≤ c0_1) (h : spec_ShareSafe.f k l0_0 l0_1 = some r) :
  Calls Try.prog 35 #[.agg #[.slice A0_0 l0_0.length c0_0, .slice A0_1 l0_1.length c0_1]] w fun e w' => e = .returned (.bool r) ∧ Below w.heap.size w w' := by
 have hu31 := Try.underlying31
 have HR0_0 := am hr0_0
 have HC0_0 := am hc0_0
 clear hr0_0 hc0_0
 have HR0_1 := am hr0_1
 have HC0_1 := am hc0_1
 clear hr0_1 hc0_1
 have HB := am (Below.refl w.heap.size w)
 unfold spec_ShareSafe.f at h
 have H := h
 clear h
 obtain ⟨⟨t102, t105⟩, A2, H⟩ := bd H
 dsimp only at H
 obtain rfl := Option.some.inj H
 go_enter Try.func35, Try.ntmps35
 go_wp2_with (first | ((with_reducible refine gD 1 ?_); refine bX 1 #[.slice A0_0 l0_0.length c0_0, .slice A0_1 l0_1.length c0_1] 31 ?_; intro gb101 hg w3 hbox hb; have BK101 := am (hbox); have GW101 := am (pY89 : w.heap.size ≤ gb101); have GE101 := am (pY89 : w.heap.size ≤ gb101); replace HB := bS pY95 hb; clear hb hbox hg; obtain ⟨hcz4_0, hcz4_1, hfz4_0, hfz4_1⟩ := cz2 BK101) | ((with_reducible refine gC 44 ?_); refine cE (some 7) Try.func44 (spec_ShareOrder.calls k _ _ l0_0 _ _ l0_1 t102 t105 _ (pB HR0_0) HC0_0.1 (pB HR0_1) HC0_1.1 A2.out) ?_; rintro e w5 ⟨v103, rfl, ho0, hb⟩; refine ⟨_, rfl, ?_⟩; have HO104 := am (Kd.R_lower ho0 (below_size (pY90))); replace BK101 := bB pY98 hb; replace HB := bS pY90 hb; (try clear hb); (try clear ho0)))
 go_ret
 exact ⟨eR, pY90⟩
theorem setCell_same {w : World} {b o : Nat} {v : Value} (h : w.cell? ⟨b, o, none⟩ = some v) : w.setCell ⟨b, o, none⟩ v = w := by
 have e : (w.setCell ⟨b, o, none⟩ v).heap = w.heap := by
  have h' : (match w.heap[b]? with | some (.cells c _ _) => c[o]? | _ => none) = some v := h
  show w.heap.modify b (fun | .cells c elem frozen => .cells (c.setIfInBounds o v) elem frozen | o => o) = w.heap
  apply Array.ext_getElem?
  intro i
  rw [Array.getElem?_modify]
  by_cases hi : b = i
  ·subst hi
   rw [if_pos rfl]
   cases hb : w.heap[b]? with
   | none => rfl
   | some ob =>
    rw [hb] at h'
    cases ob with
    | cells c el fr =>
     have h2 : c[o]? = some v := h'
     have : c.setIfInBounds o v = c := by
      apply Array.ext_getElem?
      intro j
      rw [Array.getElem?_setIfInBounds]
      by_cases hj : o = j
      ·subst hj
       rw [if_pos rfl, h2]
       by_cases hh : o < c.size
       ·rw [if_pos hh]
       ·rw [Array.getElem?_eq_none (by omega)] at h2; cases h2
      ·rw [if_neg hj]
     show some (Obj.cells (c.setIfInBounds o v) el fr) = _
     rw [this]
    | _ => rfl
  ·rw [if_neg hi]
 show { w with heap := (w.setCell ⟨b, o, none⟩ v).heap } = w
 rw [e]
def spec_ShareAsk.l0 : Nat → List ByteArray → Int → Int → List ByteArray → List (S56) → List ByteArray → List (S56) → List ByteArray → List (S56) → Option (List ByteArray × (List (S56)) × Int)
 | 0, _, _, _, _, _, _, _, _, _ => none
 | k + 1, x2, x9, x11, x102000, x102001, x111000, x111001, x122000, x122001 => if x11 < (x2.length : Int) then (if 0 ≤ x9 then (if x9 < (x122001.length : Int) then (if 0 ≤ x11 then (if insF (rdOf ByteArray.empty x2 x11) ((rd_T56 x122001 x9).f1) = true then (spec_ShareAsk.l0 k x2 x9 (wrap64 (x11 + 1)) x102000 x102001 x111000 x111001 x122000 x122001) else ((spec_l3Insert.f k ((rd_T56 x122001 x9).f1) (rdOf ByteArray.empty x2 x11)).bind fun t124 => (spec_ShareAsk.l0 k x2 x9 (wrap64 (x11 + 1)) x102000 x102001 x111000 x111001 x122000 (x122001.set (x9 : Int).toNat (⟨(rd_T56 x122001 x9).f0, t124, (rd_T56 x122001 x9).f2⟩ : S56))))) else (none)) else (none)) else (none)) else ((spec_ShareSafe.f k x102000 x102001).bind fun t128 => (if t128 = true then ((spec_ShareSafe.f k x122000 x122001).bind fun t129 => (if t129 = true then ((spec_l1Copy.f k x122000 x122001).bind fun bt130 => (some (bt130.1, bt130.2, 0))) else (some (x111000, x111001, 6)))) else ((spec_l1Copy.f k x122000 x122001).bind fun bt136 => (some (bt136.1, bt136.2, 0)))))
def spec_ShareAsk.f (k : Nat) (l0_0 : List ByteArray) (l0_1 : List (S56)) (a1 : ByteArray) (l2 : List ByteArray) : Option (List ByteArray × (List (S56)) × Int) := (spec_ShareBookOk.f k l0_0 l0_1).bind fun t103 => (if t103 = true then ((spec_l1Copy.f k l0_0 l0_1).bind fun bt104 => ((spec_l1At.f k l0_0 l0_1 a1).bind fun t111 => (if t111 < 0 then (some (bt104.1, bt104.2, 3)) else (if 0 ≤ t111 then (if t111 < (l0_1.length : Int) then ((spec_l1NamesOk.f k l2 ((rd_T56 l0_1 t111).f2)).bind fun t113 => (if t113 = true then ((spec_l3Taken.f k l0_0 l0_1 t111 l2).bind fun t114 => (if t114 = true then (some (bt104.1, bt104.2, 5)) else ((spec_l1Copy.f k l0_0 l0_1).bind fun bt115 => (spec_ShareAsk.l0 k l2 t111 0 l0_0 l0_1 bt104.1 bt104.2 bt115.1 bt115.2)))) else (some (bt104.1, bt104.2, 2)))) else (none)) else (none))))) else (some (([] : List ByteArray), ([] : List (S56)), 1)))
def spec_ShareAsk.T15 : Bool × List (List Nat × List Nat) := (true, [([], []), ([0], [0]), ([], []), ([], []), ([3], [3]), ([], []), ([4, 5], [4, 5]), ([6], [6]), ([7], [7]), ([], []), ([], []), ([9, 10], [9, 10]), ([11], [11]), ([8, 12], [8, 12]), ([1, 2, 0, 1, 2, 3, 4, 5, 6, 7, 8, 9, 10, 11, 12, 13], [1, 2]), ([14, 0, 1, 2, 3, 4, 5, 6, 7, 8, 9, 10, 11, 12, 13], [14]), ([15, 13, 13, 0, 1, 2, 3, 4, 5, 6, 7, 8, 9, 10, 11, 12, 13], [13, 15])])
def spec_ShareAsk.B15 : List Nat := [0, 1, 0, 0, 8, 0, 56, 120, 248, 0, 0, 1536, 3584, 8184, 16383, 32767, 65535]
theorem spec_ShareAsk.tab15 : rtab .any (opsOf Try.f61 15) = spec_ShareAsk.T15 := by kernel_rfl
theorem spec_ShareAsk.bits15 : waitsOk spec_ShareAsk.T15.2 spec_ShareAsk.B15 = true := by kernel_rfl
theorem spec_ShareAsk.calls (k : Nat) (A0_0 : Option Addr) (c0_0 : Nat) (l0_0 : List ByteArray) (A0_1 : Option Addr) (c0_1 : Nat) (l0_1 : List (S56)) (a1 : ByteArray) (A2 : Option Addr) (c2 : Nat) (l2 : List ByteArray) (r1 : List ByteArray) (r2 : List (S56)) (r3 : Int) (w : World) (hr0_0 : Kd.C Kd.string w A0_0 l0_0.length l0_0) (hc0_0 : l0_0.length ≤ c0_0) (hr0_1 : Kd.C k56 w A0_1 l0_1.length l0_1) (hc0_1 : l0_1.length ≤ c0_1) (hr2 : Kd.C Kd.string w A2 l2.length l2) (hc2 : l2.length ≤ c2) (h : spec_ShareAsk.f k l0_0 l0_1 a1 l2 = some (r1, r2, r3)) :
  Calls Try.prog 61 #[.agg #[.slice A0_0 l0_0.length c0_0, .slice A0_1 l0_1.length c0_1], .string a1, .slice A2 l2.length c2] w fun e w' => ∃ v0_ v1_ : Value, e = .returned (.tuple #[.agg #[v0_, v1_], .int .i64 r3]) ∧ Kd.R Kd.string 9 w' w.heap.size (fun k_ => (w.heap.size ≤ k_)) v0_ r1 ∧ Kd.N k56 56 w' w.heap.size (fun k_ => (w.heap.size ≤ k_) ∧ some k_ ≠ (v0_ : Value).ownBlock) v1_ r2 ∧ Below w.heap.size w w' := by
 have hu31 := Try.underlying31
 have HR0_0 := am hr0_0
 have HC0_0 := am hc0_0
 clear hr0_0 hc0_0
 have HR0_1 := am hr0_1
 have HC0_1 := am hc0_1
 clear hr0_1 hc0_1
 have HR2 := am hr2
 have HC2 := am hc2
 clear hr2 hc2
 have HB := am (Below.refl w.heap.size w)
 unfold spec_ShareAsk.f at h
 have H := h
 clear h
 obtain ⟨t103, A4, H⟩ := bd H
 refine tC H ?_ ?_ <;> clear H <;> intro c5 H <;> subst c5
 obtain ⟨⟨t104, t107⟩, A6, H⟩ := bd H
 dsimp only at H
 obtain ⟨t111, A7, H⟩ := bd H
 refine ic H ?_ ?_ <;> clear H <;> intro c8b0 H
 simp only [Option.some.injEq, Prod.mk.injEq] at H
 obtain ⟨rfl, rfl, rfl⟩ := H
 have M40_ := trivial
 have M41_ := trivial
 have M43_ := trivial
 rotate_left
 obtain ⟨c26b0, H⟩ := cN H
 obtain ⟨c27b0, H⟩ := cN H
 obtain ⟨t113, A28, H⟩ := bd H
 refine tC H ?_ ?_ <;> clear H <;> intro c29 H <;> subst c29
 obtain ⟨t114, A30, H⟩ := bd H
 refine tC H ?_ ?_ <;> clear H <;> intro c31 H <;> subst c31
 simp only [Option.some.injEq, Prod.mk.injEq] at H
 obtain ⟨rfl, rfl, rfl⟩ := H
 have M40_ := trivial
 have M41_ := trivial
 have M44_ := trivial
 have M45_ := trivial
 have M46_ := trivial
 rotate_left
 obtain ⟨⟨t115, t118⟩, A52, H⟩ := bd H
 dsimp only at H
 have H' := am H
 clear H
 have M40_ := trivial
 have M41_ := trivial
 have M44_ := trivial
 have M45_ := trivial
 have M47_ := trivial
 have M48_ := trivial
 rotate_left
 simp only [Option.some.injEq, Prod.mk.injEq] at H
 obtain ⟨rfl, rfl, rfl⟩ := H
 have M40_ := trivial
 have M41_ := trivial
 have M44_ := trivial
 have M50_ := trivial
 rotate_left
 simp only [Option.some.injEq, Prod.mk.injEq] at H
 obtain ⟨rfl, rfl, rfl⟩ := H
 have M51_ := trivial
 rotate_left
 all_goals
  go_enter Try.func61, Try.ntmps61
  go_wp2_with (first | ((with_reducible refine gD 3 ?_); refine bX 3 #[.slice A0_0 l0_0.length c0_0, .slice A0_1 l0_1.length c0_1] 31 ?_; intro gb101 hg w2520 hbox hb; have BK101 := am (hbox); have GW101 := am (pY89 : w.heap.size ≤ gb101); have GE101 := am (pY89 : w.heap.size ≤ gb101); replace HB := bS pY95 hb; clear hb hbox hg) | ((with_reducible refine gD 6 ?_); refine bX 6 #[.slice none 0 0, .slice none 0 0] 31 ?_; intro gb102 hg w2560 hbox hb; have BK102 := am (hbox); have GW102 := am (pY77 : w.heap.size ≤ gb102); have GE102 := am (pY77 : w.heap.size ≤ gb102); replace HB := bS pY90 hb; have NB101_102 := nL pY98 hg; have NB102_101 := nG pY98 hg; replace BK101 := bB pY98 hb; clear hb hbox hg; have hnb2561 := NB101_102.1; have hnc2562 := NB102_101.1; obtain ⟨hcz2563_0, hcz2563_1, hfz2564_0, hfz2564_1⟩ := cz2 BK101) | ((with_reducible refine gC 22 ?_); clear M40_; refine cQ (some 13) Try.func22 (spec_ShareBookOk.calls k _ _ l0_0 _ _ l0_1 true _ (pB HR0_0) HC0_0.1 (pB HR0_1) HC0_1.1 A4.out) ?_; rintro w2600 hb; replace BK101 := bB pY98 hb; replace BK102 := bB pY99 hb; replace HB := bS pY81 hb; (try clear hb); obtain ⟨hcz2601_0, hcz2601_1, hfz2602_0, hfz2602_1⟩ := cz2 BK101) | ((with_reducible refine gC 89 ?_); clear M41_; refine cE (some 17) Try.func89 (spec_l1Copy.calls k _ _ l0_0 _ _ l0_1 t104 t107 _ (pB HR0_0) HC0_0.1 (pB HR0_1) HC0_1.1 A6.out) ?_; rintro e w2640 ⟨v105, v108, rfl, ho0, ho1, hb⟩; refine ⟨_, rfl, ?_⟩; have HO106 := am (Kd.R_lower (Kd.R_newM (M := fun k_ => (w.heap.size ≤ k_)) ho0 (below_size (pY81)) (fun k_ h_ => h_)) (below_size (pY81))); have HO109 := am (Kd.N_lower (Kd.N_mono (ok' := fun k_ => (w.heap.size ≤ k_) ∧ some k_ ≠ (v105 : Value).ownBlock ∧ k_ ≠ gb101 ∧ k_ ≠ gb102) (Kd.S_N (Kd.S_bound ho1)) (fun k_ hk_ => ⟨(Nat.le_trans (below_size (pY81)) hk_.2.1), hk_.1, (fB pY98 k_ hk_.2.1), (fB pY99 k_ hk_.2.1)⟩)) (below_size (pY81))); replace BK101 := bB pY98 hb; replace BK102 := bB pY99 hb; replace HB := bS pY81 hb; (try clear hb); (try clear ho0); (try clear ho1)) | ((with_reducible refine gD 8 ?_); refine bX 8 #[.slice none 0 0, .slice none 0 0] 31 ?_; intro gb110 hg w2680 hbox hb; replace HO106 := am (Kd.R_below (pY121) hb); replace HO109 := am (Kd.N_below (Kd.N_elderB (pY122) gb110 (Nat.le_of_eq hg.symm)) hb); have BK110 := am (hbox); have GW110 := am (pY65 : w.heap.size ≤ gb110); have GE110 := am (pY65 : w.heap.size ≤ gb110); replace HB := bS pY81 hb; have NB101_110 := nL pY98 hg; have NB110_101 := nG pY98 hg; replace BK101 := bB pY98 hb; have NB102_110 := nL pY99 hg; have NB110_102 := nG pY99 hg; replace BK102 := bB pY99 hb; clear hb hbox hg; obtain ⟨Ao2681, co2682, eo2683⟩ := Kd.R_slice HO106.1; subst eo2683; have hnb2684 := NB110_101.1; have hnc2685 := NB101_110.1; have hnb2686 := NB110_102.1; have hnc2687 := NB102_110.1; obtain ⟨hcz2688_0, hcz2688_1, hfz2689_0, hfz2689_1⟩ := cz2 BK110; obtain ⟨Ao2690, co2691, eo2692⟩ := Kd.N_slice HO109.1; subst eo2692; obtain ⟨hcz2693_0, hcz2693_1, hfz2694_0, hfz2694_1⟩ := cz2 BK101) | ((with_reducible refine gC 82 ?_); clear M43_; refine cQ (some 20) Try.func82 (spec_l1At.calls k _ _ l0_0 _ _ l0_1 a1 t111 _ (Kd.C_below HR0_0.1 (pY69)) HC0_0.1 (Kd.C_below HR0_1.1 (pY69)) HC0_1.1 A7.out) ?_; rintro w2720 hb; replace HO106 := am (Kd.R_below (by refine rR ?_; exact (Kd.R_mono (fR (fR (tR HO106 BK110))) (fun _ h_ => h_.1))) hb); replace HO109 := am (Kd.N_below (by refine rN ?_; exact (Kd.N_mono (fN (fN (Kd.N_mono HO109.1 (fun k_ hk => (⟨hk, hk.2⟩ : _ ∧ k_ ≠ gb110))))) (fun _ h_ => h_.1))) hb); replace BK101 := am (blk_below (g := gb101) (o := .cells #[.slice A0_0 l0_0.length c0_0, .slice A0_1 l0_1.length c0_1] 31 (0, 0)) (pY8) hb); replace BK102 := am (blk_below (g := gb102) (o := .cells #[.slice none 0 0, .slice none 0 0] 31 (0, 0)) (pY9) hb); replace BK110 := am (blk_below (g := gb110) (o := .cells #[.slice Ao2681 t104.length co2682, .slice Ao2690 t107.length co2691] 31 (0, 0)) (by refine rB ?_; refine blk_put (cs := #[.slice Ao2681 t104.length co2682, .slice none 0 0]) ?_ 1 _ rfl; refine rB ?_; refine blk_put (cs := #[.slice none 0 0, .slice none 0 0]) ?_ 0 _ rfl; refine rB ?_; exact BK110.1) hb); replace HB := bS pY69 hb; (try clear hb); (try clear hk); obtain ⟨hcz2721_0, hcz2721_1, hfz2722_0, hfz2722_1⟩ := cz2 BK110; obtain ⟨hcz2723_0, hcz2723_1, hfz2724_0, hfz2724_1⟩ := cz2 BK102) | ((with_reducible refine gC 82 ?_); clear M44_; refine cQ (some 20) Try.func82 (spec_l1At.calls k _ _ l0_0 _ _ l0_1 a1 t111 _ (Kd.C_below HR0_0.1 (pY69)) HC0_0.1 (Kd.C_below HR0_1.1 (pY69)) HC0_1.1 A7.out) ?_; rintro w2760 hb; replace HO106 := am (Kd.R_below (by refine rR ?_; exact (Kd.R_mono (fR (fR (tR HO106 BK110))) (fun _ h_ => h_.1))) hb); replace HO109 := am (Kd.N_below (by refine rN ?_; exact (Kd.N_mono (fN (fN (Kd.N_mono HO109.1 (fun k_ hk => (⟨hk, hk.2⟩ : _ ∧ k_ ≠ gb110))))) (fun _ h_ => h_.1))) hb); replace BK101 := am (blk_below (g := gb101) (o := .cells #[.slice A0_0 l0_0.length c0_0, .slice A0_1 l0_1.length c0_1] 31 (0, 0)) (pY8) hb); replace BK102 := am (blk_below (g := gb102) (o := .cells #[.slice none 0 0, .slice none 0 0] 31 (0, 0)) (pY9) hb); replace BK110 := am (blk_below (g := gb110) (o := .cells #[.slice Ao2681 t104.length co2682, .slice Ao2690 t107.length co2691] 31 (0, 0)) (by refine rB ?_; refine blk_put (cs := #[.slice Ao2681 t104.length co2682, .slice none 0 0]) ?_ 1 _ rfl; refine rB ?_; refine blk_put (cs := #[.slice none 0 0, .slice none 0 0]) ?_ 0 _ rfl; refine rB ?_; exact BK110.1) hb); replace HB := bS pY69 hb; (try clear hb); (try clear hk); obtain ⟨hcz2761_0, hcz2761_1, hfz2762_0, hfz2762_1⟩ := cz2 BK101; obtain ⟨ad112, A112_1, c112_1, A112_2, c112_2, e112, hx112_0, hx112_1, hx112_2, HR112_1, HC112_1, HR112_2, HC112_2, p112, q112⟩ := aT56 HR0_1 HB t111; cases e112) | ((with_reducible refine gC 71 ?_); clear M45_; refine cQ (some 31) Try.func71 (spec_l1NamesOk.calls k _ _ l2 _ _ ((rd_T56 l0_1 t111).f2) true _ (pB HR2) HC2.1 (pB HR112_2) HC112_2.1 A28.out) ?_; rintro w' ⟨nd, rfl⟩; (try (rw [drewN_self w2760]; generalize hq_ : World.drewN w2760 _ = w2760; have n0_ : Aside0 (Kd.R Kd.string 9 w2760 w.heap.size (fun k_ => (((w.heap.size ≤ k_)) ∧ True)) (.slice Ao2681 t104.length co2682) t104) := ⟨by rw [← hq_]; exact (pY121)⟩; have n1_ : Aside0 (Kd.N k56 56 w2760 w.heap.size (fun k_ => ((((w.heap.size ≤ k_)) ∧ (some k_ ≠ (.slice Ao2681 t104.length co2682 : Value).ownBlock ∧ (k_ ≠ gb101 ∧ k_ ≠ gb102))) ∧ k_ ≠ gb110)) (.slice Ao2690 t107.length co2691) t107) := ⟨by rw [← hq_]; exact (pY122)⟩; have n2_ : Aside0 (w2760.heap[gb101]? = some (.cells #[.slice A0_0 l0_0.length c0_0, .slice (some ad112) l0_1.length c0_1] 31 (0, 0))) := ⟨by rw [← hq_]; exact (pY98)⟩; have n3_ : Aside0 (w2760.heap[gb102]? = some (.cells #[.slice none 0 0, .slice none 0 0] 31 (0, 0))) := ⟨by rw [← hq_]; exact (pY99)⟩; have n4_ : Aside0 (w2760.heap[gb110]? = some (.cells #[.slice Ao2681 t104.length co2682, .slice Ao2690 t107.length co2691] 31 (0, 0))) := ⟨by rw [← hq_]; exact (pY103)⟩; have n5_ : Aside0 (Below w.heap.size w w2760) := ⟨by rw [← hq_]; exact (pY69)⟩; clear HO106 HO109 BK101 BK102 BK110 HB hq_; have HO106 := n0_; have HO109 := n1_; have BK101 := n2_; have BK102 := n3_; have BK110 := n4_; have HB := n5_; clear n0_ n1_ n2_ n3_ n4_ n5_)); obtain ⟨hcz2800_0, hcz2800_1, hfz2801_0, hfz2801_1⟩ := cz2 BK101) | ((with_reducible refine gC 105 ?_); clear M46_; refine cQ (some 37) Try.func105 (spec_l3Taken.calls k _ _ l0_0 _ _ l0_1 t111 _ _ l2 true _ (pB HR0_0) HC0_0.1 (pB HR0_1) HC0_1.1 (pB HR2) HC2.1 A30.out) ?_; rintro w2840 hb; replace HO106 := am (Kd.R_below (pY121) hb); replace HO109 := am (Kd.N_below (pY122) hb); replace BK101 := bB pY98 hb; replace BK102 := bB pY99 hb; replace BK110 := bB pY103 hb; replace HB := bS pY69 hb; (try clear hb); obtain ⟨hcz2841_0, hcz2841_1, hfz2842_0, hfz2842_1⟩ := cz2 BK110; obtain ⟨hcz2843_0, hcz2843_1, hfz2844_0, hfz2844_1⟩ := cz2 BK102) | ((with_reducible refine gC 105 ?_); clear M47_; refine cQ (some 37) Try.func105 (spec_l3Taken.calls k _ _ l0_0 _ _ l0_1 t111 _ _ l2 false _ (pB HR0_0) HC0_0.1 (pB HR0_1) HC0_1.1 (pB HR2) HC2.1 A30.out) ?_; rintro w2880 hb; replace HO106 := am (Kd.R_below (pY121) hb); replace HO109 := am (Kd.N_below (pY122) hb); replace BK101 := bB pY98 hb; replace BK102 := bB pY99 hb; replace BK110 := bB pY103 hb; replace HB := bS pY69 hb; (try clear hb); obtain ⟨hcz2881_0, hcz2881_1, hfz2882_0, hfz2882_1⟩ := cz2 BK101) | ((with_reducible refine gC 89 ?_); clear M48_; refine cE (some 40) Try.func89 (spec_l1Copy.calls k _ _ l0_0 _ _ l0_1 t115 t118 _ (pB HR0_0) HC0_0.1 (pB HR0_1) HC0_1.1 A52.out) ?_; rintro e w2920 ⟨v116, v119, rfl, ho0, ho1, hb⟩; refine ⟨_, rfl, ?_⟩; have HO117 := am (Kd.R_lower (Kd.R_new' (Kd.R_newM (M := fun k_ => (w.heap.size ≤ k_)) ho0 (below_size (pY69)) (fun k_ h_ => h_)) (Kd.R_lt (pY121))) (below_size (pY69))); have HO120 := am (Kd.N_lower (Kd.N_mono (ok' := fun k_ => (w.heap.size ≤ k_) ∧ some k_ ≠ (v116 : Value).ownBlock ∧ some k_ ≠ (.slice Ao2681 t104.length co2682 : Value).ownBlock ∧ some k_ ≠ (.slice Ao2690 t107.length co2691 : Value).ownBlock ∧ k_ ≠ gb101 ∧ k_ ≠ gb102 ∧ k_ ≠ gb110) (Kd.S_N (Kd.S_bound ho1)) (fun k_ hk_ => ⟨(Nat.le_trans (below_size (pY69)) hk_.2.1), hk_.1, (Kd.fresh' (Kd.R_lt (pY121)) k_ hk_.2.1), (Kd.fresh' (Kd.N_lt (pY122)) k_ hk_.2.1), (fB pY98 k_ hk_.2.1), (fB pY99 k_ hk_.2.1), (fB pY103 k_ hk_.2.1)⟩)) (below_size (pY69))); replace HO106 := am (Kd.R_elder' (pY121) (Kd.R_base ho0) hb); replace HO109 := am (Kd.N_mono (Kd.N_told (Kd.N_told (Kd.N_old (pY122) hb) (Kd.R_base ho0)) (pY134)) (fun _ h_ => h_.1)); replace BK101 := bB pY98 hb; replace BK102 := bB pY99 hb; replace BK110 := bB pY103 hb; replace HB := bS pY69 hb; (try clear hb); (try clear ho0); (try clear ho1)) | ((with_reducible refine gD 10 ?_); refine bX 10 #[.slice none 0 0, .slice none 0 0] 31 ?_; intro gb121 hg w2960 hbox hb; replace HO106 := am (Kd.R_below (pY121) hb); replace HO109 := am (Kd.N_below (Kd.N_elderB (pY122) gb121 (Nat.le_of_eq hg.symm)) hb); replace HO117 := am (Kd.R_below (rR HO117.1) hb); replace HO120 := am (Kd.N_below (Kd.N_elderB (rN HO120.1) gb121 (Nat.le_of_eq hg.symm)) hb); have BK121 := am (hbox); have GW121 := am (pY36 : w.heap.size ≤ gb121); have GE121 := am (pY36 : w.heap.size ≤ gb121); replace HB := bS pY69 hb; have NB101_121 := nL pY98 hg; have NB121_101 := nG pY98 hg; replace BK101 := bB pY98 hb; have NB102_121 := nL pY99 hg; have NB121_102 := nG pY99 hg; replace BK102 := bB pY99 hb; have NB110_121 := nL pY103 hg; have NB121_110 := nG pY103 hg; replace BK110 := bB pY103 hb; clear hb hbox hg; obtain ⟨Ao2961, co2962, eo2963⟩ := Kd.R_slice HO117.1; subst eo2963; have hnb2964 := NB121_101.1; have hnc2965 := NB101_121.1; have hnb2966 := NB121_102.1; have hnc2967 := NB102_121.1; have hnb2968 := NB121_110.1; have hnc2969 := NB110_121.1; obtain ⟨hcz2970_0, hcz2970_1, hfz2971_0, hfz2971_1⟩ := cz2 BK121; obtain ⟨Ao2972, co2973, eo2974⟩ := Kd.N_slice HO120.1; subst eo2974) | ((with_reducible refine gC 71 ?_); clear M50_; refine cQ (some 31) Try.func71 (spec_l1NamesOk.calls k _ _ l2 _ _ ((rd_T56 l0_1 t111).f2) false _ (pB HR2) HC2.1 (pB HR112_2) HC112_2.1 A28.out) ?_; rintro w' ⟨nd, rfl⟩; (try (rw [drewN_self w2760]; generalize hq_ : World.drewN w2760 _ = w2760; have n0_ : Aside0 (Kd.R Kd.string 9 w2760 w.heap.size (fun k_ => (((w.heap.size ≤ k_)) ∧ True)) (.slice Ao2681 t104.length co2682) t104) := ⟨by rw [← hq_]; exact (pY121)⟩; have n1_ : Aside0 (Kd.N k56 56 w2760 w.heap.size (fun k_ => ((((w.heap.size ≤ k_)) ∧ (some k_ ≠ (.slice Ao2681 t104.length co2682 : Value).ownBlock ∧ (k_ ≠ gb101 ∧ k_ ≠ gb102))) ∧ k_ ≠ gb110)) (.slice Ao2690 t107.length co2691) t107) := ⟨by rw [← hq_]; exact (pY122)⟩; have n2_ : Aside0 (w2760.heap[gb101]? = some (.cells #[.slice A0_0 l0_0.length c0_0, .slice (some ad112) l0_1.length c0_1] 31 (0, 0))) := ⟨by rw [← hq_]; exact (pY98)⟩; have n3_ : Aside0 (w2760.heap[gb102]? = some (.cells #[.slice none 0 0, .slice none 0 0] 31 (0, 0))) := ⟨by rw [← hq_]; exact (pY99)⟩; have n4_ : Aside0 (w2760.heap[gb110]? = some (.cells #[.slice Ao2681 t104.length co2682, .slice Ao2690 t107.length co2691] 31 (0, 0))) := ⟨by rw [← hq_]; exact (pY103)⟩; have n5_ : Aside0 (Below w.heap.size w w2760) := ⟨by rw [← hq_]; exact (pY69)⟩; clear HO106 HO109 BK101 BK102 BK110 HB hq_; have HO106 := n0_; have HO109 := n1_; have BK101 := n2_; have BK102 := n3_; have BK110 := n4_; have HB := n5_; clear n0_ n1_ n2_ n3_ n4_ n5_)); obtain ⟨hcz3000_0, hcz3000_1, hfz3001_0, hfz3001_1⟩ := cz2 BK110; obtain ⟨hcz3002_0, hcz3002_1, hfz3003_0, hfz3003_1⟩ := cz2 BK102) | ((with_reducible refine gC 22 ?_); clear M51_; refine cQ (some 13) Try.func22 (spec_ShareBookOk.calls k _ _ l0_0 _ _ l0_1 false _ (pB HR0_0) HC0_0.1 (pB HR0_1) HC0_1.1 A4.out) ?_; rintro w3040 hb; replace BK101 := bB pY98 hb; replace BK102 := bB pY99 hb; replace HB := bS pY81 hb; (try clear hb); obtain ⟨hcz3041_0, hcz3041_1, hfz3042_0, hfz3042_1⟩ := cz2 BK102))
 ·refine bodyPost_ret (results_ct rfl _ _ gb102 31 #[.slice Ao2681 t104.length co2682, .slice Ao2690 t107.length co2691] (0, 0) _ rfl (by refine rB ?_; refine blk_put (cs := #[.slice Ao2681 t104.length co2682, .slice none 0 0]) ?_ 1 _ rfl; refine rB ?_; refine blk_put (cs := #[.slice none 0 0, .slice none 0 0]) ?_ 0 _ rfl; refine rB ?_; exact BK102.1) Try.underlying31 rfl (by kernel_rfl)) rfl ?_
  exact ⟨_, _, eR, by refine rR ?_; exact Kd.R_mono (fR (fR (tR HO106 BK102))) (fun _ hk => hk.1.1), by refine rN ?_; exact Kd.N_mono (fN (fN (Kd.N_mono HO109.1 (fun k_ hk => (⟨hk, hk.1.2.2.2⟩ : _ ∧ k_ ≠ gb102))))) (fun _ hk => ⟨hk.1.1.1, hk.1.1.2.1⟩), pY69⟩
 ·refine bodyPost_ret (results_ct rfl _ _ gb102 31 #[.slice Ao2681 t104.length co2682, .slice Ao2690 t107.length co2691] (0, 0) _ rfl (by refine rB ?_; refine blk_put (cs := #[.slice Ao2681 t104.length co2682, .slice none 0 0]) ?_ 1 _ rfl; refine rB ?_; refine blk_put (cs := #[.slice none 0 0, .slice none 0 0]) ?_ 0 _ rfl; refine rB ?_; exact BK102.1) Try.underlying31 rfl (by kernel_rfl)) rfl ?_
  exact ⟨_, _, eR, by refine rR ?_; exact Kd.R_mono (fR (fR (tR HO106 BK102))) (fun _ hk => hk.1.1), by refine rN ?_; exact Kd.N_mono (fN (fN (Kd.N_mono HO109.1 (fun k_ hk => (⟨hk, hk.1.2.2.2⟩ : _ ∧ k_ ≠ gb102))))) (fun _ hk => ⟨hk.1.1.1, hk.1.1.2.1⟩), pY69⟩
 ·go_loopg [11] k (fun kq v11 w' => ∃ (x11_1 : Int) (x111001_1 : List (S56)) (x122001_1 : List (S56)) (u111001 : Value) (u122001 : Value), v11 = .int .i64 x11_1 ∧ Aside0 (spec_ShareAsk.l0 kq l2 t111 x11_1 l0_0 l0_1 t104 x111001_1 t115 x122001_1 = some (r1, r2, r3)) ∧ Aside0 (kq ≤ k) ∧ Aside0 (Kd.R Kd.string 9 w' w.heap.size (fun k_ => (w.heap.size ≤ k_) ∧ some k_ ≠ ((.slice Ao2961 t115.length co2962) : Value).ownBlock) (.slice Ao2681 t104.length co2682) t104) ∧ Aside0 (Kd.N k56 56 w' w.heap.size (fun k_ => (w.heap.size ≤ k_) ∧ some k_ ≠ ((.slice Ao2681 t104.length co2682) : Value).ownBlock ∧ some k_ ≠ ((.slice Ao2961 t115.length co2962) : Value).ownBlock ∧ some k_ ≠ (u122001 : Value).ownBlock ∧ k_ ≠ gb101 ∧ k_ ≠ gb102 ∧ k_ ≠ gb110 ∧ k_ ≠ gb121) u111001 x111001_1) ∧ Aside0 (Kd.R Kd.string 9 w' w.heap.size (fun k_ => (w.heap.size ≤ k_) ∧ some k_ ≠ ((.slice Ao2681 t104.length co2682) : Value).ownBlock) (.slice Ao2961 t115.length co2962) t115) ∧ Aside0 (Kd.N k56 56 w' w.heap.size (fun k_ => (w.heap.size ≤ k_) ∧ some k_ ≠ ((.slice Ao2681 t104.length co2682) : Value).ownBlock ∧ some k_ ≠ (u111001 : Value).ownBlock ∧ some k_ ≠ ((.slice Ao2961 t115.length co2962) : Value).ownBlock ∧ k_ ≠ gb101 ∧ k_ ≠ gb102 ∧ k_ ≠ gb110 ∧ k_ ≠ gb121) u122001 x122001_1) ∧ Aside0 (w'.heap[gb101]? = some (.cells #[(.slice A0_0 l0_0.length c0_0), (.slice (some ad112) l0_1.length c0_1)] 31 (0, 0))) ∧ Aside0 (w'.heap[gb102]? = some (.cells #[(.slice none 0 0), (.slice none 0 0)] 31 (0, 0))) ∧ Aside0 (w'.heap[gb110]? = some (.cells #[(.slice Ao2681 t104.length co2682), u111001] 31 (0, 0))) ∧ Aside0 (w'.heap[gb121]? = some (.cells #[(.slice Ao2961 t115.length co2962), u122001] 31 (0, 0))) ∧ Aside0 (Below w.heap.size w w'))
  case atStart => exact ⟨(0), (t107), (t118), (.slice Ao2690 t107.length co2691), (.slice Ao2972 t118.length co2973), (pY136), H', ⟨Nat.le_refl _⟩, ⟨by refine rR ?_; exact Kd.R_mono (fR (fR (tR HO106 BK121))) (fun _ hk => ⟨hk.1.1.1, hk.1.2⟩)⟩, ⟨by refine rN ?_; exact Kd.N_mono (fN (fN (Kd.N_mono HO109.1 (fun k_ hk => (⟨hk, hk.2⟩ : _ ∧ k_ ≠ gb121))))) (fun _ hk => ⟨hk.1.1.1.1.1.1, ⟨hk.1.1.1.1.1.2.1, ⟨hk.1.1.1.2, ⟨hk.1.1.2, ⟨hk.1.1.1.1.1.2.2.1, ⟨hk.1.1.1.1.1.2.2.2, ⟨hk.1.1.1.1.2, hk.1.2⟩⟩⟩⟩⟩⟩⟩)⟩, ⟨by refine rR ?_; exact Kd.R_mono (fR (fR (tR HO117 BK121))) (fun _ hk => ⟨hk.1.1.1, hk.1.2⟩)⟩, ⟨by refine rN ?_; exact Kd.N_mono (fN (fN (Kd.N_mono HO120.1 (fun k_ hk => (⟨hk, hk.2⟩ : _ ∧ k_ ≠ gb121))))) (fun _ hk => ⟨hk.1.1.1, ⟨hk.1.1.2.2.1, ⟨hk.1.1.2.2.2.1, ⟨hk.1.1.2.1, ⟨hk.1.1.2.2.2.2.1, ⟨hk.1.1.2.2.2.2.2.1, ⟨hk.1.1.2.2.2.2.2.2, hk.1.2⟩⟩⟩⟩⟩⟩⟩)⟩, ⟨by refine rB ?_; refine blk_far ?_ NB101_121.1 _; refine rB ?_; refine blk_far ?_ NB101_121.1 _; refine rB ?_; exact BK101.1⟩, ⟨by refine rB ?_; refine blk_far ?_ NB102_121.1 _; refine rB ?_; refine blk_far ?_ NB102_121.1 _; refine rB ?_; exact BK102.1⟩, ⟨by refine rB ?_; refine blk_far ?_ NB110_121.1 _; refine rB ?_; refine blk_far ?_ NB110_121.1 _; refine rB ?_; exact BK110.1⟩, ⟨by refine rB ?_; refine blk_put (cs := #[.slice Ao2961 t115.length co2962, .slice none 0 0]) ?_ 1 _ rfl; refine rB ?_; refine blk_put (cs := #[.slice none 0 0, .slice none 0 0]) ?_ 0 _ rfl; refine rB ?_; exact BK121.1⟩, ⟨pY37⟩⟩
  case round =>
   clear H'
   try clear c2
   try clear c5
   try clear c8b0
   try clear c26b0
   try clear c27b0
   try clear c29
   try clear c31
   try clear hcz2563_0 hcz2563_1 hfz2564_0 hfz2564_1
   try clear hcz2601_0 hcz2601_1 hfz2602_0 hfz2602_1
   try clear hcz2688_0 hcz2688_1 hfz2689_0 hfz2689_1
   try clear hcz2693_0 hcz2693_1 hfz2694_0 hfz2694_1
   try clear hcz2761_0 hcz2761_1 hfz2762_0 hfz2762_1
   try clear hcz2800_0 hcz2800_1 hfz2801_0 hfz2801_1
   try clear hcz2881_0 hcz2881_1 hfz2882_0 hfz2882_1
   try clear hcz2970_0 hcz2970_1 hfz2971_0 hfz2971_1
   try clear hx112_0 hx112_1 hx112_2
   try clear p112 q112
   obtain ⟨x11_1, x111001_1, x122001_1, u111001, u122001, rfl, HA, HK1, HO_111000, HO_111001, HO_122000, HO_122001, BK101, BK102, BK110, BK121, HB⟩ := hrel
   cases gk with
   | zero => exact absurd HA.out (by simp [spec_ShareAsk.l0])
   | succ k1 =>
    have H := HA.out
    clear HA
    simp only [spec_ShareAsk.l0] at H
    refine ic H ?_ ?_ <;> clear H <;> intro c80b0 H
    obtain ⟨c81b0, H⟩ := cN H
    obtain ⟨c82b0, H⟩ := cN H
    obtain ⟨c83b0, H⟩ := cN H
    have HF := am H
    clear H
    rotate_left
    obtain ⟨t128, A90, H⟩ := bd H
    refine tC H ?_ ?_ <;> clear H <;> intro c91 H <;> subst c91
    obtain ⟨t129, A92, H⟩ := bd H
    refine tC H ?_ ?_ <;> clear H <;> intro c93 H <;> subst c93
    obtain ⟨⟨t130, t133⟩, A94, H⟩ := bd H
    dsimp only at H
    simp only [Option.some.injEq, Prod.mk.injEq] at H
    obtain ⟨rfl, rfl, rfl⟩ := H
    have hnb95 := NB101_102.1
    have hnc95 := NB102_101.1
    have hnb96 := NB101_110.1
    have hnc96 := NB110_101.1
    have hnb97 := NB101_121.1
    have hnc97 := NB121_101.1
    obtain ⟨hcz98_0, hcz98_1, hfz98_0, hfz98_1⟩ := cz2 BK101
    have M52_ := trivial
    have M53_ := trivial
    have M54_ := trivial
    rotate_left
    simp only [Option.some.injEq, Prod.mk.injEq] at H
    obtain ⟨rfl, rfl, rfl⟩ := H
    have hnb111 := NB101_102.1
    have hnc111 := NB102_101.1
    have hnb112 := NB101_110.1
    have hnc112 := NB110_101.1
    have hnb113 := NB101_121.1
    have hnc113 := NB121_101.1
    obtain ⟨hcz114_0, hcz114_1, hfz114_0, hfz114_1⟩ := cz2 BK101
    have M52_ := trivial
    have M55_ := trivial
    rotate_left
    obtain ⟨⟨t136, t139⟩, A125, H⟩ := bd H
    dsimp only at H
    simp only [Option.some.injEq, Prod.mk.injEq] at H
    obtain ⟨rfl, rfl, rfl⟩ := H
    have hnb126 := NB101_102.1
    have hnc126 := NB102_101.1
    have hnb127 := NB101_110.1
    have hnc127 := NB110_101.1
    have hnb128 := NB101_121.1
    have hnc128 := NB121_101.1
    obtain ⟨hcz129_0, hcz129_1, hfz129_0, hfz129_1⟩ := cz2 BK101
    have M56_ := trivial
    have M57_ := trivial
    rotate_left
    all_goals
     try go_wp2_with (first | ((with_reducible refine gC 35 ?_); clear M52_; refine cQ (some 64) Try.func35 (spec_ShareSafe.calls k1 _ _ l0_0 _ _ l0_1 true _ (pB HR0_0) HC0_0.1 (pB HR0_1) HC0_1.1 A90.out) ?_; rintro w3080 hb; replace HO_111000 := am (Kd.R_below (pY113) hb); replace HO_111001 := am (Kd.N_below (pY114) hb); replace HO_122000 := am (Kd.R_below (pY115) hb); replace HO_122001 := am (Kd.N_below (pY116) hb); replace BK101 := bB pY98 hb; replace BK102 := bB pY99 hb; replace BK110 := bB pY103 hb; replace BK121 := bB pY104 hb; replace HB := bS pY37 hb; (try clear hb); have hnb3081 := NB121_102.1; have hnc3082 := NB102_121.1; have hnb3083 := NB121_110.1; have hnc3084 := NB110_121.1; obtain ⟨hcz3085_0, hcz3085_1, hfz3086_0, hfz3086_1⟩ := cz2 BK121; obtain ⟨Ao3087, co3088, eo3089⟩ := Kd.N_slice HO_122001.1; subst eo3089) | (go_at_call 35; clear M53_; refine cM (spec_ShareSafe.calls k1 _ _ t115 _ _ x122001_1 true _ (pC (Kd.R_reads' HO_122000.1).2.2) ((Kd.R_reads' HO_122000.1).2.1) (pC (Kd.N_reads' HO_122001.1).2.2) ((Kd.N_reads' HO_122001.1).2.1) A92.out) ?_; rintro w3120 hb; replace HO_111000 := am (Kd.R_below (pY113) hb); replace HO_111001 := am (Kd.N_below (pY114) hb); replace HO_122000 := am (Kd.R_below (pY115) hb); replace HO_122001 := am (Kd.N_below (pY116) hb); replace BK101 := bB pY98 hb; replace BK102 := bB pY99 hb; replace BK110 := bB pY103 hb; replace BK121 := bB pY104 hb; replace HB := bS pY37 hb; (try clear hb); obtain ⟨hcz3121_0, hcz3121_1, hfz3122_0, hfz3122_1⟩ := cz2 BK121) | ((with_reducible refine gC 89 ?_); clear M54_; refine cE (some 72) Try.func89 (spec_l1Copy.calls k1 _ _ t115 _ _ x122001_1 t130 t133 _ (pC (Kd.R_reads' HO_122000.1).2.2) ((Kd.R_reads' HO_122000.1).2.1) (pC (Kd.N_reads' HO_122001.1).2.2) ((Kd.N_reads' HO_122001.1).2.1) A94.out) ?_; rintro e w3160 ⟨v131, v134, rfl, ho0, ho1, hb⟩; refine ⟨_, rfl, ?_⟩; have HO132 := am (Kd.R_lower (Kd.R_new' (Kd.R_new' (Kd.R_newM (M := fun k_ => (w.heap.size ≤ k_)) ho0 (below_size (pY37)) (fun k_ h_ => h_)) (Kd.R_lt (pY113))) (Kd.R_lt (pY115))) (below_size (pY37))); have HO135 := am (Kd.N_lower (Kd.N_mono (ok' := fun k_ => (w.heap.size ≤ k_) ∧ some k_ ≠ (v131 : Value).ownBlock ∧ some k_ ≠ (.slice Ao2681 t104.length co2682 : Value).ownBlock ∧ some k_ ≠ (u111001 : Value).ownBlock ∧ some k_ ≠ (.slice Ao2961 t115.length co2962 : Value).ownBlock ∧ some k_ ≠ (.slice Ao3087 x122001_1.length co3088 : Value).ownBlock ∧ k_ ≠ gb101 ∧ k_ ≠ gb102 ∧ k_ ≠ gb110 ∧ k_ ≠ gb121) (Kd.S_N (Kd.S_bound ho1)) (fun k_ hk_ => ⟨(Nat.le_trans (below_size (pY37)) hk_.2.1), hk_.1, (Kd.fresh' (Kd.R_lt (pY113)) k_ hk_.2.1), (Kd.fresh' (Kd.N_lt (pY114)) k_ hk_.2.1), (Kd.fresh' (Kd.R_lt (pY115)) k_ hk_.2.1), (Kd.fresh' (Kd.N_lt (pY116)) k_ hk_.2.1), (fB pY98 k_ hk_.2.1), (fB pY99 k_ hk_.2.1), (fB pY103 k_ hk_.2.1), (fB pY104 k_ hk_.2.1)⟩)) (below_size (pY37))); replace HO_111000 := am (Kd.R_elder' (pY113) (Kd.R_base ho0) hb); replace HO_111001 := am (Kd.N_mono (Kd.N_told (Kd.N_told (Kd.N_old (pY114) hb) (Kd.R_base ho0)) (pY134)) (fun _ h_ => h_.1)); replace HO_122000 := am (Kd.R_elder' (pY115) (Kd.R_base ho0) hb); replace HO_122001 := am (Kd.N_mono (Kd.N_told (Kd.N_told (Kd.N_old (pY116) hb) (Kd.R_base ho0)) (pY134)) (fun _ h_ => h_.1)); replace BK101 := bB pY98 hb; replace BK102 := bB pY99 hb; replace BK110 := bB pY103 hb; replace BK121 := bB pY104 hb; replace HB := bS pY37 hb; (try clear hb); (try clear ho0); (try clear ho1); obtain ⟨Ao3161, co3162, eo3163⟩ := Kd.R_slice HO132.1; subst eo3163; have hnb3164 := NB102_110.1; have hnc3165 := NB110_102.1; obtain ⟨hcz3166_0, hcz3166_1, hfz3167_0, hfz3167_1⟩ := cz2 BK102; obtain ⟨Ao3168, co3169, eo3170⟩ := Kd.N_slice HO135.1; subst eo3170) | (go_at_call 35; clear M55_; refine cM (spec_ShareSafe.calls k1 _ _ t115 _ _ x122001_1 false _ (pC (Kd.R_reads' HO_122000.1).2.2) ((Kd.R_reads' HO_122000.1).2.1) (pC (Kd.N_reads' HO_122001.1).2.2) ((Kd.N_reads' HO_122001.1).2.1) A92.out) ?_; rintro w3200 hb; replace HO_111000 := am (Kd.R_below (pY113) hb); replace HO_111001 := am (Kd.N_below (pY114) hb); replace HO_122000 := am (Kd.R_below (pY115) hb); replace HO_122001 := am (Kd.N_below (pY116) hb); replace BK101 := bB pY98 hb; replace BK102 := bB pY99 hb; replace BK110 := bB pY103 hb; replace BK121 := bB pY104 hb; replace HB := bS pY37 hb; (try clear hb); have hnb3201 := NB110_102.1; have hnc3202 := NB102_110.1; obtain ⟨hcz3203_0, hcz3203_1, hfz3204_0, hfz3204_1⟩ := cz2 BK110; obtain ⟨hcz3205_0, hcz3205_1, hfz3206_0, hfz3206_1⟩ := cz2 BK102; obtain ⟨Ao3207, co3208, eo3209⟩ := Kd.N_slice HO_111001.1; subst eo3209) | ((with_reducible refine gC 35 ?_); clear M56_; refine cQ (some 64) Try.func35 (spec_ShareSafe.calls k1 _ _ l0_0 _ _ l0_1 false _ (pB HR0_0) HC0_0.1 (pB HR0_1) HC0_1.1 A90.out) ?_; rintro w3240 hb; replace HO_111000 := am (Kd.R_below (pY113) hb); replace HO_111001 := am (Kd.N_below (pY114) hb); replace HO_122000 := am (Kd.R_below (pY115) hb); replace HO_122001 := am (Kd.N_below (pY116) hb); replace BK101 := bB pY98 hb; replace BK102 := bB pY99 hb; replace BK110 := bB pY103 hb; replace BK121 := bB pY104 hb; replace HB := bS pY37 hb; (try clear hb); have hnb3241 := NB121_102.1; have hnc3242 := NB102_121.1; have hnb3243 := NB121_110.1; have hnc3244 := NB110_121.1; obtain ⟨hcz3245_0, hcz3245_1, hfz3246_0, hfz3246_1⟩ := cz2 BK121; obtain ⟨Ao3247, co3248, eo3249⟩ := Kd.N_slice HO_122001.1; subst eo3249) | ((with_reducible refine gC 89 ?_); clear M57_; refine cE (some 72) Try.func89 (spec_l1Copy.calls k1 _ _ t115 _ _ x122001_1 t136 t139 _ (pC (Kd.R_reads' HO_122000.1).2.2) ((Kd.R_reads' HO_122000.1).2.1) (pC (Kd.N_reads' HO_122001.1).2.2) ((Kd.N_reads' HO_122001.1).2.1) A125.out) ?_; rintro e w3280 ⟨v137, v140, rfl, ho0, ho1, hb⟩; refine ⟨_, rfl, ?_⟩; have HO138 := am (Kd.R_lower (Kd.R_new' (Kd.R_new' (Kd.R_newM (M := fun k_ => (w.heap.size ≤ k_)) ho0 (below_size (pY37)) (fun k_ h_ => h_)) (Kd.R_lt (pY113))) (Kd.R_lt (pY115))) (below_size (pY37))); have HO141 := am (Kd.N_lower (Kd.N_mono (ok' := fun k_ => (w.heap.size ≤ k_) ∧ some k_ ≠ (v137 : Value).ownBlock ∧ some k_ ≠ (.slice Ao2681 t104.length co2682 : Value).ownBlock ∧ some k_ ≠ (u111001 : Value).ownBlock ∧ some k_ ≠ (.slice Ao2961 t115.length co2962 : Value).ownBlock ∧ some k_ ≠ (.slice Ao3247 x122001_1.length co3248 : Value).ownBlock ∧ k_ ≠ gb101 ∧ k_ ≠ gb102 ∧ k_ ≠ gb110 ∧ k_ ≠ gb121) (Kd.S_N (Kd.S_bound ho1)) (fun k_ hk_ => ⟨(Nat.le_trans (below_size (pY37)) hk_.2.1), hk_.1, (Kd.fresh' (Kd.R_lt (pY113)) k_ hk_.2.1), (Kd.fresh' (Kd.N_lt (pY114)) k_ hk_.2.1), (Kd.fresh' (Kd.R_lt (pY115)) k_ hk_.2.1), (Kd.fresh' (Kd.N_lt (pY116)) k_ hk_.2.1), (fB pY98 k_ hk_.2.1), (fB pY99 k_ hk_.2.1), (fB pY103 k_ hk_.2.1), (fB pY104 k_ hk_.2.1)⟩)) (below_size (pY37))); replace HO_111000 := am (Kd.R_elder' (pY113) (Kd.R_base ho0) hb); replace HO_111001 := am (Kd.N_mono (Kd.N_told (Kd.N_told (Kd.N_old (pY114) hb) (Kd.R_base ho0)) (pY134)) (fun _ h_ => h_.1)); replace HO_122000 := am (Kd.R_elder' (pY115) (Kd.R_base ho0) hb); replace HO_122001 := am (Kd.N_mono (Kd.N_told (Kd.N_told (Kd.N_old (pY116) hb) (Kd.R_base ho0)) (pY134)) (fun _ h_ => h_.1)); replace BK101 := bB pY98 hb; replace BK102 := bB pY99 hb; replace BK110 := bB pY103 hb; replace BK121 := bB pY104 hb; replace HB := bS pY37 hb; (try clear hb); (try clear ho0); (try clear ho1); obtain ⟨Ao3281, co3282, eo3283⟩ := Kd.R_slice HO138.1; subst eo3283; have hnb3284 := NB102_110.1; have hnc3285 := NB110_102.1; obtain ⟨hcz3286_0, hcz3286_1, hfz3287_0, hfz3287_1⟩ := cz2 BK102; obtain ⟨Ao3288, co3289, eo3290⟩ := Kd.N_slice HO141.1; subst eo3290))
    ·replace HO_111000 := am (Kd.R_drew HO_111000.1)
     replace HO_111001 := am (Kd.N_drew HO_111001.1)
     replace HO_122000 := am (Kd.R_drew HO_122000.1)
     replace HO_122001 := am (Kd.N_drew HO_122001.1)
     replace BK101 := am (blk_drew BK101.1)
     replace BK102 := am (blk_drew BK102.1)
     replace BK110 := am (blk_drew BK110.1)
     replace BK121 := am (blk_drew BK121.1)
     replace HB := am (below_drew1 HB.1)
     obtain ⟨Ao87, co87, eo87⟩ := Kd.N_slice HO_122001.1
     (first | subst eo87 | (injection eo87 with f1_ f2_ f3_; have f4_ := f1_.symm; have f5_ := f3_.symm; clear f1_ f2_ f3_; subst f4_; subst f5_))
     have p122 : 0 ≤ (t111 : Int) := oT
     have q122 : t111 < (x122001_1.length : Int) := oT
     obtain ⟨ad122, A122_1, c122_1, A122_2, c122_2, e122, hx122_0, hx122_1, hx122_2, hl122_1, hi122_1, hl122_2, hi122_2⟩ := at_T56 (Kd.N_reads' HO_122001.1).2.2 t111 p122 q122
     cases e122
     obtain ⟨ce122, hce122, hMe122, hcc122⟩ := Kd.N_get HO_122001.1 z56 t111 p122 (by first | exact q122 | exact oT | (have e_ := (Kd.N_reads' HO_122001.1).1; omega))
     obtain ⟨ua122_1, uc122_1, ua122_2, uc122_2, rfl, ul122_1, ge122_1, ul122_2, ge122_2⟩ := k56_openF hMe122
     have hv122_1 := hcc122 1 _ rfl
     rw [add_field _ _ 1 (by omega)] at hv122_1
     replace hv122_1 := Option.some.inj (hv122_1.symm.trans hx122_1)
     injection hv122_1 with hva_ hvn_ hvc_
     rw [hva_] at ge122_1
     rw [hvc_] at ul122_1
     have HL122_1 := am (show Kd.V Kd.string 9 _ w.heap.size _ _ ((rd_T56 x122001_1 t111).f1) from Kd.V_mk ul122_1 ge122_1)
     clear hva_ hvn_ hvc_ ge122_1 ul122_1
     have hv122_2 := hcc122 2 _ rfl
     rw [add_field _ _ 2 (by omega)] at hv122_2
     replace hv122_2 := Option.some.inj (hv122_2.symm.trans hx122_2)
     injection hv122_2 with hva_ hvn_ hvc_
     rw [hva_] at ge122_2
     rw [hvc_] at ul122_2
     have HL122_2 := am (show Kd.V Kd.string 9 _ w.heap.size _ _ ((rd_T56 x122001_1 t111).f2) from Kd.V_mk ul122_2 ge122_2)
     clear hva_ hvn_ hvc_ ge122_2 ul122_2
     clear hcc122 hce122
     have HR122_1 := am hi122_1
     have HC122_1 := am hl122_1
     clear hi122_1 hl122_1
     have HR122_2 := am hi122_2
     have HC122_2 := am hl122_2
     clear hi122_2 hl122_2
     replace p122 := eq_true p122
     replace q122 := eq_true q122
     obtain ⟨ad123, e123, hw123_0, hx123_0, p123, q123⟩ := aSw HR2 HB x11_1
     cases e123
     refine sT (S := fun w' => w'.cell? ⟨gb121, 0, none⟩ = some (.slice Ao2961 t115.length co2962) ∧ w'.cell? ⟨gb121, 1, none⟩ = some (.slice (some ad122) x122001_1.length co87) ∧ w'.cell? (ad122.add ((t111).toNat * 3)) = some (.string ((rd_T56 x122001_1 t111).f0)) ∧ w'.cell? ⟨(ad122.add ((t111).toNat * 3)).block, (ad122.add ((t111).toNat * 3)).off + 1, none⟩ = some (.slice A122_1 ((rd_T56 x122001_1 t111).f1).length c122_1) ∧ w'.cell? ⟨(ad122.add ((t111).toNat * 3)).block, (ad122.add ((t111).toNat * 3)).off + 2, none⟩ = some (.slice A122_2 ((rd_T56 x122001_1 t111).f2).length c122_2) ∧ w'.cell? (ad123.add (x11_1).toNat) = some (.string (rdOf ByteArray.empty l2 x11_1))) [16] 17 ⟨⟨(blk_cell BK121.1 0).trans rfl, (blk_cell BK121.1 1).trans rfl, hx122_0, hx122_1, hx122_2, (hX HB hw123_0)⟩⟩ (fun hHeld => ?_); refine with_tabW spec_ShareAsk.tab15 spec_ShareAsk.bits15 (fun HT_ HW_ => ?_)
     generalize wr.drew = w86 at HO_111000 HO_111001 HO_122000 HO_122001 BK101 BK102 BK110 BK121 HB HL122_1 HL122_2 HR122_1 HR122_2 hx122_0 hx122_1 hx122_2 hx123_0 hHeld ⊢
     refine pU 0 (some 47) ?_
     refine pU 2 (some 49) ?_
     refine pU 3 (some 50) ?_
     refine pU 5 (some 52) ?_
     refine pU 9 (some 56) ?_
     refine pU 10 (some 57) ?_
     refine pU 11 (some 58) ?_
     refine tK6 1 (some 48) ?_
     refine tK6 4 (some 51) ?_
     refine pU 6 (some 53) ?_
     refine pU 7 (some 54) ?_
     refine tK6 8 (some 55) ?_
     refine tK6 12 (some 59) ?_
     have H := HF.out
     clear HF
     by_cases cF : insF (rdOf ByteArray.empty l2 x11_1) ((rd_T56 x122001_1 t111).f1) = true
     ·rw [if_pos cF] at H
      have H' := am H
      clear H
      have A84 := am (show spec_l3Insert.q0 (((rd_T56 x122001_1 t111).f1).length + 1) ((rd_T56 x122001_1 t111).f1) (rdOf ByteArray.empty l2 x11_1) 0 = some true from spec_l3Insert.q0_of ((rd_T56 x122001_1 t111).f1) (rdOf ByteArray.empty l2 x11_1) HR122_1.1.2.1 ((rd_T56 x122001_1 t111).f1).length 0 (by omega) (by simpa using cF))
      refine oN 13 (some 60) fun K hK => ?_
      refine goes_ Try.func106 (by kernel_rfl) rfl #[.slice A122_1 ((rd_T56 x122001_1 t111).f1).length c122_1, .string (rdOf ByteArray.empty l2 x11_1)] (by rfl) rfl rfl (pY94) ?_
      with_reducible refine (spec_l3Insert.same (((rd_T56 x122001_1 t111).f1).length + 1) _ _ ((rd_T56 x122001_1 t111).f1) (rdOf ByteArray.empty l2 x11_1) _ ?side1 ?side2 A84.out).mono ?_
      (case side1 => exact pC (by repeat (first | (with_reducible exact HR122_1.1) | (with_reducible refine Kd.C_alloc ?_ _) | (with_reducible refine Kd.C_drewN ?_ _) | (with_reducible refine Kd.C_drew ?_) | exact HR122_1.1)))
      (case side2 => exact HC122_1.1)
      rintro e w88 ⟨rfl, hb⟩
      have HS2_ := (hb.cell (World.block_lt_of_cell? _ _ (hHeld.2.2.1))).trans (hHeld.2.2.1)
      have HS3_ := (hb.cell (World.block_lt_of_cell? _ _ (hHeld.2.2.2.1))).trans (hHeld.2.2.2.1)
      have HS4_ := (hb.cell (World.block_lt_of_cell? _ _ (hHeld.2.2.2.2.1))).trans (hHeld.2.2.2.2.1)
      refine ⟨_, rfl, ?_⟩
      replace HO_111000 := am (Kd.R_below (pY113) hb)
      replace HO_111001 := am (Kd.N_below (pY114) hb)
      replace HO_122000 := am (Kd.R_below (pY115) hb)
      replace HO_122001 := am (Kd.N_below (pY116) hb)
      replace BK101 := bB pY98 hb
      replace BK102 := bB pY99 hb
      replace BK110 := bB pY103 hb
      replace BK121 := bB pY104 hb
      replace HR122_1 := am (Kd.C_below (by repeat (first | (with_reducible exact HR122_1.1) | (with_reducible refine Kd.C_alloc ?_ _) | (with_reducible refine Kd.C_drewN ?_ _) | (with_reducible refine Kd.C_drew ?_) | exact HR122_1.1)) hb)
      replace HR122_2 := am (Kd.C_below (by repeat (first | (with_reducible exact HR122_2.1) | (with_reducible refine Kd.C_alloc ?_ _) | (with_reducible refine Kd.C_drewN ?_ _) | (with_reducible refine Kd.C_drew ?_) | exact HR122_2.1)) hb)
      replace HB := bS pY37 hb
      clear HL122_1
      clear HL122_2
      (try clear hb)
      (try clear hb2)
      (try clear hk)
      (try clear hi)
      (try clear ho0)
      have p85 : 0 ≤ (t111 : Int) := oT
      have q85 : (t111 : Int) < ((x122001_1.length : Int) : Int) := oT
      obtain ⟨go85, co85, eo85, gb85, gl85, cl85, HG85⟩ := Kd.N_form HO_122001.1 (by omega)
      (first | cases eo85 | (injection eo85 with ea_ en_ ec_; (first | subst ea_ | (injection ea_ with ea_; subst ea_)); subst ec_; clear en_))
      have GB85 := am gb85
      have GG85 := am HG85
      clear gb85 gl85 HG85
      (first | simp only [add_plain] at hx122_0 | skip)
      (first | simp only [add_plain] at hx122_1 | skip)
      (first | simp only [add_plain] at hx122_2 | skip)
      obtain ⟨ce85, hcl85, hM85, hcc85, hfr85⟩ := Kd.N_elem HO_122001.1 z56 (t111 : Int) p85 q85
      obtain ⟨ua85_1, uc85_1, ua85_2, uc85_2, rfl, ul85_1, ge85_1, ul85_2, ge85_2⟩ := k56_openF hM85
      have hx85_0 : World.cell? _ ⟨go85, (t111 : Int).toNat * 3, none⟩ = some (.string ((rd_T56 x122001_1 t111).f0)) := hcc85 0 _ rfl
      have hx85_1 : World.cell? _ ⟨go85, (t111 : Int).toNat * 3 + 1, none⟩ = some (.slice ua85_1 ((rd_T56 x122001_1 t111).f1).length uc85_1) := hcc85 1 _ rfl
      have hx85_2 : World.cell? _ ⟨go85, (t111 : Int).toNat * 3 + 2, none⟩ = some (.slice ua85_2 ((rd_T56 x122001_1 t111).f2).length uc85_2) := hcc85 2 _ rfl
      have hf85_0 : World.frozen? _ ⟨go85, (t111 : Int).toNat * 3, none⟩ = false := hfr85 0
      have hf85_1 : World.frozen? _ ⟨go85, (t111 : Int).toNat * 3 + 1, none⟩ = false := hfr85 1
      have hf85_2 : World.frozen? _ ⟨go85, (t111 : Int).toNat * 3 + 2, none⟩ = false := hfr85 2
      clear hcl85 hcc85 hfr85 hM85
      replace p85 := eq_true p85
      replace q85 := eq_true q85
      refine hK.out _ _ ⟨(blk_cell BK121.1 0).trans rfl, (blk_cell BK121.1 1).trans rfl, HS2_, HS3_, HS4_, (hX HB hw123_0)⟩ (fun hHeld => ?_)
      clear hK K
      refine nM ?_
      refine pU 14 (some 61) ?_
      refine pU 15 (some 62) ?_
      refine last_ (i := 16) (N := none) (bz 17 131071) rfl rfl (one_of HT_.out (by kernel_rfl)) (by decide) (fun K hK => ?_)
      have hst_ : w88.cell? ⟨go85, (t111 : Int).toNat * 3 + 1, none⟩ = some (.slice A122_1 ((rd_T56 x122001_1 t111).f1).length c122_1) := by
       have h_ := HS3_
       simp only [add_plain] at h_
       exact h_
      refine skip_ (w1 := (w88.setCell ⟨go85, (t111 : Int).toNat * 3 + 1, none⟩ (.slice A122_1 ((rd_T56 x122001_1 t111).f1).length c122_1))) (by rfl) rfl ?_ ?_
      ·go_simp
       (try rfl)
      refine hK.out _ _ ?_
      clear hK K
      refine done_ (done_of HT_.out (by kernel_rfl)) ?_
      rw [setCell_same hst_]
      try go_wp2
      go_roundg k1
      case measure => have := HK1.out; omega
      case rel => exact ⟨(wrap64 (x11_1 + 1)), (x111001_1), (x122001_1), (u111001), (.slice (some ⟨go85, 0, none⟩) x122001_1.length co87), rfl, H', ⟨by have := HK1.out; omega⟩, HO_111000, HO_111001, HO_122000, HO_122001, BK101, BK102, BK110, BK121, HB⟩
     ·rw [if_neg cF] at H
      obtain ⟨t124, A84, H⟩ := bd H
      obtain ⟨y127, Ny127⟩ := yv (x122001_1.set (t111 : Int).toNat (⟨(rd_T56 x122001_1 t111).f0, t124, (rd_T56 x122001_1 t111).f2⟩ : S56)); first | replace H := bW Ny127 H | rw [← Ny127.1] at H
      have H' := am H
      clear H
      refine oN 13 (some 60) fun K hK => ?_
      refine goes_ Try.func106 (by kernel_rfl) rfl #[.slice A122_1 ((rd_T56 x122001_1 t111).f1).length c122_1, .string (rdOf ByteArray.empty l2 x11_1)] (by rfl) rfl rfl (pY94) ?_
      with_reducible refine (spec_l3Insert.calls k1 _ _ ((rd_T56 x122001_1 t111).f1) (rdOf ByteArray.empty l2 x11_1) t124 _ ?side1 ?side2 A84.out).mono ?_
      (case side1 => exact pC (by repeat (first | (with_reducible exact HR122_1.1) | (with_reducible refine Kd.C_alloc ?_ _) | (with_reducible refine Kd.C_drewN ?_ _) | (with_reducible refine Kd.C_drew ?_) | exact HR122_1.1)))
      (case side2 => exact HC122_1.1)
      rintro e w88 ⟨v125, rfl, ho0, hb⟩
      have HS2_ := (hb.cell (World.block_lt_of_cell? _ _ (hHeld.2.2.1))).trans (hHeld.2.2.1)
      have HS3_ := (hb.cell (World.block_lt_of_cell? _ _ (hHeld.2.2.2.1))).trans (hHeld.2.2.2.1)
      have HS4_ := (hb.cell (World.block_lt_of_cell? _ _ (hHeld.2.2.2.2.1))).trans (hHeld.2.2.2.2.1)
      refine ⟨_, rfl, ?_⟩
      replace HO_111001 := am (Kd.N_elder' (pY114) (Kd.R_base ho0) hb)
      replace HO_122001 := am (Kd.N_elder' (pY116) (Kd.R_base ho0) hb)
      replace HL122_1 := am (Kd.V_elder' (rV HL122_1.out) (Kd.R_base ho0) hb)
      replace HL122_2 := am (Kd.V_elder' (rV HL122_2.out) (Kd.R_base ho0) hb)
      have HO126 := am (Kd.R_lower (Kd.R_new' (Kd.R_new' (Kd.R_newM (M := fun k_ => (w.heap.size ≤ k_)) ho0 (below_size (pY37)) (fun k_ h_ => h_)) (Kd.R_lt (pY113))) (Kd.R_lt (pY115))) (below_size (pY37)))
      replace HO_111000 := am (Kd.R_elder' (pY113) (Kd.R_base ho0) hb)
      replace HO_122000 := am (Kd.R_elder' (pY115) (Kd.R_base ho0) hb)
      replace BK101 := bB pY98 hb
      replace BK102 := bB pY99 hb
      replace BK110 := bB pY103 hb
      replace BK121 := bB pY104 hb
      replace HR122_1 := am (Kd.C_below (by repeat (first | (with_reducible exact HR122_1.1) | (with_reducible refine Kd.C_alloc ?_ _) | (with_reducible refine Kd.C_drewN ?_ _) | (with_reducible refine Kd.C_drew ?_) | exact HR122_1.1)) hb)
      replace HR122_2 := am (Kd.C_below (by repeat (first | (with_reducible exact HR122_2.1) | (with_reducible refine Kd.C_alloc ?_ _) | (with_reducible refine Kd.C_drewN ?_ _) | (with_reducible refine Kd.C_drew ?_) | exact HR122_2.1)) hb)
      replace HB := bS pY37 hb
      (try clear hb)
      (try clear hb2)
      (try clear hk)
      (try clear hi)
      (try clear ho0)
      have p85 : 0 ≤ (t111 : Int) := oT
      have q85 : (t111 : Int) < ((x122001_1.length : Int) : Int) := oT
      obtain ⟨go85, co85, eo85, gb85, gl85, cl85, HG85⟩ := Kd.N_form HO_122001.1 (by omega)
      (first | cases eo85 | (injection eo85 with ea_ en_ ec_; (first | subst ea_ | (injection ea_ with ea_; subst ea_)); subst ec_; clear en_))
      have GB85 := am gb85
      have GG85 := am HG85
      clear gb85 gl85 HG85
      (first | simp only [add_plain] at hx122_0 | skip)
      (first | simp only [add_plain] at hx122_1 | skip)
      (first | simp only [add_plain] at hx122_2 | skip)
      obtain ⟨ce85, hcl85, hM85, hcc85, hfr85⟩ := Kd.N_elem HO_122001.1 z56 (t111 : Int) p85 q85
      obtain ⟨ua85_1, uc85_1, ua85_2, uc85_2, rfl, ul85_1, ge85_1, ul85_2, ge85_2⟩ := k56_openF hM85
      have hx85_0 : World.cell? _ ⟨go85, (t111 : Int).toNat * 3, none⟩ = some (.string ((rd_T56 x122001_1 t111).f0)) := hcc85 0 _ rfl
      have hx85_1 : World.cell? _ ⟨go85, (t111 : Int).toNat * 3 + 1, none⟩ = some (.slice ua85_1 ((rd_T56 x122001_1 t111).f1).length uc85_1) := hcc85 1 _ rfl
      have hx85_2 : World.cell? _ ⟨go85, (t111 : Int).toNat * 3 + 2, none⟩ = some (.slice ua85_2 ((rd_T56 x122001_1 t111).f2).length uc85_2) := hcc85 2 _ rfl
      have hf85_0 : World.frozen? _ ⟨go85, (t111 : Int).toNat * 3, none⟩ = false := hfr85 0
      have hf85_1 : World.frozen? _ ⟨go85, (t111 : Int).toNat * 3 + 1, none⟩ = false := hfr85 1
      have hf85_2 : World.frozen? _ ⟨go85, (t111 : Int).toNat * 3 + 2, none⟩ = false := hfr85 2
      clear hcl85 hcc85 hfr85 hM85
      replace p85 := eq_true p85
      replace q85 := eq_true q85
      have HX89 := am (show Kd.N k56 56 _ w.heap.size (fun k_ => (w.heap.size ≤ k_) ∧ some k_ ≠ (.slice Ao2681 t104.length co2682 : Value).ownBlock ∧ some k_ ≠ (u111001 : Value).ownBlock ∧ some k_ ≠ (.slice Ao2961 t115.length co2962 : Value).ownBlock ∧ some k_ ≠ (v125 : Value).ownBlock ∧ k_ ≠ gb101 ∧ k_ ≠ gb102 ∧ k_ ≠ gb110 ∧ k_ ≠ gb121) (.slice (some ⟨go85, 0, none⟩) x122001_1.length co87) x122001_1 from (Kd.N_mono (HO_122001.1) (fun k_ hk => ⟨hk.1.1, ⟨hk.1.2.1, ⟨hk.1.2.2.1, ⟨hk.1.2.2.2.1, ⟨hk.2, ⟨hk.1.2.2.2.2.1, ⟨hk.1.2.2.2.2.2.1, ⟨hk.1.2.2.2.2.2.2.1, hk.1.2.2.2.2.2.2.2⟩⟩⟩⟩⟩⟩⟩⟩)))
      replace HX89 := am (show Kd.N k56 56 _ w.heap.size (fun k_ => (w.heap.size ≤ k_) ∧ some k_ ≠ (.slice Ao2681 t104.length co2682 : Value).ownBlock ∧ some k_ ≠ (u111001 : Value).ownBlock ∧ some k_ ≠ (.slice Ao2961 t115.length co2962 : Value).ownBlock ∧ k_ ≠ gb101 ∧ k_ ≠ gb102 ∧ k_ ≠ gb110 ∧ k_ ≠ gb121) (.slice (some ⟨go85, 0, none⟩) x122001_1.length co87) x122001_1 from Kd.N_mono HX89.out (fun k_ hk => ⟨hk.1, ⟨hk.2.1, ⟨hk.2.2.1, ⟨hk.2.2.2.1, ⟨hk.2.2.2.2.2.1, ⟨hk.2.2.2.2.2.2.1, ⟨hk.2.2.2.2.2.2.2.1, hk.2.2.2.2.2.2.2.2⟩⟩⟩⟩⟩⟩⟩))
      obtain ⟨ce89, hcl89, hM89, hcc89, hfr89⟩ := Kd.N_elem HX89.out z56 (t111 : Int) (oT) (by have h_ : (t111 : Int) < ((x122001_1.length : Int) : Int) := oT; first | exact h_ | (have e_ := (Kd.N_reads' HO_122001.1).1; omega) | simpa using h_)
      obtain ⟨ua89_1, uc89_1, ua89_2, uc89_2, rfl, ul89_1, ge89_1, ul89_2, ge89_2⟩ := k56_openF hM89
      have HP89 := (Kd.N_seg HX89.out (t111 : Int) (oT) (by have h_ : (t111 : Int) < ((x122001_1.length : Int) : Int) := oT; first | exact h_ | (have e_ := (Kd.N_reads' HO_122001.1).1; omega) | simpa using h_) (seg := [v125]) (j := 1) hcl89 hcc89 (show 2 ≤ 3 from by decide) (x' := (⟨(rd_T56 x122001_1 t111).f0, t124, (rd_T56 x122001_1 t111).f2⟩ : S56)) (k56_mkF1 _ _ (⟨(rd_T56 x122001_1 t111).f0, t124, (rd_T56 x122001_1 t111).f2⟩ : S56) (Kd.R_mono (ok' := (fun k_ => ((fun k_ => (w.heap.size ≤ k_) ∧ some k_ ≠ (.slice Ao2681 t104.length co2682 : Value).ownBlock ∧ some k_ ≠ (u111001 : Value).ownBlock ∧ some k_ ≠ (.slice Ao2961 t115.length co2962 : Value).ownBlock ∧ k_ ≠ gb101 ∧ k_ ≠ gb102 ∧ k_ ≠ gb110 ∧ k_ ≠ gb121)) k_ ∧ k_ ≠ go85)) (Kd.R_types (Kd.R_types (Kd.R_types (Kd.R_types (Kd.R_apart' (Kd.R_apart' (HO126.1) (Kd.N_typed HO_111001.1) (by decide)) (Kd.N_typed HO_122001.1) (by decide)) BK101.1 (by decide)) BK102.1 (by decide)) BK110.1 (by decide)) BK121.1 (by decide)) (fun k_ hk => ⟨⟨hk.1.1.1.1.1.1.1.1.1, ⟨hk.1.1.1.1.1.1.1.2, ⟨hk.1.1.1.1.1.2, ⟨hk.1.1.1.1.1.1.2, ⟨hk.1.1.1.2, ⟨hk.1.1.2, ⟨hk.1.2, hk.2⟩⟩⟩⟩⟩⟩⟩, fun e_ => (hk.1.1.1.1.2) (by rw [e_]; rfl)⟩)) ul89_2 ge89_2) (fun _ hk => hk)).1
      rw [← Ny127.out] at HP89
      have HQ89 := am HP89
      clear hcl89 hcc89 hfr89 hM89 HP89
      refine hK.out _ _ ⟨(blk_cell BK121.1 0).trans rfl, (blk_cell BK121.1 1).trans rfl, HS2_, HS3_, HS4_, (hX HB hw123_0)⟩ (fun hHeld => ?_)
      clear hK K
      refine nM ?_
      refine pU 14 (some 61) ?_
      refine pU 15 (some 62) ?_
      refine last_ (i := 16) (N := none) (bz 17 131071) rfl rfl (one_of HT_.out (by kernel_rfl)) (by decide) (fun K hK => ?_)
      refine skip_ (w1 := (w88.setCell ⟨go85, (t111 : Int).toNat * 3 + 1, none⟩ (v125))) (by rfl) rfl ?_ ?_
      skip
      ·obtain ⟨Az_, cz_, ez_⟩ := Kd.R_slice HO126.1
       subst ez_
       go_simp
       (try rfl)
      refine hK.out _ _ ?_
      clear hK K
      refine done_ (done_of HT_.out (by kernel_rfl)) ?_
      try go_wp2
      go_roundg k1
      case measure => have := HK1.out; omega
      case rel => exact ⟨(wrap64 (x11_1 + 1)), (x111001_1), (y127), (u111001), (.slice (some ⟨go85, 0, none⟩) x122001_1.length co87), (pY136), H', ⟨by have := HK1.out; omega⟩, ⟨by refine rR ?_; exact Kd.R_mono (Kd.R_far (p := ⟨go85, (t111 : Int).toNat * 3 + 1, none⟩) (tR HO_111000 GG85) (fun _ hk => hk.2) (v125)) (fun _ hk => ⟨hk.1.1.1, hk.1.1.2⟩)⟩, ⟨by refine rN ?_; exact Kd.N_mono (Kd.N_far (p := ⟨go85, (t111 : Int).toNat * 3 + 1, none⟩) (Kd.N_mono HO_111001.1 (fun k_ hk => (⟨hk, fun e_ => hk.1.2.2.2.1 (by rw [e_]; rfl)⟩ : _ ∧ k_ ≠ go85))) (fun _ hk => hk.2) (v125)) (fun _ hk => ⟨hk.1.1.1, ⟨hk.1.1.2.1, ⟨hk.1.1.2.2.1, ⟨hk.1.1.2.2.2.1, ⟨hk.1.1.2.2.2.2.1, ⟨hk.1.1.2.2.2.2.2.1, ⟨hk.1.1.2.2.2.2.2.2.1, hk.1.1.2.2.2.2.2.2.2⟩⟩⟩⟩⟩⟩⟩)⟩, ⟨by refine rR ?_; exact Kd.R_mono (Kd.R_far (p := ⟨go85, (t111 : Int).toNat * 3 + 1, none⟩) (tR HO_122000 GG85) (fun _ hk => hk.2) (v125)) (fun _ hk => ⟨hk.1.1.1, hk.1.1.2⟩)⟩, ⟨rN HQ89.out⟩, ⟨by refine rB ?_; refine blk_far ?_ (by have h_ := Kd.N_away HO_122001.1 (fun _ hk => by first | exact hk.2.2.2.2.1 | exact hk.1.2.2.2.2.1); intro e_; exact h_ (by rw [e_]; rfl)) _; refine rB ?_; exact BK101.1⟩, ⟨by refine rB ?_; refine blk_far ?_ (by have h_ := Kd.N_away HO_122001.1 (fun _ hk => by first | exact hk.2.2.2.2.2.1 | exact hk.1.2.2.2.2.2.1); intro e_; exact h_ (by rw [e_]; rfl)) _; refine rB ?_; exact BK102.1⟩, ⟨by refine rB ?_; refine blk_far ?_ (by have h_ := Kd.N_away HO_122001.1 (fun _ hk => by first | exact hk.2.2.2.2.2.2.1 | exact hk.1.2.2.2.2.2.2.1); intro e_; exact h_ (by rw [e_]; rfl)) _; refine rB ?_; exact BK110.1⟩, ⟨by refine rB ?_; refine blk_far ?_ (by have h_ := Kd.N_away HO_122001.1 (fun _ hk => by first | exact hk.2.2.2.2.2.2.2 | exact hk.1.2.2.2.2.2.2.2); intro e_; exact h_ (by rw [e_]; rfl)) _; refine rB ?_; exact BK121.1⟩, ⟨by repeat (first | (with_reducible first | exact HB.1 | apply below_alloc | apply pw_below_drewN | apply below_drew1 | refine below_set ?_ GB85.out | refine below_set ?_ GE101.1 | refine below_set ?_ GE102.1 | refine below_set ?_ GE110.1 | refine below_set ?_ GE121.1) | exact HB.1)⟩⟩
    ·refine bodyPost_ret (results_ct rfl _ _ gb102 31 #[.slice Ao3161 t130.length co3162, .slice Ao3168 t133.length co3169] (0, 0) _ rfl (by refine rB ?_; refine blk_put (cs := #[.slice Ao3161 t130.length co3162, .slice none 0 0]) ?_ 1 _ rfl; refine rB ?_; refine blk_put (cs := #[.slice none 0 0, .slice none 0 0]) ?_ 0 _ rfl; refine rB ?_; exact BK102.1) Try.underlying31 rfl (by kernel_rfl)) rfl ?_
     exact ⟨_, _, eR, by refine rR ?_; exact Kd.R_mono (fR (fR (tR HO132 BK102))) (fun _ hk => hk.1.1.1.1), by refine rN ?_; exact Kd.N_mono (fN (fN (Kd.N_mono HO135.1 (fun k_ hk => (⟨hk, hk.2.2.2.2.2.2.2.1⟩ : _ ∧ k_ ≠ gb102))))) (fun _ hk => ⟨hk.1.1, hk.1.2.1⟩), pY37⟩
    ·refine bodyPost_ret (results_ct rfl _ _ gb102 31 #[.slice Ao2681 t104.length co2682, .slice Ao3207 x111001_1.length co3208] (0, 0) _ rfl (by refine rB ?_; refine blk_put (cs := #[.slice Ao2681 t104.length co2682, .slice none 0 0]) ?_ 1 _ rfl; refine rB ?_; refine blk_put (cs := #[.slice none 0 0, .slice none 0 0]) ?_ 0 _ rfl; refine rB ?_; exact BK102.1) Try.underlying31 rfl (by kernel_rfl)) rfl ?_
     exact ⟨_, _, eR, by refine rR ?_; exact Kd.R_mono (fR (fR (tR HO_111000 BK102))) (fun _ hk => hk.1.1), by refine rN ?_; exact Kd.N_mono (fN (fN (Kd.N_mono HO_111001.1 (fun k_ hk => (⟨hk, hk.2.2.2.2.2.1⟩ : _ ∧ k_ ≠ gb102))))) (fun _ hk => ⟨hk.1.1, hk.1.2.1⟩), pY37⟩
    ·refine bodyPost_ret (results_ct rfl _ _ gb102 31 #[.slice Ao3281 t136.length co3282, .slice Ao3288 t139.length co3289] (0, 0) _ rfl (by refine rB ?_; refine blk_put (cs := #[.slice Ao3281 t136.length co3282, .slice none 0 0]) ?_ 1 _ rfl; refine rB ?_; refine blk_put (cs := #[.slice none 0 0, .slice none 0 0]) ?_ 0 _ rfl; refine rB ?_; exact BK102.1) Try.underlying31 rfl (by kernel_rfl)) rfl ?_
     exact ⟨_, _, eR, by refine rR ?_; exact Kd.R_mono (fR (fR (tR HO138 BK102))) (fun _ hk => hk.1.1.1.1), by refine rN ?_; exact Kd.N_mono (fN (fN (Kd.N_mono HO141.1 (fun k_ hk => (⟨hk, hk.2.2.2.2.2.2.2.1⟩ : _ ∧ k_ ≠ gb102))))) (fun _ hk => ⟨hk.1.1, hk.1.2.1⟩), pY37⟩
 ·refine bodyPost_ret (results_ct rfl _ _ gb102 31 #[.slice Ao2681 t104.length co2682, .slice Ao2690 t107.length co2691] (0, 0) _ rfl (by refine rB ?_; refine blk_put (cs := #[.slice Ao2681 t104.length co2682, .slice none 0 0]) ?_ 1 _ rfl; refine rB ?_; refine blk_put (cs := #[.slice none 0 0, .slice none 0 0]) ?_ 0 _ rfl; refine rB ?_; exact BK102.1) Try.underlying31 rfl (by kernel_rfl)) rfl ?_
  exact ⟨_, _, eR, by refine rR ?_; exact Kd.R_mono (fR (fR (tR HO106 BK102))) (fun _ hk => hk.1.1), by refine rN ?_; exact Kd.N_mono (fN (fN (Kd.N_mono HO109.1 (fun k_ hk => (⟨hk, hk.1.2.2.2⟩ : _ ∧ k_ ≠ gb102))))) (fun _ hk => ⟨hk.1.1.1, hk.1.1.2.1⟩), pY69⟩
 ·refine bodyPost_ret (results_ct rfl _ _ gb102 31 #[.slice none 0 0, .slice none 0 0] (0, 0) _ rfl (pY6) Try.underlying31 rfl (by kernel_rfl)) rfl ?_
  exact ⟨_, _, eR, by first | exact Kd.R_nil _ _ _ _ _ | exact Kd.N_nil _ _ _ _ _ | exact Kd.V_nil _ _ _ _ _ | exact Kd.Q_nil _ _ _ _ _ | exact Kd.S_nil _ _ _ _ _, by first | exact Kd.S_nil _ _ _ _ _ | exact Kd.N_nil _ _ _ _ _ | exact Kd.V_nil _ _ _ _ _ | exact Kd.Q_nil _ _ _ _ _ | exact Kd.R_nil _ _ _ _ _, pY81⟩
def spec_l5Step.f (k : Nat) (l0_0 : List ByteArray) (l0_1 : List (S56)) (a1_0 : Int) (a1_1 : ByteArray) (l1_2 : List ByteArray) : Option (List ByteArray × (List (S56))) := if a1_0 = 1 then ((spec_ShareEnter.f k l0_0 l0_1 a1_1 l1_2).bind fun bt104 => (some (bt104.1, bt104.2.1))) else (if a1_0 = 2 then ((spec_ShareAsk.f k l0_0 l0_1 a1_1 l1_2).bind fun bt111 => (some (bt111.1, bt111.2.1))) else (if a1_0 = 3 then ((spec_ShareLess.f k l0_0 l0_1 a1_1 l1_2).bind fun bt118 => (some (bt118.1, bt118.2.1))) else ((spec_ShareLeave.f k l0_0 l0_1 a1_1).bind fun bt125 => (some (bt125.1, bt125.2.1)))))
theorem spec_l5Step.calls (k : Nat) (A0_0 : Option Addr) (c0_0 : Nat) (l0_0 : List ByteArray) (A0_1 : Option Addr) (c0_1 : Nat) (l0_1 : List (S56)) (a1_0 : Int) (a1_1 : ByteArray) (A1_2 : Option Addr) (c1_2 : Nat) (l1_2 : List ByteArray) (r1 : List ByteArray) (r2 : List (S56)) (w : World) (hr0_0 : Kd.C Kd.string w A0_0 l0_0.length l0_0) (hc0_0 : l0_0.length ≤ c0_0) (hr0_1 : Kd.C k56 w A0_1 l0_1.length l0_1) (hc0_1 : l0_1.length ≤ c0_1) (hr1_2 : Kd.C Kd.string w A1_2 l1_2.length l1_2) (hc1_2 : l1_2.length ≤ c1_2) (h : spec_l5Step.f k l0_0 l0_1 a1_0 a1_1 l1_2 = some (r1, r2)) :
  Calls Try.prog 130 #[.agg #[.slice A0_0 l0_0.length c0_0, .slice A0_1 l0_1.length c0_1], .agg #[.int .i64 a1_0, .string a1_1, .slice A1_2 l1_2.length c1_2]] w fun e w' => ∃ v0_ v1_ : Value, e = .returned (.agg #[v0_, v1_]) ∧ Kd.R Kd.string 9 w' w.heap.size (fun k_ => (w.heap.size ≤ k_)) v0_ r1 ∧ Kd.N k56 56 w' w.heap.size (fun k_ => (w.heap.size ≤ k_) ∧ some k_ ≠ (v0_ : Value).ownBlock) v1_ r2 ∧ Below w.heap.size w w' := by
 have hu31 := Try.underlying31
 have hu106 := Try.underlying106
 have HR0_0 := am hr0_0
 have HC0_0 := am hc0_0
 clear hr0_0 hc0_0
 have HR0_1 := am hr0_1
 have HC0_1 := am hc0_1
 clear hr0_1 hc0_1
 have HR1_2 := am hr1_2
 have HC1_2 := am hc1_2
 clear hr1_2 hc1_2
 have HB := am (Below.refl w.heap.size w)
 unfold spec_l5Step.f at h
 have H := h
 clear h
 by_cases c3 : a1_0 = 1
 rw [if_pos c3] at H
 have c3b0 : (a1_0 == 1) = true := beq_iff_eq.mpr c3
 have c3b1 : (a1_0 != 1) = false := bne_eq_false_iff_eq.mpr c3
 clear c3
 obtain ⟨⟨t104, t107, t110⟩, A4, H⟩ := bd H
 dsimp only at H
 simp only [Option.some.injEq, Prod.mk.injEq] at H
 obtain ⟨rfl, rfl⟩ := H
 rotate_left
 rw [if_neg c3] at H
 have c3b0 : (a1_0 == 1) = false := beq_eq_false_iff_ne.mpr c3
 have c3b1 : (a1_0 != 1) = true := bne_iff_ne.mpr c3
 by_cases c18 : a1_0 = 2
 rw [if_pos c18] at H
 have c18b0 : (a1_0 == 2) = true := beq_iff_eq.mpr c18
 have c18b1 : (a1_0 != 2) = false := bne_eq_false_iff_eq.mpr c18
 clear c18
 obtain ⟨⟨t111, t114, t117⟩, A19, H⟩ := bd H
 dsimp only at H
 simp only [Option.some.injEq, Prod.mk.injEq] at H
 obtain ⟨rfl, rfl⟩ := H
 rotate_left
 rw [if_neg c18] at H
 have c18b0 : (a1_0 == 2) = false := beq_eq_false_iff_ne.mpr c18
 have c18b1 : (a1_0 != 2) = true := bne_iff_ne.mpr c18
 by_cases c33 : a1_0 = 3
 rw [if_pos c33] at H
 have c33b0 : (a1_0 == 3) = true := beq_iff_eq.mpr c33
 have c33b1 : (a1_0 != 3) = false := bne_eq_false_iff_eq.mpr c33
 clear c33
 obtain ⟨⟨t118, t121, t124⟩, A34, H⟩ := bd H
 dsimp only at H
 simp only [Option.some.injEq, Prod.mk.injEq] at H
 obtain ⟨rfl, rfl⟩ := H
 rotate_left
 rw [if_neg c33] at H
 have c33b0 : (a1_0 == 3) = false := beq_eq_false_iff_ne.mpr c33
 have c33b1 : (a1_0 != 3) = true := bne_iff_ne.mpr c33
 obtain ⟨⟨t125, t128, t131⟩, A48, H⟩ := bd H
 dsimp only at H
 simp only [Option.some.injEq, Prod.mk.injEq] at H
 obtain ⟨rfl, rfl⟩ := H
 rotate_left
 all_goals
  go_enter Try.func130, Try.ntmps130
  go_wp2_with (first | ((with_reducible refine gD 2 ?_); refine bX 2 #[.slice A0_0 l0_0.length c0_0, .slice A0_1 l0_1.length c0_1] 31 ?_; intro gb101 hg w3320 hbox hb; have BK101 := am (hbox); have GW101 := am (pY89 : w.heap.size ≤ gb101); have GE101 := am (pY89 : w.heap.size ≤ gb101); replace HB := bS pY95 hb; clear hb hbox hg) | ((with_reducible refine gD 3 ?_); refine bX 3 #[.int .i64 a1_0, .string a1_1, .slice A1_2 l1_2.length c1_2] 106 ?_; intro gb102 hg w3360 hbox hb; have BK102 := am (hbox); have GW102 := am (pY77 : w.heap.size ≤ gb102); have GE102 := am (pY77 : w.heap.size ≤ gb102); replace HB := bS pY90 hb; have NB101_102 := nL pY98 hg; have NB102_101 := nG pY98 hg; replace BK101 := bB pY98 hb; clear hb hbox hg) | ((with_reducible refine gD 4 ?_); refine bX 4 #[.slice none 0 0, .slice none 0 0] 31 ?_; intro gb103 hg w3400 hbox hb; have BK103 := am (hbox); have GW103 := am (pY65 : w.heap.size ≤ gb103); have GE103 := am (pY65 : w.heap.size ≤ gb103); replace HB := bS pY81 hb; have NB101_103 := nL pY98 hg; have NB103_101 := nG pY98 hg; replace BK101 := bB pY98 hb; have NB102_103 := nL pY99 hg; have NB103_102 := nG pY99 hg; replace BK102 := bB pY99 hb; clear hb hbox hg; have hnb3401 := NB102_101.1; have hnc3402 := NB101_102.1; have hnb3403 := NB102_103.1; have hnc3404 := NB103_102.1; obtain ⟨hcz3405_0, hcz3405_1, hcz3405_2, hfz3406_0, hfz3406_1, hfz3406_2⟩ := cz3 BK102; have hnb3407 := NB101_103.1; have hnc3408 := NB103_101.1; obtain ⟨hcz3409_0, hcz3409_1, hfz3410_0, hfz3410_1⟩ := cz2 BK101) | ((with_reducible refine gC 59 ?_); refine cE (some 22) Try.func59 (spec_ShareEnter.calls k _ _ l0_0 _ _ l0_1 a1_1 _ _ l1_2 t104 t107 t110 _ (pB HR0_0) HC0_0.1 (pB HR0_1) HC0_1.1 (pB HR1_2) HC1_2.1 A4.out) ?_; rintro e w3440 ⟨v105, v108, rfl, ho0, ho1, hb⟩; refine ⟨_, rfl, ?_⟩; have HO106 := am (Kd.R_lower (Kd.R_newM (M := fun k_ => (w.heap.size ≤ k_)) (Kd.R_mono (ok' := fun k_ => True) ho0 (fun _ hk_ => trivial)) (below_size (pY70)) (fun k_ h_ => h_)) (below_size (pY70))); have HO109 := am (Kd.N_lower (Kd.N_mono (ok' := fun k_ => (w.heap.size ≤ k_) ∧ some k_ ≠ (v105 : Value).ownBlock ∧ k_ ≠ gb101 ∧ k_ ≠ gb102 ∧ k_ ≠ gb103) ho1 (fun k_ hk_ => ⟨(Nat.le_trans (below_size (pY70)) hk_.1), hk_.2, (fB pY98 k_ hk_.1), (fB pY99 k_ hk_.1), (fB pY105 k_ hk_.1)⟩)) (below_size (pY70))); replace BK101 := bB pY98 hb; replace BK102 := bB pY99 hb; replace BK103 := bB pY105 hb; replace HB := bS pY70 hb; (try clear hb); (try clear ho0); (try clear ho1); obtain ⟨Ao3441, co3442, eo3443⟩ := Kd.R_slice HO106.1; subst eo3443; obtain ⟨hcz3444_0, hcz3444_1, hfz3445_0, hfz3445_1⟩ := cz2 BK101; obtain ⟨Ao3446, co3447, eo3448⟩ := Kd.N_slice HO109.1; subst eo3448; obtain ⟨hcz3449_0, hcz3449_1, hfz3450_0, hfz3450_1⟩ := cz2 BK103) | ((with_reducible refine gC 61 ?_); refine cE (some 33) Try.func61 (spec_ShareAsk.calls k _ _ l0_0 _ _ l0_1 a1_1 _ _ l1_2 t111 t114 t117 _ (pB HR0_0) HC0_0.1 (pB HR0_1) HC0_1.1 (pB HR1_2) HC1_2.1 A19.out) ?_; rintro e w3480 ⟨v112, v115, rfl, ho0, ho1, hb⟩; refine ⟨_, rfl, ?_⟩; have HO113 := am (Kd.R_lower (Kd.R_newM (M := fun k_ => (w.heap.size ≤ k_)) (Kd.R_mono (ok' := fun k_ => True) ho0 (fun _ hk_ => trivial)) (below_size (pY70)) (fun k_ h_ => h_)) (below_size (pY70))); have HO116 := am (Kd.N_lower (Kd.N_mono (ok' := fun k_ => (w.heap.size ≤ k_) ∧ some k_ ≠ (v112 : Value).ownBlock ∧ k_ ≠ gb101 ∧ k_ ≠ gb102 ∧ k_ ≠ gb103) ho1 (fun k_ hk_ => ⟨(Nat.le_trans (below_size (pY70)) hk_.1), hk_.2, (fB pY98 k_ hk_.1), (fB pY99 k_ hk_.1), (fB pY105 k_ hk_.1)⟩)) (below_size (pY70))); replace BK101 := bB pY98 hb; replace BK102 := bB pY99 hb; replace BK103 := bB pY105 hb; replace HB := bS pY70 hb; (try clear hb); (try clear ho0); (try clear ho1); obtain ⟨Ao3481, co3482, eo3483⟩ := Kd.R_slice HO113.1; subst eo3483; obtain ⟨hcz3484_0, hcz3484_1, hfz3485_0, hfz3485_1⟩ := cz2 BK101; obtain ⟨Ao3486, co3487, eo3488⟩ := Kd.N_slice HO116.1; subst eo3488; obtain ⟨hcz3489_0, hcz3489_1, hfz3490_0, hfz3490_1⟩ := cz2 BK103) | ((with_reducible refine gC 49 ?_); refine cE (some 44) Try.func49 (spec_ShareLess.calls k _ _ l0_0 _ _ l0_1 a1_1 _ _ l1_2 t118 t121 t124 _ (pB HR0_0) HC0_0.1 (pB HR0_1) HC0_1.1 (pB HR1_2) HC1_2.1 A34.out) ?_; rintro e w3520 ⟨v119, v122, rfl, ho0, ho1, hb⟩; refine ⟨_, rfl, ?_⟩; have HO120 := am (Kd.R_lower (Kd.R_newM (M := fun k_ => (w.heap.size ≤ k_)) (Kd.R_mono (ok' := fun k_ => True) ho0 (fun _ hk_ => trivial)) (below_size (pY70)) (fun k_ h_ => h_)) (below_size (pY70))); have HO123 := am (Kd.N_lower (Kd.N_mono (ok' := fun k_ => (w.heap.size ≤ k_) ∧ some k_ ≠ (v119 : Value).ownBlock ∧ k_ ≠ gb101 ∧ k_ ≠ gb102 ∧ k_ ≠ gb103) ho1 (fun k_ hk_ => ⟨(Nat.le_trans (below_size (pY70)) hk_.1), hk_.2, (fB pY98 k_ hk_.1), (fB pY99 k_ hk_.1), (fB pY105 k_ hk_.1)⟩)) (below_size (pY70))); replace BK101 := bB pY98 hb; replace BK102 := bB pY99 hb; replace BK103 := bB pY105 hb; replace HB := bS pY70 hb; (try clear hb); (try clear ho0); (try clear ho1); obtain ⟨Ao3521, co3522, eo3523⟩ := Kd.R_slice HO120.1; subst eo3523; obtain ⟨hcz3524_0, hcz3524_1, hfz3525_0, hfz3525_1⟩ := cz2 BK101; obtain ⟨Ao3526, co3527, eo3528⟩ := Kd.N_slice HO123.1; subst eo3528; obtain ⟨hcz3529_0, hcz3529_1, hfz3530_0, hfz3530_1⟩ := cz2 BK103) | ((with_reducible refine gC 46 ?_); refine cE (some 11) Try.func46 (spec_ShareLeave.calls k _ _ l0_0 _ _ l0_1 a1_1 t125 t128 t131 _ (pB HR0_0) HC0_0.1 (pB HR0_1) HC0_1.1 A48.out) ?_; rintro e w3560 ⟨v126, v129, rfl, ho0, ho1, hb⟩; refine ⟨_, rfl, ?_⟩; have HO127 := am (Kd.R_lower (Kd.R_newM (M := fun k_ => (w.heap.size ≤ k_)) (Kd.R_mono (ok' := fun k_ => True) ho0 (fun _ hk_ => trivial)) (below_size (pY70)) (fun k_ h_ => h_)) (below_size (pY70))); have HO130 := am (Kd.N_lower (Kd.N_mono (ok' := fun k_ => (w.heap.size ≤ k_) ∧ some k_ ≠ (v126 : Value).ownBlock ∧ k_ ≠ gb101 ∧ k_ ≠ gb102 ∧ k_ ≠ gb103) ho1 (fun k_ hk_ => ⟨(Nat.le_trans (below_size (pY70)) hk_.1), hk_.2, (fB pY98 k_ hk_.1), (fB pY99 k_ hk_.1), (fB pY105 k_ hk_.1)⟩)) (below_size (pY70))); replace BK101 := bB pY98 hb; replace BK102 := bB pY99 hb; replace BK103 := bB pY105 hb; replace HB := bS pY70 hb; (try clear hb); (try clear ho0); (try clear ho1); obtain ⟨Ao3561, co3562, eo3563⟩ := Kd.R_slice HO127.1; subst eo3563; obtain ⟨hcz3564_0, hcz3564_1, hfz3565_0, hfz3565_1⟩ := cz2 BK101; obtain ⟨Ao3566, co3567, eo3568⟩ := Kd.N_slice HO130.1; subst eo3568; obtain ⟨hcz3569_0, hcz3569_1, hfz3570_0, hfz3570_1⟩ := cz2 BK103))
 ·refine bodyPost_ret (results_cell_row rfl _ _ gb103 31 #[.slice Ao3441 t104.length co3442, .slice Ao3446 t107.length co3447] (0, 0) _ rfl (by refine rB ?_; refine blk_put (cs := #[.slice Ao3441 t104.length co3442, .slice none 0 0]) ?_ 1 _ rfl; refine rB ?_; refine blk_put (cs := #[.slice none 0 0, .slice none 0 0]) ?_ 0 _ rfl; refine rB ?_; refine blk_far ?_ NB103_101.1 _; refine rB ?_; refine blk_far ?_ NB103_101.1 _; refine rB ?_; exact BK103.1) Try.underlying31 rfl (by kernel_rfl)) rfl ?_
  exact ⟨_, _, eR, by refine rR ?_; exact Kd.R_mono (fR (fR (Kd.R_far (p := ⟨gb101, 1, none⟩) (Kd.R_far (p := ⟨gb101, 0, none⟩) (Kd.R_types (tR HO106 BK101) BK103.1 (by decide)) (fun _ hk => hk.1.2) (.slice Ao3441 t104.length co3442)) (fun _ hk => hk.1.2) (.slice Ao3446 t107.length co3447)))) (fun _ hk => hk.1.1.1), by refine rN ?_; exact Kd.N_mono (fN (fN (Kd.N_far (p := ⟨gb101, 1, none⟩) (Kd.N_far (p := ⟨gb101, 0, none⟩) (Kd.N_mono (Kd.N_mono HO109.1 (fun k_ hk => (⟨hk, hk.2.2.1⟩ : _ ∧ k_ ≠ gb101))) (fun k_ hk => (⟨hk, hk.1.2.2.2.2⟩ : _ ∧ k_ ≠ gb103))) (fun _ hk => hk.1.2) (.slice Ao3441 t104.length co3442)) (fun _ hk => hk.1.2) (.slice Ao3446 t107.length co3447)))) (fun _ hk => ⟨hk.1.1.1, hk.1.1.2.1⟩), pY70⟩
 ·refine bodyPost_ret (results_cell_row rfl _ _ gb103 31 #[.slice Ao3481 t111.length co3482, .slice Ao3486 t114.length co3487] (0, 0) _ rfl (by refine rB ?_; refine blk_put (cs := #[.slice Ao3481 t111.length co3482, .slice none 0 0]) ?_ 1 _ rfl; refine rB ?_; refine blk_put (cs := #[.slice none 0 0, .slice none 0 0]) ?_ 0 _ rfl; refine rB ?_; refine blk_far ?_ NB103_101.1 _; refine rB ?_; refine blk_far ?_ NB103_101.1 _; refine rB ?_; exact BK103.1) Try.underlying31 rfl (by kernel_rfl)) rfl ?_
  exact ⟨_, _, eR, by refine rR ?_; exact Kd.R_mono (fR (fR (Kd.R_far (p := ⟨gb101, 1, none⟩) (Kd.R_far (p := ⟨gb101, 0, none⟩) (Kd.R_types (tR HO113 BK101) BK103.1 (by decide)) (fun _ hk => hk.1.2) (.slice Ao3481 t111.length co3482)) (fun _ hk => hk.1.2) (.slice Ao3486 t114.length co3487)))) (fun _ hk => hk.1.1.1), by refine rN ?_; exact Kd.N_mono (fN (fN (Kd.N_far (p := ⟨gb101, 1, none⟩) (Kd.N_far (p := ⟨gb101, 0, none⟩) (Kd.N_mono (Kd.N_mono HO116.1 (fun k_ hk => (⟨hk, hk.2.2.1⟩ : _ ∧ k_ ≠ gb101))) (fun k_ hk => (⟨hk, hk.1.2.2.2.2⟩ : _ ∧ k_ ≠ gb103))) (fun _ hk => hk.1.2) (.slice Ao3481 t111.length co3482)) (fun _ hk => hk.1.2) (.slice Ao3486 t114.length co3487)))) (fun _ hk => ⟨hk.1.1.1, hk.1.1.2.1⟩), pY70⟩
 ·refine bodyPost_ret (results_cell_row rfl _ _ gb103 31 #[.slice Ao3521 t118.length co3522, .slice Ao3526 t121.length co3527] (0, 0) _ rfl (by refine rB ?_; refine blk_put (cs := #[.slice Ao3521 t118.length co3522, .slice none 0 0]) ?_ 1 _ rfl; refine rB ?_; refine blk_put (cs := #[.slice none 0 0, .slice none 0 0]) ?_ 0 _ rfl; refine rB ?_; refine blk_far ?_ NB103_101.1 _; refine rB ?_; refine blk_far ?_ NB103_101.1 _; refine rB ?_; exact BK103.1) Try.underlying31 rfl (by kernel_rfl)) rfl ?_
  exact ⟨_, _, eR, by refine rR ?_; exact Kd.R_mono (fR (fR (Kd.R_far (p := ⟨gb101, 1, none⟩) (Kd.R_far (p := ⟨gb101, 0, none⟩) (Kd.R_types (tR HO120 BK101) BK103.1 (by decide)) (fun _ hk => hk.1.2) (.slice Ao3521 t118.length co3522)) (fun _ hk => hk.1.2) (.slice Ao3526 t121.length co3527)))) (fun _ hk => hk.1.1.1), by refine rN ?_; exact Kd.N_mono (fN (fN (Kd.N_far (p := ⟨gb101, 1, none⟩) (Kd.N_far (p := ⟨gb101, 0, none⟩) (Kd.N_mono (Kd.N_mono HO123.1 (fun k_ hk => (⟨hk, hk.2.2.1⟩ : _ ∧ k_ ≠ gb101))) (fun k_ hk => (⟨hk, hk.1.2.2.2.2⟩ : _ ∧ k_ ≠ gb103))) (fun _ hk => hk.1.2) (.slice Ao3521 t118.length co3522)) (fun _ hk => hk.1.2) (.slice Ao3526 t121.length co3527)))) (fun _ hk => ⟨hk.1.1.1, hk.1.1.2.1⟩), pY70⟩
 ·refine bodyPost_ret (results_cell_row rfl _ _ gb103 31 #[.slice Ao3561 t125.length co3562, .slice Ao3566 t128.length co3567] (0, 0) _ rfl (by refine rB ?_; refine blk_put (cs := #[.slice Ao3561 t125.length co3562, .slice none 0 0]) ?_ 1 _ rfl; refine rB ?_; refine blk_put (cs := #[.slice none 0 0, .slice none 0 0]) ?_ 0 _ rfl; refine rB ?_; refine blk_far ?_ NB103_101.1 _; refine rB ?_; refine blk_far ?_ NB103_101.1 _; refine rB ?_; exact BK103.1) Try.underlying31 rfl (by kernel_rfl)) rfl ?_
  exact ⟨_, _, eR, by refine rR ?_; exact Kd.R_mono (fR (fR (Kd.R_far (p := ⟨gb101, 1, none⟩) (Kd.R_far (p := ⟨gb101, 0, none⟩) (Kd.R_types (tR HO127 BK101) BK103.1 (by decide)) (fun _ hk => hk.1.2) (.slice Ao3561 t125.length co3562)) (fun _ hk => hk.1.2) (.slice Ao3566 t128.length co3567)))) (fun _ hk => hk.1.1.1), by refine rN ?_; exact Kd.N_mono (fN (fN (Kd.N_far (p := ⟨gb101, 1, none⟩) (Kd.N_far (p := ⟨gb101, 0, none⟩) (Kd.N_mono (Kd.N_mono HO130.1 (fun k_ hk => (⟨hk, hk.2.2.1⟩ : _ ∧ k_ ≠ gb101))) (fun k_ hk => (⟨hk, hk.1.2.2.2.2⟩ : _ ∧ k_ ≠ gb103))) (fun _ hk => hk.1.2) (.slice Ao3561 t125.length co3562)) (fun _ hk => hk.1.2) (.slice Ao3566 t128.length co3567)))) (fun _ hk => ⟨hk.1.1.1, hk.1.1.2.1⟩), pY70⟩
def spec_l5Book.l0 : Nat → Int → List Int → Int → List ByteArray → List (S56) → Option (List ByteArray × (List (S56)) × Int)
 | 0, _, _, _, _, _ => none
 | k + 1, x4, x1000, x1001, x110000, x110001 => if x4 > 0 then ((spec_l5Does.f k x1000 x1001 x110000 x110001).bind fun bt121 => ((spec_l5Step.f k x110000 x110001 bt121.1 bt121.2.1 bt121.2.2.1).bind fun bt127 => (spec_l5Book.l0 k (wrap64 (x4 - 1)) x1000 bt121.2.2.2 bt127.1 bt127.2))) else (some (x110000, x110001, x1001))
def spec_l5Book.f (k : Nat) (s0_0 : List Int) (s0_1 : Int) : Option (List ByteArray × (List (S56)) × Int) := (spec_l5Base.f k s0_0 s0_1).bind fun bt102 => ((spec_l1Rd_pick.f k s0_0 bt102.2.2 3).bind fun bt110 => (if bt110.1 = 0 then ((spec_l5Wild.f k s0_0 bt110.2 bt102.1 ([] : List (S56))).bind fun bt112 => (some (bt112.1, bt112.2.1, bt112.2.2))) else ((spec_l1Rd_pick.f k s0_0 bt110.2 24).bind fun bt119 => (spec_l5Book.l0 k bt119.1 s0_0 bt119.2 bt102.1 ([] : List (S56))))))
theorem spec_l5Book.calls (k : Nat) (g : Nat) (s0_0 : List Int) (s0_1 : Int) (r1 : List ByteArray) (r2 : List (S56)) (r3 : Int) (w0 w : World) (hI : IsS103 w0 w g s0_0 s0_1) (hB : Below w0.heap.size w0 w) (h : spec_l5Book.f k s0_0 s0_1 = some (r1, r2, r3)) :
  Calls Try.prog 119 #[.pointer (some ⟨g, 0, none⟩)] w fun e w' => ∃ v0_ v1_ : Value, e = .returned (.agg #[v0_, v1_]) ∧ Kd.R Kd.string 9 w' w.heap.size (fun k_ => (w.heap.size ≤ k_)) v0_ r1 ∧ Kd.N k56 56 w' w.heap.size (fun k_ => (w.heap.size ≤ k_) ∧ some k_ ≠ (v0_ : Value).ownBlock) v1_ r2 ∧ IsS103 w0 w' g s0_0 r3 ∧ Below w0.heap.size w0 w' ∧ KeepBut w w' g none := by
 have hu31 := Try.underlying31
 have HI0 := am hI
 have HK := am (KeepBut.refl w g none)
 have HL := am hB.size
 clear hI
 have HW0 := am hB.size
 have HB := am hB
 clear hB
 unfold spec_l5Book.f at h
 have H := h
 clear h
 obtain ⟨⟨t102, t105, t108⟩, A2, H⟩ := bd H
 dsimp only at H
 obtain ⟨⟨t110, t111⟩, A3, H⟩ := bd H
 dsimp only at H
 by_cases c4 : t110 = 0
 rw [if_pos c4] at H
 have c4b0 : (t110 == 0) = true := beq_iff_eq.mpr c4
 have c4b1 : (t110 != 0) = false := bne_eq_false_iff_eq.mpr c4
 clear c4
 obtain ⟨⟨t112, t115, t118⟩, A5, H⟩ := bd H
 dsimp only at H
 simp only [Option.some.injEq, Prod.mk.injEq] at H
 obtain ⟨rfl, rfl, rfl⟩ := H
 have M68_ := trivial
 rotate_left
 rw [if_neg c4] at H
 have c4b0 : (t110 == 0) = false := beq_eq_false_iff_ne.mpr c4
 have c4b1 : (t110 != 0) = true := bne_iff_ne.mpr c4
 obtain ⟨⟨t119, t120⟩, A20, H⟩ := bd H
 dsimp only at H
 have H' := am H
 clear H
 have M70_ := trivial
 have M71_ := trivial
 rotate_left
 all_goals
  go_enter Try.func119, Try.ntmps119
  go_wp2_with (first | ((with_reducible refine gD 2 ?_); refine bX 2 #[.slice none 0 0, .slice none 0 0] 31 ?_; intro gb101 hg w3600 hbox hb; replace HB := bS pY88 hb; have BK101 := am (hbox); have GW101 := am (pY74 : w.heap.size ≤ gb101); have GE101 := am (Nat.le_trans HW0.out (pY74 : w.heap.size ≤ gb101) : w0.heap.size ≤ gb101); replace HK := am (KeepBut.trans (pY93) (KeepBut.of_below hb g none) (.inl rfl)); have NB0_101 := am (by rw [hg]; exact Nat.ne_of_lt (IsS103.lt (show IsS103 w0 _ g s0_0 s0_1 from pY92)) : g ≠ gb101); have NB101_0 := am (by rw [hg]; exact Nat.ne_of_gt (IsS103.lt (show IsS103 w0 _ g s0_0 s0_1 from pY92)) : gb101 ≠ g); replace HI0 := am (IsS103.below (pY92) hb); clear hb hbox hg) | ((with_reducible refine gC 128 ?_); refine cE (some 6) Try.func128 (spec_l5Base.calls k g s0_0 s0_1 t102 t105 t108 w0 _ ((pY85)) ((pY76)) A2.out) ?_; rintro e w3640 ⟨v103, rfl, ho0, hi, hb, hk⟩; refine ⟨_, rfl, ?_⟩; replace BK101 := kb pY98 hk NB101_0; have HO104 := am (Kd.R_lower (Kd.R_newM (M := fun k_ => (w.heap.size ≤ k_)) ho0 (keep_size (w := w) (g := g) (row := none) (pY87)) (fun k_ h_ => h_)) (keep_size (w := w) (g := g) (row := none) (pY87))); replace HK := am (KeepBut.trans (pY87) hk (.inl rfl)); replace HB := am (hb); replace HI0 := am (hi); (try clear hb); (try clear hk); (try clear hi); (try clear ho0)) | ((with_reducible refine gD 3 ?_); refine bX 3 #[.slice none 0 0, .slice none 0 0] 31 ?_; intro gb109 hg w3680 hbox hb; replace HO104 := am (Kd.R_below (pY125) hb); replace HB := bS pY76 hb; have BK109 := am (hbox); have GW109 := am (pY54 : w.heap.size ≤ gb109); have GE109 := am (Nat.le_trans HW0.out (pY54 : w.heap.size ≤ gb109) : w0.heap.size ≤ gb109); replace HK := am (KeepBut.trans (pY87) (KeepBut.of_below hb g none) (.inl rfl)); have NB101_109 := nL pY98 hg; have NB109_101 := nG pY98 hg; replace BK101 := bB pY98 hb; have NB0_109 := am (by rw [hg]; exact Nat.ne_of_lt (IsS103.lt (show IsS103 w0 _ g s0_0 t108 from pY85)) : g ≠ gb109); have NB109_0 := am (by rw [hg]; exact Nat.ne_of_gt (IsS103.lt (show IsS103 w0 _ g s0_0 t108 from pY85)) : gb109 ≠ g); replace HI0 := am (IsS103.below (pY85) hb); clear hb hbox hg; obtain ⟨Ao3681, co3682, eo3683⟩ := Kd.R_slice HO104.1; subst eo3683; have hnb3684 := NB109_101.1; have hnc3685 := NB101_109.1; have hnb3686 := NB109_0.1; have hnc3687 := NB0_109.1; obtain ⟨hcz3688_0, hcz3688_1, hfz3689_0, hfz3689_1⟩ := cz2 BK109) | ((with_reducible refine gC 100 ?_); clear M68_; refine cQ (some 8) Try.func100 (spec_l1Rd_pick.calls k g s0_0 t108 3 t110 t111 w0 _ ((pY71)) ((pY58)) A3.out) ?_; rintro w3720 ⟨hi, hb, hk⟩; replace BK101 := am (KeepBut.blk hk (g' := gb101) (o := .cells #[.slice none 0 0, .slice none 0 0] 31 (0, 0)) (pY10) NB101_0.1 (by simp)); replace HO104 := am (Kd.R_mono (Kd.R_keep (IsS103.apart (show IsS103 w0 _ g s0_0 t108 from pY71) (by refine rR ?_; exact (Kd.R_mono (fR (fR (tR HO104 BK109))) (fun _ h_ => h_.1))) (by decide)) hk (fun _ h => h.2)) (fun _ h => h.1)); replace BK109 := am (KeepBut.blk hk (g' := gb109) (o := .cells #[.slice Ao3681 t102.length co3682, .slice none 0 0] 31 (0, 0)) (by refine rB ?_; refine blk_put (cs := #[.slice Ao3681 t102.length co3682, .slice none 0 0]) ?_ 1 _ rfl; refine rB ?_; refine blk_put (cs := #[.slice none 0 0, .slice none 0 0]) ?_ 0 _ rfl; refine rB ?_; exact BK109.1) NB109_0.1 (by simp)); replace HK := am (KeepBut.trans (pY73) hk (.inl rfl)); replace HB := am (hb); replace HI0 := am (hi); (try clear hb); (try clear hk); (try clear hi); obtain ⟨hcz3721_0, hcz3721_1, hfz3722_0, hfz3722_1⟩ := cz2 BK109) | ((with_reducible refine gC 129 ?_); refine cE (some 12) Try.func129 (spec_l5Wild.calls k g s0_0 t111 (fun k_ => some k_ = (.slice Ao3681 t102.length co3682 : Value).ownBlock) (.slice Ao3681 t102.length co3682) t102 _ _ ([] : List (S56)) t112 t115 t118 w0 _ ((pY71)) ((pY58)) (Kd.R_lower (Kd.R_tight rfl HO104.1) HL.out) Kd.C_kept_nil (Nat.le_refl _) rfl rfl A5.out) ?_; rintro e w3760 ⟨v113, v116, rfl, ho0, ho1, hi, hb, hkp⟩; refine ⟨_, rfl, ?_⟩; have HO114 := am (Kd.R_mono (ok' := fun k_ => (w.heap.size ≤ k_)) (Kd.R_raise (d := Kd.string) (b := w0.heap.size) (b' := w.heap.size) (fun _ _ _ _ h_ => h_) ho0 (fun k_ e_ => Or.elim (ho0.1 k_ e_) (fun hs_ => (fun e_ => Kd.R_base HO104.1 k_ e_.symm) hs_) (fun hn_ => Nat.le_trans (keep_size (w := w) (g := g) (row := none) (pY73)) hn_))) (fun k_ hk_ => Or.elim hk_ (fun hs_ => (HO104.1.1 k_ (hs_).symm).1) (fun hn_ => (Nat.le_trans (keep_size (w := w) (g := g) (row := none) (pY73)) hn_)))); have HO117 := am (Kd.N_lower (Kd.N_mono (ok' := fun k_ => (w.heap.size ≤ k_) ∧ some k_ ≠ (v113 : Value).ownBlock ∧ k_ ≠ gb101 ∧ k_ ≠ gb109 ∧ k_ ≠ g) ho1 (fun k_ hk_ => ⟨Or.elim hk_.1 (fun hs_ => (HO104.1.1 k_ (hs_).symm).1) (fun hn_ => (Nat.le_trans (keep_size (w := w) (g := g) (row := none) (pY73)) hn_)), hk_.2, Or.elim hk_.1 (fun hs_ => fun e_ => (Kd.R_ne HO104.1 BK101.1 (by decide)) (by rw [← e_]; exact hs_)) (fun hn_ => (fB pY98 k_ hn_)), Or.elim hk_.1 (fun hs_ => fun e_ => (Kd.R_ne HO104.1 BK109.1 (by decide)) (by rw [← e_]; exact hs_)) (fun hn_ => (fB pY106 k_ hn_)), Or.elim hk_.1 (fun hs_ => fun e_ => (IsS103.own_ne HI0.out HO104.1 (by decide)) (by rw [← e_]; exact hs_)) (fun hn_ => (IsS103.fresh (pY71) k_ hn_))⟩)) (keep_size (w := w) (g := g) (row := none) (pY73))); replace HI0 := am (hi); replace BK101 := am (blk_kept (pY98) hkp (fun hs_ => Or.elim hs_ (fun hs_ => (fun e_ => (Kd.R_ne HO104.1 BK101.1 (by decide)) e_) hs_) (fun e_ => NB101_0.1 e_))); replace BK109 := am (blk_kept (pY106) hkp (fun hs_ => Or.elim hs_ (fun hs_ => (fun e_ => (Kd.R_ne HO104.1 BK109.1 (by decide)) e_) hs_) (fun e_ => NB109_0.1 e_))); replace HK := am (Kept.keepG (pY73) hkp (fun k_ hs_ => Or.elim hs_ (fun hs_ => (fun e_ => .inr (Kd.R_base HO104.1 k_ e_.symm)) hs_) (fun e_ => .inl e_))); replace HB := am (hb); clear HO104; (try clear hb); (try clear hkp); (try clear ho0); (try clear ho1); obtain ⟨Ao3761, co3762, eo3763⟩ := Kd.R_slice HO114.1; subst eo3763; have hnb3764 := NB101_0.1; have hnc3765 := NB0_101.1; obtain ⟨hcz3766_0, hcz3766_1, hfz3767_0, hfz3767_1⟩ := cz2 BK101; obtain ⟨Ao3768, co3769, eo3770⟩ := Kd.N_slice HO117.1; subst eo3770) | ((with_reducible refine gC 100 ?_); clear M70_; refine cQ (some 8) Try.func100 (spec_l1Rd_pick.calls k g s0_0 t108 3 t110 t111 w0 _ ((pY71)) ((pY58)) A3.out) ?_; rintro w3800 ⟨hi, hb, hk⟩; replace BK101 := am (KeepBut.blk hk (g' := gb101) (o := .cells #[.slice none 0 0, .slice none 0 0] 31 (0, 0)) (pY10) NB101_0.1 (by simp)); replace HO104 := am (Kd.R_mono (Kd.R_keep (IsS103.apart (show IsS103 w0 _ g s0_0 t108 from pY71) (by refine rR ?_; exact (Kd.R_mono (fR (fR (tR HO104 BK109))) (fun _ h_ => h_.1))) (by decide)) hk (fun _ h => h.2)) (fun _ h => h.1)); replace BK109 := am (KeepBut.blk hk (g' := gb109) (o := .cells #[.slice Ao3681 t102.length co3682, .slice none 0 0] 31 (0, 0)) (by refine rB ?_; refine blk_put (cs := #[.slice Ao3681 t102.length co3682, .slice none 0 0]) ?_ 1 _ rfl; refine rB ?_; refine blk_put (cs := #[.slice none 0 0, .slice none 0 0]) ?_ 0 _ rfl; refine rB ?_; exact BK109.1) NB109_0.1 (by simp)); replace HK := am (KeepBut.trans (pY73) hk (.inl rfl)); replace HB := am (hb); replace HI0 := am (hi); (try clear hb); (try clear hk); (try clear hi)) | ((with_reducible refine gC 100 ?_); clear M71_; refine cQ (some 14) Try.func100 (spec_l1Rd_pick.calls k g s0_0 t111 24 t119 t120 w0 _ ((pY71)) ((pY58)) A20.out) ?_; rintro w3840 ⟨hi, hb, hk⟩; replace BK101 := kb pY98 hk NB101_0; replace HO104 := am (Kd.R_mono (Kd.R_keep (IsS103.apart (show IsS103 w0 _ g s0_0 t111 from pY71) (pY125) (by decide)) hk (fun _ h => h.2)) (fun _ h => h.1)); replace BK109 := kb pY106 hk NB109_0; replace HK := am (KeepBut.trans (pY73) hk (.inl rfl)); replace HB := am (hb); replace HI0 := am (hi); (try clear hb); (try clear hk); (try clear hi)))
 ·refine bodyPost_ret (results_cell_row rfl _ _ gb101 31 #[.slice Ao3761 t112.length co3762, .slice Ao3768 t115.length co3769] (0, 0) _ rfl (by refine rB ?_; refine blk_put (cs := #[.slice Ao3761 t112.length co3762, .slice none 0 0]) ?_ 1 _ rfl; refine rB ?_; refine blk_put (cs := #[.slice none 0 0, .slice none 0 0]) ?_ 0 _ rfl; refine rB ?_; exact BK101.1) Try.underlying31 rfl (by kernel_rfl)) rfl ?_
  exact ⟨_, _, eR, by refine rR ?_; exact Kd.R_mono (fR (fR (tR HO114 BK101))) (fun _ hk => hk.1), by refine rN ?_; exact Kd.N_mono (fN (fN (Kd.N_mono HO117.1 (fun k_ hk => (⟨hk, hk.2.2.1⟩ : _ ∧ k_ ≠ gb101))))) (fun _ hk => ⟨hk.1.1, hk.1.2.1⟩), pY71, pY58, pY73⟩
 ·go_loopg [4] k (fun kq v4 w' => ∃ (x4_1 : Int) (x1001_1 : Int) (x110000_1 : List ByteArray) (x110001_1 : List (S56)) (u110000 : Value) (u110001 : Value), v4 = .int .i64 x4_1 ∧ Aside0 (spec_l5Book.l0 kq x4_1 s0_0 x1001_1 x110000_1 x110001_1 = some (r1, r2, r3)) ∧ Aside0 (kq ≤ k) ∧ Aside0 (Kd.R Kd.string 9 w' w.heap.size (fun k_ => (w.heap.size ≤ k_)) u110000 x110000_1) ∧ Aside0 (Kd.N k56 56 w' w.heap.size (fun k_ => (w.heap.size ≤ k_) ∧ some k_ ≠ (u110000 : Value).ownBlock ∧ k_ ≠ gb101 ∧ k_ ≠ gb109 ∧ k_ ≠ g) u110001 x110001_1) ∧ Aside0 (w'.heap[gb101]? = some (.cells #[(.slice none 0 0), (.slice none 0 0)] 31 (0, 0))) ∧ Aside0 (w'.heap[gb109]? = some (.cells #[u110000, u110001] 31 (0, 0))) ∧ Aside0 (IsS103 w0 w' g s0_0 x1001_1) ∧ Aside0 (KeepBut w w' g none) ∧ Aside0 (Below w0.heap.size w0 w'))
  case atStart => exact ⟨(t119), (t120), (t102), (([] : List (S56))), (.slice Ao3681 t102.length co3682), (.slice none 0 0), (pY136), H', ⟨Nat.le_refl _⟩, ⟨by refine rR ?_; exact Kd.R_mono HO104.1 (fun _ hk => hk.1)⟩, ⟨by first | exact Kd.S_nil _ _ _ _ _ | exact Kd.N_nil _ _ _ _ _ | exact Kd.V_nil _ _ _ _ _ | exact Kd.Q_nil _ _ _ _ _ | exact Kd.R_nil _ _ _ _ _⟩, ⟨rB BK101.1⟩, ⟨rB BK109.1⟩, ⟨pY71⟩, ⟨pY73⟩, ⟨pY58⟩⟩
  case round =>
   clear H'
   try clear c4
   try clear c4b0
   try clear c4b1
   try clear hcz3688_0 hcz3688_1 hfz3689_0 hfz3689_1
   obtain ⟨x4_1, x1001_1, x110000_1, x110001_1, u110000, u110001, rfl, HA, HK1, HO_110000, HO_110001, BK101, BK109, HI0, HK, HB⟩ := hrel
   cases gk with
   | zero => exact absurd HA.out (by simp [spec_l5Book.l0])
   | succ k1 =>
    have H := HA.out
    clear HA
    simp only [spec_l5Book.l0] at H
    by_cases c30 : x4_1 > 0
    ·rw [if_pos c30] at H
     have c30b0 : decide (0 < x4_1) = true := decide_eq_true c30
     clear c30
     obtain ⟨⟨t121, t122, t123, t126⟩, A31, H⟩ := bd H
     dsimp only at H
     obtain ⟨⟨t127, t130⟩, A32, H⟩ := bd H
     dsimp only at H
     have H' := am H
     clear H
     try go_wp2
     replace HO_110000 := am (Kd.R_drew HO_110000.1)
     replace HO_110001 := am (Kd.N_drew HO_110001.1)
     replace BK101 := am (blk_drew BK101.1)
     replace BK109 := am (blk_drew BK109.1)
     replace HI0 := am (IsS103.drew HI0.out)
     replace HK := am (keep_drew HK.out)
     replace HB := am (below_drew1 HB.1)
     obtain ⟨Ao34, co34, eo34⟩ := Kd.R_slice HO_110000.1
     (first | subst eo34 | (injection eo34 with f1_ f2_ f3_; have f4_ := f1_.symm; have f5_ := f3_.symm; clear f1_ f2_ f3_; subst f4_; subst f5_))
     obtain ⟨Ao35, co35, eo35⟩ := Kd.N_slice HO_110001.1
     (first | subst eo35 | (injection eo35 with f1_ f2_ f3_; have f4_ := f1_.symm; have f5_ := f3_.symm; clear f1_ f2_ f3_; subst f4_; subst f5_))
     refine sT [5] 6 (uA2 BK109) (fun hHeld => ?_)
     generalize wr.drew = w33 at HO_110000 HO_110001 BK101 BK109 HI0 HK HB hHeld ⊢
     refine pU0 1 (some 20) ?_
     refine tK2_ 0 (some 19) ?_
     refine tK2_ 2 (some 21) ?_
     refine oM 3 (some 22) fun K hK => ?_
     refine gE Try.func121 (spec_l5Does.calls k1 g s0_0 x1001_1 _ _ x110000_1 _ _ x110001_1 t121 t122 t123 t126 w0 _ ((pY71)) ((pY58)) (pC (Kd.R_reads' HO_110000.1).2.2) ((Kd.R_reads' HO_110000.1).2.1) (far_slice (IsS103.own_ne HI0.out HO_110000.1 (by decide))) (Kd.C_foot_ownV (base := 0) (Kd.N_V (Kd.N_mono (ok := fun k_ => (((w.heap.size ≤ k_)) ∧ (some k_ ≠ (.slice Ao34 x110000_1.length co34 : Value).ownBlock ∧ (k_ ≠ gb101 ∧ (k_ ≠ gb109 ∧ k_ ≠ g))))) (rN HO_110001.1) (fun k_ hk_ => (⟨hk_, hk_.2.2.2.2⟩ : _ ∧ k_ ≠ g)))) (fun _ h_ => h_.2)) ((Kd.N_reads' HO_110001.1).2.1) A31.out) ?_
     rintro e w36 ⟨v124, rfl, ho0, hi, hb, hk⟩
     refine ⟨_, rfl, ?_⟩
     replace HO_110001 := am (Kd.N_mono (Kd.N_told (Kd.N_oldK (Kd.N_mono (ok := fun k_ => (((w.heap.size ≤ k_)) ∧ (some k_ ≠ (.slice Ao34 x110000_1.length co34 : Value).ownBlock ∧ (k_ ≠ gb101 ∧ (k_ ≠ gb109 ∧ k_ ≠ g))))) (rN HO_110001.1) (fun k_ hk_ => (⟨hk_, hk_.2.2.2.2⟩ : _ ∧ k_ ≠ g))) hk) (Kd.R_base ho0)) (fun _ h_ => h_.1))
     replace BK101 := kb pY98 hk NB101_0
     replace BK109 := kb pY106 hk NB109_0
     have HO125 := am (Kd.R_lower (Kd.R_new' (Kd.R_newM (M := fun k_ => (w.heap.size ≤ k_)) ho0 (keep_size (w := w) (g := g) (row := none) (pY73)) (fun k_ h_ => h_)) (Kd.R_lt (pY117))) (keep_size (w := w) (g := g) (row := none) (pY73)))
     replace HO_110000 := am (Kd.R_mono (Kd.R_told (Kd.R_oldK (IsS103.apart (show IsS103 w0 _ g s0_0 x1001_1 from pY71) (pY117) (by decide)) hk) (Kd.R_base ho0)) (fun _ h_ => h_.1))
     replace HK := am (KeepBut.trans (pY73) hk (.inl rfl))
     replace HB := am (hb)
     replace HI0 := am (hi)
     (try clear hb)
     (try clear hb2)
     (try clear hk)
     (try clear hi)
     (try clear ho0)
     obtain ⟨Ao37, co37, eo37⟩ := Kd.R_slice HO125.1
     (first | subst eo37 | (injection eo37 with f1_ f2_ f3_; have f4_ := f1_.symm; have f5_ := f3_.symm; clear f1_ f2_ f3_; subst f4_; subst f5_))
     refine hK.out _ _ (uA2 BK109).1 (fun hHeld => ?_)
     clear hK K
     refine nM ?_
     refine oM 4 (some 23) fun K hK => ?_
     refine gE Try.func130 (spec_l5Step.calls k1 _ _ x110000_1 _ _ x110001_1 t121 t122 _ _ t123 t127 t130 _ (pC (Kd.R_reads' HO_110000.1).2.2) ((Kd.R_reads' HO_110000.1).2.1) (pC (Kd.N_reads' HO_110001.1).2.2) ((Kd.N_reads' HO_110001.1).2.1) (pC (Kd.R_reads' HO125.1).2.2) ((Kd.R_reads' HO125.1).2.1) A32.out) ?_
     rintro e w38 ⟨v128, v131, rfl, ho0, ho1, hb⟩
     refine ⟨_, rfl, ?_⟩
     have HO129 := am (Kd.R_lower (Kd.R_new' (Kd.R_new' (Kd.R_newM (M := fun k_ => (w.heap.size ≤ k_)) (Kd.R_mono (ok' := fun k_ => True) ho0 (fun _ hk_ => trivial)) (keep_size (w := w) (g := g) (row := none) (pY73)) (fun k_ h_ => h_)) (Kd.R_lt (pY117))) (Kd.R_lt (rR HO125.1))) (keep_size (w := w) (g := g) (row := none) (pY73)))
     have HO132 := am (Kd.N_lower (Kd.N_mono (ok' := fun k_ => (w.heap.size ≤ k_) ∧ some k_ ≠ (v128 : Value).ownBlock ∧ some k_ ≠ (.slice Ao34 x110000_1.length co34 : Value).ownBlock ∧ some k_ ≠ (.slice Ao35 x110001_1.length co35 : Value).ownBlock ∧ some k_ ≠ (.slice Ao37 t123.length co37 : Value).ownBlock ∧ k_ ≠ gb101 ∧ k_ ≠ gb109 ∧ k_ ≠ g) ho1 (fun k_ hk_ => ⟨(Nat.le_trans (keep_size (w := w) (g := g) (row := none) (pY73)) hk_.1), hk_.2, (Kd.fresh' (Kd.R_lt (pY117)) k_ hk_.1), (Kd.fresh' (Kd.N_lt (rN HO_110001.1)) k_ hk_.1), (Kd.fresh' (Kd.R_lt (rR HO125.1)) k_ hk_.1), (fB pY98 k_ hk_.1), (fB pY106 k_ hk_.1), (IsS103.fresh (pY71) k_ hk_.1)⟩)) (keep_size (w := w) (g := g) (row := none) (pY73)))
     replace HO_110000 := am (Kd.R_elder' (pY117) (Kd.R_base ho0) hb)
     replace HO_110001 := am (Kd.N_mono (Kd.N_told (Kd.N_told (Kd.N_old (rN HO_110001.1) hb) (Kd.R_base ho0)) (Kd.N_base ho1)) (fun _ h_ => h_.1))
     replace HO125 := am (Kd.R_elder' (rR HO125.1) (Kd.R_base ho0) hb)
     replace BK101 := bB pY98 hb
     replace BK109 := bB pY106 hb
     replace HK := am (KeepBut.trans (pY73) (KeepBut.of_below hb g none) (.inl rfl))
     replace HB := bS pY58 hb
     replace HI0 := am (IsS103.below (pY71) hb)
     (try clear hb)
     (try clear hb2)
     (try clear hk)
     (try clear hi)
     (try clear ho0)
     (try clear ho1)
     obtain ⟨Ao39, co39, eo39⟩ := Kd.R_slice HO129.1
     (first | subst eo39 | (injection eo39 with f1_ f2_ f3_; have f4_ := f1_.symm; have f5_ := f3_.symm; clear f1_ f2_ f3_; subst f4_; subst f5_))
     obtain ⟨Ao41, co41, eo41⟩ := Kd.N_slice HO132.1
     (first | subst eo41 | (injection eo41 with f1_ f2_ f3_; have f4_ := f1_.symm; have f5_ := f3_.symm; clear f1_ f2_ f3_; subst f4_; subst f5_))
     refine hK.out _ _ (uA2 BK109).1 (fun hHeld => ?_)
     clear hK K
     refine nM ?_
     refine last_ (i := 5) (N := none) (bz 6 63) rfl rfl (by kernel_rfl) (by decide) (fun K hK => ?_)
     have hs40 : w38.cell? ⟨gb109, 0, none⟩ = some (.slice Ao34 x110000_1.length co34) := (blk_cell BK109.1 0).trans rfl
     have hfs40 := blk_frozen BK109.1 0
     have hns40_0 := NB101_109.1
     have hms40_0 := NB109_101.1
     have hs42 : w38.cell? ⟨gb109, 1, none⟩ = some (.slice Ao35 x110001_1.length co35) := (blk_cell BK109.1 1).trans rfl
     have hfs42 := blk_frozen BK109.1 1
     have hns42_0 := NB101_109.1
     have hms42_0 := NB109_101.1
     refine skip_ (w1 := ?_) (by rfl) rfl ?_ ?_
     rotate_left
     ·go_simp
      rfl
     refine hK.out _ _ ?_
     clear hK K
     refine done_ (by kernel_rfl) ?_
     try go_wp2
     go_roundg k1
     case measure => have := HK1.out; omega
     case rel => exact ⟨(wrap64 (x4_1 - 1)), (t126), (t127), (t130), (.slice Ao39 t127.length co39), (.slice Ao41 t130.length co41), (pY136), H', ⟨by have := HK1.out; omega⟩, ⟨by refine rR ?_; exact Kd.R_mono (fR (fR (tR HO129 BK109))) (fun _ hk => hk.1.1.1.1)⟩, ⟨by refine rN ?_; exact Kd.N_mono (fN (fN (Kd.N_mono HO132.1 (fun k_ hk => (⟨hk, hk.2.2.2.2.2.2.1⟩ : _ ∧ k_ ≠ gb109))))) (fun _ hk => ⟨hk.1.1, ⟨hk.1.2.1, ⟨hk.1.2.2.2.2.2.1, ⟨hk.1.2.2.2.2.2.2.1, hk.1.2.2.2.2.2.2.2⟩⟩⟩⟩)⟩, ⟨by refine rB ?_; refine blk_far ?_ NB101_109.1 _; refine rB ?_; refine blk_far ?_ NB101_109.1 _; refine rB ?_; exact BK101.1⟩, ⟨by refine rB ?_; refine blk_put (cs := #[.slice Ao39 t127.length co39, .slice Ao35 x110001_1.length co35]) ?_ 1 _ rfl; refine rB ?_; refine blk_put (cs := #[.slice Ao34 x110000_1.length co34, .slice Ao35 x110001_1.length co35]) ?_ 0 _ rfl; refine rB ?_; exact BK109.1⟩, ⟨pY71⟩, ⟨pY73⟩, ⟨pY58⟩⟩
    ·rw [if_neg c30] at H
     have c30b0 : decide (0 < x4_1) = false := decide_eq_false c30
     clear c30
     simp only [Option.some.injEq, Prod.mk.injEq] at H
     obtain ⟨rfl, rfl, rfl⟩ := H
     have hnb43 := NB109_101.1
     have hnc43 := NB101_109.1
     have hnb44 := NB109_0.1
     have hnc44 := NB0_109.1
     obtain ⟨hcz45_0, hcz45_1, hfz45_0, hfz45_1⟩ := cz2 BK109
     obtain ⟨Ao46, co46, eo46⟩ := Kd.R_slice HO_110000.1
     subst eo46
     have hnb47 := NB101_0.1
     have hnc47 := NB0_101.1
     obtain ⟨hcz48_0, hcz48_1, hfz48_0, hfz48_1⟩ := cz2 BK101
     obtain ⟨Ao49, co49, eo49⟩ := Kd.N_slice HO_110001.1
     subst eo49
     go_wp2
     refine bodyPost_ret (results_cell_row rfl _ _ gb101 31 #[.slice Ao46 x110000_1.length co46, .slice Ao49 x110001_1.length co49] (0, 0) _ rfl (by refine rB ?_; refine blk_put (cs := #[.slice Ao46 x110000_1.length co46, .slice none 0 0]) ?_ 1 _ rfl; refine rB ?_; refine blk_put (cs := #[.slice none 0 0, .slice none 0 0]) ?_ 0 _ rfl; refine rB ?_; exact BK101.1) Try.underlying31 rfl (by kernel_rfl)) rfl ?_
     exact ⟨_, _, eR, by refine rR ?_; exact Kd.R_mono (fR (fR (tR HO_110000 BK101))) (fun _ hk => hk.1), by refine rN ?_; exact Kd.N_mono (fN (fN (Kd.N_mono HO_110001.1 (fun k_ hk => (⟨hk, hk.2.2.1⟩ : _ ∧ k_ ≠ gb101))))) (fun _ hk => ⟨hk.1.1, hk.1.2.1⟩), pY71, pY58, pY73⟩
theorem sep_g1 {α : Type} {d : Kd α} {e base : Nat} {W : World} {ok : Nat → Prop} {v1 v1' v2 : Value} {xs : List α} (hs : ∀ k, v1.ownBlock = some k → v2.ownBlock ≠ some k) (hat : v1'.ownBlock = v1.ownBlock ∨ ∃ b, v1'.ownBlock = some b ∧ W.heap.size ≤ b) (h2 : d.R e W base ok v2 xs) : ∀ k, v1'.ownBlock = some k → v2.ownBlock ≠ some k := fun k e1 e2 => hat.elim (fun e => hs k (e.symm.trans e1) e2) (fun hb => by obtain ⟨b, eb, hb⟩ := hb; have h := Kd.R_lt h2 k e2; rw [eb] at e1; injection e1 with e1; omega)
theorem sep_g2 {α : Type} {d : Kd α} {e base : Nat} {W : World} {ok : Nat → Prop} {v1 v2 v2' : Value} {xs : List α} (hs : ∀ k, v1.ownBlock = some k → v2.ownBlock ≠ some k) (hat : v2'.ownBlock = v2.ownBlock ∨ ∃ b, v2'.ownBlock = some b ∧ W.heap.size ≤ b) (h1 : d.R e W base ok v1 xs) : ∀ k, v1.ownBlock = some k → v2'.ownBlock ≠ some k := fun k e1 e2 => hat.elim (fun e => hs k e1 (e.symm.trans e2)) (fun hb => by obtain ⟨b, eb, hb⟩ := hb; have h := Kd.R_lt h1 k e1; rw [eb] at e2; injection e2 with e2; omega)
def spec_l5Dec.f (a0 : Int) : Option (ByteArray) := some (strOfNums (([(wrap64 (48 + a0)) % 256] : List Int)))
theorem spec_l5Dec.calls (a0 : Int) (r : ByteArray) (w : World) (h : spec_l5Dec.f a0 = some r) :
  Calls Try.prog 131 #[.int .i64 a0] w fun e w' => e = .returned (.string r) ∧ Below w.heap.size w w' := by
 have HB := am (Below.refl w.heap.size w)
 unfold spec_l5Dec.f at h
 have H := h
 clear h
 obtain ⟨y101, Ny101⟩ := yv (([(wrap64 (48 + a0)) % 256] : List Int)); first | replace H := bW Ny101 H | rw [← Ny101.1] at H
 obtain rfl := Option.some.inj H
 go_enter Try.func131, Try.ntmps131
 go_wp2_with (first | ((with_reducible refine gate_dst (N := 6) rfl ?_); refine Kd.R_lit (Kd.int .u8) _ 5 ?hg (N := 6) ?hd (xs := ([(wrap64 (48 + a0)) % 256] : List Int)) (inner := [.int .u8 ((wrap64 (48 + a0)) % 256)]) (ok := fun _ => True) (okp := fun _ => True) ?hr ?hp (fun _ hk => hk) trivial (Below.refl _ _) (Nat.le_refl _) (by simp) ?_; (case hd => rfl); (case hg => rfl); (case hr => first | (go_simp; done) | (go_simp; rfl)); (case hp => exact (Reps.one (show Kd.M (Kd.int .u8) _ _ _ ((wrap64 (48 + a0)) % 256) [.int .u8 ((wrap64 (48 + a0)) % 256)] from rfl) (Reps.none _ _))); intro v102 w2 ho3 hb hg_ hnew_; clear hg_ hnew_; (first | rw [← Ny101.out] at ho3 | (simp only [Int.reduceToNat] at ho3; rw [← Ny101.out] at ho3)); have HO103 := am (Kd.R_lower ho3 (below_size (pY95))); replace HB := bS pY95 hb; clear hb ho3; have hcv4 := own_string (P := Try.prog) Try.underlying51 Try.underlying5 Try.underlying9 (Kd.own_of_R HO103.1)))
 go_ret
 exact ⟨eR, pY95⟩
end Go.Proofs.Ytaofjgnhapnndaa.Q
