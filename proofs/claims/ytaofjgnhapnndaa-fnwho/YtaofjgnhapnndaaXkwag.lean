/- Texts that the row needs: words on memory and rows, the contracts of the functions it reaches, and the plain lemmas on what they compute. -/
import Derived.Lib.SliceRun
import Derived.Test.YtaofjgnhapnndaaXkwaf
set_option maxHeartbeats 8000000
set_option maxRecDepth 100000
open Go.Proofs.YtaofjgnhapnndaaFkw
namespace Go.Proofs.Ytaofjgnhapnndaa.Q
open Go.RowKit Go.Proofs.YtaofjgnhapnndaaW.PrintWords Go.Proofs.YtaofjgnhapnndaaW.PrintLast Go.Proofs.YtaofjgnhapnndaaW.PrintMore
set_option linter.unusedVariables false
set_option linter.unusedSimpArgs false
theorem C_none {α : Type} {d : Kd α} {w : World} {l : List α} (h : d.C w none l.length l) : l = [] := by
 cases l with
 | nil => rfl
 | cons a l =>
  obtain ⟨ad, he, _⟩ := h.2.2 (by simp)
  cases he
mutual
def spec_l5Wild.l0 : Nat → List ByteArray → List ByteArray → Int → List Int → Int → List ByteArray → List (S56) → Option (List ByteArray × (List (S56)) × Int)
 | 0, _, _, _, _, _, _, _ => none
 | k + 1, x5, x6, x7, x1000, x1001, x102000, x102001 => if x7 < (x5.length : Int) then ((spec_l1Rd_pick.f k x1000 x1001 4).bind fun bt109 => (if bt109.1 = 0 then (spec_l5Wild.l0 k x5 x6 (wrap64 (x7 + 1)) x1000 bt109.2 x102000 x102001) else (if 0 ≤ x7 then ((spec_l5Some.f k x1000 bt109.2 x102000 2).bind fun bt112 => (spec_l5Wild.l1 k x5 x6 x7 0 x1000 bt112.2 x102000 x102001 (rdOf ByteArray.empty x5 x7) ([] : List ByteArray) bt112.1)) else (none)))) else (some (x102000, x102001, x1001))
def spec_l5Wild.l1 : Nat → List ByteArray → List ByteArray → Int → Int → List Int → Int → List ByteArray → List (S56) → ByteArray → List ByteArray → List ByteArray → Option (List ByteArray × (List (S56)) × Int)
 | 0, _, _, _, _, _, _, _, _, _, _, _ => none
 | k + 1, x5, x6, x7, x9, x1000, x1001, x102000, x102001, x117000, x117001, x117002 => if x9 < (x117002.length : Int) then (if 0 ≤ x9 then ((spec_l1Has.f k x6 (rdOf ByteArray.empty x117002 x9)).bind fun t121 => (if t121 = true then (spec_l5Wild.l1 k x5 x6 x7 (wrap64 (x9 + 1)) x1000 x1001 x102000 x102001 x117000 x117001 x117002) else ((spec_l1Rd_pick.f k x1000 x1001 2).bind fun bt122 => (if bt122.1 = 0 then (if x6.length < 8796093022208 then (if x117001.length < 8796093022208 then (spec_l5Wild.l1 k x5 (x6 ++ [rdOf ByteArray.empty x117002 x9]) x7 (wrap64 (x9 + 1)) x1000 bt122.2 x102000 x102001 x117000 (x117001 ++ [rdOf ByteArray.empty x117002 x9]) x117002) else (none)) else (none)) else (spec_l5Wild.l1 k x5 x6 x7 (wrap64 (x9 + 1)) x1000 bt122.2 x102000 x102001 x117000 x117001 x117002))))) else (none)) else (if x102001.length < 2199023255552 then (spec_l5Wild.l0 k x5 x6 (wrap64 (x7 + 1)) x1000 x1001 x102000 (x102001 ++ [(⟨x117000, x117001, x117002⟩ : S56)])) else (none))
end
def spec_l5Wild.f (k : Nat) (s0_0 : List Int) (s0_1 : Int) (l1_0 : List ByteArray) (l1_1 : List (S56)) : Option (List ByteArray × (List (S56)) × Int) := (spec_l5Names.f).bind fun t103 => (spec_l5Wild.l0 k t103 (([] : List ByteArray)) 0 s0_0 s0_1 l1_0 ([] : List (S56)))
def spec_l5Wild.T7 : Bool × List (List Nat × List Nat) := (true, [([], []), ([], []), ([0, 1], [0, 1]), ([2], [2]), ([], []), ([], []), ([5], [5]), ([4, 6], [4, 6]), ([3, 7], [3, 7]), ([], []), ([9, 8, 7, 0, 1, 2, 3, 4, 5, 6, 7, 8, 9], [8, 9])])
def spec_l5Wild.B7 : List Nat := [0, 0, 3, 7, 0, 0, 32, 112, 255, 0, 1023]
theorem spec_l5Wild.tab7 : rtab .any (opsOf Try.f129 7) = spec_l5Wild.T7 := by kernel_rfl
theorem spec_l5Wild.bits7 : waitsOk spec_l5Wild.T7.2 spec_l5Wild.B7 = true := by kernel_rfl
def spec_l5Wild.T13 : Bool × List (List Nat × List Nat) := (true, [([], []), ([0], [0]), ([], []), ([2], [2]), ([], []), ([3, 4], [3, 4]), ([5], [5]), ([6], [6]), ([1, 7], [1, 7]), ([0, 1, 2, 3, 4, 5, 6, 7, 8], []), ([9, 8, 8, 0, 1, 2, 3, 4, 5, 6, 7, 8], [8, 9])])
def spec_l5Wild.B13 : List Nat := [0, 1, 0, 4, 0, 28, 60, 124, 255, 511, 1023]
theorem spec_l5Wild.tab13 : rtab .any (opsOf Try.f129 13) = spec_l5Wild.T13 := by kernel_rfl
theorem spec_l5Wild.bits13 : waitsOk spec_l5Wild.T13.2 spec_l5Wild.B13 = true := by kernel_rfl
theorem spec_l5Wild.calls (k : Nat) (g : Nat) (s0_0 : List Int) (s0_1 : Int) (P1_0_ : Nat → Prop) (u9000_ : Value) (l1_0 : List ByteArray) (A1_1 : Option Addr) (c1_1 : Nat) (l1_1 : List (S56)) (r1 : List ByteArray) (r2 : List (S56)) (r3 : Int) (w0 w : World) (hI : IsS103 w0 w g s0_0 s0_1) (hB : Below w0.heap.size w0 w) (ho1_0 : Kd.R Kd.string 9 w w0.heap.size P1_0_ u9000_ l1_0) (hr1_1 : ∀ W_, Kept w W_ (fun k_ => (P1_0_ k_) ∨ k_ = g) → Kd.C k56 W_ A1_1 l1_1.length l1_1) (hc1_1 : l1_1.length ≤ c1_1) (hn_ : A1_1 = none) (hz_ : c1_1 = 0) (h : spec_l5Wild.f k s0_0 s0_1 l1_0 l1_1 = some (r1, r2, r3)) :
  Calls Try.prog 129 #[.pointer (some ⟨g, 0, none⟩), .agg #[u9000_, .slice A1_1 l1_1.length c1_1]] w fun e w' => ∃ v0_ v1_ : Value, e = .returned (.agg #[v0_, v1_]) ∧ Kd.R Kd.string 9 w' w0.heap.size (fun k_ => (P1_0_ k_ ∨ w.heap.size ≤ k_)) v0_ r1 ∧ Kd.N k56 56 w' w.heap.size (fun k_ => (P1_0_ k_ ∨ w.heap.size ≤ k_) ∧ some k_ ≠ (v0_ : Value).ownBlock) v1_ r2 ∧ IsS103 w0 w' g s0_0 r3 ∧ Below w0.heap.size w0 w' ∧ Kept w w' (fun k_ => (P1_0_ k_) ∨ k_ = g) := by
 have hu31 := Try.underlying31
 have hu56 := Try.underlying56
 have HO1_0 := am (show Kd.R Kd.string 9 w w0.heap.size (fun k_ => (P1_0_ k_ ∨ w.heap.size ≤ k_)) u9000_ l1_0 from Kd.R_mono ho1_0 (fun k_ hk => (.inl hk)))
 subst hn_
 subst hz_
 obtain rfl := C_none (hr1_1 w (Kept.refl w _))
 clear hr1_1 hc1_1
 simp only [List.length_nil]
 have HI0 := am hI
 have HL := am hB.size
 clear hI
 have HK := am (Kept.refl w (fun k_ => (P1_0_ k_) ∨ k_ = g))
 have HW0 := am hB.size
 have HB := am hB
 clear hB
 unfold spec_l5Wild.f at h
 have H := h
 clear h
 obtain ⟨t103, A3, H⟩ := bd H
 obtain ⟨y106, Ny106⟩ := yv (([] : List ByteArray)); first | replace H := bW Ny106 H | rw [← Ny106.1] at H
 have H' := am H
 clear H
 obtain ⟨Ao4, co4, eo4⟩ := Kd.R_slice HO1_0.1
 subst eo4
 go_enter Try.func129, Try.ntmps129
 go_wp2_with (first | ((with_reducible refine gD 3 ?_); refine bX 3 #[.slice Ao4 l1_0.length co4, .slice none 0 0] 31 ?_; intro gb101 hg w5 hbox hb; replace HO1_0 := am (Kd.R_below (rR HO1_0.1) hb); have BK101 := am (hbox); have GW101 := am (by rw [hg]; exact (by first | exact HK.out.1 | exact (show Kept w _ (fun k_ => (P1_0_ k_) ∨ k_ = g) from by repeat (first | (with_reducible first | exact HK.out | apply Kept.alloc | apply Kept.drewN | apply Kept.drew | refine Kept.setCell ?_ (.inl (.inr rfl)) _) | exact HK.out)).1) : w.heap.size ≤ gb101); replace HK := am (Kept.below (S := (fun k_ => (P1_0_ k_) ∨ k_ = g)) (by repeat (first | (with_reducible first | exact HK.out | apply Kept.alloc | apply Kept.drewN | apply Kept.drew | refine Kept.setCell ?_ (.inl (.inr rfl)) _) | exact HK.out)) hb); have GE101 := am (by rw [hg]; exact (below_size (pY88)) : w0.heap.size ≤ gb101); replace HB := bS pY88 hb; have NB0_101 := am (by rw [hg]; exact Nat.ne_of_lt (IsS103.lt (show IsS103 w0 _ g s0_0 s0_1 from pY92)) : g ≠ gb101); have NB101_0 := am (by rw [hg]; exact Nat.ne_of_gt (IsS103.lt (show IsS103 w0 _ g s0_0 s0_1 from pY92)) : gb101 ≠ g); replace HI0 := am (IsS103.below (pY92) hb); clear hb hbox hg) | ((with_reducible refine gD 4 ?_); refine bX 4 #[.slice none 0 0, .slice none 0 0] 31 ?_; intro gb102 hg w6 hbox hb; replace HO1_0 := am (Kd.R_below (rR HO1_0.1) hb); have BK102 := am (hbox); have GW102 := am (by rw [hg]; exact (by first | exact HK.out.1 | exact (show Kept w _ (fun k_ => (P1_0_ k_) ∨ k_ = g) from by repeat (first | (with_reducible first | exact HK.out | apply Kept.alloc | apply Kept.drewN | apply Kept.drew | refine Kept.setCell ?_ (.inl (.inr rfl)) _ | refine Kept.setCell ?_ (.inr GW101.out) _) | exact HK.out)).1) : w.heap.size ≤ gb102); replace HK := am (Kept.below (S := (fun k_ => (P1_0_ k_) ∨ k_ = g)) (by repeat (first | (with_reducible first | exact HK.out | apply Kept.alloc | apply Kept.drewN | apply Kept.drew | refine Kept.setCell ?_ (.inl (.inr rfl)) _ | refine Kept.setCell ?_ (.inr GW101.out) _) | exact HK.out)) hb); have GE102 := am (by rw [hg]; exact (below_size (pY76)) : w0.heap.size ≤ gb102); replace HB := bS pY76 hb; have NB101_102 := nL pY98 hg; have NB102_101 := nG pY98 hg; replace BK101 := bB pY98 hb; have NB0_102 := am (by rw [hg]; exact Nat.ne_of_lt (IsS103.lt (show IsS103 w0 _ g s0_0 s0_1 from pY85)) : g ≠ gb102); have NB102_0 := am (by rw [hg]; exact Nat.ne_of_gt (IsS103.lt (show IsS103 w0 _ g s0_0 s0_1 from pY85)) : gb102 ≠ g); replace HI0 := am (IsS103.below (pY85) hb); clear hb hbox hg) | ((with_reducible refine gC 132 ?_); refine cE (some 10) Try.func132 (spec_l5Names.calls  t103 _ A3.out) ?_; rintro e w7 ⟨v104, rfl, ho0, hb⟩; refine ⟨_, rfl, ?_⟩; have HO105 := am (Kd.R_lower (Kd.R_new' (Kd.R_newM (M := fun k_ => (P1_0_ k_ ∨ w.heap.size ≤ k_)) ho0 (pY15) (fun k_ h_ => .inr h_)) (Kd.R_lt (rR HO1_0.1))) (below_size (pY57))); replace HO1_0 := am (Kd.R_elder' (rR HO1_0.1) (Kd.R_base ho0) hb); replace BK101 := bB pY98 hb; replace BK102 := bB pY99 hb; replace HK := am (Kept.below (S := (fun k_ => (P1_0_ k_) ∨ k_ = g)) (pY45) hb); replace HB := bS pY57 hb; replace HI0 := am (IsS103.below (pY67) hb); (try clear hb); (try clear ho0)) | ((with_reducible refine gate_dst (N := 11) rfl ?_); refine Kd.R_lit Kd.string _ 9 ?hg (N := 11) ?hd (xs := ([] : List ByteArray)) (inner := []) (ok := fun _ => True) (okp := fun _ => True) ?hr ?hp (fun _ hk => hk) trivial (Below.refl _ _) (Nat.le_refl _) (by simp) ?_; (case hd => rfl); (case hg => rfl); (case hr => first | (go_simp; done) | (go_simp; rfl)); (case hp => exact (Reps.none _ _)); intro v107 w8 ho9 hb hg_ hnew_; clear hg_ hnew_; (first | rw [← Ny106.out] at ho9 | (simp only [Int.reduceToNat] at ho9; rw [← Ny106.out] at ho9)); have HO108 := am (Kd.R_lower (Kd.R_new' (Kd.R_new' (Kd.R_newM (M := fun k_ => (P1_0_ k_ ∨ w.heap.size ≤ k_)) ho9 (pY15) (fun k_ h_ => .inr h_)) (Kd.R_lt (rR HO1_0.1))) (Kd.R_lt (pY120))) (below_size (pY57))); replace HO1_0 := am (Kd.R_elder' (rR HO1_0.1) (Kd.R_base ho9) hb); replace HO105 := am (Kd.R_elder' (pY120) (Kd.R_base ho9) hb); replace BK101 := bB pY98 hb; replace BK102 := bB pY99 hb; replace HK := am (Kept.below (S := (fun k_ => (P1_0_ k_) ∨ k_ = g)) (pY45) hb); replace HB := bS pY57 hb; replace HI0 := am (IsS103.below (pY67) hb); clear hb ho9))
 go_loopg [6, 7] k (fun kq v6 v7 w' => ∃ (x6_1 : List ByteArray) (x7_1 : Int) (x1001_1 : Int) (x102001_1 : List (S56)) (u102001 : Value), v7 = .int .i64 x7_1 ∧ Aside0 (spec_l5Wild.l0 kq t103 x6_1 x7_1 s0_0 x1001_1 l1_0 x102001_1 = some (r1, r2, r3)) ∧ Aside0 (kq ≤ k) ∧ Aside0 (Kd.R Kd.string 9 w' w0.heap.size (fun k_ => (P1_0_ k_ ∨ w.heap.size ≤ k_) ∧ some k_ ≠ (v6 : Value).ownBlock ∧ some k_ ≠ ((.slice Ao4 l1_0.length co4) : Value).ownBlock) v104 t103) ∧ Aside0 (Kd.R Kd.string 9 w' w0.heap.size (fun k_ => (P1_0_ k_ ∨ w.heap.size ≤ k_) ∧ some k_ ≠ (v104 : Value).ownBlock ∧ some k_ ≠ ((.slice Ao4 l1_0.length co4) : Value).ownBlock) v6 x6_1) ∧ Aside0 (Kd.R Kd.string 9 w' w0.heap.size (fun k_ => (P1_0_ k_ ∨ w.heap.size ≤ k_) ∧ some k_ ≠ (v104 : Value).ownBlock ∧ some k_ ≠ (v6 : Value).ownBlock) (.slice Ao4 l1_0.length co4) l1_0) ∧ Aside0 (Kd.N k56 56 w' w.heap.size (fun k_ => (P1_0_ k_ ∨ w.heap.size ≤ k_) ∧ some k_ ≠ (v104 : Value).ownBlock ∧ some k_ ≠ (v6 : Value).ownBlock ∧ some k_ ≠ ((.slice Ao4 l1_0.length co4) : Value).ownBlock ∧ k_ ≠ gb101 ∧ k_ ≠ gb102 ∧ k_ ≠ g) u102001 x102001_1) ∧ Aside0 (w'.heap[gb101]? = some (.cells #[(.slice Ao4 l1_0.length co4), u102001] 31 (0, 0))) ∧ Aside0 (w'.heap[gb102]? = some (.cells #[(.slice none 0 0), (.slice none 0 0)] 31 (0, 0))) ∧ Aside0 (IsS103 w0 w' g s0_0 x1001_1) ∧ Aside0 (Kept w w' (fun k_ => (P1_0_ k_) ∨ k_ = g)) ∧ Aside0 (Below w0.heap.size w0 w'))
 case atStart => exact ⟨(y106), (0), (s0_1), (([] : List (S56))), (.slice none 0 0), (pY136), H', ⟨Nat.le_refl _⟩, ⟨by refine rR ?_; exact Kd.R_mono HO105.1 (fun _ hk => ⟨hk.1.1.1, ⟨hk.2, hk.1.2⟩⟩)⟩, ⟨by refine rR ?_; exact Kd.R_mono HO108.1 (fun _ hk => ⟨hk.1.1.1, ⟨hk.2, hk.1.2⟩⟩)⟩, ⟨by refine rR ?_; exact Kd.R_mono HO1_0.1 (fun _ hk => ⟨hk.1.1, ⟨hk.1.2, hk.2⟩⟩)⟩, ⟨by first | exact Kd.S_nil _ _ _ _ _ | exact Kd.N_nil _ _ _ _ _ | exact Kd.V_nil _ _ _ _ _ | exact Kd.Q_nil _ _ _ _ _ | exact Kd.R_nil _ _ _ _ _⟩, ⟨rB BK101.1⟩, ⟨rB BK102.1⟩, ⟨pY67⟩, ⟨pY45⟩, ⟨pY57⟩⟩
 case round =>
  clear H'
  obtain ⟨x6_1, x7_1, x1001_1, x102001_1, u102001, rfl, HA, HK1, HO_5, HO_6, HO_102000, HO_102001, BK101, BK102, HI0, HK, HB⟩ := hrel
  cases gk with
  | zero => exact absurd HA.out (by simp [spec_l5Wild.l0])
  | succ k1 =>
   have H := HA.out
   clear HA
   simp only [spec_l5Wild.l0] at H
   refine ic H ?_ ?_ <;> clear H <;> intro c10b0 H
   ·obtain ⟨⟨t109, t110⟩, A11, H⟩ := bd H
    dsimp only at H
    by_cases c12 : t109 = 0
    ·rw [if_pos c12] at H
     have c12b0 : (t109 == 0) = true := beq_iff_eq.mpr c12
     have c12b1 : (t109 != 0) = false := bne_eq_false_iff_eq.mpr c12
     clear c12
     have H' := am H
     clear H
     obtain ⟨Ao13, co13, eo13⟩ := Kd.R_slice HO_5.1
     subst eo13
     go_wp2_with (first | ((with_reducible refine gC 100 ?_); refine cQ (some 19) Try.func100 (spec_l1Rd_pick.calls k1 g s0_0 x1001_1 4 t109 t110 w0 _ ((pY67)) ((pY57)) A11.out) ?_; rintro w14 ⟨hi, hb, hk⟩; replace HO_5 := am (Kd.R_mono (Kd.R_keep (IsS103.apart (show IsS103 w0 _ g s0_0 x1001_1 from pY67) (pY129) (by decide)) hk (fun _ h => h.2)) (fun _ h => h.1)); replace HO_6 := am (Kd.R_mono (Kd.R_keep (IsS103.apart (show IsS103 w0 _ g s0_0 x1001_1 from pY67) (pY130) (by decide)) hk (fun _ h => h.2)) (fun _ h => h.1)); replace HO_102000 := am (Kd.R_mono (Kd.R_keep (IsS103.apart (show IsS103 w0 _ g s0_0 x1001_1 from pY67) (pY109) (by decide)) hk (fun _ h => h.2)) (fun _ h => h.1)); replace HO_102001 := am (Kd.N_mono (Kd.N_keep (Kd.N_mono (ok := fun k_ => (((P1_0_ k_ ∨ w.heap.size ≤ k_)) ∧ (some k_ ≠ (.slice Ao13 t103.length co13 : Value).ownBlock ∧ (some k_ ≠ (u6 : Value).ownBlock ∧ (some k_ ≠ (.slice Ao4 l1_0.length co4 : Value).ownBlock ∧ (k_ ≠ gb101 ∧ (k_ ≠ gb102 ∧ k_ ≠ g))))))) (pY110) (fun k_ hk_ => (⟨hk_, hk_.2.2.2.2.2.2⟩ : _ ∧ k_ ≠ g))) hk (fun _ h => h.2)) (fun _ h => h.1)); replace BK101 := kb pY98 hk NB101_0; replace BK102 := kb pY99 hk NB102_0; replace HK := am (Kept.of_keep (S := (fun k_ => (P1_0_ k_) ∨ k_ = g)) (pY45) hk (.inl (.inr rfl))); replace HB := am (hb); replace HI0 := am (hi); (try clear hb); (try clear hk); (try clear hi)))
     go_roundg k1
     case measure => have := HK1.out; omega
     case rel => exact ⟨(x6_1), (wrap64 (x7_1 + 1)), (t110), (x102001_1), (u102001), (pY136), H', ⟨by have := HK1.out; omega⟩, ⟨rR HO_5.1⟩, ⟨rR HO_6.1⟩, ⟨rR HO_102000.1⟩, ⟨rN HO_102001.1⟩, ⟨rB BK101.1⟩, ⟨rB BK102.1⟩, ⟨pY67⟩, ⟨pY45⟩, ⟨pY57⟩⟩
    ·rw [if_neg c12] at H
     have c12b0 : (t109 == 0) = false := beq_eq_false_iff_ne.mpr c12
     have c12b1 : (t109 != 0) = true := bne_iff_ne.mpr c12
     obtain ⟨c15b0, H⟩ := cN H
     obtain ⟨⟨t112, t115⟩, A16, H⟩ := bd H
     dsimp only at H
     have H' := am H
     clear H
     obtain ⟨Ao17, co17, eo17⟩ := Kd.R_slice HO_5.1
     subst eo17
     try go_wp2_with (first | ((with_reducible refine gC 100 ?_); refine cQ (some 19) Try.func100 (spec_l1Rd_pick.calls k1 g s0_0 x1001_1 4 t109 t110 w0 _ ((pY67)) ((pY57)) A11.out) ?_; rintro w18 ⟨hi, hb, hk⟩; replace HO_5 := am (Kd.R_mono (Kd.R_keep (IsS103.apart (show IsS103 w0 _ g s0_0 x1001_1 from pY67) (pY129) (by decide)) hk (fun _ h => h.2)) (fun _ h => h.1)); replace HO_6 := am (Kd.R_mono (Kd.R_keep (IsS103.apart (show IsS103 w0 _ g s0_0 x1001_1 from pY67) (pY130) (by decide)) hk (fun _ h => h.2)) (fun _ h => h.1)); replace HO_102000 := am (Kd.R_mono (Kd.R_keep (IsS103.apart (show IsS103 w0 _ g s0_0 x1001_1 from pY67) (pY109) (by decide)) hk (fun _ h => h.2)) (fun _ h => h.1)); replace HO_102001 := am (Kd.N_mono (Kd.N_keep (Kd.N_mono (ok := fun k_ => (((P1_0_ k_ ∨ w.heap.size ≤ k_)) ∧ (some k_ ≠ (.slice Ao17 t103.length co17 : Value).ownBlock ∧ (some k_ ≠ (u6 : Value).ownBlock ∧ (some k_ ≠ (.slice Ao4 l1_0.length co4 : Value).ownBlock ∧ (k_ ≠ gb101 ∧ (k_ ≠ gb102 ∧ k_ ≠ g))))))) (pY110) (fun k_ hk_ => (⟨hk_, hk_.2.2.2.2.2.2⟩ : _ ∧ k_ ≠ g))) hk (fun _ h => h.2)) (fun _ h => h.1)); replace BK101 := kb pY98 hk NB101_0; replace BK102 := kb pY99 hk NB102_0; replace HK := am (Kept.of_keep (S := (fun k_ => (P1_0_ k_) ∨ k_ = g)) (pY45) hk (.inl (.inr rfl))); replace HB := am (hb); replace HI0 := am (hi); (try clear hb); (try clear hk); (try clear hi)))
     replace HO_5 := am (Kd.R_drew HO_5.1)
     replace HO_6 := am (Kd.R_drew HO_6.1)
     replace HO_102000 := am (Kd.R_drew HO_102000.1)
     replace HO_102001 := am (Kd.N_drew HO_102001.1)
     replace BK101 := am (blk_drew BK101.1)
     replace BK102 := am (blk_drew BK102.1)
     replace HI0 := am (IsS103.drew HI0.out)
     replace HK := am (Kept.drew HK.out)
     replace HB := am (below_drew1 HB.1)
     obtain ⟨ad111, e111, hx111_0, p111, q111⟩ := aS (am (Kd.R_reads' HO_5.1).2.2) b0 x7_1
     cases e111
     refine sT (S := fun w' => w'.cell? ⟨gb101, 0, none⟩ = some (.slice Ao4 l1_0.length co4) ∧ w'.cell? ⟨gb101, 1, none⟩ = some (u102001) ∧ w'.cell? (ad111.add (x7_1).toNat) = some (.string (rdOf ByteArray.empty t103 x7_1))) [] 11 ⟨⟨(blk_cell BK101.1 0).trans rfl, (blk_cell BK101.1 1).trans rfl, hx111_0⟩⟩ (fun hHeld => ?_); refine with_tabW spec_l5Wild.tab7 spec_l5Wild.bits7 (fun HT_ HW_ => ?_)
     generalize w18.drew = w19 at HO_5 HO_6 HO_102000 HO_102001 BK101 BK102 HI0 HK HB hx111_0 hHeld ⊢
     refine pU 0 (some 21) ?_
     refine pU 1 (some 22) ?_
     refine pU 2 (some 23) ?_
     refine pU 4 (some 25) ?_
     refine pU 5 (some 26) ?_
     refine tK3 3 (some 24) ?_
     refine tK3 6 (some 27) ?_
     refine join_ (σ := Value × Nat) 1 (bz 11 1023) (fun s_ => [(28, s_.1), (8, .pointer (some ⟨s_.2, 0, none⟩)), (29, .agg #[.string (rdOf ByteArray.empty t103 x7_1), .slice none 0 0, s_.1])]) (fun s_ w' => (w'.cell? ⟨gb101, 0, none⟩ = some (.slice Ao4 l1_0.length co4) ∧ w'.cell? ⟨gb101, 1, none⟩ = some (u102001) ∧ w'.cell? (ad111.add (x7_1).toNat) = some (.string (rdOf ByteArray.empty t103 x7_1))) ∧ (Kd.R Kd.string 9 w' w0.heap.size (fun k_ => (P1_0_ k_ ∨ w.heap.size ≤ k_) ∧ some k_ ≠ (.slice Ao4 l1_0.length co4 : Value).ownBlock ∧ some k_ ≠ (.slice (some ad111) t103.length co17 : Value).ownBlock ∧ some k_ ≠ (u6 : Value).ownBlock) s_.1 t112) ∧ (Kd.R Kd.string 9 w' w0.heap.size (fun k_ => (P1_0_ k_ ∨ w.heap.size ≤ k_) ∧ some k_ ≠ (s_.1 : Value).ownBlock ∧ some k_ ≠ (.slice (some ad111) t103.length co17 : Value).ownBlock ∧ some k_ ≠ (u6 : Value).ownBlock) (.slice Ao4 l1_0.length co4) l1_0) ∧ (Kd.N k56 56 w' w.heap.size (fun k_ => (P1_0_ k_ ∨ w.heap.size ≤ k_) ∧ some k_ ≠ (s_.1 : Value).ownBlock ∧ some k_ ≠ (.slice Ao4 l1_0.length co4 : Value).ownBlock ∧ some k_ ≠ (.slice (some ad111) t103.length co17 : Value).ownBlock ∧ some k_ ≠ (u6 : Value).ownBlock ∧ k_ ≠ g ∧ k_ ≠ gb101 ∧ k_ ≠ gb102 ∧ k_ ≠ s_.2) u102001 x102001_1) ∧ (Kd.R Kd.string 9 w' w0.heap.size (fun k_ => (P1_0_ k_ ∨ w.heap.size ≤ k_) ∧ some k_ ≠ (s_.1 : Value).ownBlock ∧ some k_ ≠ (.slice Ao4 l1_0.length co4 : Value).ownBlock ∧ some k_ ≠ (u6 : Value).ownBlock) (.slice (some ad111) t103.length co17) t103) ∧ (Kd.R Kd.string 9 w' w0.heap.size (fun k_ => (P1_0_ k_ ∨ w.heap.size ≤ k_) ∧ some k_ ≠ (s_.1 : Value).ownBlock ∧ some k_ ≠ (.slice Ao4 l1_0.length co4 : Value).ownBlock ∧ some k_ ≠ (.slice (some ad111) t103.length co17 : Value).ownBlock) u6 x6_1) ∧ (w'.heap[gb101]? = some (.cells #[.slice Ao4 l1_0.length co4, u102001] 31 (0, 0))) ∧ (w'.heap[gb102]? = some (.cells #[.slice none 0 0, .slice none 0 0] 31 (0, 0))) ∧ (w'.heap[s_.2]? = some (.cells #[.string (⟨#[]⟩ : ByteArray), .slice none 0 0, .slice none 0 0] 56 (0, 0))) ∧ (w.heap.size ≤ s_.2) ∧ (w0.heap.size ≤ s_.2) ∧ (g ≠ s_.2) ∧ (s_.2 ≠ g) ∧ (gb101 ≠ s_.2) ∧ (s_.2 ≠ gb101) ∧ (gb102 ≠ s_.2) ∧ (s_.2 ≠ gb102) ∧ (IsS103 w0 w' g s0_0 t115) ∧ (Kept w w' (fun k_ => (P1_0_ k_) ∨ k_ = g)) ∧ (Below w0.heap.size w0 w')) ?_ ?_
     rotate_left
     ·intro hCont
      refine two_ (i := 7) (j := 9) (Ni := some 28) (Nj := some 8) (bz 11 255) (bz 11 639) rfl rfl rfl rfl (two_of HT_.out (by kernel_rfl)) (by decide) (by decide) (fun K hK => ?_) (fun K hK => ?_)
      ·skip
       refine goes_ Try.func109 (by kernel_rfl) rfl #[.pointer (some ⟨g, 0, none⟩), .slice Ao4 l1_0.length co4, .int .i64 2] (by rfl) rfl rfl (pY94) ?_
       with_reducible refine (spec_l5Some.calls k1 g s0_0 t110 _ _ l1_0 2 t112 t115 w0 _ ?side1 ?side2 ?side3 ?side4 ?side5 A16.out).mono ?_
       (case side1 => exact (pY67))
       (case side2 => exact (pY57))
       (case side3 => exact pC (Kd.R_reads' HO_102000.1).2.2)
       (case side4 => exact (Kd.R_reads' HO_102000.1).2.1)
       (case side5 => exact far_slice (IsS103.own_ne HI0.out HO_102000.1 (by decide)))
       rintro e w20 ⟨v113, rfl, ho0, hi, hb, hk⟩
       have HS2_ := keep_cell hk (hHeld.2.2) (by first | (rw [add_block]; exact Kd.own_blk (IsS103.own_ne HI0.out HO_5.1 (by decide))) | (show (Addr.add _ _).block ≠ _; rw [add_block]; exact Kd.own_blk (IsS103.own_ne HI0.out HO_5.1 (by decide))) | exact Kd.own_blk (IsS103.own_ne HI0.out HO_5.1 (by decide)))
       refine ⟨_, rfl, ?_⟩
       replace HO_102001 := am (Kd.N_mono (Kd.N_told (Kd.N_oldK (Kd.N_mono (ok := fun k_ => (((P1_0_ k_ ∨ w.heap.size ≤ k_)) ∧ (some k_ ≠ (.slice (some ad111) t103.length co17 : Value).ownBlock ∧ (some k_ ≠ (u6 : Value).ownBlock ∧ (some k_ ≠ (.slice Ao4 l1_0.length co4 : Value).ownBlock ∧ (k_ ≠ gb101 ∧ (k_ ≠ gb102 ∧ k_ ≠ g))))))) (pY110) (fun k_ hk_ => (⟨hk_, hk_.2.2.2.2.2.2⟩ : _ ∧ k_ ≠ g))) hk) (Kd.R_base ho0)) (fun _ h_ => h_.1))
       replace BK101 := kb pY98 hk NB101_0
       replace BK102 := kb pY99 hk NB102_0
       have HO114 := am (Kd.R_lower (Kd.R_new' (Kd.R_new' (Kd.R_new' (Kd.R_newM (M := fun k_ => (P1_0_ k_ ∨ w.heap.size ≤ k_)) ho0 (pY15) (fun k_ h_ => .inr h_)) (Kd.R_lt (pY129))) (Kd.R_lt (pY130))) (Kd.R_lt (pY109))) (below_size (pY57)))
       replace HO_5 := am (Kd.R_mono (Kd.R_told (Kd.R_oldK (IsS103.apart (show IsS103 w0 _ g s0_0 t110 from pY67) (pY129) (by decide)) hk) (Kd.R_base ho0)) (fun _ h_ => h_.1))
       replace HO_6 := am (Kd.R_mono (Kd.R_told (Kd.R_oldK (IsS103.apart (show IsS103 w0 _ g s0_0 t110 from pY67) (pY130) (by decide)) hk) (Kd.R_base ho0)) (fun _ h_ => h_.1))
       replace HO_102000 := am (Kd.R_mono (Kd.R_told (Kd.R_oldK (IsS103.apart (show IsS103 w0 _ g s0_0 t110 from pY67) (pY109) (by decide)) hk) (Kd.R_base ho0)) (fun _ h_ => h_.1))
       replace HK := am (Kept.of_keep (S := (fun k_ => (P1_0_ k_) ∨ k_ = g)) (pY45) hk (.inl (.inr rfl)))
       replace HB := am (hb)
       replace HI0 := am (hi)
       (try clear hb)
       (try clear hb2)
       (try clear hk)
       (try clear hi)
       (try clear ho0)
       obtain ⟨Ao21, co21, eo21⟩ := Kd.R_slice HO114.1
       (first | subst eo21 | (injection eo21 with f1_ f2_ f3_; have f4_ := f1_.symm; have f5_ := f3_.symm; clear f1_ f2_ f3_; subst f4_; subst f5_))
       refine hK.out _ _ ⟨(blk_cell BK101.1 0).trans rfl, (blk_cell BK101.1 1).trans rfl, HS2_⟩ (fun hHeld => ?_)
       clear hK K
       refine nM ?_
       refine pU 8 (some 29) ?_
       refine oN 9 (some 8) fun K hK => ?_
       refine box_step ?hg (N := 8) ?hd (cs := #[.string (⟨#[]⟩ : ByteArray), .slice none 0 0, .slice none 0 0]) (t := 56) ?hr ?_; (case hd => rfl); (case hg => rfl); (case hr => first | (go_simp; done) | (go_simp; rfl))
       intro gb116 hg w22 hbox hb
       have HS2_ := (hb.cell (World.block_lt_of_cell? _ _ (hHeld.2.2))).trans (hHeld.2.2)
       replace HO_5 := am (Kd.R_below (pY129) hb)
       replace HO_6 := am (Kd.R_below (pY130) hb)
       replace HO_102000 := am (Kd.R_below (pY109) hb)
       replace HO_102001 := am (Kd.N_below (Kd.N_elderB (pY110) gb116 (Nat.le_of_eq hg.symm)) hb)
       replace HO114 := am (Kd.R_below (rR HO114.1) hb)
       have BK116 := am (hbox)
       have GW116 := am (by rw [hg]; exact (pY15) : w.heap.size ≤ gb116)
       replace HK := am (Kept.below (S := (fun k_ => (P1_0_ k_) ∨ k_ = g)) (pY45) hb)
       have GE116 := am (by rw [hg]; exact (below_size (pY57)) : w0.heap.size ≤ gb116)
       replace HB := bS pY57 hb
       have NB101_116 := nL pY98 hg
       have NB116_101 := nG pY98 hg
       replace BK101 := bB pY98 hb
       have NB102_116 := nL pY99 hg
       have NB116_102 := nG pY99 hg
       replace BK102 := bB pY99 hb
       have NB0_116 := am (by rw [hg]; exact Nat.ne_of_lt (IsS103.lt (show IsS103 w0 _ g s0_0 t115 from pY67)) : g ≠ gb116)
       have NB116_0 := am (by rw [hg]; exact Nat.ne_of_gt (IsS103.lt (show IsS103 w0 _ g s0_0 t115 from pY67)) : gb116 ≠ g)
       replace HI0 := am (IsS103.below (pY67) hb)
       clear hb hbox hg
       refine hK.out _ _ ⟨(blk_cell BK101.1 0).trans rfl, (blk_cell BK101.1 1).trans rfl, HS2_⟩ (fun hHeld => ?_)
       clear hK K
       refine nM ?_
       exact norm_ (pY132) (hCont (.slice Ao21 t112.length co21, gb116) _ ⟨hHeld, (by refine rR ?_; exact Kd.R_mono HO114.1 (fun _ hk => ⟨hk.1.1.1.1, ⟨hk.2, ⟨hk.1.1.2, hk.1.2⟩⟩⟩)), (by refine rR ?_; exact Kd.R_mono HO_102000.1 (fun _ hk => ⟨hk.1.1, ⟨hk.2, ⟨hk.1.2.1, hk.1.2.2⟩⟩⟩)), (by refine rN ?_; exact Kd.N_mono HO_102001.1 (fun _ hk => ⟨hk.1.1.1, ⟨hk.1.2, ⟨hk.1.1.2.2.2.1, ⟨hk.1.1.2.1, ⟨hk.1.1.2.2.1, ⟨hk.1.1.2.2.2.2.2.2, ⟨hk.1.1.2.2.2.2.1, ⟨hk.1.1.2.2.2.2.2.1, hk.2⟩⟩⟩⟩⟩⟩⟩⟩)), (by refine rR ?_; exact Kd.R_mono HO_5.1 (fun _ hk => ⟨hk.1.1, ⟨hk.2, ⟨hk.1.2.2, hk.1.2.1⟩⟩⟩)), (by refine rR ?_; exact Kd.R_mono HO_6.1 (fun _ hk => ⟨hk.1.1, ⟨hk.2, ⟨hk.1.2.2, hk.1.2.1⟩⟩⟩)), (pY98), (pY99), (pY101), GW116.out, GE116.1, NB0_116.1, NB116_0.1, NB101_116.1, NB116_101.1, NB102_116.1, NB116_102.1, (pY34), (pY17), (pY23)⟩)
      ·skip
       refine box_step ?hg (N := 8) ?hd (cs := #[.string (⟨#[]⟩ : ByteArray), .slice none 0 0, .slice none 0 0]) (t := 56) ?hr ?_; (case hd => rfl); (case hg => rfl); (case hr => first | (go_simp; done) | (go_simp; rfl))
       intro gb116 hg w20 hbox hb
       have HS2_ := (hb.cell (World.block_lt_of_cell? _ _ (hHeld.2.2))).trans (hHeld.2.2)
       replace HO_5 := am (Kd.R_below (pY129) hb)
       replace HO_6 := am (Kd.R_below (pY130) hb)
       replace HO_102000 := am (Kd.R_below (pY109) hb)
       replace HO_102001 := am (Kd.N_below (Kd.N_elderB (pY110) gb116 (Nat.le_of_eq hg.symm)) hb)
       have BK116 := am (hbox)
       have GW116 := am (by rw [hg]; exact (pY15) : w.heap.size ≤ gb116)
       replace HK := am (Kept.below (S := (fun k_ => (P1_0_ k_) ∨ k_ = g)) (pY45) hb)
       have GE116 := am (by rw [hg]; exact (below_size (pY57)) : w0.heap.size ≤ gb116)
       replace HB := bS pY57 hb
       have NB101_116 := nL pY98 hg
       have NB116_101 := nG pY98 hg
       replace BK101 := bB pY98 hb
       have NB102_116 := nL pY99 hg
       have NB116_102 := nG pY99 hg
       replace BK102 := bB pY99 hb
       have NB0_116 := am (by rw [hg]; exact Nat.ne_of_lt (IsS103.lt (show IsS103 w0 _ g s0_0 t110 from pY67)) : g ≠ gb116)
       have NB116_0 := am (by rw [hg]; exact Nat.ne_of_gt (IsS103.lt (show IsS103 w0 _ g s0_0 t110 from pY67)) : gb116 ≠ g)
       replace HI0 := am (IsS103.below (pY67) hb)
       clear hb hbox hg
       refine hK.out _ _ ⟨(blk_cell BK101.1 0).trans rfl, (blk_cell BK101.1 1).trans rfl, HS2_⟩ (fun hHeld => ?_)
       clear hK K
       refine nM ?_
       refine oN 7 (some 28) fun K hK => ?_
       refine goes_ Try.func109 (by kernel_rfl) rfl #[.pointer (some ⟨g, 0, none⟩), .slice Ao4 l1_0.length co4, .int .i64 2] (by rfl) rfl rfl (pY94) ?_
       with_reducible refine (spec_l5Some.calls k1 g s0_0 t110 _ _ l1_0 2 t112 t115 w0 _ ?side1 ?side2 ?side3 ?side4 ?side5 A16.out).mono ?_
       (case side1 => exact (pY34))
       (case side2 => exact (pY23))
       (case side3 => exact pC (Kd.R_reads' HO_102000.1).2.2)
       (case side4 => exact (Kd.R_reads' HO_102000.1).2.1)
       (case side5 => exact far_slice (IsS103.own_ne HI0.out HO_102000.1 (by decide)))
       rintro e w21 ⟨v113, rfl, ho0, hi, hb, hk⟩
       have HS2_ := keep_cell hk (hHeld.2.2) (by first | (rw [add_block]; exact Kd.own_blk (IsS103.own_ne HI0.out HO_5.1 (by decide))) | (show (Addr.add _ _).block ≠ _; rw [add_block]; exact Kd.own_blk (IsS103.own_ne HI0.out HO_5.1 (by decide))) | exact Kd.own_blk (IsS103.own_ne HI0.out HO_5.1 (by decide)))
       refine ⟨_, rfl, ?_⟩
       replace HO_102001 := am (Kd.N_mono (Kd.N_told (Kd.N_oldK (Kd.N_mono (ok := fun k_ => ((((P1_0_ k_ ∨ w.heap.size ≤ k_)) ∧ (some k_ ≠ (.slice (some ad111) t103.length co17 : Value).ownBlock ∧ (some k_ ≠ (u6 : Value).ownBlock ∧ (some k_ ≠ (.slice Ao4 l1_0.length co4 : Value).ownBlock ∧ (k_ ≠ gb101 ∧ (k_ ≠ gb102 ∧ k_ ≠ g)))))) ∧ k_ ≠ gb116)) (pY110) (fun k_ hk_ => (⟨hk_, hk_.1.2.2.2.2.2.2⟩ : _ ∧ k_ ≠ g))) hk) (Kd.R_base ho0)) (fun _ h_ => h_.1))
       replace BK101 := kb pY98 hk NB101_0
       replace BK102 := kb pY99 hk NB102_0
       replace BK116 := kb pY101 hk NB116_0
       have HO114 := am (Kd.R_lower (Kd.R_new' (Kd.R_new' (Kd.R_new' (Kd.R_newM (M := fun k_ => (P1_0_ k_ ∨ w.heap.size ≤ k_)) ho0 (pY7) (fun k_ h_ => .inr h_)) (Kd.R_lt (pY129))) (Kd.R_lt (pY130))) (Kd.R_lt (pY109))) (below_size (pY23)))
       replace HO_5 := am (Kd.R_mono (Kd.R_told (Kd.R_oldK (IsS103.apart (show IsS103 w0 _ g s0_0 t110 from pY34) (pY129) (by decide)) hk) (Kd.R_base ho0)) (fun _ h_ => h_.1))
       replace HO_6 := am (Kd.R_mono (Kd.R_told (Kd.R_oldK (IsS103.apart (show IsS103 w0 _ g s0_0 t110 from pY34) (pY130) (by decide)) hk) (Kd.R_base ho0)) (fun _ h_ => h_.1))
       replace HO_102000 := am (Kd.R_mono (Kd.R_told (Kd.R_oldK (IsS103.apart (show IsS103 w0 _ g s0_0 t110 from pY34) (pY109) (by decide)) hk) (Kd.R_base ho0)) (fun _ h_ => h_.1))
       replace HK := am (Kept.of_keep (S := (fun k_ => (P1_0_ k_) ∨ k_ = g)) (pY17) hk (.inl (.inr rfl)))
       replace HB := am (hb)
       replace HI0 := am (hi)
       (try clear hb)
       (try clear hb2)
       (try clear hk)
       (try clear hi)
       (try clear ho0)
       obtain ⟨Ao22, co22, eo22⟩ := Kd.R_slice HO114.1
       (first | subst eo22 | (injection eo22 with f1_ f2_ f3_; have f4_ := f1_.symm; have f5_ := f3_.symm; clear f1_ f2_ f3_; subst f4_; subst f5_))
       refine hK.out _ _ ⟨(blk_cell BK101.1 0).trans rfl, (blk_cell BK101.1 1).trans rfl, HS2_⟩ (fun hHeld => ?_)
       clear hK K
       refine nM ?_
       refine pU 8 (some 29) ?_
       exact norm_ (pY132) (hCont (.slice Ao22 t112.length co22, gb116) _ ⟨hHeld, (by refine rR ?_; exact Kd.R_mono HO114.1 (fun _ hk => ⟨hk.1.1.1.1, ⟨hk.2, ⟨hk.1.1.2, hk.1.2⟩⟩⟩)), (by refine rR ?_; exact Kd.R_mono HO_102000.1 (fun _ hk => ⟨hk.1.1, ⟨hk.2, ⟨hk.1.2.1, hk.1.2.2⟩⟩⟩)), (by refine rN ?_; exact Kd.N_mono HO_102001.1 (fun _ hk => ⟨hk.1.1.1, ⟨hk.2, ⟨hk.1.1.2.2.2.1, ⟨hk.1.1.2.1, ⟨hk.1.1.2.2.1, ⟨hk.1.1.2.2.2.2.2.2, ⟨hk.1.1.2.2.2.2.1, ⟨hk.1.1.2.2.2.2.2.1, hk.1.2⟩⟩⟩⟩⟩⟩⟩⟩)), (by refine rR ?_; exact Kd.R_mono HO_5.1 (fun _ hk => ⟨hk.1.1, ⟨hk.2, ⟨hk.1.2.2, hk.1.2.1⟩⟩⟩)), (by refine rR ?_; exact Kd.R_mono HO_6.1 (fun _ hk => ⟨hk.1.1, ⟨hk.2, ⟨hk.1.2.2, hk.1.2.1⟩⟩⟩)), (pY98), (pY99), (pY101), GW116.out, GE116.1, NB0_116.1, NB116_0.1, NB101_116.1, NB116_101.1, NB102_116.1, NB116_102.1, (pY34), (pY17), (pY23)⟩)
     rintro ⟨v113, gb116⟩ w23 ⟨hS_, h0_, h1_, h2_, h3_, h4_, h5_, h6_, h7_, h8_, h9_, h10_, h11_, h12_, h13_, h14_, h15_, h16_, h17_, h18_⟩
     have HO114 : Aside0 (Kd.R Kd.string 9 w23 w0.heap.size (fun k_ => (P1_0_ k_ ∨ w.heap.size ≤ k_) ∧ some k_ ≠ (.slice Ao4 l1_0.length co4 : Value).ownBlock ∧ some k_ ≠ (.slice (some ad111) t103.length co17 : Value).ownBlock ∧ some k_ ≠ (u6 : Value).ownBlock) v113 t112) := ⟨h0_⟩
     replace HO_102000 : Aside0 (Kd.R Kd.string 9 w23 w0.heap.size (fun k_ => (P1_0_ k_ ∨ w.heap.size ≤ k_) ∧ some k_ ≠ (v113 : Value).ownBlock ∧ some k_ ≠ (.slice (some ad111) t103.length co17 : Value).ownBlock ∧ some k_ ≠ (u6 : Value).ownBlock) (.slice Ao4 l1_0.length co4) l1_0) := ⟨h1_⟩
     replace HO_102001 : Aside0 (Kd.N k56 56 w23 w.heap.size (fun k_ => (P1_0_ k_ ∨ w.heap.size ≤ k_) ∧ some k_ ≠ (v113 : Value).ownBlock ∧ some k_ ≠ (.slice Ao4 l1_0.length co4 : Value).ownBlock ∧ some k_ ≠ (.slice (some ad111) t103.length co17 : Value).ownBlock ∧ some k_ ≠ (u6 : Value).ownBlock ∧ k_ ≠ g ∧ k_ ≠ gb101 ∧ k_ ≠ gb102 ∧ k_ ≠ gb116) u102001 x102001_1) := ⟨h2_⟩
     replace HO_5 : Aside0 (Kd.R Kd.string 9 w23 w0.heap.size (fun k_ => (P1_0_ k_ ∨ w.heap.size ≤ k_) ∧ some k_ ≠ (v113 : Value).ownBlock ∧ some k_ ≠ (.slice Ao4 l1_0.length co4 : Value).ownBlock ∧ some k_ ≠ (u6 : Value).ownBlock) (.slice (some ad111) t103.length co17) t103) := ⟨h3_⟩
     replace HO_6 : Aside0 (Kd.R Kd.string 9 w23 w0.heap.size (fun k_ => (P1_0_ k_ ∨ w.heap.size ≤ k_) ∧ some k_ ≠ (v113 : Value).ownBlock ∧ some k_ ≠ (.slice Ao4 l1_0.length co4 : Value).ownBlock ∧ some k_ ≠ (.slice (some ad111) t103.length co17 : Value).ownBlock) u6 x6_1) := ⟨h4_⟩
     replace BK101 : Aside0 (w23.heap[gb101]? = some (.cells #[.slice Ao4 l1_0.length co4, u102001] 31 (0, 0))) := ⟨h5_⟩
     replace BK102 : Aside0 (w23.heap[gb102]? = some (.cells #[.slice none 0 0, .slice none 0 0] 31 (0, 0))) := ⟨h6_⟩
     have BK116 : Aside0 (w23.heap[gb116]? = some (.cells #[.string (⟨#[]⟩ : ByteArray), .slice none 0 0, .slice none 0 0] 56 (0, 0))) := ⟨h7_⟩
     have GW116 : Aside0 (w.heap.size ≤ gb116) := ⟨h8_⟩
     have GE116 : Aside0 (w0.heap.size ≤ gb116) := ⟨h9_⟩
     have NB0_116 : Aside0 (g ≠ gb116) := ⟨h10_⟩
     have NB116_0 : Aside0 (gb116 ≠ g) := ⟨h11_⟩
     have NB101_116 : Aside0 (gb101 ≠ gb116) := ⟨h12_⟩
     have NB116_101 : Aside0 (gb116 ≠ gb101) := ⟨h13_⟩
     have NB102_116 : Aside0 (gb102 ≠ gb116) := ⟨h14_⟩
     have NB116_102 : Aside0 (gb116 ≠ gb102) := ⟨h15_⟩
     replace HI0 : Aside0 (IsS103 w0 w23 g s0_0 t115) := ⟨h16_⟩
     replace HK : Aside0 (Kept w w23 (fun k_ => (P1_0_ k_) ∨ k_ = g)) := ⟨h17_⟩
     replace HB : Aside0 (Below w0.heap.size w0 w23) := ⟨h18_⟩
     clear h0_ h1_ h2_ h3_ h4_ h5_ h6_ h7_ h8_ h9_ h10_ h11_ h12_ h13_ h14_ h15_ h16_ h17_ h18_
     have hHeld : w23.cell? ⟨gb101, 0, none⟩ = some (.slice Ao4 l1_0.length co4) ∧ w23.cell? ⟨gb101, 1, none⟩ = some (u102001) ∧ w23.cell? (ad111.add (x7_1).toNat) = some (.string (rdOf ByteArray.empty t103 x7_1)) := hS_
     obtain ⟨Ao24, co24, eo24⟩ := Kd.R_slice HO114.1
     (first | subst eo24 | (injection eo24 with f1_ f2_ f3_; have f4_ := f1_.symm; have f5_ := f3_.symm; clear f1_ f2_ f3_; subst f4_; subst f5_))
     refine norm_ (a' := ?_) ?_ ?_
     rotate_left
     ·simp only [putAll, Act.put, List.setIfInBounds_toArray, List.set_cons_zero, List.set_cons_succ]
      rfl
     refine oN 10 none fun K hK => ?_
     have hs25 : w23.cell? ⟨gb116, 0, none⟩ = some (.string (⟨#[]⟩ : ByteArray)) := (blk_cell BK116.1 0).trans rfl
     have hfs25 := blk_frozen BK116.1 0
     have hns25_0 := NB101_116.1
     have hns25_1 := NB102_116.1
     have hms25_0 := NB116_101.1
     have hms25_1 := NB116_102.1
     have hs26 : w23.cell? ⟨gb116, 1, none⟩ = some (.slice none 0 0) := (blk_cell BK116.1 1).trans rfl
     have hfs26 := blk_frozen BK116.1 1
     have hns26_0 := NB101_116.1
     have hns26_1 := NB102_116.1
     have hms26_0 := NB116_101.1
     have hms26_1 := NB116_102.1
     have hs27 : w23.cell? ⟨gb116, 2, none⟩ = some (.slice none 0 0) := (blk_cell BK116.1 2).trans rfl
     have hfs27 := blk_frozen BK116.1 2
     have hns27_0 := NB101_116.1
     have hns27_1 := NB102_116.1
     have hms27_0 := NB116_101.1
     have hms27_1 := NB116_102.1
     refine skip_ (w1 := ?_) (by rfl) rfl ?_ ?_
     rotate_left
     ·go_simp
      rfl
     refine hK.out _ _ ⟨((cell_far (p := ⟨gb116, _, none⟩) NB101_116.1 _).trans (((cell_far (p := ⟨gb116, _, none⟩) NB101_116.1 _).trans (((cell_far (p := ⟨gb116, _, none⟩) NB101_116.1 _).trans (hHeld.1)))))), ((cell_far (p := ⟨gb116, _, none⟩) NB101_116.1 _).trans (((cell_far (p := ⟨gb116, _, none⟩) NB101_116.1 _).trans (((cell_far (p := ⟨gb116, _, none⟩) NB101_116.1 _).trans (hHeld.2.1)))))), ((cell_far (p := ⟨gb116, _, none⟩) (pY16) _).trans (((cell_far (p := ⟨gb116, _, none⟩) (pY16) _).trans (((cell_far (p := ⟨gb116, _, none⟩) (pY16) _).trans (hHeld.2.2))))))⟩ (fun hHeld => ?_)
     clear hK K
     refine done_ (done_of HT_.out (by kernel_rfl)) ?_
     try go_wp2
     go_loopg [6, 9] k1 (fun kq v6 v9 w' => ∃ (x6_2 : List ByteArray) (x9_2 : Int) (x1001_2 : Int) (x117001_2 : List ByteArray) (u117001 : Value), v9 = .int .i64 x9_2 ∧ Aside0 (spec_l5Wild.l1 kq t103 x6_2 x7_1 x9_2 s0_0 x1001_2 l1_0 x102001_1 (rdOf ByteArray.empty t103 x7_1) x117001_2 t112 = some (r1, r2, r3)) ∧ Aside0 (kq ≤ k1) ∧ Aside0 (Kd.R Kd.string 9 w' w0.heap.size (fun k_ => (P1_0_ k_ ∨ w.heap.size ≤ k_) ∧ some k_ ≠ (v6 : Value).ownBlock ∧ some k_ ≠ ((.slice Ao4 l1_0.length co4) : Value).ownBlock ∧ some k_ ≠ (u117001 : Value).ownBlock ∧ some k_ ≠ ((.slice Ao24 t112.length co24) : Value).ownBlock) (.slice (some ad111) t103.length co17) t103) ∧ Aside0 (Kd.R Kd.string 9 w' w0.heap.size (fun k_ => (P1_0_ k_ ∨ w.heap.size ≤ k_) ∧ some k_ ≠ ((.slice (some ad111) t103.length co17) : Value).ownBlock ∧ some k_ ≠ ((.slice Ao4 l1_0.length co4) : Value).ownBlock ∧ some k_ ≠ (u117001 : Value).ownBlock ∧ some k_ ≠ ((.slice Ao24 t112.length co24) : Value).ownBlock) v6 x6_2) ∧ Aside0 (Kd.R Kd.string 9 w' w0.heap.size (fun k_ => (P1_0_ k_ ∨ w.heap.size ≤ k_) ∧ some k_ ≠ ((.slice (some ad111) t103.length co17) : Value).ownBlock ∧ some k_ ≠ (v6 : Value).ownBlock ∧ some k_ ≠ (u117001 : Value).ownBlock ∧ some k_ ≠ ((.slice Ao24 t112.length co24) : Value).ownBlock) (.slice Ao4 l1_0.length co4) l1_0) ∧ Aside0 (Kd.N k56 56 w' w.heap.size (fun k_ => (P1_0_ k_ ∨ w.heap.size ≤ k_) ∧ some k_ ≠ ((.slice (some ad111) t103.length co17) : Value).ownBlock ∧ some k_ ≠ (v6 : Value).ownBlock ∧ some k_ ≠ ((.slice Ao4 l1_0.length co4) : Value).ownBlock ∧ some k_ ≠ (u117001 : Value).ownBlock ∧ some k_ ≠ ((.slice Ao24 t112.length co24) : Value).ownBlock ∧ k_ ≠ gb101 ∧ k_ ≠ gb102 ∧ k_ ≠ gb116 ∧ k_ ≠ g) u102001 x102001_1) ∧ Aside0 (Kd.R Kd.string 9 w' w0.heap.size (fun k_ => (P1_0_ k_ ∨ w.heap.size ≤ k_) ∧ some k_ ≠ ((.slice (some ad111) t103.length co17) : Value).ownBlock ∧ some k_ ≠ (v6 : Value).ownBlock ∧ some k_ ≠ ((.slice Ao4 l1_0.length co4) : Value).ownBlock ∧ some k_ ≠ ((.slice Ao24 t112.length co24) : Value).ownBlock) u117001 x117001_2) ∧ Aside0 (Kd.R Kd.string 9 w' w0.heap.size (fun k_ => (P1_0_ k_ ∨ w.heap.size ≤ k_) ∧ some k_ ≠ ((.slice (some ad111) t103.length co17) : Value).ownBlock ∧ some k_ ≠ (v6 : Value).ownBlock ∧ some k_ ≠ ((.slice Ao4 l1_0.length co4) : Value).ownBlock ∧ some k_ ≠ (u117001 : Value).ownBlock) (.slice Ao24 t112.length co24) t112) ∧ Aside0 (w'.heap[gb101]? = some (.cells #[(.slice Ao4 l1_0.length co4), u102001] 31 (0, 0))) ∧ Aside0 (w'.heap[gb102]? = some (.cells #[(.slice none 0 0), (.slice none 0 0)] 31 (0, 0))) ∧ Aside0 (w'.heap[gb116]? = some (.cells #[.string (rdOf ByteArray.empty t103 x7_1), u117001, (.slice Ao24 t112.length co24)] 56 (0, 0))) ∧ Aside0 (IsS103 w0 w' g s0_0 x1001_2) ∧ Aside0 (Kept w w' (fun k_ => (P1_0_ k_) ∨ k_ = g)) ∧ Aside0 (Below w0.heap.size w0 w'))
     case atStart => exact ⟨(x6_1), (0), (t115), (([] : List ByteArray)), (.slice none 0 0), (pY136), H', ⟨Nat.le_refl _⟩, ⟨by refine rR ?_; exact Kd.R_mono (fR (fR (fR (tR HO_5 BK116)))) (fun _ hk => ⟨hk.1.1, ⟨hk.1.2.2.2, ⟨hk.1.2.2.1, ⟨(by simp [Value.ownBlock]), hk.1.2.1⟩⟩⟩⟩)⟩, ⟨by refine rR ?_; exact Kd.R_mono (fR (fR (fR (tR HO_6 BK116)))) (fun _ hk => ⟨hk.1.1, ⟨hk.1.2.2.2, ⟨hk.1.2.2.1, ⟨(by simp [Value.ownBlock]), hk.1.2.1⟩⟩⟩⟩)⟩, ⟨by refine rR ?_; exact Kd.R_mono (fR (fR (fR (tR HO_102000 BK116)))) (fun _ hk => ⟨hk.1.1, ⟨hk.1.2.2.1, ⟨hk.1.2.2.2, ⟨(by simp [Value.ownBlock]), hk.1.2.1⟩⟩⟩⟩)⟩, ⟨by refine rN ?_; exact Kd.N_mono (fN (fN (fN (Kd.N_mono HO_102001.1 (fun k_ hk => (⟨hk, hk.2.2.2.2.2.2.2.2⟩ : _ ∧ k_ ≠ gb116)))))) (fun _ hk => ⟨hk.1.1, ⟨hk.1.2.2.2.1, ⟨hk.1.2.2.2.2.1, ⟨hk.1.2.2.1, ⟨(by simp [Value.ownBlock]), ⟨hk.1.2.1, ⟨hk.1.2.2.2.2.2.2.1, ⟨hk.1.2.2.2.2.2.2.2.1, ⟨hk.1.2.2.2.2.2.2.2.2, hk.1.2.2.2.2.2.1⟩⟩⟩⟩⟩⟩⟩⟩⟩)⟩, ⟨by first | exact Kd.R_nil _ _ _ _ _ | exact Kd.N_nil _ _ _ _ _ | exact Kd.V_nil _ _ _ _ _ | exact Kd.Q_nil _ _ _ _ _ | exact Kd.S_nil _ _ _ _ _⟩, ⟨by refine rR ?_; exact Kd.R_mono (fR (fR (fR (tR HO114 BK116)))) (fun _ hk => ⟨hk.1.1, ⟨hk.1.2.2.1, ⟨hk.1.2.2.2, ⟨hk.1.2.1, (by simp [Value.ownBlock])⟩⟩⟩⟩)⟩, ⟨by refine rB ?_; refine blk_far ?_ NB101_116.1 _; refine rB ?_; refine blk_far ?_ NB101_116.1 _; refine rB ?_; refine blk_far ?_ NB101_116.1 _; refine rB ?_; exact BK101.1⟩, ⟨by refine rB ?_; refine blk_far ?_ NB102_116.1 _; refine rB ?_; refine blk_far ?_ NB102_116.1 _; refine rB ?_; refine blk_far ?_ NB102_116.1 _; refine rB ?_; exact BK102.1⟩, ⟨by refine rB ?_; refine blk_put (cs := #[.string (rdOf ByteArray.empty t103 x7_1), .slice none 0 0, .slice none 0 0]) ?_ 2 _ rfl; refine rB ?_; refine blk_put (cs := #[.string (rdOf ByteArray.empty t103 x7_1), .slice none 0 0, .slice none 0 0]) ?_ 1 _ rfl; refine rB ?_; refine blk_put (cs := #[.string (⟨#[]⟩ : ByteArray), .slice none 0 0, .slice none 0 0]) ?_ 0 _ rfl; refine rB ?_; exact BK116.1⟩, ⟨pY34⟩, ⟨pY17⟩, ⟨pY23⟩⟩
     case round =>
      clear H'
      try clear c10b0
      try clear c12
      try clear c12b0
      try clear c12b1
      try clear c15b0
      try clear hx111_0
      try clear p111 q111
      obtain ⟨x6_2, x9_2, x1001_2, x117001_2, u117001, rfl, HA, HK2, HO_5, HO_6, HO_102000, HO_102001, HO_117001, HO_117002, BK101, BK102, BK116, HI0, HK, HB⟩ := hrel
      cases gk with
      | zero => exact absurd HA.out (by simp [spec_l5Wild.l1])
      | succ k2 =>
       have H := HA.out
       clear HA
       simp only [spec_l5Wild.l1] at H
       refine ic H ?_ ?_ <;> clear H <;> intro c28b0 H
       ·obtain ⟨c29b0, H⟩ := cN H
        obtain ⟨t121, A30, H⟩ := bd H
        refine tC H ?_ ?_ <;> clear H <;> intro c31 H <;> subst c31
        ·have H' := am H
         clear H
         have hnb32 := NB116_101.1
         have hnc32 := NB101_116.1
         have hnb33 := NB116_102.1
         have hnc33 := NB102_116.1
         have hnb34 := NB116_0.1
         have hnc34 := NB0_116.1
         obtain ⟨hcz35_0, hcz35_1, hcz35_2, hfz35_0, hfz35_1, hfz35_2⟩ := cz3 BK116
         obtain ⟨ad120, e120, hx120_0, p120, q120⟩ := aS (am (Kd.R_reads' HO_117002.1).2.2) b0 x9_2
         cases e120
         obtain ⟨Ao36, co36, eo36⟩ := Kd.R_slice HO_6.1
         subst eo36
         go_wp2_with (first | ((with_reducible refine gC 80 ?_); refine cQ (some 43) Try.func80 (spec_l1Has.calls k2 _ _ x6_2 (rdOf ByteArray.empty t112 x9_2) true _ (pC (Kd.R_reads' HO_6.1).2.2) ((Kd.R_reads' HO_6.1).2.1) A30.out) ?_; rintro w' ⟨nd, rfl⟩))
         go_roundg k2
         case measure => have := HK1.out; have := HK2.out; omega
         case rel => exact ⟨(x6_2), (wrap64 (x9_2 + 1)), (x1001_2), (x117001_2), (u117001), (pY136), H', ⟨by have := HK1.out; have := HK2.out; omega⟩, ⟨rR HO_5.1⟩, ⟨rR HO_6.1⟩, ⟨rR HO_102000.1⟩, ⟨rN HO_102001.1⟩, ⟨rR HO_117001.1⟩, ⟨rR HO_117002.1⟩, ⟨rB BK101.1⟩, ⟨rB BK102.1⟩, ⟨rB BK116.1⟩, ⟨pY34⟩, ⟨pY17⟩, ⟨pY23⟩⟩
        ·obtain ⟨⟨t122, t123⟩, A37, H⟩ := bd H
         dsimp only at H
         by_cases c38 : t122 = 0
         ·rw [if_pos c38] at H
          have c38b0 : (t122 == 0) = true := beq_iff_eq.mpr c38
          have c38b1 : (t122 != 0) = false := bne_eq_false_iff_eq.mpr c38
          clear c38
          by_cases c39 : x6_2.length < 8796093022208
          ·rw [if_pos c39] at H
           have LMc39 := am c39
           clear c39
           obtain ⟨y125, Ny125⟩ := yv (x6_2 ++ [rdOf ByteArray.empty t112 x9_2]); first | replace H := bW Ny125 H | rw [← Ny125.1] at H
           by_cases c40 : x117001_2.length < 8796093022208
           ·rw [if_pos c40] at H
            have LMc40 := am c40
            clear c40
            obtain ⟨y129, Ny129⟩ := yv (x117001_2 ++ [rdOf ByteArray.empty t112 x9_2]); first | replace H := bW Ny129 H | rw [← Ny129.1] at H
            have H' := am H
            clear H
            have hnb41 := NB116_101.1
            have hnc41 := NB101_116.1
            have hnb42 := NB116_102.1
            have hnc42 := NB102_116.1
            have hnb43 := NB116_0.1
            have hnc43 := NB0_116.1
            obtain ⟨hcz44_0, hcz44_1, hcz44_2, hfz44_0, hfz44_1, hfz44_2⟩ := cz3 BK116
            obtain ⟨ad120, e120, hx120_0, p120, q120⟩ := aS (am (Kd.R_reads' HO_117002.1).2.2) b0 x9_2
            cases e120
            obtain ⟨Ao45, co45, eo45⟩ := Kd.R_slice HO_6.1
            subst eo45
            try go_wp2_with (first | ((with_reducible refine gC 80 ?_); refine cQ (some 43) Try.func80 (spec_l1Has.calls k2 _ _ x6_2 (rdOf ByteArray.empty t112 x9_2) false _ (pC (Kd.R_reads' HO_6.1).2.2) ((Kd.R_reads' HO_6.1).2.1) A30.out) ?_; rintro w' ⟨nd, rfl⟩; (try (rw [drewN_self wr]; generalize hq_ : World.drewN wr _ = wr; have n0_ : Aside0 (Kd.R Kd.string 9 wr w0.heap.size (fun k_ => (((P1_0_ k_ ∨ w.heap.size ≤ k_)) ∧ (some k_ ≠ (.slice (some ad111) t103.length co17 : Value).ownBlock ∧ (some k_ ≠ (.slice Ao45 x6_2.length co45 : Value).ownBlock ∧ (some k_ ≠ (u117001 : Value).ownBlock ∧ some k_ ≠ (.slice (some ad120) t112.length co24 : Value).ownBlock))))) (.slice Ao4 l1_0.length co4) l1_0) := ⟨by rw [← hq_]; exact (pY109)⟩; have n1_ : Aside0 (Kd.N k56 56 wr w.heap.size (fun k_ => (((P1_0_ k_ ∨ w.heap.size ≤ k_)) ∧ (some k_ ≠ (.slice (some ad111) t103.length co17 : Value).ownBlock ∧ (some k_ ≠ (.slice Ao45 x6_2.length co45 : Value).ownBlock ∧ (some k_ ≠ (.slice Ao4 l1_0.length co4 : Value).ownBlock ∧ (some k_ ≠ (u117001 : Value).ownBlock ∧ (some k_ ≠ (.slice (some ad120) t112.length co24 : Value).ownBlock ∧ (k_ ≠ gb101 ∧ (k_ ≠ gb102 ∧ (k_ ≠ gb116 ∧ k_ ≠ g)))))))))) u102001 x102001_1) := ⟨by rw [← hq_]; exact (pY110)⟩; have n2_ : Aside0 (Kd.R Kd.string 9 wr w0.heap.size (fun k_ => (((P1_0_ k_ ∨ w.heap.size ≤ k_)) ∧ (some k_ ≠ (.slice (some ad111) t103.length co17 : Value).ownBlock ∧ (some k_ ≠ (.slice Ao45 x6_2.length co45 : Value).ownBlock ∧ (some k_ ≠ (.slice Ao4 l1_0.length co4 : Value).ownBlock ∧ some k_ ≠ (.slice (some ad120) t112.length co24 : Value).ownBlock))))) u117001 x117001_2) := ⟨by rw [← hq_]; exact (rR HO_117001.1)⟩; have n3_ : Aside0 (Kd.R Kd.string 9 wr w0.heap.size (fun k_ => (((P1_0_ k_ ∨ w.heap.size ≤ k_)) ∧ (some k_ ≠ (.slice (some ad111) t103.length co17 : Value).ownBlock ∧ (some k_ ≠ (.slice Ao45 x6_2.length co45 : Value).ownBlock ∧ (some k_ ≠ (.slice Ao4 l1_0.length co4 : Value).ownBlock ∧ some k_ ≠ (u117001 : Value).ownBlock))))) (.slice (some ad120) t112.length co24) t112) := ⟨by rw [← hq_]; exact (rR HO_117002.1)⟩; have n4_ : Aside0 (Kd.R Kd.string 9 wr w0.heap.size (fun k_ => (((P1_0_ k_ ∨ w.heap.size ≤ k_)) ∧ (some k_ ≠ (.slice Ao45 x6_2.length co45 : Value).ownBlock ∧ (some k_ ≠ (.slice Ao4 l1_0.length co4 : Value).ownBlock ∧ (some k_ ≠ (u117001 : Value).ownBlock ∧ some k_ ≠ (.slice (some ad120) t112.length co24 : Value).ownBlock))))) (.slice (some ad111) t103.length co17) t103) := ⟨by rw [← hq_]; exact (pY129)⟩; have n5_ : Aside0 (Kd.R Kd.string 9 wr w0.heap.size (fun k_ => (((P1_0_ k_ ∨ w.heap.size ≤ k_)) ∧ (some k_ ≠ (.slice (some ad111) t103.length co17 : Value).ownBlock ∧ (some k_ ≠ (.slice Ao4 l1_0.length co4 : Value).ownBlock ∧ (some k_ ≠ (u117001 : Value).ownBlock ∧ some k_ ≠ (.slice (some ad120) t112.length co24 : Value).ownBlock))))) (.slice Ao45 x6_2.length co45) x6_2) := ⟨by rw [← hq_]; exact (pY130)⟩; have n6_ : Aside0 (wr.heap[gb101]? = some (.cells #[.slice Ao4 l1_0.length co4, u102001] 31 (0, 0))) := ⟨by rw [← hq_]; exact (pY98)⟩; have n7_ : Aside0 (wr.heap[gb102]? = some (.cells #[.slice none 0 0, .slice none 0 0] 31 (0, 0))) := ⟨by rw [← hq_]; exact (pY99)⟩; have n8_ : Aside0 (wr.heap[gb116]? = some (.cells #[.string (rdOf ByteArray.empty t103 x7_1), u117001, .slice (some ad120) t112.length co24] 56 (0, 0))) := ⟨by rw [← hq_]; exact (pY101)⟩; have n9_ : Aside0 (IsS103 w0 wr g s0_0 x1001_2) := ⟨by rw [← hq_]; exact (pY34)⟩; have n10_ : Aside0 (Kept w wr (fun k_ => (P1_0_ k_) ∨ k_ = g)) := ⟨by rw [← hq_]; exact (pY17)⟩; have n11_ : Aside0 (Below w0.heap.size w0 wr) := ⟨by rw [← hq_]; exact (pY23)⟩; clear HO_102000 HO_102001 HO_117001 HO_117002 HO_5 HO_6 BK101 BK102 BK116 HI0 HK HB hq_; have HO_102000 := n0_; have HO_102001 := n1_; have HO_117001 := n2_; have HO_117002 := n3_; have HO_5 := n4_; have HO_6 := n5_; have BK101 := n6_; have BK102 := n7_; have BK116 := n8_; have HI0 := n9_; have HK := n10_; have HB := n11_; clear n0_ n1_ n2_ n3_ n4_ n5_ n6_ n7_ n8_ n9_ n10_ n11_))) | (go_at_call 100; refine cM (spec_l1Rd_pick.calls k2 g s0_0 x1001_2 2 t122 t123 w0 _ ((pY34)) ((pY23)) A37.out) ?_; rintro w46 ⟨hi, hb, hk⟩; replace HO_5 := am (Kd.R_mono (Kd.R_keep (IsS103.apart (show IsS103 w0 _ g s0_0 x1001_2 from pY34) (pY129) (by decide)) hk (fun _ h => h.2)) (fun _ h => h.1)); replace HO_6 := am (Kd.R_mono (Kd.R_keep (IsS103.apart (show IsS103 w0 _ g s0_0 x1001_2 from pY34) (pY130) (by decide)) hk (fun _ h => h.2)) (fun _ h => h.1)); replace HO_102000 := am (Kd.R_mono (Kd.R_keep (IsS103.apart (show IsS103 w0 _ g s0_0 x1001_2 from pY34) (pY109) (by decide)) hk (fun _ h => h.2)) (fun _ h => h.1)); replace HO_102001 := am (Kd.N_mono (Kd.N_keep (Kd.N_mono (ok := fun k_ => (((P1_0_ k_ ∨ w.heap.size ≤ k_)) ∧ (some k_ ≠ (.slice (some ad111) t103.length co17 : Value).ownBlock ∧ (some k_ ≠ (.slice Ao45 x6_2.length co45 : Value).ownBlock ∧ (some k_ ≠ (.slice Ao4 l1_0.length co4 : Value).ownBlock ∧ (some k_ ≠ (u117001 : Value).ownBlock ∧ (some k_ ≠ (.slice (some ad120) t112.length co24 : Value).ownBlock ∧ (k_ ≠ gb101 ∧ (k_ ≠ gb102 ∧ (k_ ≠ gb116 ∧ k_ ≠ g)))))))))) (pY110) (fun k_ hk_ => (⟨hk_, hk_.2.2.2.2.2.2.2.2.2⟩ : _ ∧ k_ ≠ g))) hk (fun _ h => h.2)) (fun _ h => h.1)); replace HO_117001 := am (Kd.R_mono (Kd.R_keep (IsS103.apart (show IsS103 w0 _ g s0_0 x1001_2 from pY34) (rR HO_117001.1) (by decide)) hk (fun _ h => h.2)) (fun _ h => h.1)); replace HO_117002 := am (Kd.R_mono (Kd.R_keep (IsS103.apart (show IsS103 w0 _ g s0_0 x1001_2 from pY34) (rR HO_117002.1) (by decide)) hk (fun _ h => h.2)) (fun _ h => h.1)); replace BK101 := kb pY98 hk NB101_0; replace BK102 := kb pY99 hk NB102_0; replace BK116 := kb pY101 hk NB116_0; replace HK := am (Kept.of_keep (S := (fun k_ => (P1_0_ k_) ∨ k_ = g)) (pY17) hk (.inl (.inr rfl))); replace HB := am (hb); replace HI0 := am (hi); (try clear hb); (try clear hk); (try clear hi); obtain ⟨hcz47_0, hcz47_1, hcz47_2, hfz47_0, hfz47_1, hfz47_2⟩ := cz3 BK116; obtain ⟨ad124, e124, hx124_0, p124, q124⟩ := aS (am (Kd.R_reads' HO_117002.1).2.2) b0 x9_2; obtain rfl : ad120 = ad124 := (by injection e124)) | ((with_reducible refine gate_builtin (b := .append) (xs := #[.tmp 50, .tmp 56]) rfl ?_); at_builtin; refine Kd.R_append Kd.string (w0 := w0) w0.heap.size rfl (.tmp 50) (.tmp 56) 23 9 (.string ⟨#[]⟩) 16 rfl Try.underlying23 info9 rfl (by decide) (by omega) (.slice Ao45 x6_2.length co45) x6_2 (rdOf ByteArray.empty t112 x9_2) [.string (rdOf ByteArray.empty t112 x9_2)] (fun k_ => (P1_0_ k_ ∨ w.heap.size ≤ k_) ∧ some k_ ≠ (.slice (some ad111) t103.length co17 : Value).ownBlock ∧ some k_ ≠ (.slice Ao4 l1_0.length co4 : Value).ownBlock ∧ some k_ ≠ (u117001 : Value).ownBlock ∧ some k_ ≠ (.slice (some ad120) t112.length co24 : Value).ownBlock) (fun _ => False) rfl rfl ?aP (fun _ hk => hk.elim) ?aF ?aO ?aB ?aS ?aL ?_; (case aP => exact rfl); (case aB => exact (pY23)); (case aF => exact (fun k_ hk => ⟨(.inr (Nat.le_trans (pY7) hk)), Kd.fresh' (Kd.R_lt (pY129)) k_ hk, Kd.fresh' (Kd.R_lt (pY109)) k_ hk, Kd.fresh' (Kd.R_lt (rR HO_117001.1)) k_ hk, Kd.fresh' (Kd.R_lt (rR HO_117002.1)) k_ hk⟩)); (case aO => exact (pY130)); (case aS => exact (below_size (pY23))); (case aL => have := LMc39.out; omega); intro v126 w48 ho hb hg hat; rw [← Ny125.out] at ho; replace HO_5 := am (Kd.R_after (ok := (fun k_ => (P1_0_ k_ ∨ w.heap.size ≤ k_) ∧ some k_ ≠ (.slice Ao4 l1_0.length co4 : Value).ownBlock ∧ some k_ ≠ (u117001 : Value).ownBlock ∧ some k_ ≠ (.slice (some ad120) t112.length co24 : Value).ownBlock)) (by refine rR ?_; exact Kd.R_mono HO_5.1 (fun _ hk => ⟨⟨hk.1, ⟨hk.2.2.1, ⟨hk.2.2.2.1, hk.2.2.2.2⟩⟩⟩, hk.2.1⟩)) hg hat); replace HO_102000 := am (Kd.R_after (ok := (fun k_ => (P1_0_ k_ ∨ w.heap.size ≤ k_) ∧ some k_ ≠ (.slice (some ad111) t103.length co17 : Value).ownBlock ∧ some k_ ≠ (u117001 : Value).ownBlock ∧ some k_ ≠ (.slice (some ad120) t112.length co24 : Value).ownBlock)) (by refine rR ?_; exact Kd.R_mono HO_102000.1 (fun _ hk => ⟨⟨hk.1, ⟨hk.2.1, ⟨hk.2.2.2.1, hk.2.2.2.2⟩⟩⟩, hk.2.2.1⟩)) hg hat); replace HO_102001 := am (Kd.N_afterv (ok := (fun k_ => (P1_0_ k_ ∨ w.heap.size ≤ k_) ∧ some k_ ≠ (.slice (some ad111) t103.length co17 : Value).ownBlock ∧ some k_ ≠ (.slice Ao4 l1_0.length co4 : Value).ownBlock ∧ some k_ ≠ (u117001 : Value).ownBlock ∧ some k_ ≠ (.slice (some ad120) t112.length co24 : Value).ownBlock ∧ k_ ≠ gb101 ∧ k_ ≠ gb102 ∧ k_ ≠ gb116 ∧ k_ ≠ g)) (by refine rN ?_; exact Kd.N_mono HO_102001.1 (fun _ hk => ⟨⟨hk.1, ⟨hk.2.1, ⟨hk.2.2.2.1, ⟨hk.2.2.2.2.1, ⟨hk.2.2.2.2.2.1, ⟨hk.2.2.2.2.2.2.1, ⟨hk.2.2.2.2.2.2.2.1, ⟨hk.2.2.2.2.2.2.2.2.1, hk.2.2.2.2.2.2.2.2.2⟩⟩⟩⟩⟩⟩⟩⟩, hk.2.2.1⟩)) hg hat); replace HO_117001 := am (Kd.R_after (ok := (fun k_ => (P1_0_ k_ ∨ w.heap.size ≤ k_) ∧ some k_ ≠ (.slice (some ad111) t103.length co17 : Value).ownBlock ∧ some k_ ≠ (.slice Ao4 l1_0.length co4 : Value).ownBlock ∧ some k_ ≠ (.slice (some ad120) t112.length co24 : Value).ownBlock)) (by refine rR ?_; exact Kd.R_mono HO_117001.1 (fun _ hk => ⟨⟨hk.1, ⟨hk.2.1, ⟨hk.2.2.2.1, hk.2.2.2.2⟩⟩⟩, hk.2.2.1⟩)) hg hat); replace HO_117002 := am (Kd.R_after (ok := (fun k_ => (P1_0_ k_ ∨ w.heap.size ≤ k_) ∧ some k_ ≠ (.slice (some ad111) t103.length co17 : Value).ownBlock ∧ some k_ ≠ (.slice Ao4 l1_0.length co4 : Value).ownBlock ∧ some k_ ≠ (u117001 : Value).ownBlock)) (by refine rR ?_; exact Kd.R_mono HO_117002.1 (fun _ hk => ⟨⟨hk.1, ⟨hk.2.1, ⟨hk.2.2.2.1, hk.2.2.2.2⟩⟩⟩, hk.2.2.1⟩)) hg hat); replace BK101 := gR pY98 hg HO_6 BK101; replace BK102 := gR pY99 hg HO_6 BK102; replace BK116 := gR pY101 hg HO_6 BK116; replace HI0 := am (IsS103.grown (pY34) hg (IsS103.own_ne HI0.out HO_6.1 (by decide))); replace HB := am (hb); replace HK := am (Kept.of_grown (S := (fun k_ => (P1_0_ k_) ∨ k_ = g)) hg (pY17) (fun k_ e_ => Or.imp_left Or.inl ((HO_6.1.1 k_ e_).1))); have HO127 := am (ho); clear HO_6; clear ho hb hg hat))
            replace HO_5 := am (Kd.R_drew HO_5.1)
            replace HO_102000 := am (Kd.R_drew HO_102000.1)
            replace HO_102001 := am (Kd.N_drew HO_102001.1)
            replace HO_117001 := am (Kd.R_drew HO_117001.1)
            replace HO_117002 := am (Kd.R_drew HO_117002.1)
            replace HO127 := am (Kd.R_drew HO127.1)
            replace BK101 := am (blk_drew BK101.1)
            replace BK102 := am (blk_drew BK102.1)
            replace BK116 := am (blk_drew BK116.1)
            replace HI0 := am (IsS103.drew HI0.out)
            replace HK := am (Kept.drew HK.out)
            replace HB := am (below_drew1 HB.1)
            obtain ⟨ad128, e128, hx128_0, p128, q128⟩ := aS (am (Kd.R_reads' HO_117002.1).2.2) b0 x9_2
            obtain rfl : ad120 = ad128 := (by injection e128)
            refine sT (S := fun w' => w'.cell? ⟨gb116, 0, none⟩ = some (.string (rdOf ByteArray.empty t103 x7_1)) ∧ w'.cell? ⟨gb116, 1, none⟩ = some (u117001) ∧ w'.cell? ⟨gb116, 2, none⟩ = some (.slice (some ad120) t112.length co24) ∧ w'.cell? (ad120.add (x9_2).toNat) = some (.string (rdOf ByteArray.empty t112 x9_2))) [8, 10] 11 ⟨⟨(blk_cell BK116.1 0).trans rfl, (blk_cell BK116.1 1).trans rfl, (blk_cell BK116.1 2).trans rfl, hx128_0⟩⟩ (fun hHeld => ?_); refine with_tabW spec_l5Wild.tab13 spec_l5Wild.bits13 (fun HT_ HW_ => ?_)
            generalize w48.drew = w49 at HO_5 HO_102000 HO_102001 HO_117001 HO_117002 HO127 BK101 BK102 BK116 HI0 HK HB hx128_0 hHeld ⊢
            refine pU 0 (some 58) ?_
            refine pU 2 (some 60) ?_
            refine pU 4 (some 62) ?_
            refine tK4 1 (some 59) ?_
            refine tK4 3 (some 61) ?_
            refine pU 5 (some 63) ?_
            refine tK4 6 (some 64) ?_
            refine oN 7 (some 65) fun K hK => ?_
            refine value_ (w1 := ?_) (v := ?_) (by rfl) rfl ?_ ?_
            rotate_left 2
            ·go_simp
             constructor
             ·rfl
             ·rfl
            refine hK.out _ _ ⟨(blk_cell (blk_alloc BK116.1 _) 0).trans rfl, (blk_cell (blk_alloc BK116.1 _) 1).trans rfl, (blk_cell (blk_alloc BK116.1 _) 2).trans rfl, (World.cell?_alloc_lt _ _ _ (World.block_lt_of_cell? _ _ (hHeld.2.2.2))).trans (hHeld.2.2.2)⟩ (fun hHeld => ?_)
            clear hK K
            refine nM ?_
            refine last_ (i := 8) (N := some 66) (bz 11 511) rfl rfl (one_of HT_.out (by kernel_rfl)) (by decide) (fun K hK => ?_)
            refine Kd.R_append_step Kd.string (w0 := w0) w0.heap.size (by rfl) (.tmp 59) (.tmp 65) 23 9 (.string ⟨#[]⟩) 16 rfl Try.underlying23 info9 rfl (by decide) (by omega) u117001 x117001_2 (rdOf ByteArray.empty t112 x9_2) [.string (rdOf ByteArray.empty t112 x9_2)] (fun k_ => (P1_0_ k_ ∨ w.heap.size ≤ k_) ∧ some k_ ≠ (.slice (some ad111) t103.length co17 : Value).ownBlock ∧ some k_ ≠ (.slice Ao4 l1_0.length co4 : Value).ownBlock ∧ some k_ ≠ (.slice (some ad120) t112.length co24 : Value).ownBlock ∧ some k_ ≠ (v126 : Value).ownBlock) (fun _ => False) rfl rfl ?aP (fun _ hk => hk.elim) ?aF ?aO ?aB ?aS ?aL ?_
            (case aP => exact rfl)
            (case aB => exact (pY23))
            (case aF => exact (fun k_ hk => ⟨(.inr (Nat.le_trans (pY7) hk)), Kd.fresh' (Kd.R_lt (pY129)) k_ hk, Kd.fresh' (Kd.R_lt (pY109)) k_ hk, Kd.fresh' (Kd.R_lt (rR HO_117002.1)) k_ hk, Kd.fresh' (Kd.R_lt (rR HO127.1)) k_ hk⟩))
            (case aO => exact (by refine rR ?_; exact Kd.R_mono HO_117001.1 (fun _ hk => ⟨hk.1.1, ⟨hk.1.2.1, ⟨hk.1.2.2.1, ⟨hk.1.2.2.2, hk.2⟩⟩⟩⟩)))
            (case aS => exact (below_size (pY23)))
            (case aL => have := LMc40.out; omega)
            intro v130 w50 ho hb hg hat
            rw [← Ny129.out] at ho
            replace HO_5 := am (Kd.R_after (ok := (fun k_ => (P1_0_ k_ ∨ w.heap.size ≤ k_) ∧ some k_ ≠ (.slice Ao4 l1_0.length co4 : Value).ownBlock ∧ some k_ ≠ (.slice (some ad120) t112.length co24 : Value).ownBlock ∧ some k_ ≠ (v126 : Value).ownBlock)) (by refine rR ?_; exact Kd.R_mono HO_5.1 (fun _ hk => ⟨⟨hk.1.1, ⟨hk.1.2.1, ⟨hk.1.2.2.2, hk.2⟩⟩⟩, hk.1.2.2.1⟩)) hg hat)
            replace HO_102000 := am (Kd.R_after (ok := (fun k_ => (P1_0_ k_ ∨ w.heap.size ≤ k_) ∧ some k_ ≠ (.slice (some ad111) t103.length co17 : Value).ownBlock ∧ some k_ ≠ (.slice (some ad120) t112.length co24 : Value).ownBlock ∧ some k_ ≠ (v126 : Value).ownBlock)) (by refine rR ?_; exact Kd.R_mono HO_102000.1 (fun _ hk => ⟨⟨hk.1.1, ⟨hk.1.2.1, ⟨hk.1.2.2.2, hk.2⟩⟩⟩, hk.1.2.2.1⟩)) hg hat)
            replace HO_102001 := am (Kd.N_afterv (ok := (fun k_ => (P1_0_ k_ ∨ w.heap.size ≤ k_) ∧ some k_ ≠ (.slice (some ad111) t103.length co17 : Value).ownBlock ∧ some k_ ≠ (.slice Ao4 l1_0.length co4 : Value).ownBlock ∧ some k_ ≠ (.slice (some ad120) t112.length co24 : Value).ownBlock ∧ some k_ ≠ (v126 : Value).ownBlock ∧ k_ ≠ gb101 ∧ k_ ≠ gb102 ∧ k_ ≠ gb116 ∧ k_ ≠ g)) (by refine rN ?_; exact Kd.N_mono HO_102001.1 (fun _ hk => ⟨⟨hk.1.1, ⟨hk.1.2.1, ⟨hk.1.2.2.1, ⟨hk.1.2.2.2.2.1, ⟨hk.2, ⟨hk.1.2.2.2.2.2.1, ⟨hk.1.2.2.2.2.2.2.1, ⟨hk.1.2.2.2.2.2.2.2.1, hk.1.2.2.2.2.2.2.2.2⟩⟩⟩⟩⟩⟩⟩⟩, hk.1.2.2.2.1⟩)) hg hat)
            replace HO_117002 := am (Kd.R_after (ok := (fun k_ => (P1_0_ k_ ∨ w.heap.size ≤ k_) ∧ some k_ ≠ (.slice (some ad111) t103.length co17 : Value).ownBlock ∧ some k_ ≠ (.slice Ao4 l1_0.length co4 : Value).ownBlock ∧ some k_ ≠ (v126 : Value).ownBlock)) (by refine rR ?_; exact Kd.R_mono HO_117002.1 (fun _ hk => ⟨⟨hk.1.1, ⟨hk.1.2.1, ⟨hk.1.2.2.1, hk.2⟩⟩⟩, hk.1.2.2.2⟩)) hg hat)
            replace BK101 := gR pY98 hg HO_117001 BK101
            replace BK102 := gR pY99 hg HO_117001 BK102
            replace BK116 := gR pY101 hg HO_117001 BK116
            replace HI0 := am (IsS103.grown (pY34) hg (IsS103.own_ne HI0.out HO_117001.1 (by decide)))
            replace HO127 := am (Kd.R_after (ok := (fun k_ => (P1_0_ k_ ∨ w.heap.size ≤ k_) ∧ some k_ ≠ (.slice (some ad111) t103.length co17 : Value).ownBlock ∧ some k_ ≠ (.slice Ao4 l1_0.length co4 : Value).ownBlock ∧ some k_ ≠ (.slice (some ad120) t112.length co24 : Value).ownBlock)) (by refine rR ?_; exact Kd.R_mono HO127.1 (fun _ hk => ⟨⟨hk.1, ⟨hk.2.1, ⟨hk.2.2.1, hk.2.2.2.2⟩⟩⟩, hk.2.2.2.1⟩)) hg hat)
            replace HB := am (hb)
            replace HK := am (Kept.of_grown (S := (fun k_ => (P1_0_ k_) ∨ k_ = g)) hg (pY17) (fun k_ e_ => Or.imp_left Or.inl ((HO_117001.1.1 k_ e_).1.1)))
            have HO131 := am (ho)
            clear HO_117001
            clear ho hb hg hat
            obtain ⟨Ao51, co51, eo51⟩ := Kd.R_slice HO131.1
            (first | subst eo51 | (injection eo51 with f1_ f2_ f3_; have f4_ := f1_.symm; have f5_ := f3_.symm; clear f1_ f2_ f3_; subst f4_; subst f5_))
            refine hK.out _ _ ?_
            clear hK K
            refine nM ?_
            refine pU 9 (some 67) ?_
            refine last_ (i := 10) (N := none) (bz 11 2047) rfl rfl (one_of HT_.out (by kernel_rfl)) (by decide) (fun K hK => ?_)
            have hs52 : w50.cell? ⟨gb116, 1, none⟩ = some (u117001) := (blk_cell BK116.1 1).trans rfl
            have hfs52 := blk_frozen BK116.1 1
            have hns52_0 := NB101_116.1
            have hns52_1 := NB102_116.1
            have hms52_0 := NB116_101.1
            have hms52_1 := NB116_102.1
            refine skip_ (w1 := ?_) (by rfl) rfl ?_ ?_
            rotate_left
            ·go_simp
             rfl
            refine hK.out _ _ ?_
            clear hK K
            refine done_ (done_of HT_.out (by kernel_rfl)) ?_
            try go_wp2
            go_roundg k2
            case measure => have := HK1.out; have := HK2.out; omega
            case rel => exact ⟨(y125), (wrap64 (x9_2 + 1)), (t123), (y129), (.slice Ao51 y129.length co51), (pY136), H', ⟨by have := HK1.out; have := HK2.out; omega⟩, ⟨by refine rR ?_; exact Kd.R_mono (fR (tR HO_5 BK116)) (fun _ hk => ⟨hk.1.1.1, ⟨hk.1.1.2.2.2, ⟨hk.1.1.2.1, ⟨hk.1.2, hk.1.1.2.2.1⟩⟩⟩⟩)⟩, ⟨by refine rR ?_; exact Kd.R_mono (fR (tR HO127 BK116)) (fun _ hk => ⟨hk.1.1.1, ⟨hk.1.1.2.1, ⟨hk.1.1.2.2.1, ⟨hk.1.2, hk.1.1.2.2.2⟩⟩⟩⟩)⟩, ⟨by refine rR ?_; exact Kd.R_mono (fR (tR HO_102000 BK116)) (fun _ hk => ⟨hk.1.1.1, ⟨hk.1.1.2.1, ⟨hk.1.1.2.2.2, ⟨hk.1.2, hk.1.1.2.2.1⟩⟩⟩⟩)⟩, ⟨by refine rN ?_; exact Kd.N_mono (fN (Kd.N_mono HO_102001.1 (fun k_ hk => (⟨hk, hk.1.2.2.2.2.2.2.2.1⟩ : _ ∧ k_ ≠ gb116)))) (fun _ hk => ⟨hk.1.1.1, ⟨hk.1.1.2.1, ⟨hk.1.1.2.2.2.2.1, ⟨hk.1.1.2.2.1, ⟨hk.1.2, ⟨hk.1.1.2.2.2.1, ⟨hk.1.1.2.2.2.2.2.1, ⟨hk.1.1.2.2.2.2.2.2.1, ⟨hk.1.1.2.2.2.2.2.2.2.1, hk.1.1.2.2.2.2.2.2.2.2⟩⟩⟩⟩⟩⟩⟩⟩⟩)⟩, ⟨by refine rR ?_; exact Kd.R_mono (fR (tR HO131 BK116)) (fun _ hk => ⟨hk.1.1, ⟨hk.1.2.1, ⟨hk.1.2.2.2.2, ⟨hk.1.2.2.1, hk.1.2.2.2.1⟩⟩⟩⟩)⟩, ⟨by refine rR ?_; exact Kd.R_mono (fR (tR HO_117002 BK116)) (fun _ hk => ⟨hk.1.1.1, ⟨hk.1.1.2.1, ⟨hk.1.1.2.2.2, ⟨hk.1.1.2.2.1, hk.1.2⟩⟩⟩⟩)⟩, ⟨by refine rB ?_; refine blk_far ?_ NB101_116.1 _; refine rB ?_; exact BK101.1⟩, ⟨by refine rB ?_; refine blk_far ?_ NB102_116.1 _; refine rB ?_; exact BK102.1⟩, ⟨by refine rB ?_; refine blk_put (cs := #[.string (rdOf ByteArray.empty t103 x7_1), u117001, .slice (some ad120) t112.length co24]) ?_ 1 _ rfl; refine rB ?_; exact BK116.1⟩, ⟨pY34⟩, ⟨pY17⟩, ⟨pY23⟩⟩
           ·rw [if_neg c40] at H
            exact absurd H (by simp)
          ·rw [if_neg c39] at H
           exact absurd H (by simp)
         ·rw [if_neg c38] at H
          have c38b0 : (t122 == 0) = false := beq_eq_false_iff_ne.mpr c38
          have c38b1 : (t122 != 0) = true := bne_iff_ne.mpr c38
          have H' := am H
          clear H
          have hnb53 := NB116_101.1
          have hnc53 := NB101_116.1
          have hnb54 := NB116_102.1
          have hnc54 := NB102_116.1
          have hnb55 := NB116_0.1
          have hnc55 := NB0_116.1
          obtain ⟨hcz56_0, hcz56_1, hcz56_2, hfz56_0, hfz56_1, hfz56_2⟩ := cz3 BK116
          obtain ⟨ad120, e120, hx120_0, p120, q120⟩ := aS (am (Kd.R_reads' HO_117002.1).2.2) b0 x9_2
          cases e120
          obtain ⟨Ao57, co57, eo57⟩ := Kd.R_slice HO_6.1
          subst eo57
          go_wp2_with (first | ((with_reducible refine gC 80 ?_); refine cQ (some 43) Try.func80 (spec_l1Has.calls k2 _ _ x6_2 (rdOf ByteArray.empty t112 x9_2) false _ (pC (Kd.R_reads' HO_6.1).2.2) ((Kd.R_reads' HO_6.1).2.1) A30.out) ?_; rintro w' ⟨nd, rfl⟩) | (go_at_call 100; refine cM (spec_l1Rd_pick.calls k2 g s0_0 x1001_2 2 t122 t123 w0 _ ((pY34)) ((pY23)) A37.out) ?_; rintro w58 ⟨hi, hb, hk⟩; replace HO_5 := am (Kd.R_mono (Kd.R_keep (IsS103.apart (show IsS103 w0 _ g s0_0 x1001_2 from pY34) (pY129) (by decide)) hk (fun _ h => h.2)) (fun _ h => h.1)); replace HO_6 := am (Kd.R_mono (Kd.R_keep (IsS103.apart (show IsS103 w0 _ g s0_0 x1001_2 from pY34) (pY130) (by decide)) hk (fun _ h => h.2)) (fun _ h => h.1)); replace HO_102000 := am (Kd.R_mono (Kd.R_keep (IsS103.apart (show IsS103 w0 _ g s0_0 x1001_2 from pY34) (pY109) (by decide)) hk (fun _ h => h.2)) (fun _ h => h.1)); replace HO_102001 := am (Kd.N_mono (Kd.N_keep (Kd.N_mono (ok := fun k_ => (((P1_0_ k_ ∨ w.heap.size ≤ k_)) ∧ (some k_ ≠ (.slice (some ad111) t103.length co17 : Value).ownBlock ∧ (some k_ ≠ (.slice Ao57 x6_2.length co57 : Value).ownBlock ∧ (some k_ ≠ (.slice Ao4 l1_0.length co4 : Value).ownBlock ∧ (some k_ ≠ (u117001 : Value).ownBlock ∧ (some k_ ≠ (.slice (some ad120) t112.length co24 : Value).ownBlock ∧ (k_ ≠ gb101 ∧ (k_ ≠ gb102 ∧ (k_ ≠ gb116 ∧ k_ ≠ g)))))))))) (pY110) (fun k_ hk_ => (⟨hk_, hk_.2.2.2.2.2.2.2.2.2⟩ : _ ∧ k_ ≠ g))) hk (fun _ h => h.2)) (fun _ h => h.1)); replace HO_117001 := am (Kd.R_mono (Kd.R_keep (IsS103.apart (show IsS103 w0 _ g s0_0 x1001_2 from pY34) (rR HO_117001.1) (by decide)) hk (fun _ h => h.2)) (fun _ h => h.1)); replace HO_117002 := am (Kd.R_mono (Kd.R_keep (IsS103.apart (show IsS103 w0 _ g s0_0 x1001_2 from pY34) (rR HO_117002.1) (by decide)) hk (fun _ h => h.2)) (fun _ h => h.1)); replace BK101 := kb pY98 hk NB101_0; replace BK102 := kb pY99 hk NB102_0; replace BK116 := kb pY101 hk NB116_0; replace HK := am (Kept.of_keep (S := (fun k_ => (P1_0_ k_) ∨ k_ = g)) (pY17) hk (.inl (.inr rfl))); replace HB := am (hb); replace HI0 := am (hi); (try clear hb); (try clear hk); (try clear hi)))
          go_roundg k2
          case measure => have := HK1.out; have := HK2.out; omega
          case rel => exact ⟨(x6_2), (wrap64 (x9_2 + 1)), (t123), (x117001_2), (u117001), (pY136), H', ⟨by have := HK1.out; have := HK2.out; omega⟩, ⟨rR HO_5.1⟩, ⟨rR HO_6.1⟩, ⟨rR HO_102000.1⟩, ⟨rN HO_102001.1⟩, ⟨rR HO_117001.1⟩, ⟨rR HO_117002.1⟩, ⟨rB BK101.1⟩, ⟨rB BK102.1⟩, ⟨rB BK116.1⟩, ⟨pY34⟩, ⟨pY17⟩, ⟨pY23⟩⟩
       ·by_cases c59 : x102001_1.length < 2199023255552
        ·rw [if_pos c59] at H
         have LMc59 := am c59
         clear c59
         obtain ⟨y117, Ny117⟩ := yv (x102001_1 ++ [(⟨(rdOf ByteArray.empty t103 x7_1), x117001_2, t112⟩ : S56)]); first | replace H := bW Ny117 H | rw [← Ny117.1] at H
         have H' := am H
         clear H
         have hnb60 := NB116_101.1
         have hnc60 := NB101_116.1
         have hnb61 := NB116_102.1
         have hnc61 := NB102_116.1
         have hnb62 := NB116_0.1
         have hnc62 := NB0_116.1
         obtain ⟨hcz63_0, hcz63_1, hcz63_2, hfz63_0, hfz63_1, hfz63_2⟩ := cz3 BK116
         have hnb64 := NB101_102.1
         have hnc64 := NB102_101.1
         have hnb65 := NB101_0.1
         have hnc65 := NB0_101.1
         obtain ⟨hcz66_0, hcz66_1, hfz66_0, hfz66_1⟩ := cz2 BK101
         obtain ⟨Ao68, co68, eo68⟩ := Kd.R_slice HO_117001.1
         subst eo68
         go_wp2_with (first | ((with_reducible refine gate_builtin (b := .append) (xs := #[.tmp 69, .tmp 71]) rfl ?_); at_builtin; refine Kd.N_append k56 w.heap.size rfl (.tmp 69) (.tmp 71) 29 56 (.agg #[(.string ⟨#[]⟩), (.slice none 0 0), (.slice none 0 0)]) 64 rfl Try.underlying29 info56 rfl (by decide) (by omega) u102001 x102001_1 (⟨(rdOf ByteArray.empty t103 x7_1), x117001_2, t112⟩ : S56) [.string (rdOf ByteArray.empty t103 x7_1), .slice Ao68 x117001_2.length co68, .slice Ao24 t112.length co24] (fun k_ => (P1_0_ k_ ∨ w.heap.size ≤ k_) ∧ some k_ ≠ (.slice (some ad111) t103.length co17 : Value).ownBlock ∧ some k_ ≠ (u6 : Value).ownBlock ∧ some k_ ≠ (.slice Ao4 l1_0.length co4 : Value).ownBlock ∧ k_ ≠ gb101 ∧ k_ ≠ gb102 ∧ k_ ≠ gb116 ∧ k_ ≠ g) (fun k_ => ((fun k_ => (P1_0_ k_ ∨ w.heap.size ≤ k_) ∧ some k_ ≠ (.slice (some ad111) t103.length co17 : Value).ownBlock ∧ some k_ ≠ (u6 : Value).ownBlock ∧ some k_ ≠ (.slice Ao4 l1_0.length co4 : Value).ownBlock ∧ k_ ≠ gb101 ∧ k_ ≠ gb102 ∧ k_ ≠ gb116 ∧ k_ ≠ g)) k_ ∧ some k_ ≠ (u102001 : Value).ownBlock) rfl rfl ?aP (fun _ hk => hk) ?aF ?aO (Below.refl _ _) ?aS ?aL ?_; (case aP => exact (k56_mkF _ _ (⟨(rdOf ByteArray.empty t103 x7_1), x117001_2, t112⟩ : S56) (Kd.R_reads' (Kd.R_mono (ok' := (fun k_ => ((fun k_ => (P1_0_ k_ ∨ w.heap.size ≤ k_) ∧ some k_ ≠ (.slice (some ad111) t103.length co17 : Value).ownBlock ∧ some k_ ≠ (u6 : Value).ownBlock ∧ some k_ ≠ (.slice Ao4 l1_0.length co4 : Value).ownBlock ∧ k_ ≠ gb101 ∧ k_ ≠ gb102 ∧ k_ ≠ gb116 ∧ k_ ≠ g)) k_ ∧ some k_ ≠ (u102001 : Value).ownBlock)) (IsS103.apart HI0.out (Kd.R_types (Kd.R_types (Kd.R_types (Kd.R_apart' (HO_117001.1) (Kd.N_typed HO_102001.1) (by decide)) BK101.1 (by decide)) BK102.1 (by decide)) BK116.1 (by decide)) (by decide)) (fun k_ hk => ⟨⟨hk.1.1.1.1.1.1, ⟨hk.1.1.1.1.1.2.1, ⟨hk.1.1.1.1.1.2.2.1, ⟨hk.1.1.1.1.1.2.2.2.1, ⟨hk.1.1.1.2, ⟨hk.1.1.2, ⟨hk.1.2, hk.2⟩⟩⟩⟩⟩⟩⟩, hk.1.1.1.1.2⟩))).2.1 (Kd.R_F (Kd.R_mono (ok' := (fun k_ => ((fun k_ => (P1_0_ k_ ∨ w.heap.size ≤ k_) ∧ some k_ ≠ (.slice (some ad111) t103.length co17 : Value).ownBlock ∧ some k_ ≠ (u6 : Value).ownBlock ∧ some k_ ≠ (.slice Ao4 l1_0.length co4 : Value).ownBlock ∧ k_ ≠ gb101 ∧ k_ ≠ gb102 ∧ k_ ≠ gb116 ∧ k_ ≠ g)) k_ ∧ some k_ ≠ (u102001 : Value).ownBlock)) (IsS103.apart HI0.out (Kd.R_types (Kd.R_types (Kd.R_types (Kd.R_apart' (HO_117001.1) (Kd.N_typed HO_102001.1) (by decide)) BK101.1 (by decide)) BK102.1 (by decide)) BK116.1 (by decide)) (by decide)) (fun k_ hk => ⟨⟨hk.1.1.1.1.1.1, ⟨hk.1.1.1.1.1.2.1, ⟨hk.1.1.1.1.1.2.2.1, ⟨hk.1.1.1.1.1.2.2.2.1, ⟨hk.1.1.1.2, ⟨hk.1.1.2, ⟨hk.1.2, hk.2⟩⟩⟩⟩⟩⟩⟩, hk.1.1.1.1.2⟩))) (Kd.R_reads' (Kd.R_mono (ok' := (fun k_ => ((fun k_ => (P1_0_ k_ ∨ w.heap.size ≤ k_) ∧ some k_ ≠ (.slice (some ad111) t103.length co17 : Value).ownBlock ∧ some k_ ≠ (u6 : Value).ownBlock ∧ some k_ ≠ (.slice Ao4 l1_0.length co4 : Value).ownBlock ∧ k_ ≠ gb101 ∧ k_ ≠ gb102 ∧ k_ ≠ gb116 ∧ k_ ≠ g)) k_ ∧ some k_ ≠ (u102001 : Value).ownBlock)) (IsS103.apart HI0.out (Kd.R_types (Kd.R_types (Kd.R_types (Kd.R_apart' (HO_117002.1) (Kd.N_typed HO_102001.1) (by decide)) BK101.1 (by decide)) BK102.1 (by decide)) BK116.1 (by decide)) (by decide)) (fun k_ hk => ⟨⟨hk.1.1.1.1.1.1, ⟨hk.1.1.1.1.1.2.1, ⟨hk.1.1.1.1.1.2.2.1, ⟨hk.1.1.1.1.1.2.2.2.1, ⟨hk.1.1.1.2, ⟨hk.1.1.2, ⟨hk.1.2, hk.2⟩⟩⟩⟩⟩⟩⟩, hk.1.1.1.1.2⟩))).2.1 (Kd.R_F (Kd.R_mono (ok' := (fun k_ => ((fun k_ => (P1_0_ k_ ∨ w.heap.size ≤ k_) ∧ some k_ ≠ (.slice (some ad111) t103.length co17 : Value).ownBlock ∧ some k_ ≠ (u6 : Value).ownBlock ∧ some k_ ≠ (.slice Ao4 l1_0.length co4 : Value).ownBlock ∧ k_ ≠ gb101 ∧ k_ ≠ gb102 ∧ k_ ≠ gb116 ∧ k_ ≠ g)) k_ ∧ some k_ ≠ (u102001 : Value).ownBlock)) (IsS103.apart HI0.out (Kd.R_types (Kd.R_types (Kd.R_types (Kd.R_apart' (HO_117002.1) (Kd.N_typed HO_102001.1) (by decide)) BK101.1 (by decide)) BK102.1 (by decide)) BK116.1 (by decide)) (by decide)) (fun k_ hk => ⟨⟨hk.1.1.1.1.1.1, ⟨hk.1.1.1.1.1.2.1, ⟨hk.1.1.1.1.1.2.2.1, ⟨hk.1.1.1.1.1.2.2.2.1, ⟨hk.1.1.1.2, ⟨hk.1.1.2, ⟨hk.1.2, hk.2⟩⟩⟩⟩⟩⟩⟩, hk.1.1.1.1.2⟩))))); (case aF => exact (fun k_ hk => ⟨(.inr (Nat.le_trans (pY7) hk)), Kd.fresh' (Kd.R_lt (pY129)) k_ hk, Kd.fresh' (Kd.R_lt (pY130)) k_ hk, Kd.fresh' (Kd.R_lt (pY109)) k_ hk, Kd.freshB (g := gb101) (o := .cells #[.slice Ao4 l1_0.length co4, u102001] 31 (0, 0)) (pY98) k_ hk, Kd.freshB (g := gb102) (o := .cells #[.slice none 0 0, .slice none 0 0] 31 (0, 0)) (pY99) k_ hk, Kd.freshB (g := gb116) (o := .cells #[.string (rdOf ByteArray.empty t103 x7_1), .slice Ao68 x117001_2.length co68, .slice Ao24 t112.length co24] 56 (0, 0)) (pY101) k_ hk, IsS103.fresh (pY34) k_ hk⟩)); (case aO => exact (by refine rN ?_; exact Kd.N_mono HO_102001.1 (fun _ hk => ⟨hk.1, ⟨hk.2.1, ⟨hk.2.2.1, ⟨hk.2.2.2.1, ⟨hk.2.2.2.2.2.2.1, ⟨hk.2.2.2.2.2.2.2.1, ⟨hk.2.2.2.2.2.2.2.2.1, hk.2.2.2.2.2.2.2.2.2⟩⟩⟩⟩⟩⟩⟩))); (case aS => exact (pY7)); (case aL => have := LMc59.out; omega); intro v118 w67 ho hb hg hat; rw [← Ny117.out] at ho; replace HO_5 := am (Kd.R_over' (pY129) (Kd.N_typed (pY110)) (by decide) hg); replace HO_6 := am (Kd.R_over' (pY130) (Kd.N_typed (pY110)) (by decide) hg); replace HO_102000 := am (Kd.R_over' (pY109) (Kd.N_typed (pY110)) (by decide) hg); replace BK101 := gN pY98 hg HO_102001 BK101; replace BK102 := gN pY99 hg HO_102001 BK102; replace BK116 := am (blk_grown (g := gb116) (o := .cells #[.string (rdOf ByteArray.empty t103 x7_1), .slice Ao68 x117001_2.length co68, .slice Ao24 t112.length co24] 56 (0, 0)) (pY101) hg (Kd.N_away HO_102001.1 (fun _ hk => hk.2.2.2.2.2.2.2.2.1))); replace HB := am (below_weaken (pY23) HW0.out hb); replace HI0 := am (IsS103.grown (pY34) hg (IsS103.own_neN HI0.out HO_102001.1 (by decide))); replace HK := am (Kept.of_grown (S := (fun k_ => (P1_0_ k_) ∨ k_ = g)) hg (pY17) (fun k_ e_ => Or.imp_left Or.inl (.inr (Kd.N_base HO_102001.1 k_ e_)))); have HO119 := am (ho); clear HO_102001; clear HO_117001; clear HO_117002; clear ho hb hg hat; obtain ⟨Ao69, co69, eo69⟩ := Kd.N_slice HO119.1; subst eo69; obtain ⟨hcz70_0, hcz70_1, hfz70_0, hfz70_1⟩ := cz2 BK101))
         go_roundg k2
         case measure => have := HK1.out; have := HK2.out; omega
         case rel => exact ⟨(x6_2), (wrap64 (x7_1 + 1)), (x1001_2), (y117), (.slice Ao69 y117.length co69), (pY136), H', ⟨by have := HK1.out; have := HK2.out; omega⟩, ⟨by refine rR ?_; exact Kd.R_mono (fR (tR HO_5 BK101)) (fun _ hk => ⟨hk.1.1, ⟨hk.1.2.1, hk.1.2.2.1⟩⟩)⟩, ⟨by refine rR ?_; exact Kd.R_mono (fR (tR HO_6 BK101)) (fun _ hk => ⟨hk.1.1, ⟨hk.1.2.1, hk.1.2.2.1⟩⟩)⟩, ⟨by refine rR ?_; exact Kd.R_mono (fR (tR HO_102000 BK101)) (fun _ hk => ⟨hk.1.1, ⟨hk.1.2.1, hk.1.2.2.1⟩⟩)⟩, ⟨by refine rN ?_; exact Kd.N_mono (fN (Kd.N_mono HO119.1 (fun k_ hk => (⟨hk, hk.2.2.2.2.1⟩ : _ ∧ k_ ≠ gb101)))) (fun _ hk => ⟨hk.1.1, ⟨hk.1.2.1, ⟨hk.1.2.2.1, ⟨hk.1.2.2.2.1, ⟨hk.1.2.2.2.2.1, ⟨hk.1.2.2.2.2.2.1, hk.1.2.2.2.2.2.2.2⟩⟩⟩⟩⟩⟩)⟩, ⟨by refine rB ?_; refine blk_put (cs := #[.slice Ao4 l1_0.length co4, u102001]) ?_ 1 _ rfl; refine rB ?_; exact BK101.1⟩, ⟨by refine rB ?_; refine blk_far ?_ NB102_101.1 _; refine rB ?_; exact BK102.1⟩, ⟨pY34⟩, ⟨pY17⟩, ⟨pY23⟩⟩
        ·rw [if_neg c59] at H
         exact absurd H (by simp)
   ·simp only [Option.some.injEq, Prod.mk.injEq] at H
    obtain ⟨rfl, rfl, rfl⟩ := H
    obtain ⟨Ao71, co71, eo71⟩ := Kd.R_slice HO_5.1
    subst eo71
    have hnb72 := NB101_102.1
    have hnc72 := NB102_101.1
    have hnb73 := NB101_0.1
    have hnc73 := NB0_101.1
    obtain ⟨hcz74_0, hcz74_1, hfz74_0, hfz74_1⟩ := cz2 BK101
    have hnb75 := NB102_0.1
    have hnc75 := NB0_102.1
    obtain ⟨hcz76_0, hcz76_1, hfz76_0, hfz76_1⟩ := cz2 BK102
    obtain ⟨Ao77, co77, eo77⟩ := Kd.N_slice HO_102001.1
    subst eo77
    go_wp2
    refine bodyPost_ret (results_cell_row rfl _ _ gb102 31 #[.slice Ao4 l1_0.length co4, .slice Ao77 x102001_1.length co77] (0, 0) _ rfl (by refine rB ?_; refine blk_put (cs := #[.slice Ao4 l1_0.length co4, .slice none 0 0]) ?_ 1 _ rfl; refine rB ?_; refine blk_put (cs := #[.slice none 0 0, .slice none 0 0]) ?_ 0 _ rfl; refine rB ?_; exact BK102.1) Try.underlying31 rfl (by kernel_rfl)) rfl ?_
    exact ⟨_, _, eR, by refine rR ?_; exact Kd.R_mono (fR (fR (tR HO_102000 BK102))) (fun _ hk => hk.1.1), by refine rN ?_; exact Kd.N_mono (fN (fN (Kd.N_mono HO_102001.1 (fun k_ hk => (⟨hk, hk.2.2.2.2.2.1⟩ : _ ∧ k_ ≠ gb102))))) (fun _ hk => ⟨hk.1.1, hk.1.2.2.2.1⟩), pY67, pY57, pY45⟩
end Go.Proofs.Ytaofjgnhapnndaa.Q
namespace Go.Proofs.Ytaofjgnhapnndaa.Q
open Go.RowKit Go.Proofs.YtaofjgnhapnndaaW.PrintWords Go.Proofs.YtaofjgnhapnndaaW.PrintLast Go.Proofs.YtaofjgnhapnndaaW.PrintMore
set_option linter.unusedVariables false
set_option linter.unusedSimpArgs false
def spec_l1Names.f (l0 : List ByteArray) : Option (List ByteArray) := (some (([] : List ByteArray) : List ByteArray)).bind fun y101 => (if y101.length + l0.length < 8796093022208 then (some (y101 ++ l0)) else (none))
theorem spec_l1Names.calls (A0 : Option Addr) (c0 : Nat) (l0 : List ByteArray) (r : List ByteArray) (w : World) (hr0 : Kd.C Kd.string w A0 l0.length l0) (hc0 : l0.length ≤ c0) (h : spec_l1Names.f l0 = some r) :
  Calls Try.prog 93 #[.slice A0 l0.length c0] w fun e w' => ∃ v0_ : Value, e = .returned (v0_) ∧ Kd.R Kd.string 9 w' w.heap.size (fun _ => True) v0_ r ∧ Below w.heap.size w w' := by
 have HR0 := am hr0
 have HC0 := am hc0
 clear hr0 hc0
 have HB := am (Below.refl w.heap.size w)
 unfold spec_l1Names.f at h
 have H := h
 clear h
 obtain ⟨y101, Ny101, H⟩ := bY H
 by_cases c2 : y101.length + l0.length < 8796093022208
 ·rw [if_pos c2] at H
  have LMc2 := am c2
  clear c2
  obtain ⟨y104, Ny104⟩ := yv (y101 ++ l0); first | replace H := bW Ny104 H | rw [← Ny104.1] at H
  obtain rfl := Option.some.inj H
  go_enter Try.func93, Try.ntmps93
  go_wp2_with (first | ((with_reducible refine gate_dst (N := 3) rfl ?_); refine Kd.R_lit Kd.string _ 9 ?hg (N := 3) ?hd (xs := ([] : List ByteArray)) (inner := []) (ok := fun _ => True) (okp := fun _ => True) ?hr ?hp (fun _ hk => hk) trivial (Below.refl _ _) (Nat.le_refl _) (by simp) ?_; (case hd => rfl); (case hg => rfl); (case hr => first | (go_simp; done) | (go_simp; rfl)); (case hp => exact (Reps.none _ _)); intro v102 w3 ho4 hb hg_ hnew_; clear hg_ hnew_; (first | rw [← Ny101.out] at ho4 | (simp only [Int.reduceToNat] at ho4; rw [← Ny101.out] at ho4)); have HO103 := am (Kd.R_lower ho4 (below_size (pY95))); replace HB := bS pY95 hb; clear hb ho4) | ((with_reducible refine gate_builtin (b := .append) (xs := #[.tmp 3, .tmp 4]) rfl ?_); at_builtin; refine Kd.R_append_rows Kd.string (w0 := w) w.heap.size rfl (.tmp 3) (.tmp 4) 23 9 (.string ⟨#[]⟩) 16 rfl Try.underlying23 info9 rfl (by decide) (by omega) v102 y101 l0 _ _ _ (fun _ => True) (fun _ => False) rfl rfl ?aO ?aR (fun _ _ h => h) (fun _ h => h.elim) ?aF ?aB ?aS ?aL ?_; (case aR => repeat (first | exact (Kd.C_below HR0.1 HB.1) | (with_reducible refine Kd.C_alloc ?_ _) | (with_reducible refine Kd.C_drewN ?_ _) | (with_reducible refine Kd.C_drew ?_))); (case aB => exact (pY95)); (case aF => exact (fun _ _ => trivial)); (case aO => exact (rR HO103.1)); (case aS => exact (below_size (pY95))); (case aL => have := LMc2.out; omega); intro v105 w5 ho hb hg hat; rw [← Ny104.out] at ho; replace HB := am (hb); have HO106 := am (ho); clear HO103; clear ho hb hg hat))
  go_ret
  exact ⟨_, eR, rR HO106.1, pY95⟩
 ·rw [if_neg c2] at H
  exact absurd H (by simp)
def spec_l1Copy.l0 : Nat → Int → List ByteArray → List (S56) → List ByteArray → List (S56) → Option (List ByteArray × (List (S56)))
 | 0, _, _, _, _, _ => none
 | k + 1, x4, x102000, x102001, x107000, x107001 => if x4 < (x102001.length : Int) then (if 0 ≤ x4 then ((spec_l1Names.f ((rd_T56 x102001 x4).f1)).bind fun t109 => ((spec_l1Names.f ((rd_T56 x102001 x4).f2)).bind fun t113 => (if x107001.length < 2199023255552 then (spec_l1Copy.l0 k (wrap64 (x4 + 1)) x102000 x102001 x107000 (x107001 ++ [(⟨(rd_T56 x102001 x4).f0, t109, t113⟩ : S56)])) else (none)))) else (none)) else (some (x107000, x107001))
def spec_l1Copy.f (k : Nat) (l0_0 : List ByteArray) (l0_1 : List (S56)) : Option (List ByteArray × (List (S56))) := (spec_l1Names.f l0_0).bind fun t103 => (spec_l1Copy.l0 k 0 l0_0 l0_1 t103 ([] : List (S56)))
def spec_l1Copy.T5 : Bool × List (List Nat × List Nat) := (true, [([], []), ([0], [0]), ([], []), ([2], [2]), ([], []), ([3, 4], [3, 4]), ([5], [5]), ([6], [6]), ([], []), ([8], [8]), ([], []), ([9, 10], [9, 10]), ([11], [11]), ([12], [12]), ([13], [13]), ([], []), ([15], [15]), ([], []), ([16, 17], [16, 17]), ([18], [18]), ([19], [19]), ([20, 14], [20]), ([7, 14, 21], [7, 14, 21]), ([22], [22]), ([1, 23, 21], [1, 23]), ([0, 1, 2, 3, 4, 5, 6, 7, 8, 9, 10, 11, 12, 13, 14, 15, 16, 17, 18, 19, 20, 21, 22, 23, 24], []), ([25, 24, 24, 0, 1, 2, 3, 4, 5, 6, 7, 8, 9, 10, 11, 12, 13, 14, 15, 16, 17, 18, 19, 20, 21, 22, 23, 24], [24, 25])])
def spec_l1Copy.B5 : List Nat := [0, 1, 0, 4, 0, 28, 60, 124, 0, 256, 0, 1792, 3840, 7936, 16128, 0, 32768, 0, 229376, 491520, 1015808, 2096896, 4194300, 8388604, 16777215, 33554431, 67108863]
theorem spec_l1Copy.tab5 : rtab .any (opsOf Try.f89 5) = spec_l1Copy.T5 := by kernel_rfl
theorem spec_l1Copy.bits5 : waitsOk spec_l1Copy.T5.2 spec_l1Copy.B5 = true := by kernel_rfl
theorem spec_l1Copy.calls (k : Nat) (A0_0 : Option Addr) (c0_0 : Nat) (l0_0 : List ByteArray) (A0_1 : Option Addr) (c0_1 : Nat) (l0_1 : List (S56)) (r1 : List ByteArray) (r2 : List (S56)) (w : World) (hr0_0 : Kd.C Kd.string w A0_0 l0_0.length l0_0) (hc0_0 : l0_0.length ≤ c0_0) (hr0_1 : Kd.C k56 w A0_1 l0_1.length l0_1) (hc0_1 : l0_1.length ≤ c0_1) (h : spec_l1Copy.f k l0_0 l0_1 = some (r1, r2)) :
  Calls Try.prog 89 #[.agg #[.slice A0_0 l0_0.length c0_0, .slice A0_1 l0_1.length c0_1]] w fun e w' => ∃ v0_ v1_ : Value, e = .returned (.agg #[v0_, v1_]) ∧ Kd.R Kd.string 9 w' w.heap.size (fun _ => True) v0_ r1 ∧ Kd.S k56 56 w' w.heap.size (fun k_ => some k_ ≠ (v0_ : Value).ownBlock) v1_ r2 ∧ Below w.heap.size w w' := by
 have hu31 := Try.underlying31
 have hu56 := Try.underlying56
 have HR0_0 := am hr0_0
 have HC0_0 := am hc0_0
 clear hr0_0 hc0_0
 have HR0_1 := am hr0_1
 have HC0_1 := am hc0_1
 clear hr0_1 hc0_1
 have HB := am (Below.refl w.heap.size w)
 unfold spec_l1Copy.f at h
 have H := h
 clear h
 obtain ⟨t103, A2, H⟩ := bd H
 have H' := am H
 clear H
 go_enter Try.func89, Try.ntmps89
 go_wp2_with (first | ((with_reducible refine gD 1 ?_); refine bX 1 #[.slice A0_0 l0_0.length c0_0, .slice A0_1 l0_1.length c0_1] 31 ?_; intro gb101 hg w3 hbox hb; have BK101 := am (hbox); have GW101 := am (pY89 : w.heap.size ≤ gb101); have GE101 := am (pY89 : w.heap.size ≤ gb101); replace HB := bS pY95 hb; clear hb hbox hg) | ((with_reducible refine gD 2 ?_); refine bX 2 #[.slice none 0 0, .slice none 0 0] 31 ?_; intro gb102 hg w4 hbox hb; have BK102 := am (hbox); have GW102 := am (pY77 : w.heap.size ≤ gb102); have GE102 := am (pY77 : w.heap.size ≤ gb102); replace HB := bS pY90 hb; have NB101_102 := nL pY98 hg; have NB102_101 := nG pY98 hg; replace BK101 := bB pY98 hb; clear hb hbox hg; have hnb5 := NB101_102.1; have hnc5 := NB102_101.1; obtain ⟨hcz6_0, hcz6_1, hfz6_0, hfz6_1⟩ := cz2 BK101) | ((with_reducible refine gC 93 ?_); refine cE (some 7) Try.func93 (spec_l1Names.calls _ _ l0_0 t103 _ (pB HR0_0) HC0_0.1 A2.out) ?_; rintro e w7 ⟨v104, rfl, ho0, hb⟩; refine ⟨_, rfl, ?_⟩; have HO105 := am (Kd.R_lower ho0 (below_size (pY81))); replace BK101 := bB pY98 hb; replace BK102 := bB pY99 hb; replace HB := bS pY81 hb; (try clear hb); (try clear ho0); obtain ⟨Ao8, co8, eo8⟩ := Kd.R_slice HO105.1; subst eo8) | ((with_reducible refine gD 3 ?_); refine bX 3 #[.slice none 0 0, .slice none 0 0] 31 ?_; intro gb106 hg w9 hbox hb; replace HO105 := am (Kd.R_below (pY120) hb); have BK106 := am (hbox); have GW106 := am (pY65 : w.heap.size ≤ gb106); have GE106 := am (pY65 : w.heap.size ≤ gb106); replace HB := bS pY81 hb; have NB101_106 := nL pY98 hg; have NB106_101 := nG pY98 hg; replace BK101 := bB pY98 hb; have NB102_106 := nL pY99 hg; have NB106_102 := nG pY99 hg; replace BK102 := bB pY99 hb; clear hb hbox hg; have hnb10 := NB106_101.1; have hnc10 := NB101_106.1; have hnb11 := NB106_102.1; have hnc11 := NB102_106.1; obtain ⟨hcz12_0, hcz12_1, hfz12_0, hfz12_1⟩ := cz2 BK106))
 go_loopg [4] k (fun kq v4 w' => ∃ (x4_1 : Int) (x107001_1 : List (S56)) (u107001 : Value), v4 = .int .i64 x4_1 ∧ Aside0 (spec_l1Copy.l0 kq x4_1 l0_0 l0_1 t103 x107001_1 = some (r1, r2)) ∧ Aside0 (kq ≤ k) ∧ Aside0 (Kd.R Kd.string 9 w' w.heap.size (fun _ => True) (.slice Ao8 t103.length co8) t103) ∧ Aside0 (Kd.S k56 56 w' w.heap.size (fun k_ => some k_ ≠ ((.slice Ao8 t103.length co8) : Value).ownBlock) u107001 x107001_1) ∧ Aside0 (w'.heap[gb101]? = some (.cells #[(.slice A0_0 l0_0.length c0_0), (.slice A0_1 l0_1.length c0_1)] 31 (0, 0))) ∧ Aside0 (w'.heap[gb102]? = some (.cells #[(.slice none 0 0), (.slice none 0 0)] 31 (0, 0))) ∧ Aside0 (w'.heap[gb106]? = some (.cells #[(.slice Ao8 t103.length co8), u107001] 31 (0, 0))) ∧ Aside0 (Below w.heap.size w w'))
 case atStart => exact ⟨(0), (([] : List (S56))), (.slice none 0 0), (pY136), H', ⟨Nat.le_refl _⟩, ⟨by refine rR ?_; exact Kd.R_mono (fR (fR (tR HO105 BK106))) (fun _ hk => trivial)⟩, ⟨by first | exact Kd.S_nil _ _ _ _ _ | exact Kd.N_nil _ _ _ _ _ | exact Kd.V_nil _ _ _ _ _ | exact Kd.Q_nil _ _ _ _ _ | exact Kd.R_nil _ _ _ _ _⟩, ⟨by refine rB ?_; refine blk_far ?_ NB101_106.1 _; refine rB ?_; refine blk_far ?_ NB101_106.1 _; refine rB ?_; exact BK101.1⟩, ⟨by refine rB ?_; refine blk_far ?_ NB102_106.1 _; refine rB ?_; refine blk_far ?_ NB102_106.1 _; refine rB ?_; exact BK102.1⟩, ⟨by refine rB ?_; refine blk_put (cs := #[.slice Ao8 t103.length co8, .slice none 0 0]) ?_ 1 _ rfl; refine rB ?_; refine blk_put (cs := #[.slice none 0 0, .slice none 0 0]) ?_ 0 _ rfl; refine rB ?_; exact BK106.1⟩, ⟨pY68⟩⟩
 case round =>
  clear H'
  try clear hcz12_0 hcz12_1 hfz12_0 hfz12_1
  try clear hcz6_0 hcz6_1 hfz6_0 hfz6_1
  obtain ⟨x4_1, x107001_1, u107001, rfl, HA, HK1, HO_107000, HO_107001, BK101, BK102, BK106, HB⟩ := hrel
  cases gk with
  | zero => exact absurd HA.out (by simp [spec_l1Copy.l0])
  | succ k1 =>
   have H := HA.out
   clear HA
   simp only [spec_l1Copy.l0] at H
   refine ic H ?_ ?_ <;> clear H <;> intro c13b0 H
   ·obtain ⟨c14b0, H⟩ := cN H
    obtain ⟨t109, A15, H⟩ := bd H
    obtain ⟨t113, A16, H⟩ := bd H
    by_cases c17 : x107001_1.length < 2199023255552
    ·rw [if_pos c17] at H
     have LMc17 := am c17
     clear c17
     obtain ⟨y116, Ny116⟩ := yv (x107001_1 ++ [(⟨(rd_T56 l0_1 x4_1).f0, t109, t113⟩ : S56)]); first | replace H := bW Ny116 H | rw [← Ny116.1] at H
     have H' := am H
     clear H
     have hnb18 := NB101_102.1
     have hnc18 := NB102_101.1
     have hnb19 := NB101_106.1
     have hnc19 := NB106_101.1
     obtain ⟨hcz20_0, hcz20_1, hfz20_0, hfz20_1⟩ := cz2 BK101
     try go_wp2
     replace HO_107000 := am (Kd.R_drew HO_107000.1)
     replace HO_107001 := am (Kd.S_drew HO_107001.1)
     replace BK101 := am (blk_drew BK101.1)
     replace BK102 := am (blk_drew BK102.1)
     replace BK106 := am (blk_drew BK106.1)
     replace HB := am (below_drew1 HB.1)
     have p107 : 0 ≤ (x4_1 : Int) := oT
     have q107 : x4_1 < (l0_1.length : Int) := oT
     obtain ⟨ad107, A107_1, c107_1, A107_2, c107_2, e107, hx107_0, hx107_1, hx107_2, hl107_1, hi107_1, hl107_2, hi107_2⟩ := at_T56 HR0_1.1 x4_1 p107 q107
     have hw107_2 := hx107_2
     have hw107_1 := hx107_1
     have hw107_0 := hx107_0
     cases e107
     replace hx107_0 := hX HB hx107_0
     replace hx107_1 := hX HB hx107_1
     replace hx107_2 := hX HB hx107_2
     have HR107_1 := am hi107_1
     have HC107_1 := am hl107_1
     clear hi107_1 hl107_1
     have HR107_2 := am hi107_2
     have HC107_2 := am hl107_2
     clear hi107_2 hl107_2
     replace p107 := eq_true p107
     replace q107 := eq_true q107
     have p108 : 0 ≤ (x4_1 : Int) := oT
     have q108 : x4_1 < (l0_1.length : Int) := oT
     obtain ⟨ad108, A108_1, c108_1, A108_2, c108_2, e108, hx108_0, hx108_1, hx108_2, hl108_1, hi108_1, hl108_2, hi108_2⟩ := at_T56 HR0_1.1 x4_1 p108 q108
     have hw108_2 := hx108_2
     have hw108_1 := hx108_1
     have hw108_0 := hx108_0
     obtain rfl : ad107 = ad108 := (by injection e108)
     replace hx108_0 := hX HB hx108_0
     replace hx108_1 := hX HB hx108_1
     replace hx108_2 := hX HB hx108_2
     have HR108_1 := am hi108_1
     have HC108_1 := am hl108_1
     clear hi108_1 hl108_1
     have HR108_2 := am hi108_2
     have HC108_2 := am hl108_2
     clear hi108_2 hl108_2
     replace p108 := eq_true p108
     replace q108 := eq_true q108
     have ea_ := Option.some.inj (hx107_1.symm.trans hx108_1)
     injection ea_ with ea_ en_ ec_
     subst ea_
     subst ec_
     clear en_
     have ea_ := Option.some.inj (hx107_2.symm.trans hx108_2)
     injection ea_ with ea_ en_ ec_
     subst ea_
     subst ec_
     clear en_
     have p112 : 0 ≤ (x4_1 : Int) := oT
     have q112 : x4_1 < (l0_1.length : Int) := oT
     obtain ⟨ad112, A112_1, c112_1, A112_2, c112_2, e112, hx112_0, hx112_1, hx112_2, hl112_1, hi112_1, hl112_2, hi112_2⟩ := at_T56 HR0_1.1 x4_1 p112 q112
     have hw112_2 := hx112_2
     have hw112_1 := hx112_1
     have hw112_0 := hx112_0
     obtain rfl : ad107 = ad112 := (by injection e112)
     replace hx112_0 := hX HB hx112_0
     replace hx112_1 := hX HB hx112_1
     replace hx112_2 := hX HB hx112_2
     have HR112_1 := am hi112_1
     have HC112_1 := am hl112_1
     clear hi112_1 hl112_1
     have HR112_2 := am hi112_2
     have HC112_2 := am hl112_2
     clear hi112_2 hl112_2
     replace p112 := eq_true p112
     replace q112 := eq_true q112
     have ea_ := Option.some.inj (hx107_1.symm.trans hx112_1)
     injection ea_ with ea_ en_ ec_
     subst ea_
     subst ec_
     clear en_
     have ea_ := Option.some.inj (hx107_2.symm.trans hx112_2)
     injection ea_ with ea_ en_ ec_
     subst ea_
     subst ec_
     clear en_
     refine sT [26] 27 (uB2 BK106 (uB2 BK101 (uBx HB hw107_0 (uBx HB hw107_1 (uBx HB hw107_2 (uBx HB hw108_0 (uBx HB hw108_1 (uBx HB hw108_2 (uBx HB hw112_0 (uBx HB hw112_1 (uAx HB hw112_2))))))))))) (fun hHeld => ?_); refine with_tabW spec_l1Copy.tab5 spec_l1Copy.bits5 (fun HT_ HW_ => ?_)
     generalize wr.drew = w21 at HO_107000 HO_107001 BK101 BK102 BK106 HB HR107_1 HR107_2 HR108_1 HR108_2 HR112_1 HR112_2 hx107_0 hx107_1 hx107_2 hx108_0 hx108_1 hx108_2 hx112_0 hx112_1 hx112_2 hHeld ⊢
     refine pU 0 (some 16) ?_
     refine pU 2 (some 18) ?_
     refine pU 4 (some 20) ?_
     refine pU 8 (some 24) ?_
     refine pU 10 (some 26) ?_
     refine pU 15 (some 31) ?_
     refine pU 17 (some 33) ?_
     refine tK13 1 (some 17) ?_
     refine tK13 3 (some 19) ?_
     refine pU 5 (some 21) ?_
     refine pU 6 (some 22) ?_
     refine tK13 7 (some 23) ?_
     refine tK13 9 (some 25) ?_
     refine pU 11 (some 27) ?_
     refine pU 12 (some 28) ?_
     refine tK13 13 (some 29) ?_
     refine tK13 16 (some 32) ?_
     refine pU 18 (some 34) ?_
     refine pU 19 (some 35) ?_
     refine tK13 20 (some 36) ?_
     refine oN 14 (some 30) fun K hK => ?_
     refine gE Try.func93 (spec_l1Names.calls _ _ ((rd_T56 l0_1 x4_1).f1) t109 _ (pB HR108_1) HC108_1.1 A15.out) ?_
     rintro e w22 ⟨v110, rfl, ho0, hb⟩
     refine ⟨_, rfl, ?_⟩
     replace HO_107001 := am (Kd.S_elder' (pY112) (Kd.R_base ho0) hb)
     have HO111 := am (Kd.R_lower (Kd.R_new' ho0 (Kd.R_lt (pY111))) (below_size (pY68)))
     replace HO_107000 := am (Kd.R_elder' (pY111) (Kd.R_base ho0) hb)
     replace BK101 := bB pY98 hb
     replace BK102 := bB pY99 hb
     replace BK106 := bB pY102 hb
     replace HB := bS pY68 hb
     (try clear hb)
     (try clear hb2)
     (try clear hk)
     (try clear hi)
     (try clear ho0)
     refine hK.out _ _ (uB2 BK106 (uB2 BK101 (uBx HB hw107_0 (uBx HB hw107_1 (uBx HB hw107_2 (uBx HB hw108_0 (uBx HB hw108_1 (uBx HB hw108_2 (uBx HB hw112_0 (uBx HB hw112_1 (uAx HB hw112_2))))))))))).1 (fun hHeld => ?_)
     clear hK K
     refine nM ?_
     refine oN 21 (some 37) fun K hK => ?_
     refine gE Try.func93 (spec_l1Names.calls _ _ ((rd_T56 l0_1 x4_1).f2) t113 _ (pB HR112_2) HC112_2.1 A16.out) ?_
     rintro e w23 ⟨v114, rfl, ho0, hb⟩
     refine ⟨_, rfl, ?_⟩
     replace HO_107001 := am (Kd.S_elder' (pY112) (Kd.R_base ho0) hb)
     have HO115 := am (Kd.R_lower (Kd.R_new' (Kd.R_new' ho0 (Kd.R_lt (pY111))) (Kd.R_lt (rR HO111.1))) (below_size (pY68)))
     replace HO_107000 := am (Kd.R_elder' (pY111) (Kd.R_base ho0) hb)
     replace HO111 := am (Kd.R_elder' (rR HO111.1) (Kd.R_base ho0) hb)
     replace BK101 := bB pY98 hb
     replace BK102 := bB pY99 hb
     replace BK106 := bB pY102 hb
     replace HB := bS pY68 hb
     (try clear hb)
     (try clear hb2)
     (try clear hk)
     (try clear hi)
     (try clear ho0)
     obtain ⟨Ao24, co24, eo24⟩ := Kd.R_slice HO115.1
     (first | subst eo24 | (injection eo24 with f1_ f2_ f3_; have f4_ := f1_.symm; have f5_ := f3_.symm; clear f1_ f2_ f3_; subst f4_; subst f5_))
     obtain ⟨Ao25, co25, eo25⟩ := Kd.R_slice HO111.1
     (first | subst eo25 | (injection eo25 with f1_ f2_ f3_; have f4_ := f1_.symm; have f5_ := f3_.symm; clear f1_ f2_ f3_; subst f4_; subst f5_))
     refine hK.out _ _ (uB2 BK106 (uB2 BK101 (uBx HB hw107_0 (uBx HB hw107_1 (uBx HB hw107_2 (uBx HB hw108_0 (uBx HB hw108_1 (uBx HB hw108_2 (uBx HB hw112_0 (uBx HB hw112_1 (uAx HB hw112_2))))))))))).1 (fun hHeld => ?_)
     clear hK K
     refine nM ?_
     refine pU 22 (some 38) ?_
     refine oN 23 (some 39) fun K hK => ?_
     refine value_ (w1 := ?_) (v := ?_) (by rfl) rfl ?_ ?_
     rotate_left 2
     ·go_simp
      constructor
      ·rfl
      ·rfl
     refine hK.out _ _ ⟨(blk_cell (blk_alloc BK106.1 _) 0).trans rfl, (blk_cell (blk_alloc BK106.1 _) 1).trans rfl, (blk_cell (blk_alloc BK101.1 _) 0).trans rfl, (blk_cell (blk_alloc BK101.1 _) 1).trans rfl, (World.cell?_alloc_lt _ _ _ (World.block_lt_of_cell? _ _ ((hX HB hw107_0)))).trans ((hX HB hw107_0)), (World.cell?_alloc_lt _ _ _ (World.block_lt_of_cell? _ _ ((hX HB hw107_1)))).trans ((hX HB hw107_1)), (World.cell?_alloc_lt _ _ _ (World.block_lt_of_cell? _ _ ((hX HB hw107_2)))).trans ((hX HB hw107_2)), (World.cell?_alloc_lt _ _ _ (World.block_lt_of_cell? _ _ ((hX HB hw108_0)))).trans ((hX HB hw108_0)), (World.cell?_alloc_lt _ _ _ (World.block_lt_of_cell? _ _ ((hX HB hw108_1)))).trans ((hX HB hw108_1)), (World.cell?_alloc_lt _ _ _ (World.block_lt_of_cell? _ _ ((hX HB hw108_2)))).trans ((hX HB hw108_2)), (World.cell?_alloc_lt _ _ _ (World.block_lt_of_cell? _ _ ((hX HB hw112_0)))).trans ((hX HB hw112_0)), (World.cell?_alloc_lt _ _ _ (World.block_lt_of_cell? _ _ ((hX HB hw112_1)))).trans ((hX HB hw112_1)), (World.cell?_alloc_lt _ _ _ (World.block_lt_of_cell? _ _ ((hX HB hw112_2)))).trans ((hX HB hw112_2))⟩ (fun hHeld => ?_)
     clear hK K
     refine nM ?_
     refine oN 24 (some 40) fun K hK => ?_
     refine Kd.S_append_step k56 (w0 := w) w.heap.size (by rfl) (.tmp 17) (.tmp 39) 29 56 (.agg #[(.string ⟨#[]⟩), (.slice none 0 0), (.slice none 0 0)]) 64 rfl Try.underlying29 info56 rfl (by decide) (by omega) u107001 x107001_1 (⟨(rd_T56 l0_1 x4_1).f0, t109, t113⟩ : S56) [.string ((rd_T56 l0_1 x4_1).f0), .slice Ao25 t109.length co25, .slice Ao24 t113.length co24] (fun k_ => some k_ ≠ (.slice Ao8 t103.length co8 : Value).ownBlock) (fun k_ => some k_ = (.slice Ao25 t109.length co25 : Value).ownBlock ∨ some k_ = (.slice Ao24 t113.length co24 : Value).ownBlock) rfl rfl ?aP (fun k_ hk_ => hk_.elim (fun h_ => ((Kd.R_mono (ok' := fun k_ => ((fun k_ => some k_ ≠ (.slice Ao8 t103.length co8 : Value).ownBlock)) k_ ∧ some k_ ≠ (u107001 : Value).ownBlock) (Kd.R_apart' (HO111.1) (Kd.S_typed HO_107001.1) (by decide)) (fun k_ hk => ⟨hk.1.1.2, hk.2⟩))).1 k_ h_.symm) (fun h_ => ((Kd.R_mono (ok' := fun k_ => ((fun k_ => some k_ ≠ (.slice Ao8 t103.length co8 : Value).ownBlock)) k_ ∧ some k_ ≠ (u107001 : Value).ownBlock) (Kd.R_apart' (HO115.1) (Kd.S_typed HO_107001.1) (by decide)) (fun k_ hk => ⟨hk.1.1.2, hk.2⟩))).1 k_ h_.symm)) ?aF ?aO ?aB ?aS ?aL ?_
     (case aP => exact k56_mkM _ _ _ (⟨(rd_T56 l0_1 x4_1).f0, t109, t113⟩ : S56) (Kd.R_mono (Kd.R_tight rfl (Kd.R_mono (ok' := fun k_ => ((fun k_ => some k_ ≠ (.slice Ao8 t103.length co8 : Value).ownBlock)) k_ ∧ some k_ ≠ (u107001 : Value).ownBlock) (Kd.R_apart' (HO111.1) (Kd.S_typed HO_107001.1) (by decide)) (fun k_ hk => ⟨hk.1.1.2, hk.2⟩))) (fun _ h_ => Or.inl h_)) (Kd.R_mono (Kd.R_tight rfl (Kd.R_mono (ok' := fun k_ => ((fun k_ => some k_ ≠ (.slice Ao8 t103.length co8 : Value).ownBlock)) k_ ∧ some k_ ≠ (u107001 : Value).ownBlock) (Kd.R_apart' (HO115.1) (Kd.S_typed HO_107001.1) (by decide)) (fun k_ hk => ⟨hk.1.1.2, hk.2⟩))) (fun _ h_ => Or.inr (h_))) (sep_of HO111.1 HO115.1))
     (case aB => exact (pY68))
     (case aF => exact (fun k_ hk => Kd.fresh' (Kd.R_lt (pY111)) k_ hk))
     (case aO => exact (by refine rS ?_; exact Kd.S_mono HO_107001.1 (fun k_ hk => ⟨hk.1.1, fun e_ => e_.elim (fun h_ => hk.1.2 h_) (fun h_ => hk.2 h_)⟩)))
     (case aS => exact (below_size (pY68)))
     (case aL => have := LMc17.out; omega)
     intro v117 w26 ho hb hg hat
     rw [← Ny116.out] at ho
     replace HO_107000 := am (Kd.R_over' (pY111) (Kd.S_typed (pY112)) (by decide) hg)
     replace BK101 := gS pY98 hg HO_107001 BK101
     replace BK102 := gS pY99 hg HO_107001 BK102
     replace BK106 := gS pY102 hg HO_107001 BK106
     replace HB := am (hb)
     have HO118 := am (ho)
     clear HO_107001
     clear HO111
     clear HO115
     clear ho hb hg hat
     obtain ⟨Ao27, co27, eo27⟩ := Kd.S_slice HO118.1
     (first | subst eo27 | (injection eo27 with f1_ f2_ f3_; have f4_ := f1_.symm; have f5_ := f3_.symm; clear f1_ f2_ f3_; subst f4_; subst f5_))
     refine hK.out _ _ (uB2 BK106 (uB2 BK101 (uBx HB hw107_0 (uBx HB hw107_1 (uBx HB hw107_2 (uBx HB hw108_0 (uBx HB hw108_1 (uBx HB hw108_2 (uBx HB hw112_0 (uBx HB hw112_1 (uAx HB hw112_2))))))))))).1 (fun hHeld => ?_)
     clear hK K
     refine nM ?_
     refine pU 25 (some 41) ?_
     refine last_ (i := 26) (N := none) (bz 27 134217727) rfl rfl (one_of HT_.out (by kernel_rfl)) (by decide) (fun K hK => ?_)
     have hs28 : w26.cell? ⟨gb106, 1, none⟩ = some (u107001) := (blk_cell BK106.1 1).trans rfl
     have hfs28 := blk_frozen BK106.1 1
     have hns28_0 := NB101_106.1
     have hns28_1 := NB102_106.1
     have hms28_0 := NB106_101.1
     have hms28_1 := NB106_102.1
     refine skip_ (w1 := ?_) (by rfl) rfl ?_ ?_
     rotate_left
     ·go_simp
      rfl
     refine hK.out _ _ ?_
     clear hK K
     refine done_ (done_of HT_.out (by kernel_rfl)) ?_
     try go_wp2
     go_roundg k1
     case measure => have := HK1.out; omega
     case rel => exact ⟨(wrap64 (x4_1 + 1)), (y116), (.slice Ao27 y116.length co27), (pY136), H', ⟨by have := HK1.out; omega⟩, ⟨by refine rR ?_; exact Kd.R_mono (fR (tR HO_107000 BK106)) (fun _ hk => trivial)⟩, ⟨by refine rS ?_; exact Kd.S_mono (fS (tS HO118 BK106)) (fun _ hk => hk.1)⟩, ⟨by refine rB ?_; refine blk_far ?_ NB101_106.1 _; refine rB ?_; exact BK101.1⟩, ⟨by refine rB ?_; refine blk_far ?_ NB102_106.1 _; refine rB ?_; exact BK102.1⟩, ⟨by refine rB ?_; refine blk_put (cs := #[.slice Ao8 t103.length co8, u107001]) ?_ 1 _ rfl; refine rB ?_; exact BK106.1⟩, ⟨pY68⟩⟩
    ·rw [if_neg c17] at H
     exact absurd H (by simp)
   ·simp only [Option.some.injEq, Prod.mk.injEq] at H
    obtain ⟨rfl, rfl⟩ := H
    have hnb29 := NB101_102.1
    have hnc29 := NB102_101.1
    have hnb30 := NB101_106.1
    have hnc30 := NB106_101.1
    obtain ⟨hcz31_0, hcz31_1, hfz31_0, hfz31_1⟩ := cz2 BK101
    have hnb32 := NB106_102.1
    have hnc32 := NB102_106.1
    obtain ⟨hcz33_0, hcz33_1, hfz33_0, hfz33_1⟩ := cz2 BK106
    obtain ⟨hcz34_0, hcz34_1, hfz34_0, hfz34_1⟩ := cz2 BK102
    obtain ⟨Ao35, co35, eo35⟩ := Kd.S_slice HO_107001.1
    subst eo35
    go_wp2
    refine bodyPost_ret (results_cell_row rfl _ _ gb102 31 #[.slice Ao8 t103.length co8, .slice Ao35 x107001_1.length co35] (0, 0) _ rfl (by refine rB ?_; refine blk_put (cs := #[.slice Ao8 t103.length co8, .slice none 0 0]) ?_ 1 _ rfl; refine rB ?_; refine blk_put (cs := #[.slice none 0 0, .slice none 0 0]) ?_ 0 _ rfl; refine rB ?_; exact BK102.1) Try.underlying31 rfl (by kernel_rfl)) rfl ?_
    exact ⟨_, _, eR, by refine rR ?_; exact Kd.R_mono (fR (fR (tR HO_107000 BK102))) (fun _ hk => trivial), by refine rS ?_; exact Kd.S_mono (fS (fS (tS HO_107001 BK102))) (fun _ hk => hk.1), pY68⟩
def spec_ShareLeave.f (k : Nat) (l0_0 : List ByteArray) (l0_1 : List (S56)) (a1 : ByteArray) : Option (List ByteArray × (List (S56)) × Int) := (spec_ShareBookOk.f k l0_0 l0_1).bind fun t103 => (if t103 = true then ((spec_l1Copy.f k l0_0 l0_1).bind fun bt104 => ((spec_l1At.f k l0_0 l0_1 a1).bind fun t111 => (if t111 < 0 then (some (bt104.1, bt104.2, 3)) else ((some (([] : List (S56)) : List (S56))).bind fun y112 => (if 0 ≤ t111 then (if t111 ≤ (bt104.2.length : Int) then ((some (bt104.2.take (t111 : Int).toNat : List (S56))).bind fun y115 => (if y112.length + y115.length < 2199023255552 then ((some (y112 ++ y115 : List (S56))).bind fun y120 => (if 0 ≤ (wrap64 (t111 + 1)) then (if (wrap64 (t111 + 1)) ≤ (bt104.2.length : Int) then ((some (bt104.2.drop ((wrap64 (t111 + 1)) : Int).toNat : List (S56))).bind fun y123 => (if y120.length + y123.length < 2199023255552 then (some (bt104.1, (y120 ++ y123), 0)) else (none))) else (none)) else (none))) else (none))) else (none)) else (none)))))) else (some (([] : List ByteArray), ([] : List (S56)), 1)))
def spec_ShareLeave.T7 : Bool × List (List Nat × List Nat) := (true, [([], []), ([], []), ([1], [1]), ([], []), ([2, 3], [2, 3]), ([0, 4], [0, 4]), ([], []), ([6], [6]), ([], []), ([8], [8]), ([7, 9], [7, 9]), ([5, 10, 5], [5, 10]), ([0, 1, 2, 3, 4, 5, 6, 7, 8, 9, 10, 11], []), ([12, 11, 11, 0, 1, 2, 3, 4, 5, 6, 7, 8, 9, 10, 11], [11, 12])])
def spec_ShareLeave.B7 : List Nat := [0, 0, 2, 0, 14, 31, 0, 64, 0, 256, 960, 2047, 4095, 8191]
theorem spec_ShareLeave.tab7 : rtab .any (opsOf Try.f46 7) = spec_ShareLeave.T7 := by kernel_rfl
theorem spec_ShareLeave.bits7 : waitsOk spec_ShareLeave.T7.2 spec_ShareLeave.B7 = true := by kernel_rfl
theorem spec_ShareLeave.calls (k : Nat) (A0_0 : Option Addr) (c0_0 : Nat) (l0_0 : List ByteArray) (A0_1 : Option Addr) (c0_1 : Nat) (l0_1 : List (S56)) (a1 : ByteArray) (r1 : List ByteArray) (r2 : List (S56)) (r3 : Int) (w : World) (hr0_0 : Kd.C Kd.string w A0_0 l0_0.length l0_0) (hc0_0 : l0_0.length ≤ c0_0) (hr0_1 : Kd.C k56 w A0_1 l0_1.length l0_1) (hc0_1 : l0_1.length ≤ c0_1) (h : spec_ShareLeave.f k l0_0 l0_1 a1 = some (r1, r2, r3)) :
  Calls Try.prog 46 #[.agg #[.slice A0_0 l0_0.length c0_0, .slice A0_1 l0_1.length c0_1], .string a1] w fun e w' => ∃ v0_ v1_ : Value, e = .returned (.tuple #[.agg #[v0_, v1_], .int .i64 r3]) ∧ Kd.R Kd.string 9 w' w.heap.size (fun k_ => (w.heap.size ≤ k_)) v0_ r1 ∧ Kd.N k56 56 w' w.heap.size (fun k_ => (w.heap.size ≤ k_) ∧ some k_ ≠ (v0_ : Value).ownBlock) v1_ r2 ∧ Below w.heap.size w w' := by
 have hu31 := Try.underlying31
 have HR0_0 := am hr0_0
 have HC0_0 := am hc0_0
 clear hr0_0 hc0_0
 have HR0_1 := am hr0_1
 have HC0_1 := am hc0_1
 clear hr0_1 hc0_1
 have HB := am (Below.refl w.heap.size w)
 unfold spec_ShareLeave.f at h
 have H := h
 clear h
 obtain ⟨t103, A3, H⟩ := bd H
 refine tC H ?_ ?_ <;> clear H <;> intro c4 H <;> subst c4
 obtain ⟨⟨t104, t107⟩, A5, H⟩ := bd H
 dsimp only at H
 obtain ⟨t111, A6, H⟩ := bd H
 refine ic H ?_ ?_ <;> clear H <;> intro c7b0 H
 simp only [Option.some.injEq, Prod.mk.injEq] at H
 obtain ⟨rfl, rfl, rfl⟩ := H
 have M25_ := trivial
 have M28_ := trivial
 rotate_left
 obtain ⟨y112, Ny112, H⟩ := bY H
 by_cases c25 : 0 ≤ t111
 rw [if_pos c25] at H
 have c25b0 := eq_true c25
 have c25b1 : decide (0 ≤ t111) = true := decide_eq_true c25
 clear c25
 by_cases c26 : t111 ≤ (t107.length : Int)
 rw [if_pos c26] at H
 have c26b0 := eq_true c26
 have c26b1 : decide (t111 ≤ (t107.length : Int)) = true := decide_eq_true c26
 clear c26
 obtain ⟨y115, Ny115, H⟩ := bY H
 by_cases c27 : y112.length + y115.length < 2199023255552
 rw [if_pos c27] at H
 have LMc27 := am c27
 clear c27
 obtain ⟨y120, Ny120, H⟩ := bY H
 obtain ⟨ji28, hji28⟩ : ∃ j_ : Int, (wrap64 (t111 + 1)) = j_ := ⟨_, rfl⟩
 replace H : (if 0 ≤ (ji28) then (if (ji28) ≤ (t107.length : Int) then ((some (t107.drop ((ji28) : Int).toNat : List (S56))).bind fun y123 => (if y120.length + y123.length < 2199023255552 then (some (t104, (y120 ++ y123), 0)) else (none))) else (none)) else (none)) = some (r1, r2, r3) := by first | (rw [hji28] at H; exact H) | (simp only [hji28] at H ⊢; exact H)
 (try rw [hji28] at A3)
 (try rw [hji28] at A5)
 (try rw [hji28] at A6)
 have hji28w : (IntKind.i64.wrap (t111 + 1)) = ji28 := (i64_w _).trans hji28
 by_cases c29 : 0 ≤ (ji28)
 rw [if_pos c29] at H
 have c29b0 := eq_true c29
 have c29b1 : decide (0 ≤ (ji28)) = true := decide_eq_true c29
 clear c29
 by_cases c30 : (ji28) ≤ (t107.length : Int)
 rw [if_pos c30] at H
 have c30b0 := eq_true c30
 have c30b1 : decide ((ji28) ≤ (t107.length : Int)) = true := decide_eq_true c30
 clear c30
 obtain ⟨y123, Ny123, H⟩ := bY H
 by_cases c31 : y120.length + y123.length < 2199023255552
 rw [if_pos c31] at H
 have LMc31 := am c31
 clear c31
 obtain ⟨y128, Ny128⟩ := yv (y120 ++ y123); first | replace H := bW Ny128 H | rw [← Ny128.1] at H
 simp only [Option.some.injEq, Prod.mk.injEq] at H
 obtain ⟨rfl, rfl, rfl⟩ := H
 have M25_ := trivial
 have M29_ := trivial
 rotate_left
 rw [if_neg c31] at H
 exact absurd H (by simp)
 rw [if_neg c30] at H
 exact absurd H (by simp)
 rw [if_neg c29] at H
 exact absurd H (by simp)
 rw [if_neg c27] at H
 exact absurd H (by simp)
 rw [if_neg c26] at H
 exact absurd H (by simp)
 rw [if_neg c25] at H
 exact absurd H (by simp)
 simp only [Option.some.injEq, Prod.mk.injEq] at H
 obtain ⟨rfl, rfl, rfl⟩ := H
 have M30_ := trivial
 rotate_left
 all_goals
  go_enter Try.func46, Try.ntmps46
  try go_wp2_with (first | ((with_reducible refine gD 2 ?_); refine bX 2 #[.slice A0_0 l0_0.length c0_0, .slice A0_1 l0_1.length c0_1] 31 ?_; intro gb101 hg w1920 hbox hb; have BK101 := am (hbox); have GW101 := am (pY89 : w.heap.size ≤ gb101); have GE101 := am (pY89 : w.heap.size ≤ gb101); replace HB := bS pY95 hb; clear hb hbox hg) | ((with_reducible refine gD 4 ?_); refine bX 4 #[.slice none 0 0, .slice none 0 0] 31 ?_; intro gb102 hg w1960 hbox hb; have BK102 := am (hbox); have GW102 := am (pY77 : w.heap.size ≤ gb102); have GE102 := am (pY77 : w.heap.size ≤ gb102); replace HB := bS pY90 hb; have NB101_102 := nL pY98 hg; have NB102_101 := nG pY98 hg; replace BK101 := bB pY98 hb; clear hb hbox hg; have hnb1961 := NB101_102.1; have hnc1962 := NB102_101.1; obtain ⟨hcz1963_0, hcz1963_1, hfz1964_0, hfz1964_1⟩ := cz2 BK101) | ((with_reducible refine gC 22 ?_); clear M25_; refine cQ (some 9) Try.func22 (spec_ShareBookOk.calls k _ _ l0_0 _ _ l0_1 true _ (pB HR0_0) HC0_0.1 (pB HR0_1) HC0_1.1 A3.out) ?_; rintro w2000 hb; replace BK101 := bB pY98 hb; replace BK102 := bB pY99 hb; replace HB := bS pY81 hb; (try clear hb); obtain ⟨hcz2001_0, hcz2001_1, hfz2002_0, hfz2002_1⟩ := cz2 BK101) | ((with_reducible refine gC 89 ?_); refine cE (some 13) Try.func89 (spec_l1Copy.calls k _ _ l0_0 _ _ l0_1 t104 t107 _ (pB HR0_0) HC0_0.1 (pB HR0_1) HC0_1.1 A5.out) ?_; rintro e w2040 ⟨v105, v108, rfl, ho0, ho1, hb⟩; refine ⟨_, rfl, ?_⟩; have HO106 := am (Kd.R_lower (Kd.R_newM (M := fun k_ => (w.heap.size ≤ k_)) ho0 (below_size (pY81)) (fun k_ h_ => h_)) (below_size (pY81))); have HO109 := am (Kd.N_lower (Kd.N_mono (ok' := fun k_ => (w.heap.size ≤ k_) ∧ some k_ ≠ (v105 : Value).ownBlock ∧ k_ ≠ gb101 ∧ k_ ≠ gb102) (Kd.S_N (Kd.S_bound ho1)) (fun k_ hk_ => ⟨(Nat.le_trans (below_size (pY81)) hk_.2.1), hk_.1, (fB pY98 k_ hk_.2.1), (fB pY99 k_ hk_.2.1)⟩)) (below_size (pY81))); replace BK101 := bB pY98 hb; replace BK102 := bB pY99 hb; replace HB := bS pY81 hb; (try clear hb); (try clear ho0); (try clear ho1)) | ((with_reducible refine gD 6 ?_); refine bX 6 #[.slice none 0 0, .slice none 0 0] 31 ?_; intro gb110 hg w2080 hbox hb; replace HO106 := am (Kd.R_below (pY121) hb); replace HO109 := am (Kd.N_below (Kd.N_elderB (pY122) gb110 (Nat.le_of_eq hg.symm)) hb); have BK110 := am (hbox); have GW110 := am (pY65 : w.heap.size ≤ gb110); have GE110 := am (pY65 : w.heap.size ≤ gb110); replace HB := bS pY81 hb; have NB101_110 := nL pY98 hg; have NB110_101 := nG pY98 hg; replace BK101 := bB pY98 hb; have NB102_110 := nL pY99 hg; have NB110_102 := nG pY99 hg; replace BK102 := bB pY99 hb; clear hb hbox hg; obtain ⟨Ao2081, co2082, eo2083⟩ := Kd.R_slice HO106.1; subst eo2083; have hnb2084 := NB110_101.1; have hnc2085 := NB101_110.1; have hnb2086 := NB110_102.1; have hnc2087 := NB102_110.1; obtain ⟨hcz2088_0, hcz2088_1, hfz2089_0, hfz2089_1⟩ := cz2 BK110; obtain ⟨Ao2090, co2091, eo2092⟩ := Kd.N_slice HO109.1; subst eo2092; obtain ⟨hcz2093_0, hcz2093_1, hfz2094_0, hfz2094_1⟩ := cz2 BK101) | ((with_reducible refine gC 82 ?_); clear M28_; refine cQ (some 16) Try.func82 (spec_l1At.calls k _ _ l0_0 _ _ l0_1 a1 t111 _ (Kd.C_below HR0_0.1 (pY69)) HC0_0.1 (Kd.C_below HR0_1.1 (pY69)) HC0_1.1 A6.out) ?_; rintro w2120 hb; replace HO106 := am (Kd.R_below (by refine rR ?_; exact (Kd.R_mono (fR (fR (tR HO106 BK110))) (fun _ h_ => h_.1))) hb); replace HO109 := am (Kd.N_below (by refine rN ?_; exact (Kd.N_mono (fN (fN (Kd.N_mono HO109.1 (fun k_ hk => (⟨hk, hk.2⟩ : _ ∧ k_ ≠ gb110))))) (fun _ h_ => h_.1))) hb); replace BK101 := am (blk_below (g := gb101) (o := .cells #[.slice A0_0 l0_0.length c0_0, .slice A0_1 l0_1.length c0_1] 31 (0, 0)) (pY8) hb); replace BK102 := am (blk_below (g := gb102) (o := .cells #[.slice none 0 0, .slice none 0 0] 31 (0, 0)) (pY9) hb); replace BK110 := am (blk_below (g := gb110) (o := .cells #[.slice Ao2081 t104.length co2082, .slice Ao2090 t107.length co2091] 31 (0, 0)) (by refine rB ?_; refine blk_put (cs := #[.slice Ao2081 t104.length co2082, .slice none 0 0]) ?_ 1 _ rfl; refine rB ?_; refine blk_put (cs := #[.slice none 0 0, .slice none 0 0]) ?_ 0 _ rfl; refine rB ?_; exact BK110.1) hb); replace HB := bS pY69 hb; (try clear hb); (try clear hk); obtain ⟨hcz2121_0, hcz2121_1, hfz2122_0, hfz2122_1⟩ := cz2 BK110; obtain ⟨hcz2123_0, hcz2123_1, hfz2124_0, hfz2124_1⟩ := cz2 BK102) | ((with_reducible refine gC 82 ?_); clear M29_; refine cQ (some 16) Try.func82 (spec_l1At.calls k _ _ l0_0 _ _ l0_1 a1 t111 _ (Kd.C_below HR0_0.1 (pY69)) HC0_0.1 (Kd.C_below HR0_1.1 (pY69)) HC0_1.1 A6.out) ?_; rintro w2160 hb; replace HO106 := am (Kd.R_below (by refine rR ?_; exact (Kd.R_mono (fR (fR (tR HO106 BK110))) (fun _ h_ => h_.1))) hb); replace HO109 := am (Kd.N_below (by refine rN ?_; exact (Kd.N_mono (fN (fN (Kd.N_mono HO109.1 (fun k_ hk => (⟨hk, hk.2⟩ : _ ∧ k_ ≠ gb110))))) (fun _ h_ => h_.1))) hb); replace BK101 := am (blk_below (g := gb101) (o := .cells #[.slice A0_0 l0_0.length c0_0, .slice A0_1 l0_1.length c0_1] 31 (0, 0)) (pY8) hb); replace BK102 := am (blk_below (g := gb102) (o := .cells #[.slice none 0 0, .slice none 0 0] 31 (0, 0)) (pY9) hb); replace BK110 := am (blk_below (g := gb110) (o := .cells #[.slice Ao2081 t104.length co2082, .slice Ao2090 t107.length co2091] 31 (0, 0)) (by refine rB ?_; refine blk_put (cs := #[.slice Ao2081 t104.length co2082, .slice none 0 0]) ?_ 1 _ rfl; refine rB ?_; refine blk_put (cs := #[.slice none 0 0, .slice none 0 0]) ?_ 0 _ rfl; refine rB ?_; exact BK110.1) hb); replace HB := bS pY69 hb; (try clear hb); (try clear hk)) | ((with_reducible refine gC 22 ?_); clear M30_; refine cQ (some 9) Try.func22 (spec_ShareBookOk.calls k _ _ l0_0 _ _ l0_1 false _ (pB HR0_0) HC0_0.1 (pB HR0_1) HC0_1.1 A3.out) ?_; rintro w2200 hb; replace BK101 := bB pY98 hb; replace BK102 := bB pY99 hb; replace HB := bS pY81 hb; (try clear hb); obtain ⟨hcz2201_0, hcz2201_1, hfz2202_0, hfz2202_1⟩ := cz2 BK102))
 ·refine bodyPost_ret (results_ct rfl _ _ gb102 31 #[.slice Ao2081 t104.length co2082, .slice Ao2090 t107.length co2091] (0, 0) _ rfl (by refine rB ?_; refine blk_put (cs := #[.slice Ao2081 t104.length co2082, .slice none 0 0]) ?_ 1 _ rfl; refine rB ?_; refine blk_put (cs := #[.slice none 0 0, .slice none 0 0]) ?_ 0 _ rfl; refine rB ?_; exact BK102.1) Try.underlying31 rfl (by kernel_rfl)) rfl ?_
  exact ⟨_, _, eR, by refine rR ?_; exact Kd.R_mono (fR (fR (tR HO106 BK102))) (fun _ hk => hk.1.1), by refine rN ?_; exact Kd.N_mono (fN (fN (Kd.N_mono HO109.1 (fun k_ hk => (⟨hk, hk.1.2.2.2⟩ : _ ∧ k_ ≠ gb102))))) (fun _ hk => ⟨hk.1.1.1, hk.1.1.2.1⟩), pY69⟩
 ·replace HO106 := am (Kd.R_drew HO106.1)
  replace HO109 := am (Kd.N_drew HO109.1)
  replace BK101 := am (blk_drew BK101.1)
  replace BK102 := am (blk_drew BK102.1)
  replace BK110 := am (blk_drew BK110.1)
  replace HB := am (below_drew1 HB.1)
  have q48 : (t111 : Int) ≤ ((t107.length : Int) : Int) := oT
  obtain ⟨i048, hi048, _, hsz48, _⟩ := info_parts info56
  have hroom48 : t107.length ≤ co2091 := (Kd.N_reads' HO109.1).2.1
  have hC48 : Kd.F k56 _ _ Ao2090 t107.length t107 := (Kd.V_at (base := w.heap.size) (Kd.N_V HO109.1)).2.2
  have hcut48 := cut_to (P := Try.prog) 29 56 .i64 Try.underlying29 hi048 Ao2090 t107.length co2091 t111 (oT) q48 hroom48
  have hr48 := Kd.F_take (m := (t111 : Int).toNat) hC48 (by omega)
  have hy48 : y115.length = (t111 : Int).toNat := (by rw [Ny115.out, List.length_take]; omega)
  rw [← Ny115.out] at hr48
  rw [← hy48] at hcut48
  have HO119 := am (show Kd.V k56 56 _ w.heap.size _ (.slice Ao2090 y115.length co2091) y115 from Kd.V_mk (by omega) hr48)
  have HC119 := am (show y115.length ≤ co2091 from by omega)
  clear hr48 hC48 hroom48 hi048 hsz48
  have KY48 := am hy48
  clear hy48
  replace q48 := eq_true q48
  have q49 : ((ji28) : Int) ≤ ((t107.length : Int) : Int) := oT
  obtain ⟨i049, hi049, _, hsz49, _⟩ := info_parts info56
  have hroom49 : t107.length ≤ co2091 := (Kd.N_reads' HO109.1).2.1
  have hC49 : Kd.F k56 _ _ Ao2090 t107.length t107 := (Kd.V_at (base := w.heap.size) (Kd.N_V HO109.1)).2.2
  have q049 : (0 : Int) ≤ ((ji28) : Int) := oT
  have hcut49 := cut_from (P := Try.prog) 29 56 .i64 Try.underlying29 hi049 3 hsz49 Ao2090 t107.length co2091 (ji28) q049 q49
  have hr49 := Kd.F_cut (m := ((ji28) : Int).toNat) (c := co2091) hC49 (by omega) hroom49
  obtain ⟨A49, hA49⟩ : ∃ A1, A1 = (if co2091 = ((ji28) : Int).toNat then Ao2090 else (Ao2090 : Option Addr).map (·.add (((ji28) : Int).toNat * 3))) := ⟨_, rfl⟩
  obtain ⟨c49, hc49⟩ : ∃ c1, c1 = co2091 - ((ji28) : Int).toNat := ⟨_, rfl⟩
  have hy49 : y123.length = t107.length - ((ji28) : Int).toNat := (by rw [Ny123.out, List.length_drop] <;> omega)
  rw [show (t107).drop ((ji28) : Int).toNat = y123 from Ny123.out.symm] at hr49
  replace hr49 : Kd.F k56 _ _ A49 y123.length y123 := (by rw [hA49]; exact hr49)
  rw [← hy49, ← hA49, ← hc49] at hcut49
  have HO127 := am (show Kd.V k56 56 _ w.heap.size _ (.slice A49 y123.length c49) y123 from Kd.V_mk (by rw [hy49, hc49]; exact Nat.sub_le_sub_right hroom49 _) hr49)
  have HC127 := am (show y123.length ≤ c49 from by rw [hy49, hc49]; exact Nat.sub_le_sub_right hroom49 _)
  clear hr49 hC49 hroom49 hi049 hsz49 hc49
  have KY49 := am hy49
  have KA49 := am hA49
  clear hy49 hA49
  replace q49 := eq_true q49
  refine sT [13] 14 (uA2 BK110) (fun hHeld => ?_); refine with_tabW spec_ShareLeave.tab7 spec_ShareLeave.bits7 (fun HT_ HW_ => ?_)
  generalize w2160.drew = w47 at HO106 HO109 BK101 BK102 BK110 HB HO119 HO127 hHeld ⊢
  refine pU 1 (some 21) ?_
  refine pU 3 (some 23) ?_
  refine pU 6 (some 26) ?_
  refine pU 8 (some 28) ?_
  refine pU 9 (some 29) ?_
  refine tK2 2 (some 22) ?_
  refine pU 4 (some 24) ?_
  refine tK2 7 (some 27) ?_
  refine pU 10 (some 30) ?_
  refine oN 0 (some 20) fun K hK => ?_
  refine Kd.N_lit_step k56 _ 56 ?hg (N' := 20) ?hd (xs := ([] : List (S56))) (inner := []) (ok := (fun k_ => (w.heap.size ≤ k_) ∧ some k_ ≠ (.slice Ao2081 t104.length co2082 : Value).ownBlock ∧ some k_ ≠ (.slice Ao2090 t107.length co2091 : Value).ownBlock ∧ k_ ≠ gb101 ∧ k_ ≠ gb102 ∧ k_ ≠ gb110)) (okp := (fun k_ => (w.heap.size ≤ k_) ∧ some k_ ≠ (.slice Ao2081 t104.length co2082 : Value).ownBlock ∧ some k_ ≠ (.slice Ao2090 t107.length co2091 : Value).ownBlock ∧ k_ ≠ gb101 ∧ k_ ≠ gb102 ∧ k_ ≠ gb110)) ?hr ?hp (fun _ hk => hk) ((show ∀ k_, w47.heap.size ≤ k_ → (fun k_ => (w.heap.size ≤ k_) ∧ some k_ ≠ (.slice Ao2081 t104.length co2082 : Value).ownBlock ∧ some k_ ≠ (.slice Ao2090 t107.length co2091 : Value).ownBlock ∧ k_ ≠ gb101 ∧ k_ ≠ gb102 ∧ k_ ≠ gb110) k_ from fun k_ hk => ⟨(Nat.le_trans (below_size (pY69)) hk), Kd.fresh' (Kd.R_lt (pY121)) k_ hk, Kd.fresh' (Kd.N_lt (pY122)) k_ hk, Kd.freshB (g := gb101) (o := .cells #[.slice A0_0 l0_0.length c0_0, .slice A0_1 l0_1.length c0_1] 31 (0, 0)) (pY98) k_ hk, Kd.freshB (g := gb102) (o := .cells #[.slice none 0 0, .slice none 0 0] 31 (0, 0)) (pY99) k_ hk, Kd.freshB (g := gb110) (o := .cells #[.slice Ao2081 t104.length co2082, .slice Ao2090 t107.length co2091] 31 (0, 0)) (pY103) k_ hk⟩) _ (Nat.le_refl _)) (Below.refl _ _) (Nat.le_refl _) (by simp) ?_; (case hd => rfl); (case hg => rfl); (case hr => first | (go_simp; done) | (go_simp; rfl)); (case hp => exact (Reps.none _ _))
  intro v113 w50 ho51 hb hg_ hnew_
  clear hg_ hnew_
  (first | rw [← Ny112.out] at ho51 | (simp only [Int.reduceToNat] at ho51; rw [← Ny112.out] at ho51))
  replace HO106 := am (Kd.R_below (pY121) hb)
  replace HO109 := am (Kd.N_elder' (pY122) (Kd.N_base ho51) hb)
  replace HO119 := am (Kd.V_elder' (rV HO119.1) (Kd.N_base ho51) hb)
  replace HO127 := am (Kd.V_elder' (rV HO127.1) (Kd.N_base ho51) hb)
  have HO114 := am (Kd.N_lower ho51 (below_size (pY69)))
  replace BK101 := bB pY98 hb
  replace BK102 := bB pY99 hb
  replace BK110 := bB pY103 hb
  replace HB := bS pY69 hb
  clear hb ho51
  refine hK.out _ _ (uA2 BK110).1 (fun hHeld => ?_)
  clear hK K
  refine nM ?_
  refine oN 5 (some 25) fun K hK => ?_
  refine Kd.N_append_rows_step k56 (w0 := w) w.heap.size (by rfl) (.tmp 20) (.tmp 24) 29 56 (.agg #[(.string ⟨#[]⟩), (.slice none 0 0), (.slice none 0 0)]) 64 rfl Try.underlying29 info56 rfl (by decide) (by omega) v113 y112 y115 _ _ _ (fun k_ => (w.heap.size ≤ k_) ∧ some k_ ≠ (.slice Ao2081 t104.length co2082 : Value).ownBlock ∧ k_ ≠ gb101 ∧ k_ ≠ gb102 ∧ k_ ≠ gb110) (fun k_ => ((fun k_ => (w.heap.size ≤ k_) ∧ some k_ ≠ (.slice Ao2081 t104.length co2082 : Value).ownBlock ∧ k_ ≠ gb101 ∧ k_ ≠ gb102 ∧ k_ ≠ gb110)) k_ ∧ some k_ ≠ (v113 : Value).ownBlock) rfl rfl ?aO ?aR (fun _ hk => hk) ?aF ?aB ?aS ?aL ?_
  (case aR => exact (by skip; exact Kd.V_F (Kd.V_mono (ok' := (fun k_ => ((fun k_ => (w.heap.size ≤ k_) ∧ some k_ ≠ (.slice Ao2081 t104.length co2082 : Value).ownBlock ∧ k_ ≠ gb101 ∧ k_ ≠ gb102 ∧ k_ ≠ gb110)) k_ ∧ some k_ ≠ (v113 : Value).ownBlock)) (HO119.1) (fun k_ hk => ⟨⟨hk.1.1.1, ⟨hk.1.1.2.1, ⟨hk.1.1.2.2.1, ⟨hk.1.1.2.2.2, hk.1.2⟩⟩⟩⟩, hk.2⟩))))
  (case aB => exact (pY69))
  (case aF => exact (fun k_ hk => ⟨(Nat.le_trans (below_size (pY69)) hk), Kd.fresh' (Kd.R_lt (pY121)) k_ hk, Kd.freshB (g := gb101) (o := .cells #[.slice A0_0 l0_0.length c0_0, .slice A0_1 l0_1.length c0_1] 31 (0, 0)) (pY98) k_ hk, Kd.freshB (g := gb102) (o := .cells #[.slice none 0 0, .slice none 0 0] 31 (0, 0)) (pY99) k_ hk, Kd.freshB (g := gb110) (o := .cells #[.slice Ao2081 t104.length co2082, .slice Ao2090 t107.length co2091] 31 (0, 0)) (pY103) k_ hk⟩))
  (case aO => exact (by refine rN ?_; exact Kd.N_mono HO114.1 (fun _ hk => ⟨hk.1, ⟨hk.2.1, ⟨hk.2.2.2.1, ⟨hk.2.2.2.2.1, hk.2.2.2.2.2⟩⟩⟩⟩)))
  (case aS => exact (below_size (pY69)))
  (case aL => have := LMc27.out; omega)
  intro v121 w52 ho hb hg hat
  rw [← Ny120.out] at ho
  replace BK101 := gN pY98 hg HO114 BK101
  replace BK102 := gN pY99 hg HO114 BK102
  replace HO106 := am (Kd.R_over' (pY121) (Kd.N_typed (rN HO114.1)) (by decide) hg)
  replace HO109 := am (Kd.N_afterv (ok := (fun k_ => (w.heap.size ≤ k_) ∧ some k_ ≠ (.slice Ao2081 t104.length co2082 : Value).ownBlock ∧ k_ ≠ gb101 ∧ k_ ≠ gb102 ∧ k_ ≠ gb110)) (by refine rN ?_; exact Kd.N_mono HO109.1 (fun _ hk => ⟨⟨hk.1.1.1, ⟨hk.1.1.2.1, ⟨hk.1.1.2.2.1, ⟨hk.1.1.2.2.2, hk.1.2⟩⟩⟩⟩, hk.2⟩)) hg hat)
  replace BK110 := gN pY103 hg HO114 BK110
  replace HO119 := am (Kd.V_afterv (ok := (fun k_ => (w.heap.size ≤ k_) ∧ some k_ ≠ (.slice Ao2081 t104.length co2082 : Value).ownBlock ∧ k_ ≠ gb101 ∧ k_ ≠ gb102 ∧ k_ ≠ gb110)) (by refine rV ?_; exact Kd.V_mono HO119.1 (fun _ hk => ⟨⟨hk.1.1.1, ⟨hk.1.1.2.1, ⟨hk.1.1.2.2.1, ⟨hk.1.1.2.2.2, hk.1.2⟩⟩⟩⟩, hk.2⟩)) hg hat)
  replace HO127 := am (Kd.V_afterv (ok := (fun k_ => (w.heap.size ≤ k_) ∧ some k_ ≠ (.slice Ao2081 t104.length co2082 : Value).ownBlock ∧ k_ ≠ gb101 ∧ k_ ≠ gb102 ∧ k_ ≠ gb110)) (by refine rV ?_; exact Kd.V_mono HO127.1 (fun _ hk => ⟨⟨hk.1.1.1, ⟨hk.1.1.2.1, ⟨hk.1.1.2.2.1, ⟨hk.1.1.2.2.2, hk.1.2⟩⟩⟩⟩, hk.2⟩)) hg hat)
  replace HB := am (hb)
  have HO122 := am (ho)
  clear HO114
  clear ho hb hg hat
  refine hK.out _ _ (uA2 BK110).1 (fun hHeld => ?_)
  clear hK K
  refine nM ?_
  refine oN 11 (some 31) fun K hK => ?_
  refine Kd.N_append_rows_step k56 (w0 := w) w.heap.size (by rfl) (.tmp 25) (.tmp 30) 29 56 (.agg #[(.string ⟨#[]⟩), (.slice none 0 0), (.slice none 0 0)]) 64 rfl Try.underlying29 info56 rfl (by decide) (by omega) v121 y120 y123 _ _ _ (fun k_ => (w.heap.size ≤ k_) ∧ some k_ ≠ (.slice Ao2081 t104.length co2082 : Value).ownBlock ∧ k_ ≠ gb101 ∧ k_ ≠ gb102 ∧ k_ ≠ gb110) (fun k_ => ((fun k_ => (w.heap.size ≤ k_) ∧ some k_ ≠ (.slice Ao2081 t104.length co2082 : Value).ownBlock ∧ k_ ≠ gb101 ∧ k_ ≠ gb102 ∧ k_ ≠ gb110)) k_ ∧ some k_ ≠ (v121 : Value).ownBlock) rfl rfl ?aO ?aR (fun _ hk => hk) ?aF ?aB ?aS ?aL ?_
  (case aR => exact (by skip; exact Kd.V_F (Kd.V_mono (ok' := (fun k_ => ((fun k_ => (w.heap.size ≤ k_) ∧ some k_ ≠ (.slice Ao2081 t104.length co2082 : Value).ownBlock ∧ k_ ≠ gb101 ∧ k_ ≠ gb102 ∧ k_ ≠ gb110)) k_ ∧ some k_ ≠ (v121 : Value).ownBlock)) (HO127.1) (fun k_ hk => ⟨⟨hk.1.1, ⟨hk.1.2.1, ⟨hk.1.2.2.1, ⟨hk.1.2.2.2.1, hk.1.2.2.2.2⟩⟩⟩⟩, hk.2⟩))))
  (case aB => exact (pY69))
  (case aF => exact (fun k_ hk => ⟨(Nat.le_trans (below_size (pY69)) hk), Kd.fresh' (Kd.R_lt (pY121)) k_ hk, Kd.freshB (g := gb101) (o := .cells #[.slice A0_0 l0_0.length c0_0, .slice A0_1 l0_1.length c0_1] 31 (0, 0)) (pY98) k_ hk, Kd.freshB (g := gb102) (o := .cells #[.slice none 0 0, .slice none 0 0] 31 (0, 0)) (pY99) k_ hk, Kd.freshB (g := gb110) (o := .cells #[.slice Ao2081 t104.length co2082, .slice Ao2090 t107.length co2091] 31 (0, 0)) (pY103) k_ hk⟩))
  (case aO => exact (rN HO122.1))
  (case aS => exact (below_size (pY69)))
  (case aL => have := LMc31.out; omega)
  intro v129 w53 ho hb hg hat
  rw [← Ny128.out] at ho
  replace BK101 := gN pY98 hg HO122 BK101
  replace BK102 := gN pY99 hg HO122 BK102
  replace HO106 := am (Kd.R_over' (pY121) (Kd.N_typed (rN HO122.1)) (by decide) hg)
  replace HO109 := am (Kd.N_afterv (ok := (fun k_ => (w.heap.size ≤ k_) ∧ some k_ ≠ (.slice Ao2081 t104.length co2082 : Value).ownBlock ∧ k_ ≠ gb101 ∧ k_ ≠ gb102 ∧ k_ ≠ gb110)) (pY122) hg hat)
  replace BK110 := gN pY103 hg HO122 BK110
  replace HO119 := am (Kd.V_afterv (ok := (fun k_ => (w.heap.size ≤ k_) ∧ some k_ ≠ (.slice Ao2081 t104.length co2082 : Value).ownBlock ∧ k_ ≠ gb101 ∧ k_ ≠ gb102 ∧ k_ ≠ gb110)) (rV HO119.1) hg hat)
  replace HO127 := am (Kd.V_afterv (ok := (fun k_ => (w.heap.size ≤ k_) ∧ some k_ ≠ (.slice Ao2081 t104.length co2082 : Value).ownBlock ∧ k_ ≠ gb101 ∧ k_ ≠ gb102 ∧ k_ ≠ gb110)) (rV HO127.1) hg hat)
  replace HB := am (hb)
  have HO130 := am (ho)
  clear HO122
  clear ho hb hg hat
  obtain ⟨Ao54, co54, eo54⟩ := Kd.N_slice HO130.1
  (first | subst eo54 | (injection eo54 with f1_ f2_ f3_; have f4_ := f1_.symm; have f5_ := f3_.symm; clear f1_ f2_ f3_; subst f4_; subst f5_))
  refine hK.out _ _ (uA2 BK110).1 (fun hHeld => ?_)
  clear hK K
  refine nM ?_
  refine pU 12 (some 32) ?_
  refine last_ (i := 13) (N := none) (bz 14 16383) rfl rfl (one_of HT_.out (by kernel_rfl)) (by decide) (fun K hK => ?_)
  have hs55 : w53.cell? ⟨gb110, 1, none⟩ = some (.slice Ao2090 t107.length co2091) := (blk_cell BK110.1 1).trans rfl
  have hfs55 := blk_frozen BK110.1 1
  have hns55_0 := NB101_110.1
  have hns55_1 := NB102_110.1
  have hms55_0 := NB110_101.1
  have hms55_1 := NB110_102.1
  refine skip_ (w1 := ?_) (by rfl) rfl ?_ ?_
  rotate_left
  ·go_simp
   rfl
  refine hK.out _ _ ?_
  clear hK K
  refine done_ (done_of HT_.out (by kernel_rfl)) ?_
  obtain ⟨hcz56_0, hcz56_1, hfz56_0, hfz56_1⟩ := cz2 BK110
  obtain ⟨hcz57_0, hcz57_1, hfz57_0, hfz57_1⟩ := cz2 BK102
  try go_wp2
  refine bodyPost_ret (results_ct rfl _ _ gb102 31 #[.slice Ao2081 t104.length co2082, .slice Ao54 y128.length co54] (0, 0) _ rfl (by refine rB ?_; refine blk_put (cs := #[.slice Ao2081 t104.length co2082, .slice none 0 0]) ?_ 1 _ rfl; refine rB ?_; refine blk_put (cs := #[.slice none 0 0, .slice none 0 0]) ?_ 0 _ rfl; refine rB ?_; refine blk_far ?_ NB102_110.1 _; refine rB ?_; exact BK102.1) Try.underlying31 rfl (by kernel_rfl)) rfl ?_
  exact ⟨_, _, by first | rfl | (simp [errW_none, errW_some] <;> rfl) | (simp only [← hji28]; first | rfl | (simp [errW_none, errW_some] <;> rfl)) | (simp [*, errW_none, errW_some] <;> rfl), by refine rR ?_; exact Kd.R_mono (fR (fR (Kd.R_far (p := ⟨gb110, 1, none⟩) (Kd.R_types (tR HO106 BK110) BK102.1 (by decide)) (fun _ hk => hk.1.2) (.slice Ao54 y128.length co54)))) (fun _ hk => hk.1.1.1), by refine rN ?_; exact Kd.N_mono (fN (fN (Kd.N_far (p := ⟨gb110, 1, none⟩) (Kd.N_mono (Kd.N_mono HO130.1 (fun k_ hk => (⟨hk, hk.2.2.2.2⟩ : _ ∧ k_ ≠ gb110))) (fun k_ hk => (⟨hk, hk.1.2.2.2.1⟩ : _ ∧ k_ ≠ gb102))) (fun _ hk => hk.1.2) (.slice Ao54 y128.length co54)))) (fun _ hk => ⟨hk.1.1.1, hk.1.1.2.1⟩), pY69⟩
 ·refine bodyPost_ret (results_ct rfl _ _ gb102 31 #[.slice none 0 0, .slice none 0 0] (0, 0) _ rfl (pY6) Try.underlying31 rfl (by kernel_rfl)) rfl ?_
  exact ⟨_, _, eR, by first | exact Kd.R_nil _ _ _ _ _ | exact Kd.N_nil _ _ _ _ _ | exact Kd.V_nil _ _ _ _ _ | exact Kd.Q_nil _ _ _ _ _ | exact Kd.S_nil _ _ _ _ _, by first | exact Kd.S_nil _ _ _ _ _ | exact Kd.N_nil _ _ _ _ _ | exact Kd.V_nil _ _ _ _ _ | exact Kd.Q_nil _ _ _ _ _ | exact Kd.R_nil _ _ _ _ _, pY81⟩
theorem k56_mkF2 (W : World) (ok : Nat → Prop) (x : S56) {A1 : Option Addr} {c1 e base : Nat} {v2 : Value} (l1 : x.f1.length ≤ c1) (g1 : Kd.F Kd.string W ok A1 x.f1.length x.f1) (h : Kd.R Kd.string e W base ok v2 x.f2) : Kd.FK k56 W ok x [.string x.f0, .slice A1 x.f1.length c1, v2] := by
 obtain ⟨A, c, rfl⟩ := Kd.R_slice h
 exact k56_mkF W ok x l1 g1 (Kd.R_reads' h).2.1 (Kd.R_F h)
theorem k56_mkF1 (W : World) (ok : Nat → Prop) (x : S56) {A2 : Option Addr} {c2 e base : Nat} {v1 : Value} (h : Kd.R Kd.string e W base ok v1 x.f1) (l2 : x.f2.length ≤ c2) (g2 : Kd.F Kd.string W ok A2 x.f2.length x.f2) : Kd.FK k56 W ok x [.string x.f0, v1, .slice A2 x.f2.length c2] := by
 obtain ⟨A, c, rfl⟩ := Kd.R_slice h
 exact k56_mkF W ok x (Kd.R_reads' h).2.1 (Kd.R_F h) l2 g2
def spec_ShareLess.l0 : Nat → List ByteArray → Int → List ByteArray → Int → List ByteArray → List (S56) → List ByteArray → List (S56) → Option (List ByteArray × (List (S56)) × Int)
 | 0, _, _, _, _, _, _, _, _ => none
 | k + 1, x2, x9, x10, x11, x102000, x102001, x111000, x111001 => if 0 ≤ x9 then (if x9 < (x102001.length : Int) then (if x11 < (((rd_T56 x102001 x9).f1).length : Int) then (if 0 ≤ x11 then ((spec_l1Has.f k x2 (rdOf ByteArray.empty ((rd_T56 x102001 x9).f1) x11)).bind fun t120 => (if t120 = true then (if x10.length < 8796093022208 then (spec_ShareLess.l0 k x2 x9 (x10 ++ [rdOf ByteArray.empty ((rd_T56 x102001 x9).f1) x11]) (wrap64 (x11 + 1)) x102000 x102001 x111000 x111001) else (none)) else (spec_ShareLess.l0 k x2 x9 x10 (wrap64 (x11 + 1)) x102000 x102001 x111000 x111001))) else (none)) else ((spec_l1Names.f x2).bind fun t126 => (if x9 < (x111001.length : Int) then ((some (x111001.set (x9 : Int).toNat (⟨(rd_T56 x111001 x9).f0, (rd_T56 x111001 x9).f1, t126⟩ : S56) : List (S56))).bind fun y129 => ((spec_l1Copy.f k x111000 (y129.set (x9 : Int).toNat (⟨(rd_T56 y129 x9).f0, x10, (rd_T56 y129 x9).f2⟩ : S56))).bind fun bt131 => (some (bt131.1, bt131.2, 0)))) else (none)))) else (none)) else (none)
def spec_ShareLess.f (k : Nat) (l0_0 : List ByteArray) (l0_1 : List (S56)) (a1 : ByteArray) (l2 : List ByteArray) : Option (List ByteArray × (List (S56)) × Int) := (spec_ShareBookOk.f k l0_0 l0_1).bind fun t103 => (if t103 = true then ((spec_l1Copy.f k l0_0 l0_1).bind fun bt104 => ((spec_l1At.f k l0_0 l0_1 a1).bind fun t111 => (if t111 < 0 then (some (bt104.1, bt104.2, 3)) else (if 0 ≤ t111 then (if t111 < (l0_1.length : Int) then ((spec_l1NamesOk.f k l2 ((rd_T56 l0_1 t111).f2)).bind fun t113 => (if t113 = true then (spec_ShareLess.l0 k l2 t111 (([] : List ByteArray)) 0 l0_0 l0_1 bt104.1 bt104.2) else (some (bt104.1, bt104.2, 2)))) else (none)) else (none))))) else (some (([] : List ByteArray), ([] : List (S56)), 1)))
def spec_ShareLess.T15 : Bool × List (List Nat × List Nat) := (true, [([], []), ([0], [0]), ([], []), ([], []), ([3], [3]), ([1, 2, 0, 1, 2, 3, 4], [1, 2]), ([5, 0, 1, 2, 3, 4], [5]), ([6, 4, 4, 0, 1, 2, 3, 4], [4, 6])])
def spec_ShareLess.B15 : List Nat := [0, 1, 0, 0, 8, 31, 63, 127]
theorem spec_ShareLess.tab15 : rtab .any (opsOf Try.f49 15) = spec_ShareLess.T15 := by kernel_rfl
theorem spec_ShareLess.bits15 : waitsOk spec_ShareLess.T15.2 spec_ShareLess.B15 = true := by kernel_rfl
theorem spec_ShareLess.calls (k : Nat) (A0_0 : Option Addr) (c0_0 : Nat) (l0_0 : List ByteArray) (A0_1 : Option Addr) (c0_1 : Nat) (l0_1 : List (S56)) (a1 : ByteArray) (A2 : Option Addr) (c2 : Nat) (l2 : List ByteArray) (r1 : List ByteArray) (r2 : List (S56)) (r3 : Int) (w : World) (hr0_0 : Kd.C Kd.string w A0_0 l0_0.length l0_0) (hc0_0 : l0_0.length ≤ c0_0) (hr0_1 : Kd.C k56 w A0_1 l0_1.length l0_1) (hc0_1 : l0_1.length ≤ c0_1) (hr2 : Kd.C Kd.string w A2 l2.length l2) (hc2 : l2.length ≤ c2) (h : spec_ShareLess.f k l0_0 l0_1 a1 l2 = some (r1, r2, r3)) :
  Calls Try.prog 49 #[.agg #[.slice A0_0 l0_0.length c0_0, .slice A0_1 l0_1.length c0_1], .string a1, .slice A2 l2.length c2] w fun e w' => ∃ v0_ v1_ : Value, e = .returned (.tuple #[.agg #[v0_, v1_], .int .i64 r3]) ∧ Kd.R Kd.string 9 w' w.heap.size (fun k_ => (w.heap.size ≤ k_)) v0_ r1 ∧ Kd.N k56 56 w' w.heap.size (fun k_ => (w.heap.size ≤ k_) ∧ some k_ ≠ (v0_ : Value).ownBlock) v1_ r2 ∧ Below w.heap.size w w' := by
 have hu31 := Try.underlying31
 have HR0_0 := am hr0_0
 have HC0_0 := am hc0_0
 clear hr0_0 hc0_0
 have HR0_1 := am hr0_1
 have HC0_1 := am hc0_1
 clear hr0_1 hc0_1
 have HR2 := am hr2
 have HC2 := am hc2
 clear hr2 hc2
 have HB := am (Below.refl w.heap.size w)
 unfold spec_ShareLess.f at h
 have H := h
 clear h
 obtain ⟨t103, A4, H⟩ := bd H
 refine tC H ?_ ?_ <;> clear H <;> intro c5 H <;> subst c5
 ·obtain ⟨⟨t104, t107⟩, A6, H⟩ := bd H
  dsimp only at H
  obtain ⟨t111, A7, H⟩ := bd H
  refine ic H ?_ ?_ <;> clear H <;> intro c8b0 H
  ·simp only [Option.some.injEq, Prod.mk.injEq] at H
   obtain ⟨rfl, rfl, rfl⟩ := H
   go_enter Try.func49, Try.ntmps49
   go_wp2_with (first | ((with_reducible refine gate_dst (N := 3) rfl ?_); refine box_event ?hg (N := 3) ?hd (cs := #[.slice A0_0 l0_0.length c0_0, .slice A0_1 l0_1.length c0_1]) (t := 31) ?hr ?_; (case hd => rfl); (case hg => rfl); (case hr => (try (obtain ⟨Az_, cz_, ez_⟩ := Kd.R_slice HO_10.1; subst ez_)); first | (go_simp; done) | (go_simp; rfl)); intro gb101 hg w9 hbox hb; have BK101 := am (hbox); have GW101 := am (pY89 : w.heap.size ≤ gb101); have GE101 := am (pY89 : w.heap.size ≤ gb101); replace HB := bS pY95 hb; clear hb hbox hg) | ((with_reducible refine gate_dst (N := 6) rfl ?_); refine box_event ?hg (N := 6) ?hd (cs := #[.slice none 0 0, .slice none 0 0]) (t := 31) ?hr ?_; (case hd => rfl); (case hg => rfl); (case hr => (try (obtain ⟨Az_, cz_, ez_⟩ := Kd.R_slice HO_10.1; subst ez_)); first | (go_simp; done) | (go_simp; rfl)); intro gb102 hg w10 hbox hb; have BK102 := am (hbox); have GW102 := am (pY77 : w.heap.size ≤ gb102); have GE102 := am (pY77 : w.heap.size ≤ gb102); replace HB := bS pY90 hb; have NB101_102 := nL pY98 hg; have NB102_101 := nG pY98 hg; replace BK101 := bB pY98 hb; clear hb hbox hg; have hnb11 := NB101_102.1; have hnc11 := NB102_101.1; obtain ⟨hcz12_0, hcz12_1, hfz12_0, hfz12_1⟩ := cz2 BK101) | ((with_reducible refine gC 22 ?_); refine cQ (some 13) Try.func22 (spec_ShareBookOk.calls k _ _ l0_0 _ _ l0_1 true _ (pB HR0_0) HC0_0.1 (pB HR0_1) HC0_1.1 A4.out) ?_; rintro w13 hb; replace BK101 := bB pY98 hb; replace BK102 := bB pY99 hb; replace HB := bS pY81 hb; (try clear hb); obtain ⟨hcz14_0, hcz14_1, hfz14_0, hfz14_1⟩ := cz2 BK101) | ((with_reducible refine gC 89 ?_); refine cE (some 17) Try.func89 (spec_l1Copy.calls k _ _ l0_0 _ _ l0_1 t104 t107 _ (pB HR0_0) HC0_0.1 (pB HR0_1) HC0_1.1 A6.out) ?_; rintro e w15 ⟨v105, v108, rfl, ho0, ho1, hb⟩; refine ⟨_, rfl, ?_⟩; have HO106 := am (Kd.R_lower (Kd.R_newM (M := fun k_ => (w.heap.size ≤ k_)) ho0 (below_size (pY81)) (fun k_ h_ => h_)) (below_size (pY81))); have HO109 := am (Kd.N_lower (Kd.N_mono (ok' := fun k_ => (w.heap.size ≤ k_) ∧ some k_ ≠ (v105 : Value).ownBlock ∧ k_ ≠ gb101 ∧ k_ ≠ gb102) (Kd.S_N (Kd.S_bound ho1)) (fun k_ hk_ => ⟨(Nat.le_trans (below_size (pY81)) hk_.2.1), hk_.1, (fB pY98 k_ hk_.2.1), (fB pY99 k_ hk_.2.1)⟩)) (below_size (pY81))); replace BK101 := bB pY98 hb; replace BK102 := bB pY99 hb; replace HB := bS pY81 hb; (try clear hb); (try clear ho0); (try clear ho1)) | ((with_reducible refine gate_dst (N := 8) rfl ?_); refine box_event ?hg (N := 8) ?hd (cs := #[.slice none 0 0, .slice none 0 0]) (t := 31) ?hr ?_; (case hd => rfl); (case hg => rfl); (case hr => (try (obtain ⟨Az_, cz_, ez_⟩ := Kd.R_slice HO_10.1; subst ez_)); first | (go_simp; done) | (go_simp; rfl)); intro gb110 hg w16 hbox hb; replace HO106 := am (Kd.R_below (pY121) hb); replace HO109 := am (Kd.N_below (Kd.N_elderB (pY122) gb110 (Nat.le_of_eq hg.symm)) hb); have BK110 := am (hbox); have GW110 := am (pY65 : w.heap.size ≤ gb110); have GE110 := am (pY65 : w.heap.size ≤ gb110); replace HB := bS pY81 hb; have NB101_110 := nL pY98 hg; have NB110_101 := nG pY98 hg; replace BK101 := bB pY98 hb; have NB102_110 := nL pY99 hg; have NB110_102 := nG pY99 hg; replace BK102 := bB pY99 hb; clear hb hbox hg; obtain ⟨Ao17, co17, eo17⟩ := Kd.R_slice HO106.1; subst eo17; have hnb18 := NB110_101.1; have hnc18 := NB101_110.1; have hnb19 := NB110_102.1; have hnc19 := NB102_110.1; obtain ⟨hcz20_0, hcz20_1, hfz20_0, hfz20_1⟩ := cz2 BK110; obtain ⟨Ao21, co21, eo21⟩ := Kd.N_slice HO109.1; subst eo21; obtain ⟨hcz22_0, hcz22_1, hfz22_0, hfz22_1⟩ := cz2 BK101) | ((with_reducible refine gC 82 ?_); refine cQ (some 20) Try.func82 (spec_l1At.calls k _ _ l0_0 _ _ l0_1 a1 t111 _ (Kd.C_below HR0_0.1 (pY69)) HC0_0.1 (Kd.C_below HR0_1.1 (pY69)) HC0_1.1 A7.out) ?_; rintro w23 hb; replace HO106 := am (Kd.R_below (by refine rR ?_; exact (Kd.R_mono (fR (fR (tR HO106 BK110))) (fun _ h_ => h_.1))) hb); replace HO109 := am (Kd.N_below (by refine rN ?_; exact (Kd.N_mono (fN (fN (Kd.N_mono HO109.1 (fun k_ hk => (⟨hk, hk.2⟩ : _ ∧ k_ ≠ gb110))))) (fun _ h_ => h_.1))) hb); replace BK101 := am (blk_below (g := gb101) (o := .cells #[.slice A0_0 l0_0.length c0_0, .slice A0_1 l0_1.length c0_1] 31 (0, 0)) (pY8) hb); replace BK102 := am (blk_below (g := gb102) (o := .cells #[.slice none 0 0, .slice none 0 0] 31 (0, 0)) (pY9) hb); replace BK110 := am (blk_below (g := gb110) (o := .cells #[.slice Ao17 t104.length co17, .slice Ao21 t107.length co21] 31 (0, 0)) (by refine rB ?_; refine blk_put (cs := #[.slice Ao17 t104.length co17, .slice none 0 0]) ?_ 1 _ rfl; refine rB ?_; refine blk_put (cs := #[.slice none 0 0, .slice none 0 0]) ?_ 0 _ rfl; refine rB ?_; exact BK110.1) hb); replace HB := bS pY69 hb; (try clear hb); (try clear hk); obtain ⟨hcz24_0, hcz24_1, hfz24_0, hfz24_1⟩ := cz2 BK110; obtain ⟨hcz25_0, hcz25_1, hfz25_0, hfz25_1⟩ := cz2 BK102))
   refine bodyPost_ret (results_ct rfl _ _ gb102 31 #[.slice Ao17 t104.length co17, .slice Ao21 t107.length co21] (0, 0) _ rfl (by refine rB ?_; refine blk_put (cs := #[.slice Ao17 t104.length co17, .slice none 0 0]) ?_ 1 _ rfl; refine rB ?_; refine blk_put (cs := #[.slice none 0 0, .slice none 0 0]) ?_ 0 _ rfl; refine rB ?_; exact BK102.1) Try.underlying31 rfl (by kernel_rfl)) rfl ?_
   exact ⟨_, _, eR, by refine rR ?_; exact Kd.R_mono (fR (fR (tR HO106 BK102))) (fun _ hk => hk.1.1), by refine rN ?_; exact Kd.N_mono (fN (fN (Kd.N_mono HO109.1 (fun k_ hk => (⟨hk, hk.1.2.2.2⟩ : _ ∧ k_ ≠ gb102))))) (fun _ hk => ⟨hk.1.1.1, hk.1.1.2.1⟩), pY69⟩
  ·obtain ⟨c26b0, H⟩ := cN H
   obtain ⟨c27b0, H⟩ := cN H
   obtain ⟨t113, A28, H⟩ := bd H
   refine tC H ?_ ?_ <;> clear H <;> intro c29 H <;> subst c29
   ·obtain ⟨y114, Ny114⟩ := yv (([] : List ByteArray)); first | replace H := bW Ny114 H | rw [← Ny114.1] at H
    have H' := am H
    clear H
    go_enter Try.func49, Try.ntmps49
    go_wp2_with (first | ((with_reducible refine gate_dst (N := 3) rfl ?_); refine box_event ?hg (N := 3) ?hd (cs := #[.slice A0_0 l0_0.length c0_0, .slice A0_1 l0_1.length c0_1]) (t := 31) ?hr ?_; (case hd => rfl); (case hg => rfl); (case hr => (try (obtain ⟨Az_, cz_, ez_⟩ := Kd.R_slice HO_10.1; subst ez_)); first | (go_simp; done) | (go_simp; rfl)); intro gb101 hg w30 hbox hb; have BK101 := am (hbox); have GW101 := am (pY89 : w.heap.size ≤ gb101); have GE101 := am (pY89 : w.heap.size ≤ gb101); replace HB := bS pY95 hb; clear hb hbox hg) | ((with_reducible refine gate_dst (N := 6) rfl ?_); refine box_event ?hg (N := 6) ?hd (cs := #[.slice none 0 0, .slice none 0 0]) (t := 31) ?hr ?_; (case hd => rfl); (case hg => rfl); (case hr => (try (obtain ⟨Az_, cz_, ez_⟩ := Kd.R_slice HO_10.1; subst ez_)); first | (go_simp; done) | (go_simp; rfl)); intro gb102 hg w31 hbox hb; have BK102 := am (hbox); have GW102 := am (pY77 : w.heap.size ≤ gb102); have GE102 := am (pY77 : w.heap.size ≤ gb102); replace HB := bS pY90 hb; have NB101_102 := nL pY98 hg; have NB102_101 := nG pY98 hg; replace BK101 := bB pY98 hb; clear hb hbox hg; have hnb32 := NB101_102.1; have hnc32 := NB102_101.1; obtain ⟨hcz33_0, hcz33_1, hfz33_0, hfz33_1⟩ := cz2 BK101) | ((with_reducible refine gC 22 ?_); refine cQ (some 13) Try.func22 (spec_ShareBookOk.calls k _ _ l0_0 _ _ l0_1 true _ (pB HR0_0) HC0_0.1 (pB HR0_1) HC0_1.1 A4.out) ?_; rintro w34 hb; replace BK101 := bB pY98 hb; replace BK102 := bB pY99 hb; replace HB := bS pY81 hb; (try clear hb); obtain ⟨hcz35_0, hcz35_1, hfz35_0, hfz35_1⟩ := cz2 BK101) | ((with_reducible refine gC 89 ?_); refine cE (some 17) Try.func89 (spec_l1Copy.calls k _ _ l0_0 _ _ l0_1 t104 t107 _ (pB HR0_0) HC0_0.1 (pB HR0_1) HC0_1.1 A6.out) ?_; rintro e w36 ⟨v105, v108, rfl, ho0, ho1, hb⟩; refine ⟨_, rfl, ?_⟩; have HO106 := am (Kd.R_lower (Kd.R_newM (M := fun k_ => (w.heap.size ≤ k_)) ho0 (below_size (pY81)) (fun k_ h_ => h_)) (below_size (pY81))); have HO109 := am (Kd.N_lower (Kd.N_mono (ok' := fun k_ => (w.heap.size ≤ k_) ∧ some k_ ≠ (v105 : Value).ownBlock ∧ k_ ≠ gb101 ∧ k_ ≠ gb102) (Kd.S_N (Kd.S_bound ho1)) (fun k_ hk_ => ⟨(Nat.le_trans (below_size (pY81)) hk_.2.1), hk_.1, (fB pY98 k_ hk_.2.1), (fB pY99 k_ hk_.2.1)⟩)) (below_size (pY81))); replace BK101 := bB pY98 hb; replace BK102 := bB pY99 hb; replace HB := bS pY81 hb; (try clear hb); (try clear ho0); (try clear ho1)) | ((with_reducible refine gate_dst (N := 8) rfl ?_); refine box_event ?hg (N := 8) ?hd (cs := #[.slice none 0 0, .slice none 0 0]) (t := 31) ?hr ?_; (case hd => rfl); (case hg => rfl); (case hr => (try (obtain ⟨Az_, cz_, ez_⟩ := Kd.R_slice HO_10.1; subst ez_)); first | (go_simp; done) | (go_simp; rfl)); intro gb110 hg w37 hbox hb; replace HO106 := am (Kd.R_below (pY121) hb); replace HO109 := am (Kd.N_below (Kd.N_elderB (pY122) gb110 (Nat.le_of_eq hg.symm)) hb); have BK110 := am (hbox); have GW110 := am (pY65 : w.heap.size ≤ gb110); have GE110 := am (pY65 : w.heap.size ≤ gb110); replace HB := bS pY81 hb; have NB101_110 := nL pY98 hg; have NB110_101 := nG pY98 hg; replace BK101 := bB pY98 hb; have NB102_110 := nL pY99 hg; have NB110_102 := nG pY99 hg; replace BK102 := bB pY99 hb; clear hb hbox hg; obtain ⟨Ao38, co38, eo38⟩ := Kd.R_slice HO106.1; subst eo38; have hnb39 := NB110_101.1; have hnc39 := NB101_110.1; have hnb40 := NB110_102.1; have hnc40 := NB102_110.1; obtain ⟨hcz41_0, hcz41_1, hfz41_0, hfz41_1⟩ := cz2 BK110; obtain ⟨Ao42, co42, eo42⟩ := Kd.N_slice HO109.1; subst eo42; obtain ⟨hcz43_0, hcz43_1, hfz43_0, hfz43_1⟩ := cz2 BK101) | ((with_reducible refine gC 82 ?_); refine cQ (some 20) Try.func82 (spec_l1At.calls k _ _ l0_0 _ _ l0_1 a1 t111 _ (Kd.C_below HR0_0.1 (pY69)) HC0_0.1 (Kd.C_below HR0_1.1 (pY69)) HC0_1.1 A7.out) ?_; rintro w44 hb; replace HO106 := am (Kd.R_below (by refine rR ?_; exact (Kd.R_mono (fR (fR (tR HO106 BK110))) (fun _ h_ => h_.1))) hb); replace HO109 := am (Kd.N_below (by refine rN ?_; exact (Kd.N_mono (fN (fN (Kd.N_mono HO109.1 (fun k_ hk => (⟨hk, hk.2⟩ : _ ∧ k_ ≠ gb110))))) (fun _ h_ => h_.1))) hb); replace BK101 := am (blk_below (g := gb101) (o := .cells #[.slice A0_0 l0_0.length c0_0, .slice A0_1 l0_1.length c0_1] 31 (0, 0)) (pY8) hb); replace BK102 := am (blk_below (g := gb102) (o := .cells #[.slice none 0 0, .slice none 0 0] 31 (0, 0)) (pY9) hb); replace BK110 := am (blk_below (g := gb110) (o := .cells #[.slice Ao38 t104.length co38, .slice Ao42 t107.length co42] 31 (0, 0)) (by refine rB ?_; refine blk_put (cs := #[.slice Ao38 t104.length co38, .slice none 0 0]) ?_ 1 _ rfl; refine rB ?_; refine blk_put (cs := #[.slice none 0 0, .slice none 0 0]) ?_ 0 _ rfl; refine rB ?_; exact BK110.1) hb); replace HB := bS pY69 hb; (try clear hb); (try clear hk); obtain ⟨hcz45_0, hcz45_1, hfz45_0, hfz45_1⟩ := cz2 BK101; obtain ⟨ad112, A112_1, c112_1, A112_2, c112_2, e112, hx112_0, hx112_1, hx112_2, HR112_1, HC112_1, HR112_2, HC112_2, p112, q112⟩ := aT56 HR0_1 HB t111; cases e112) | ((with_reducible refine gC 71 ?_); refine cQ (some 31) Try.func71 (spec_l1NamesOk.calls k _ _ l2 _ _ ((rd_T56 l0_1 t111).f2) true _ (pB HR2) HC2.1 (pB HR112_2) HC112_2.1 A28.out) ?_; rintro w' ⟨nd, rfl⟩) | ((with_reducible refine gate_dst (N := 34) rfl ?_); refine Kd.R_lit Kd.string _ 9 ?hg (N := 34) ?hd (xs := ([] : List ByteArray)) (inner := []) (ok := fun _ => True) (okp := fun _ => True) ?hr ?hp (fun _ hk => hk) trivial (Below.refl _ _) (Nat.le_refl _) (by simp) ?_; (case hd => rfl); (case hg => rfl); (case hr => (try (obtain ⟨Az_, cz_, ez_⟩ := Kd.R_slice HO_10.1; subst ez_)); first | (go_simp; done) | (go_simp; rfl)); (case hp => exact (Reps.none _ _)); intro v115 w46 ho47 hb hg_ hnew_; clear hg_ hnew_; (first | rw [← Ny114.out] at ho47 | (simp only [Int.reduceToNat] at ho47; rw [← Ny114.out] at ho47)); replace HO109 := am (Kd.N_elder' (pY122) (Kd.R_base ho47) hb); have HO116 := am (Kd.R_lower (Kd.R_new' (Kd.R_newM (M := fun k_ => (w.heap.size ≤ k_)) ho47 (below_size (pY69)) (fun k_ h_ => h_)) (Kd.R_lt (pY121))) (below_size (pY69))); replace HO106 := am (Kd.R_elder' (pY121) (Kd.R_base ho47) hb); replace BK101 := bB pY98 hb; replace BK102 := bB pY99 hb; replace BK110 := bB pY103 hb; replace HB := bS pY69 hb; clear hb ho47))
    go_loopg [10, 11] k (fun kq v10 v11 w' => ∃ (x10_1 : List ByteArray) (x11_1 : Int), v11 = .int .i64 x11_1 ∧ Aside0 (spec_ShareLess.l0 kq l2 t111 x10_1 x11_1 l0_0 l0_1 t104 t107 = some (r1, r2, r3)) ∧ Aside0 (kq ≤ k) ∧ Aside0 (Kd.R Kd.string 9 w' w.heap.size (fun k_ => (w.heap.size ≤ k_) ∧ some k_ ≠ ((.slice Ao38 t104.length co38) : Value).ownBlock) v10 x10_1) ∧ Aside0 (Kd.R Kd.string 9 w' w.heap.size (fun k_ => (w.heap.size ≤ k_) ∧ some k_ ≠ (v10 : Value).ownBlock) (.slice Ao38 t104.length co38) t104) ∧ Aside0 (Kd.N k56 56 w' w.heap.size (fun k_ => (w.heap.size ≤ k_) ∧ some k_ ≠ (v10 : Value).ownBlock ∧ some k_ ≠ ((.slice Ao38 t104.length co38) : Value).ownBlock ∧ k_ ≠ gb101 ∧ k_ ≠ gb102 ∧ k_ ≠ gb110) (.slice Ao42 t107.length co42) t107) ∧ Aside0 (w'.heap[gb101]? = some (.cells #[(.slice A0_0 l0_0.length c0_0), (.slice (some ad112) l0_1.length c0_1)] 31 (0, 0))) ∧ Aside0 (w'.heap[gb102]? = some (.cells #[(.slice none 0 0), (.slice none 0 0)] 31 (0, 0))) ∧ Aside0 (w'.heap[gb110]? = some (.cells #[(.slice Ao38 t104.length co38), (.slice Ao42 t107.length co42)] 31 (0, 0))) ∧ Aside0 (Below w.heap.size w w'))
    case atStart => exact ⟨(y114), (0), (pY136), H', ⟨Nat.le_refl _⟩, ⟨by refine rR ?_; exact Kd.R_mono HO116.1 (fun _ hk => ⟨hk.1.1, hk.2⟩)⟩, ⟨by refine rR ?_; exact Kd.R_mono HO106.1 (fun _ hk => ⟨hk.1.1, hk.2⟩)⟩, ⟨by refine rN ?_; exact Kd.N_mono HO109.1 (fun _ hk => ⟨hk.1.1.1, ⟨hk.2, ⟨hk.1.1.2.1, ⟨hk.1.1.2.2.1, ⟨hk.1.1.2.2.2, hk.1.2⟩⟩⟩⟩⟩)⟩, ⟨rB BK101.1⟩, ⟨rB BK102.1⟩, ⟨rB BK110.1⟩, ⟨pY69⟩⟩
    case round =>
     clear H'
     try clear c2
     try clear c5
     try clear c8b0
     try clear c26b0
     try clear c27b0
     try clear c29
     try clear hcz33_0 hcz33_1 hfz33_0 hfz33_1
     try clear hcz35_0 hcz35_1 hfz35_0 hfz35_1
     try clear hcz41_0 hcz41_1 hfz41_0 hfz41_1
     try clear hcz43_0 hcz43_1 hfz43_0 hfz43_1
     try clear hcz45_0 hcz45_1 hfz45_0 hfz45_1
     try clear hx112_0 hx112_1 hx112_2
     try clear p112 q112
     obtain ⟨x10_1, x11_1, rfl, HA, HK1, HO_10, HO_111000, HO_111001, BK101, BK102, BK110, HB⟩ := hrel
     cases gk with
     | zero => exact absurd HA.out (by simp [spec_ShareLess.l0])
     | succ k1 =>
      have H := HA.out
      clear HA
      simp only [spec_ShareLess.l0] at H
      obtain ⟨c48b0, H⟩ := cN H
      obtain ⟨c49b0, H⟩ := cN H
      refine ic H ?_ ?_ <;> clear H <;> intro c50b0 H
      ·obtain ⟨c51b0, H⟩ := cN H
       obtain ⟨t120, A52, H⟩ := bd H
       refine tC H ?_ ?_ <;> clear H <;> intro c53 H <;> subst c53
       ·by_cases c54 : x10_1.length < 8796093022208
        ·rw [if_pos c54] at H
         have LMc54 := am c54
         clear c54
         obtain ⟨y123, Ny123⟩ := yv (x10_1 ++ [rdOf ByteArray.empty ((rd_T56 l0_1 t111).f1) x11_1]); first | replace H := bW Ny123 H | rw [← Ny123.1] at H
         have H' := am H
         clear H
         have hnb55 := NB101_102.1
         have hnc55 := NB102_101.1
         have hnb56 := NB101_110.1
         have hnc56 := NB110_101.1
         obtain ⟨hcz57_0, hcz57_1, hfz57_0, hfz57_1⟩ := cz2 BK101
         obtain ⟨ad117, A117_1, c117_1, A117_2, c117_2, e117, hx117_0, hx117_1, hx117_2, HR117_1, HC117_1, HR117_2, HC117_2, p117, q117⟩ := aT56 HR0_1 HB t111
         obtain rfl : ad112 = ad117 := (by injection e117)
         obtain ⟨ad118, A118_1, c118_1, A118_2, c118_2, e118, hx118_0, hx118_1, hx118_2, HR118_1, HC118_1, HR118_2, HC118_2, p118, q118⟩ := aT56 HR0_1 HB t111
         obtain rfl : ad112 = ad118 := (by injection e118)
         have ea_ := Option.some.inj (hx117_1.symm.trans hx118_1)
         injection ea_ with ea_ en_ ec_
         subst ea_
         subst ec_
         clear en_
         have ea_ := Option.some.inj (hx117_2.symm.trans hx118_2)
         injection ea_ with ea_ en_ ec_
         subst ea_
         subst ec_
         clear en_
         obtain ⟨ad119, e119, hx119_0, p119, q119⟩ := aS HR118_1 HB x11_1
         cases e119
         go_wp2_with (first | ((with_reducible refine gC 80 ?_); refine cQ (some 56) Try.func80 (spec_l1Has.calls k1 _ _ l2 (rdOf ByteArray.empty ((rd_T56 l0_1 t111).f1) x11_1) true _ (pB HR2) HC2.1 A52.out) ?_; rintro w' ⟨nd, rfl⟩; obtain ⟨ad121, A121_1, c121_1, A121_2, c121_2, e121, hx121_0, hx121_1, hx121_2, HR121_1, HC121_1, HR121_2, HC121_2, p121, q121⟩ := aT56 HR0_1 HB t111; obtain rfl : ad112 = ad121 := (by injection e121); have ea_ := Option.some.inj (hx117_1.symm.trans hx121_1); injection ea_ with ea_ en_ ec_; subst ea_; subst ec_; clear en_; have ea_ := Option.some.inj (hx117_2.symm.trans hx121_2); injection ea_ with ea_ en_ ec_; subst ea_; subst ec_; clear en_; obtain ⟨ad122, e122, hx122_0, p122, q122⟩ := aS HR121_1 HB x11_1; cases e122) | ((with_reducible refine gate_builtin (b := .append) (xs := #[.tmp 57, .tmp 67]) rfl ?_); at_builtin; refine Kd.R_append Kd.string (w0 := w) w.heap.size rfl (.tmp 57) (.tmp 67) 23 9 (.string ⟨#[]⟩) 16 rfl Try.underlying23 info9 rfl (by decide) (by omega) u10 x10_1 (rdOf ByteArray.empty ((rd_T56 l0_1 t111).f1) x11_1) [.string (rdOf ByteArray.empty ((rd_T56 l0_1 t111).f1) x11_1)] (fun k_ => (w.heap.size ≤ k_) ∧ some k_ ≠ (.slice Ao38 t104.length co38 : Value).ownBlock) (fun _ => False) rfl rfl ?aP (fun _ hk => hk.elim) ?aF ?aO ?aB ?aS ?aL ?_; (case aP => exact rfl); (case aB => exact (pY69)); (case aF => exact (fun k_ hk => ⟨(Nat.le_trans (below_size (pY69)) hk), Kd.fresh' (Kd.R_lt (pY113)) k_ hk⟩)); (case aO => exact (rR HO_10.1)); (case aS => exact (below_size (pY69))); (case aL => have := LMc54.out; omega); intro v124 w58 ho hb hg hat; rw [← Ny123.out] at ho; replace HO_111000 := am (Kd.R_after (ok := (fun k_ => (w.heap.size ≤ k_))) (pY113) hg hat); replace HO_111001 := am (Kd.N_afterv (ok := (fun k_ => (w.heap.size ≤ k_) ∧ some k_ ≠ (.slice Ao38 t104.length co38 : Value).ownBlock ∧ k_ ≠ gb101 ∧ k_ ≠ gb102 ∧ k_ ≠ gb110)) (by refine rN ?_; exact Kd.N_mono HO_111001.1 (fun _ hk => ⟨⟨hk.1, ⟨hk.2.2.1, ⟨hk.2.2.2.1, ⟨hk.2.2.2.2.1, hk.2.2.2.2.2⟩⟩⟩⟩, hk.2.1⟩)) hg hat); replace BK101 := gR pY98 hg HO_10 BK101; replace BK102 := gR pY99 hg HO_10 BK102; replace BK110 := gR pY103 hg HO_10 BK110; replace HB := am (hb); have HO125 := am (ho); clear HO_10; clear ho hb hg hat))
         go_roundg k1
         case measure => have := HK1.out; omega
         case rel => exact ⟨(y123), (wrap64 (x11_1 + 1)), (pY136), H', ⟨by have := HK1.out; omega⟩, ⟨rR HO125.1⟩, ⟨rR HO_111000.1⟩, ⟨by refine rN ?_; exact Kd.N_mono HO_111001.1 (fun _ hk => ⟨hk.1.1, ⟨hk.2, ⟨hk.1.2.1, ⟨hk.1.2.2.1, ⟨hk.1.2.2.2.1, hk.1.2.2.2.2⟩⟩⟩⟩⟩)⟩, ⟨rB BK101.1⟩, ⟨rB BK102.1⟩, ⟨rB BK110.1⟩, ⟨pY69⟩⟩
        ·rw [if_neg c54] at H
         exact absurd H (by simp)
       ·have H' := am H
        clear H
        have hnb59 := NB101_102.1
        have hnc59 := NB102_101.1
        have hnb60 := NB101_110.1
        have hnc60 := NB110_101.1
        obtain ⟨hcz61_0, hcz61_1, hfz61_0, hfz61_1⟩ := cz2 BK101
        obtain ⟨ad117, A117_1, c117_1, A117_2, c117_2, e117, hx117_0, hx117_1, hx117_2, HR117_1, HC117_1, HR117_2, HC117_2, p117, q117⟩ := aT56 HR0_1 HB t111
        obtain rfl : ad112 = ad117 := (by injection e117)
        obtain ⟨ad118, A118_1, c118_1, A118_2, c118_2, e118, hx118_0, hx118_1, hx118_2, HR118_1, HC118_1, HR118_2, HC118_2, p118, q118⟩ := aT56 HR0_1 HB t111
        obtain rfl : ad112 = ad118 := (by injection e118)
        have ea_ := Option.some.inj (hx117_1.symm.trans hx118_1)
        injection ea_ with ea_ en_ ec_
        subst ea_
        subst ec_
        clear en_
        have ea_ := Option.some.inj (hx117_2.symm.trans hx118_2)
        injection ea_ with ea_ en_ ec_
        subst ea_
        subst ec_
        clear en_
        obtain ⟨ad119, e119, hx119_0, p119, q119⟩ := aS HR118_1 HB x11_1
        cases e119
        go_wp2_with (first | ((with_reducible refine gC 80 ?_); refine cQ (some 56) Try.func80 (spec_l1Has.calls k1 _ _ l2 (rdOf ByteArray.empty ((rd_T56 l0_1 t111).f1) x11_1) false _ (pB HR2) HC2.1 A52.out) ?_; rintro w' ⟨nd, rfl⟩))
        go_roundg k1
        case measure => have := HK1.out; omega
        case rel => exact ⟨(x10_1), (wrap64 (x11_1 + 1)), (pY136), H', ⟨by have := HK1.out; omega⟩, ⟨rR HO_10.1⟩, ⟨rR HO_111000.1⟩, ⟨rN HO_111001.1⟩, ⟨rB BK101.1⟩, ⟨rB BK102.1⟩, ⟨rB BK110.1⟩, ⟨pY69⟩⟩
      ·obtain ⟨t126, A62, H⟩ := bd H
       obtain ⟨c63b0, H⟩ := cN H
       obtain ⟨y129, Ny129, H⟩ := bY H
       obtain ⟨y130, Ny130⟩ := yv (y129.set (t111 : Int).toNat (⟨(rd_T56 y129 t111).f0, x10_1, (rd_T56 y129 t111).f2⟩ : S56)); first | replace H := bW Ny130 H | rw [← Ny130.1] at H
       obtain ⟨⟨t131, t134⟩, A66, H⟩ := bd H
       dsimp only at H
       simp only [Option.some.injEq, Prod.mk.injEq] at H
       obtain ⟨rfl, rfl, rfl⟩ := H
       have hnb67 := NB101_102.1
       have hnc67 := NB102_101.1
       have hnb68 := NB101_110.1
       have hnc68 := NB110_101.1
       obtain ⟨hcz69_0, hcz69_1, hfz69_0, hfz69_1⟩ := cz2 BK101
       obtain ⟨ad117, A117_1, c117_1, A117_2, c117_2, e117, hx117_0, hx117_1, hx117_2, HR117_1, HC117_1, HR117_2, HC117_2, p117, q117⟩ := aT56 HR0_1 HB t111
       obtain rfl : ad112 = ad117 := (by injection e117)
       try go_wp2
       replace HO_10 := am (Kd.R_drew HO_10.1)
       replace HO_111000 := am (Kd.R_drew HO_111000.1)
       replace HO_111001 := am (Kd.N_drew HO_111001.1)
       replace BK101 := am (blk_drew BK101.1)
       replace BK102 := am (blk_drew BK102.1)
       replace BK110 := am (blk_drew BK110.1)
       replace HB := am (below_drew1 HB.1)
       refine sT (S := fun w' => w'.cell? ⟨gb110, 0, none⟩ = some (.slice Ao38 t104.length co38) ∧ w'.cell? ⟨gb110, 1, none⟩ = some (.slice Ao42 t107.length co42)) [7] 8 ⟨⟨(blk_cell BK110.1 0).trans rfl, (blk_cell BK110.1 1).trans rfl⟩⟩ (fun hHeld => ?_); refine with_tabW spec_ShareLess.tab15 spec_ShareLess.bits15 (fun HT_ HW_ => ?_)
       generalize wr.drew = w70 at HO_10 HO_111000 HO_111001 BK101 BK102 BK110 HB hHeld ⊢
       refine pU 0 (some 69) ?_
       refine pU 2 (some 71) ?_
       refine pU 3 (some 72) ?_
       refine tK2 1 (some 70) ?_
       refine oN 4 (some 73) fun K hK => ?_
       refine gE Try.func93 (spec_l1Names.calls _ _ l2 t126 _ (pB HR2) HC2.1 A62.out) ?_
       rintro e w71 ⟨v127, rfl, ho0, hb⟩
       refine ⟨_, rfl, ?_⟩
       replace HO_111001 := am (Kd.N_elder' (pY114) (Kd.R_base ho0) hb)
       have HO128 := am (Kd.R_lower (Kd.R_new' (Kd.R_new' (Kd.R_newM (M := fun k_ => (w.heap.size ≤ k_)) ho0 (below_size (pY69)) (fun k_ h_ => h_)) (Kd.R_lt (rR HO_10.1))) (Kd.R_lt (pY113))) (below_size (pY69)))
       replace HO_10 := am (Kd.R_elder' (rR HO_10.1) (Kd.R_base ho0) hb)
       replace HO_111000 := am (Kd.R_elder' (pY113) (Kd.R_base ho0) hb)
       replace BK101 := bB pY98 hb
       replace BK102 := bB pY99 hb
       replace BK110 := bB pY103 hb
       replace HB := bS pY69 hb
       (try clear hb)
       (try clear hb2)
       (try clear hk)
       (try clear hi)
       (try clear ho0)
       have p64 : 0 ≤ (t111 : Int) := oT
       have q64 : (t111 : Int) < ((t107.length : Int) : Int) := oT
       obtain ⟨go64, co64, eo64, gb64, gl64, cl64, HG64⟩ := Kd.N_form HO_111001.1 (by omega)
       (first | cases eo64 | (injection eo64 with ea_ en_ ec_; (first | subst ea_ | (injection ea_ with ea_; subst ea_)); subst ec_; clear en_))
       have GB64 := am gb64
       have GG64 := am HG64
       clear gb64 gl64 HG64
       obtain ⟨ce64, hcl64, hM64, hcc64, hfr64⟩ := Kd.N_elem HO_111001.1 z56 (t111 : Int) p64 q64
       obtain ⟨ua64_1, uc64_1, ua64_2, uc64_2, rfl, ul64_1, ge64_1, ul64_2, ge64_2⟩ := k56_openF hM64
       have hx64_0 : World.cell? _ ⟨go64, (t111 : Int).toNat * 3, none⟩ = some (.string ((rd_T56 t107 t111).f0)) := hcc64 0 _ rfl
       have hx64_1 : World.cell? _ ⟨go64, (t111 : Int).toNat * 3 + 1, none⟩ = some (.slice ua64_1 ((rd_T56 t107 t111).f1).length uc64_1) := hcc64 1 _ rfl
       have hx64_2 : World.cell? _ ⟨go64, (t111 : Int).toNat * 3 + 2, none⟩ = some (.slice ua64_2 ((rd_T56 t107 t111).f2).length uc64_2) := hcc64 2 _ rfl
       have hf64_0 : World.frozen? _ ⟨go64, (t111 : Int).toNat * 3, none⟩ = false := hfr64 0
       have hf64_1 : World.frozen? _ ⟨go64, (t111 : Int).toNat * 3 + 1, none⟩ = false := hfr64 1
       have hf64_2 : World.frozen? _ ⟨go64, (t111 : Int).toNat * 3 + 2, none⟩ = false := hfr64 2
       clear hcl64 hcc64 hfr64 hM64
       replace p64 := eq_true p64
       replace q64 := eq_true q64
       have HX72 := am (show Kd.N k56 56 _ w.heap.size (fun k_ => (w.heap.size ≤ k_) ∧ some k_ ≠ (u10 : Value).ownBlock ∧ some k_ ≠ (.slice Ao38 t104.length co38 : Value).ownBlock ∧ some k_ ≠ (v127 : Value).ownBlock ∧ k_ ≠ gb101 ∧ k_ ≠ gb102 ∧ k_ ≠ gb110) (.slice (some ⟨go64, 0, none⟩) t107.length co42) t107 from (Kd.N_mono (HO_111001.1) (fun k_ hk => ⟨hk.1.1, ⟨hk.1.2.1, ⟨hk.1.2.2.1, ⟨hk.2, ⟨hk.1.2.2.2.1, ⟨hk.1.2.2.2.2.1, hk.1.2.2.2.2.2⟩⟩⟩⟩⟩⟩)))
       replace HX72 := am (show Kd.N k56 56 _ w.heap.size (fun k_ => (w.heap.size ≤ k_) ∧ some k_ ≠ (u10 : Value).ownBlock ∧ some k_ ≠ (.slice Ao38 t104.length co38 : Value).ownBlock ∧ k_ ≠ gb101 ∧ k_ ≠ gb102 ∧ k_ ≠ gb110) (.slice (some ⟨go64, 0, none⟩) t107.length co42) t107 from Kd.N_mono HX72.out (fun k_ hk => ⟨hk.1, ⟨hk.2.1, ⟨hk.2.2.1, ⟨hk.2.2.2.2.1, ⟨hk.2.2.2.2.2.1, hk.2.2.2.2.2.2⟩⟩⟩⟩⟩))
       obtain ⟨ce72, hcl72, hM72, hcc72, hfr72⟩ := Kd.N_elem HX72.out z56 (t111 : Int) (oT) (by have h_ : (t111 : Int) < ((t107.length : Int) : Int) := oT; first | exact h_ | (have e_ := (Kd.N_reads' HO_111001.1).1; omega) | simpa using h_)
       obtain ⟨ua72_1, uc72_1, ua72_2, uc72_2, rfl, ul72_1, ge72_1, ul72_2, ge72_2⟩ := k56_openF hM72
       have HP72 := (Kd.N_seg HX72.out (t111 : Int) (oT) (by have h_ : (t111 : Int) < ((t107.length : Int) : Int) := oT; first | exact h_ | (have e_ := (Kd.N_reads' HO_111001.1).1; omega) | simpa using h_) (seg := [v127]) (j := 2) hcl72 hcc72 (show 3 ≤ 3 from by decide) (x' := (⟨(rd_T56 t107 t111).f0, (rd_T56 t107 t111).f1, t126⟩ : S56)) (k56_mkF2 _ _ (⟨(rd_T56 t107 t111).f0, (rd_T56 t107 t111).f1, t126⟩ : S56) ul72_1 ge72_1 (Kd.R_mono (ok' := (fun k_ => ((fun k_ => (w.heap.size ≤ k_) ∧ some k_ ≠ (u10 : Value).ownBlock ∧ some k_ ≠ (.slice Ao38 t104.length co38 : Value).ownBlock ∧ k_ ≠ gb101 ∧ k_ ≠ gb102 ∧ k_ ≠ gb110)) k_ ∧ k_ ≠ go64)) (Kd.R_types (Kd.R_types (Kd.R_types (Kd.R_apart' (HO128.1) (Kd.N_typed HO_111001.1) (by decide)) BK101.1 (by decide)) BK102.1 (by decide)) BK110.1 (by decide)) (fun k_ hk => ⟨⟨hk.1.1.1.1.1.1.1, ⟨hk.1.1.1.1.1.2, ⟨hk.1.1.1.1.2, ⟨hk.1.1.2, ⟨hk.1.2, hk.2⟩⟩⟩⟩⟩, fun e_ => (hk.1.1.1.2) (by rw [e_]; rfl)⟩))) (fun _ hk => hk)).1
       rw [← Ny129.out] at HP72
       have HQ72 := am HP72
       clear hcl72 hcc72 hfr72 hM72 HP72
       refine hK.out _ _ ⟨(blk_cell BK110.1 0).trans rfl, (blk_cell BK110.1 1).trans rfl⟩ (fun hHeld => ?_)
       clear hK K
       refine nM ?_
       refine pU 5 (some 74) ?_
       refine pU 6 (some 75) ?_
       refine last_ (i := 7) (N := none) (bz 8 255) rfl rfl (one_of HT_.out (by kernel_rfl)) (by decide) (fun K hK => ?_)
       refine skip_ (w1 := (w71.setCell ⟨go64, (t111 : Int).toNat * 3 + 2, none⟩ (v127))) (by rfl) rfl ?_ ?_
       skip
       ·obtain ⟨Az_, cz_, ez_⟩ := Kd.R_slice HO128.1
        subst ez_
        go_simp
        (try rfl)
       refine hK.out _ _ ?_
       clear hK K
       refine done_ (done_of HT_.out (by kernel_rfl)) ?_
       have n0_ : Aside0 (Kd.R Kd.string 9 (w71.setCell ⟨go64, (t111 : Int).toNat * 3 + 2, none⟩ (v127)) w.heap.size (fun k_ => (w.heap.size ≤ k_) ∧ some k_ ≠ (.slice Ao38 t104.length co38 : Value).ownBlock) u10 x10_1) := ⟨by refine rR ?_; exact Kd.R_mono (Kd.R_far (p := ⟨go64, (t111 : Int).toNat * 3 + 2, none⟩) (tR HO_10 GG64) (fun _ hk => hk.2) (v127)) (fun _ hk => ⟨hk.1.1.1, hk.1.1.2⟩)⟩
       have n1_ : Aside0 (Kd.R Kd.string 9 (w71.setCell ⟨go64, (t111 : Int).toNat * 3 + 2, none⟩ (v127)) w.heap.size (fun k_ => (w.heap.size ≤ k_) ∧ some k_ ≠ (u10 : Value).ownBlock) (.slice Ao38 t104.length co38) t104) := ⟨by refine rR ?_; exact Kd.R_mono (Kd.R_far (p := ⟨go64, (t111 : Int).toNat * 3 + 2, none⟩) (tR HO_111000 GG64) (fun _ hk => hk.2) (v127)) (fun _ hk => ⟨hk.1.1.1, hk.1.1.2⟩)⟩
       have n2_ : Aside0 (Kd.N k56 56 (w71.setCell ⟨go64, (t111 : Int).toNat * 3 + 2, none⟩ (v127)) w.heap.size (fun k_ => (w.heap.size ≤ k_) ∧ some k_ ≠ (u10 : Value).ownBlock ∧ some k_ ≠ (.slice Ao38 t104.length co38 : Value).ownBlock ∧ k_ ≠ gb101 ∧ k_ ≠ gb102 ∧ k_ ≠ gb110) (.slice (some ⟨go64, 0, none⟩) t107.length co42) y129) := ⟨rN HQ72.out⟩
       have n3_ : Aside0 ((w71.setCell ⟨go64, (t111 : Int).toNat * 3 + 2, none⟩ (v127)).heap[gb101]? = some (.cells #[.slice A0_0 l0_0.length c0_0, .slice (some ad112) l0_1.length c0_1] 31 (0, 0))) := ⟨by refine rB ?_; refine blk_far ?_ (by have h_ := Kd.N_away HO_111001.1 (fun _ hk => by first | exact hk.2.2.2.1 | exact hk.2.2.2.1.1 | exact hk.1.2.2.2.1); intro e_; exact h_ (by rw [e_]; rfl)) _; refine rB ?_; exact BK101.1⟩
       have n4_ : Aside0 ((w71.setCell ⟨go64, (t111 : Int).toNat * 3 + 2, none⟩ (v127)).heap[gb102]? = some (.cells #[.slice none 0 0, .slice none 0 0] 31 (0, 0))) := ⟨by refine rB ?_; refine blk_far ?_ (by have h_ := Kd.N_away HO_111001.1 (fun _ hk => by first | exact hk.2.2.2.2.1 | exact hk.2.2.2.2.1.1 | exact hk.1.2.2.2.2.1); intro e_; exact h_ (by rw [e_]; rfl)) _; refine rB ?_; exact BK102.1⟩
       have n5_ : Aside0 ((w71.setCell ⟨go64, (t111 : Int).toNat * 3 + 2, none⟩ (v127)).heap[gb110]? = some (.cells #[.slice Ao38 t104.length co38, .slice (some ⟨go64, 0, none⟩) t107.length co42] 31 (0, 0))) := ⟨by refine rB ?_; refine blk_far ?_ (by have h_ := Kd.N_away HO_111001.1 (fun _ hk => by first | exact hk.2.2.2.2.2 | exact hk.2.2.2.2.2.1 | exact hk.1.2.2.2.2.2); intro e_; exact h_ (by rw [e_]; rfl)) _; refine rB ?_; exact BK110.1⟩
       have n6_ : Aside0 (Below w.heap.size w (w71.setCell ⟨go64, (t111 : Int).toNat * 3 + 2, none⟩ (v127))) := ⟨by repeat (first | (with_reducible first | exact HB.1 | apply below_alloc | apply pw_below_drewN | apply below_drew1 | refine below_set ?_ GB64.out | refine below_set ?_ GE101.1 | refine below_set ?_ GE102.1 | refine below_set ?_ GE110.1) | exact HB.1)⟩
       (try clear HO_10)
       (try clear HO_111000)
       (try clear HO_111001)
       (try clear BK101)
       (try clear BK102)
       (try clear BK110)
       (try clear HB)
       generalize (w71.setCell ⟨go64, (t111 : Int).toNat * 3 + 2, none⟩ (v127)) = w73 at n0_ n1_ n2_ n3_ n4_ n5_ n6_ ⊢
       have HO_10 := n0_
       have HO_111000 := n1_
       have HO_111001 := n2_
       have BK101 := n3_
       have BK102 := n4_
       have BK110 := n5_
       have HB := n6_
       clear n0_ n1_ n2_ n3_ n4_ n5_ n6_
       have hnb74 := NB110_102.1
       have hnc74 := NB102_110.1
       obtain ⟨hcz75_0, hcz75_1, hfz75_0, hfz75_1⟩ := cz2 BK110
       have p65 : 0 ≤ (t111 : Int) := oT
       have q65 : (t111 : Int) < ((t107.length : Int) : Int) := oT
       replace p65 := eq_true p65
       replace q65 := eq_true q65
       have HX76 := am (show Kd.N k56 56 w73 w.heap.size (fun k_ => (w.heap.size ≤ k_) ∧ some k_ ≠ (.slice Ao38 t104.length co38 : Value).ownBlock ∧ k_ ≠ gb101 ∧ k_ ≠ gb102 ∧ k_ ≠ gb110) (.slice (some ⟨go64, 0, none⟩) t107.length co42) y129 from (by refine rN ?_; exact Kd.N_mono HO_111001.1 (fun _ hk => ⟨hk.1, ⟨hk.2.2.1, ⟨hk.2.2.2.1, ⟨hk.2.2.2.2.1, hk.2.2.2.2.2⟩⟩⟩⟩)))
       obtain ⟨ce76, hcl76, hM76, hcc76, hfr76⟩ := Kd.N_elem HX76.out z56 (t111 : Int) (oT) (by have h_ : (t111 : Int) < ((t107.length : Int) : Int) := oT; first | exact h_ | (have e_ := (Kd.N_reads' HO_111001.1).1; omega) | simpa using h_)
       obtain ⟨ua76_1, uc76_1, ua76_2, uc76_2, rfl, ul76_1, ge76_1, ul76_2, ge76_2⟩ := k56_openF hM76
       have HP76 := Kd.N_seg HX76.out (t111 : Int) (oT) (by have h_ : (t111 : Int) < ((t107.length : Int) : Int) := oT; first | exact h_ | (have e_ := (Kd.N_reads' HO_111001.1).1; omega) | simpa using h_) (seg := [u10]) (j := 1) hcl76 hcc76 (show 2 ≤ 3 from by decide) (x' := (⟨(rd_T56 y129 t111).f0, x10_1, (rd_T56 y129 t111).f2⟩ : S56)) (k56_mkF1 _ _ (⟨(rd_T56 y129 t111).f0, x10_1, (rd_T56 y129 t111).f2⟩ : S56) (Kd.R_mono (ok' := (fun k_ => ((fun k_ => (w.heap.size ≤ k_) ∧ some k_ ≠ (.slice Ao38 t104.length co38 : Value).ownBlock ∧ k_ ≠ gb101 ∧ k_ ≠ gb102 ∧ k_ ≠ gb110)) k_ ∧ k_ ≠ go64)) (Kd.R_types (Kd.R_types (Kd.R_types (Kd.R_apart' (HO_10.1) (Kd.N_typed HO_111001.1) (by decide)) BK101.1 (by decide)) BK102.1 (by decide)) BK110.1 (by decide)) (fun k_ hk => ⟨⟨hk.1.1.1.1.1, ⟨hk.1.1.1.1.2, ⟨hk.1.1.2, ⟨hk.1.2, hk.2⟩⟩⟩⟩, fun e_ => (hk.1.1.1.2) (by rw [e_]; rfl)⟩)) ul76_2 ge76_2) (fun _ hk => hk)
       have hx76_1 := hcc76 1 _ rfl
       (try simp only [show (k56).sz = 3 from rfl, Nat.mul_one, Nat.add_zero] at hx76_1)
       have hf76_1 := hfr76 1
       (try simp only [show (k56).sz = 3 from rfl, Nat.mul_one, Nat.add_zero] at hf76_1)
       clear hcl76 hcc76 hfr76 hM76
       try go_wp2_with (first | ((with_reducible refine gate_store (t := 23) (p := 81) rfl ?_); refine store_event (t := 23) (p := 81) (v := ?vo_w77) (w1 := (w73.setCell ⟨go64, (t111 : Int).toNat * 3 + 1, none⟩ (u10))) ?hg ?ho ?hn ?hr ?_; (case ho => rfl); (case hg => rfl); (case hn => rfl); (case hr => (try (obtain ⟨Az_, cz_, ez_⟩ := Kd.R_slice HO_10.1; subst ez_)); first | (go_simp; done) | (go_simp; rfl)); intro w77 hw; have hg : w73.grownBy w77 (some go64) := (by rw [hw]; exact HP76.2); have hp_ : Kd.N k56 56 w77 w.heap.size (fun k_ => (w.heap.size ≤ k_) ∧ some k_ ≠ (.slice Ao38 t104.length co38 : Value).ownBlock ∧ k_ ≠ gb101 ∧ k_ ≠ gb102 ∧ k_ ≠ gb110) (.slice (some ⟨go64, 0, none⟩) t107.length co42) y130 := (by rw [hw, Ny130.out]; exact HP76.1); clear HP76; replace HO_111000 := am (Kd.R_over' (v := (.slice (some ⟨go64, 0, none⟩) t107.length co42)) (pY113) (Kd.N_typed HO_111001.1) (by decide) hg); replace BK101 := gN pY98 hg HO_111001 BK101; replace BK102 := gN pY99 hg HO_111001 BK102; replace BK110 := gN pY103 hg HO_111001 BK110; replace HO_111001 := am (hp_); replace HB := am (by rw [hw]; exact below_set (HB.1) GB64.out : Below w.heap.size w w77); clear HO_10; clear hg hw hp_; obtain ⟨hcz78_0, hcz78_1, hfz78_0, hfz78_1⟩ := cz2 BK110) | ((with_reducible refine gate_callee (f := 89) rfl ?_); refine goesL_ (some 83) rfl rfl Try.func89 (by kernel_rfl) rfl #[.agg #[.slice Ao38 t104.length co38, .slice (some ⟨go64, 0, none⟩) y130.length co42]] rfl (by (try simp only [List.map_toArray, List.map_cons, List.map_nil]); first | done | (rw [show y130.length = t107.length from (Kd.N_reads' HO_111001.1).1.symm] <;> rfl) | rfl | (simp only [List.length_drop, List.length_take]; rfl)) ?_; (with_reducible refine (spec_l1Copy.calls k1 _ _ t104 _ _ y130 t131 t134 _ ?side1 ?side2 ?side3 ?side4 A66.out).mono ?_); (case side1 => exact pC (Kd.R_reads' HO_111000.1).2.2); (case side2 => exact (Kd.R_reads' HO_111000.1).2.1); (case side3 => exact pC (Kd.N_reads' HO_111001.1).2.2); (case side4 => rw [show y130.length = t107.length from (Kd.N_reads' HO_111001.1).1.symm]; exact (Kd.N_reads' HO_111001.1).2.1); rintro e w79 ⟨v132, v135, rfl, ho0, ho1, hb⟩; refine ⟨_, rfl, ?_⟩; have HO133 := am (Kd.R_lower (Kd.R_new' (Kd.R_newM (M := fun k_ => (w.heap.size ≤ k_)) ho0 (below_size (pY69)) (fun k_ h_ => h_)) (Kd.R_lt (pY113))) (below_size (pY69))); have HO136 := am (Kd.N_lower (Kd.N_mono (ok' := fun k_ => (w.heap.size ≤ k_) ∧ some k_ ≠ (v132 : Value).ownBlock ∧ some k_ ≠ (.slice Ao38 t104.length co38 : Value).ownBlock ∧ some k_ ≠ (.slice (some ⟨go64, 0, none⟩) t107.length co42 : Value).ownBlock ∧ k_ ≠ gb101 ∧ k_ ≠ gb102 ∧ k_ ≠ gb110) (Kd.S_N (Kd.S_bound ho1)) (fun k_ hk_ => ⟨(Nat.le_trans (below_size (pY69)) hk_.2.1), hk_.1, (Kd.fresh' (Kd.R_lt (pY113)) k_ hk_.2.1), (Kd.fresh' (Kd.N_lt (pY114)) k_ hk_.2.1), (fB pY98 k_ hk_.2.1), (fB pY99 k_ hk_.2.1), (fB pY103 k_ hk_.2.1)⟩)) (below_size (pY69))); replace HO_111000 := am (Kd.R_elder' (pY113) (Kd.R_base ho0) hb); replace HO_111001 := am (Kd.N_mono (Kd.N_told (Kd.N_told (Kd.N_old (pY114) hb) (Kd.R_base ho0)) (pY134)) (fun _ h_ => h_.1)); replace BK101 := bB pY98 hb; replace BK102 := bB pY99 hb; replace BK110 := bB pY103 hb; replace HB := bS pY69 hb; (try clear hb); (try clear ho0); (try clear ho1); obtain ⟨Ao80, co80, eo80⟩ := Kd.R_slice HO133.1; subst eo80; obtain ⟨hcz81_0, hcz81_1, hfz81_0, hfz81_1⟩ := cz2 BK102; obtain ⟨Ao82, co82, eo82⟩ := Kd.N_slice HO136.1; subst eo82))
       refine bodyPost_ret (results_ct rfl _ _ gb102 31 #[.slice Ao80 t131.length co80, .slice Ao82 t134.length co82] (0, 0) _ rfl (by refine rB ?_; refine blk_put (cs := #[.slice Ao80 t131.length co80, .slice none 0 0]) ?_ 1 _ rfl; refine rB ?_; refine blk_put (cs := #[.slice none 0 0, .slice none 0 0]) ?_ 0 _ rfl; refine rB ?_; exact BK102.1) Try.underlying31 rfl (by kernel_rfl)) rfl ?_
       exact ⟨_, _, eR, by refine rR ?_; exact Kd.R_mono (fR (fR (tR HO133 BK102))) (fun _ hk => hk.1.1.1), by refine rN ?_; exact Kd.N_mono (fN (fN (Kd.N_mono HO136.1 (fun k_ hk => (⟨hk, hk.2.2.2.2.2.1⟩ : _ ∧ k_ ≠ gb102))))) (fun _ hk => ⟨hk.1.1, hk.1.2.1⟩), pY69⟩
   ·simp only [Option.some.injEq, Prod.mk.injEq] at H
    obtain ⟨rfl, rfl, rfl⟩ := H
    go_enter Try.func49, Try.ntmps49
    go_wp2_with (first | ((with_reducible refine gate_dst (N := 3) rfl ?_); refine box_event ?hg (N := 3) ?hd (cs := #[.slice A0_0 l0_0.length c0_0, .slice A0_1 l0_1.length c0_1]) (t := 31) ?hr ?_; (case hd => rfl); (case hg => rfl); (case hr => (try (obtain ⟨Az_, cz_, ez_⟩ := Kd.R_slice HO_10.1; subst ez_)); first | (go_simp; done) | (go_simp; rfl)); intro gb101 hg w83 hbox hb; have BK101 := am (hbox); have GW101 := am (pY89 : w.heap.size ≤ gb101); have GE101 := am (pY89 : w.heap.size ≤ gb101); replace HB := bS pY95 hb; clear hb hbox hg) | ((with_reducible refine gate_dst (N := 6) rfl ?_); refine box_event ?hg (N := 6) ?hd (cs := #[.slice none 0 0, .slice none 0 0]) (t := 31) ?hr ?_; (case hd => rfl); (case hg => rfl); (case hr => (try (obtain ⟨Az_, cz_, ez_⟩ := Kd.R_slice HO_10.1; subst ez_)); first | (go_simp; done) | (go_simp; rfl)); intro gb102 hg w84 hbox hb; have BK102 := am (hbox); have GW102 := am (pY77 : w.heap.size ≤ gb102); have GE102 := am (pY77 : w.heap.size ≤ gb102); replace HB := bS pY90 hb; have NB101_102 := nL pY98 hg; have NB102_101 := nG pY98 hg; replace BK101 := bB pY98 hb; clear hb hbox hg; have hnb85 := NB101_102.1; have hnc85 := NB102_101.1; obtain ⟨hcz86_0, hcz86_1, hfz86_0, hfz86_1⟩ := cz2 BK101) | ((with_reducible refine gC 22 ?_); refine cQ (some 13) Try.func22 (spec_ShareBookOk.calls k _ _ l0_0 _ _ l0_1 true _ (pB HR0_0) HC0_0.1 (pB HR0_1) HC0_1.1 A4.out) ?_; rintro w87 hb; replace BK101 := bB pY98 hb; replace BK102 := bB pY99 hb; replace HB := bS pY81 hb; (try clear hb); obtain ⟨hcz88_0, hcz88_1, hfz88_0, hfz88_1⟩ := cz2 BK101) | ((with_reducible refine gC 89 ?_); refine cE (some 17) Try.func89 (spec_l1Copy.calls k _ _ l0_0 _ _ l0_1 t104 t107 _ (pB HR0_0) HC0_0.1 (pB HR0_1) HC0_1.1 A6.out) ?_; rintro e w89 ⟨v105, v108, rfl, ho0, ho1, hb⟩; refine ⟨_, rfl, ?_⟩; have HO106 := am (Kd.R_lower (Kd.R_newM (M := fun k_ => (w.heap.size ≤ k_)) ho0 (below_size (pY81)) (fun k_ h_ => h_)) (below_size (pY81))); have HO109 := am (Kd.N_lower (Kd.N_mono (ok' := fun k_ => (w.heap.size ≤ k_) ∧ some k_ ≠ (v105 : Value).ownBlock ∧ k_ ≠ gb101 ∧ k_ ≠ gb102) (Kd.S_N (Kd.S_bound ho1)) (fun k_ hk_ => ⟨(Nat.le_trans (below_size (pY81)) hk_.2.1), hk_.1, (fB pY98 k_ hk_.2.1), (fB pY99 k_ hk_.2.1)⟩)) (below_size (pY81))); replace BK101 := bB pY98 hb; replace BK102 := bB pY99 hb; replace HB := bS pY81 hb; (try clear hb); (try clear ho0); (try clear ho1)) | ((with_reducible refine gate_dst (N := 8) rfl ?_); refine box_event ?hg (N := 8) ?hd (cs := #[.slice none 0 0, .slice none 0 0]) (t := 31) ?hr ?_; (case hd => rfl); (case hg => rfl); (case hr => (try (obtain ⟨Az_, cz_, ez_⟩ := Kd.R_slice HO_10.1; subst ez_)); first | (go_simp; done) | (go_simp; rfl)); intro gb110 hg w90 hbox hb; replace HO106 := am (Kd.R_below (pY121) hb); replace HO109 := am (Kd.N_below (Kd.N_elderB (pY122) gb110 (Nat.le_of_eq hg.symm)) hb); have BK110 := am (hbox); have GW110 := am (pY65 : w.heap.size ≤ gb110); have GE110 := am (pY65 : w.heap.size ≤ gb110); replace HB := bS pY81 hb; have NB101_110 := nL pY98 hg; have NB110_101 := nG pY98 hg; replace BK101 := bB pY98 hb; have NB102_110 := nL pY99 hg; have NB110_102 := nG pY99 hg; replace BK102 := bB pY99 hb; clear hb hbox hg; obtain ⟨Ao91, co91, eo91⟩ := Kd.R_slice HO106.1; subst eo91; have hnb92 := NB110_101.1; have hnc92 := NB101_110.1; have hnb93 := NB110_102.1; have hnc93 := NB102_110.1; obtain ⟨hcz94_0, hcz94_1, hfz94_0, hfz94_1⟩ := cz2 BK110; obtain ⟨Ao95, co95, eo95⟩ := Kd.N_slice HO109.1; subst eo95; obtain ⟨hcz96_0, hcz96_1, hfz96_0, hfz96_1⟩ := cz2 BK101) | ((with_reducible refine gC 82 ?_); refine cQ (some 20) Try.func82 (spec_l1At.calls k _ _ l0_0 _ _ l0_1 a1 t111 _ (Kd.C_below HR0_0.1 (pY69)) HC0_0.1 (Kd.C_below HR0_1.1 (pY69)) HC0_1.1 A7.out) ?_; rintro w97 hb; replace HO106 := am (Kd.R_below (by refine rR ?_; exact (Kd.R_mono (fR (fR (tR HO106 BK110))) (fun _ h_ => h_.1))) hb); replace HO109 := am (Kd.N_below (by refine rN ?_; exact (Kd.N_mono (fN (fN (Kd.N_mono HO109.1 (fun k_ hk => (⟨hk, hk.2⟩ : _ ∧ k_ ≠ gb110))))) (fun _ h_ => h_.1))) hb); replace BK101 := am (blk_below (g := gb101) (o := .cells #[.slice A0_0 l0_0.length c0_0, .slice A0_1 l0_1.length c0_1] 31 (0, 0)) (pY8) hb); replace BK102 := am (blk_below (g := gb102) (o := .cells #[.slice none 0 0, .slice none 0 0] 31 (0, 0)) (pY9) hb); replace BK110 := am (blk_below (g := gb110) (o := .cells #[.slice Ao91 t104.length co91, .slice Ao95 t107.length co95] 31 (0, 0)) (by refine rB ?_; refine blk_put (cs := #[.slice Ao91 t104.length co91, .slice none 0 0]) ?_ 1 _ rfl; refine rB ?_; refine blk_put (cs := #[.slice none 0 0, .slice none 0 0]) ?_ 0 _ rfl; refine rB ?_; exact BK110.1) hb); replace HB := bS pY69 hb; (try clear hb); (try clear hk); obtain ⟨hcz98_0, hcz98_1, hfz98_0, hfz98_1⟩ := cz2 BK101; obtain ⟨ad112, A112_1, c112_1, A112_2, c112_2, e112, hx112_0, hx112_1, hx112_2, HR112_1, HC112_1, HR112_2, HC112_2, p112, q112⟩ := aT56 HR0_1 HB t111; cases e112) | ((with_reducible refine gC 71 ?_); refine cQ (some 31) Try.func71 (spec_l1NamesOk.calls k _ _ l2 _ _ ((rd_T56 l0_1 t111).f2) false _ (pB HR2) HC2.1 (pB HR112_2) HC112_2.1 A28.out) ?_; rintro w' ⟨nd, rfl⟩; (try (rw [drewN_self w97]; generalize hq_ : World.drewN w97 _ = w97; have n0_ : Aside0 (Kd.R Kd.string 9 w97 w.heap.size (fun k_ => (((w.heap.size ≤ k_)) ∧ True)) (.slice Ao91 t104.length co91) t104) := ⟨by rw [← hq_]; exact (pY121)⟩; have n1_ : Aside0 (Kd.N k56 56 w97 w.heap.size (fun k_ => ((((w.heap.size ≤ k_)) ∧ (some k_ ≠ (.slice Ao91 t104.length co91 : Value).ownBlock ∧ (k_ ≠ gb101 ∧ k_ ≠ gb102))) ∧ k_ ≠ gb110)) (.slice Ao95 t107.length co95) t107) := ⟨by rw [← hq_]; exact (pY122)⟩; have n2_ : Aside0 (w97.heap[gb101]? = some (.cells #[.slice A0_0 l0_0.length c0_0, .slice (some ad112) l0_1.length c0_1] 31 (0, 0))) := ⟨by rw [← hq_]; exact (pY98)⟩; have n3_ : Aside0 (w97.heap[gb102]? = some (.cells #[.slice none 0 0, .slice none 0 0] 31 (0, 0))) := ⟨by rw [← hq_]; exact (pY99)⟩; have n4_ : Aside0 (w97.heap[gb110]? = some (.cells #[.slice Ao91 t104.length co91, .slice Ao95 t107.length co95] 31 (0, 0))) := ⟨by rw [← hq_]; exact (pY103)⟩; have n5_ : Aside0 (Below w.heap.size w w97) := ⟨by rw [← hq_]; exact (pY69)⟩; clear HO106 HO109 BK101 BK102 BK110 HB hq_; have HO106 := n0_; have HO109 := n1_; have BK101 := n2_; have BK102 := n3_; have BK110 := n4_; have HB := n5_; clear n0_ n1_ n2_ n3_ n4_ n5_)); obtain ⟨hcz99_0, hcz99_1, hfz99_0, hfz99_1⟩ := cz2 BK110; obtain ⟨hcz100_0, hcz100_1, hfz100_0, hfz100_1⟩ := cz2 BK102))
    refine bodyPost_ret (results_ct rfl _ _ gb102 31 #[.slice Ao91 t104.length co91, .slice Ao95 t107.length co95] (0, 0) _ rfl (by refine rB ?_; refine blk_put (cs := #[.slice Ao91 t104.length co91, .slice none 0 0]) ?_ 1 _ rfl; refine rB ?_; refine blk_put (cs := #[.slice none 0 0, .slice none 0 0]) ?_ 0 _ rfl; refine rB ?_; exact BK102.1) Try.underlying31 rfl (by kernel_rfl)) rfl ?_
    exact ⟨_, _, eR, by refine rR ?_; exact Kd.R_mono (fR (fR (tR HO106 BK102))) (fun _ hk => hk.1.1), by refine rN ?_; exact Kd.N_mono (fN (fN (Kd.N_mono HO109.1 (fun k_ hk => (⟨hk, hk.1.2.2.2⟩ : _ ∧ k_ ≠ gb102))))) (fun _ hk => ⟨hk.1.1.1, hk.1.1.2.1⟩), pY69⟩
 ·simp only [Option.some.injEq, Prod.mk.injEq] at H
  obtain ⟨rfl, rfl, rfl⟩ := H
  go_enter Try.func49, Try.ntmps49
  go_wp2_with (first | ((with_reducible refine gate_dst (N := 3) rfl ?_); refine box_event ?hg (N := 3) ?hd (cs := #[.slice A0_0 l0_0.length c0_0, .slice A0_1 l0_1.length c0_1]) (t := 31) ?hr ?_; (case hd => rfl); (case hg => rfl); (case hr => (try (obtain ⟨Az_, cz_, ez_⟩ := Kd.R_slice HO_10.1; subst ez_)); first | (go_simp; done) | (go_simp; rfl)); intro gb101 hg w101 hbox hb; have BK101 := am (hbox); have GW101 := am (pY89 : w.heap.size ≤ gb101); have GE101 := am (pY89 : w.heap.size ≤ gb101); replace HB := bS pY95 hb; clear hb hbox hg) | ((with_reducible refine gate_dst (N := 6) rfl ?_); refine box_event ?hg (N := 6) ?hd (cs := #[.slice none 0 0, .slice none 0 0]) (t := 31) ?hr ?_; (case hd => rfl); (case hg => rfl); (case hr => (try (obtain ⟨Az_, cz_, ez_⟩ := Kd.R_slice HO_10.1; subst ez_)); first | (go_simp; done) | (go_simp; rfl)); intro gb102 hg w102 hbox hb; have BK102 := am (hbox); have GW102 := am (pY77 : w.heap.size ≤ gb102); have GE102 := am (pY77 : w.heap.size ≤ gb102); replace HB := bS pY90 hb; have NB101_102 := nL pY98 hg; have NB102_101 := nG pY98 hg; replace BK101 := bB pY98 hb; clear hb hbox hg; have hnb103 := NB101_102.1; have hnc103 := NB102_101.1; obtain ⟨hcz104_0, hcz104_1, hfz104_0, hfz104_1⟩ := cz2 BK101) | ((with_reducible refine gC 22 ?_); refine cQ (some 13) Try.func22 (spec_ShareBookOk.calls k _ _ l0_0 _ _ l0_1 false _ (pB HR0_0) HC0_0.1 (pB HR0_1) HC0_1.1 A4.out) ?_; rintro w105 hb; replace BK101 := bB pY98 hb; replace BK102 := bB pY99 hb; replace HB := bS pY81 hb; (try clear hb); obtain ⟨hcz106_0, hcz106_1, hfz106_0, hfz106_1⟩ := cz2 BK102))
  refine bodyPost_ret (results_ct rfl _ _ gb102 31 #[.slice none 0 0, .slice none 0 0] (0, 0) _ rfl (pY6) Try.underlying31 rfl (by kernel_rfl)) rfl ?_
  exact ⟨_, _, eR, by first | exact Kd.R_nil _ _ _ _ _ | exact Kd.N_nil _ _ _ _ _ | exact Kd.V_nil _ _ _ _ _ | exact Kd.Q_nil _ _ _ _ _ | exact Kd.S_nil _ _ _ _ _, by first | exact Kd.S_nil _ _ _ _ _ | exact Kd.N_nil _ _ _ _ _ | exact Kd.V_nil _ _ _ _ _ | exact Kd.Q_nil _ _ _ _ _ | exact Kd.R_nil _ _ _ _ _, pY81⟩
mutual
def spec_ShareEnter.j0 : Nat → ByteArray → List ByteArray → Bool → List ByteArray → List (S56) → List ByteArray → List (S56) → Option (List ByteArray × (List (S56)) × Int)
 | 0, _, _, _, _, _, _, _ => none
 | k + 1, x1, x2, x25, x102000, x102001, x111000, x111001 => if x25 = true then (some (x111000, x111001, 2)) else ((spec_l1At.f k x102000 x102001 x1).bind fun t113 => (if t113 ≥ 0 then (some (x111000, x111001, 3)) else (if (x102001.length : Int) ≥ 5 then (some (x111000, x111001, 4)) else (spec_ShareEnter.l0 k x1 x2 0 x111000 x111001))))
def spec_ShareEnter.l0 : Nat → ByteArray → List ByteArray → Int → List ByteArray → List (S56) → Option (List ByteArray × (List (S56)) × Int)
 | 0, _, _, _, _, _ => none
 | k + 1, x1, x2, x9, x111000, x111001 => if x9 < (x111001.length : Int) then (if 0 ≤ x9 then (if (Op.bytesLess (((rd_T56 x111001 x9).f0).toList) x1.toList) = true then (spec_ShareEnter.l0 k x1 x2 (wrap64 (x9 + 1)) x111000 x111001) else ((some (([] : List (S56)) : List (S56))).bind fun y115 => (if x9 ≤ (x111001.length : Int) then ((some (x111001.take (x9 : Int).toNat : List (S56))).bind fun y118 => (if y115.length + y118.length < 2199023255552 then ((some (y115 ++ y118 : List (S56))).bind fun y123 => ((spec_l1Names.f x2).bind fun t126 => (if y123.length < 2199023255552 then ((some (y123 ++ [(⟨x1, ([] : List ByteArray), t126⟩ : S56)] : List (S56))).bind fun y129 => ((some (x111001.drop (x9 : Int).toNat : List (S56))).bind fun y132 => (if y129.length + y132.length < 2199023255552 then ((spec_l1Copy.f k x111000 (y129 ++ y132)).bind fun bt140 => (some (bt140.1, bt140.2, 0))) else (none)))) else (none)))) else (none))) else (none)))) else (none)) else ((some (([] : List (S56)) : List (S56))).bind fun y146 => (if 0 ≤ x9 then (if x9 ≤ (x111001.length : Int) then ((some (x111001.take (x9 : Int).toNat : List (S56))).bind fun y149 => (if y146.length + y149.length < 2199023255552 then ((some (y146 ++ y149 : List (S56))).bind fun y154 => ((spec_l1Names.f x2).bind fun t157 => (if y154.length < 2199023255552 then ((some (y154 ++ [(⟨x1, ([] : List ByteArray), t157⟩ : S56)] : List (S56))).bind fun y160 => ((some (x111001.drop (x9 : Int).toNat : List (S56))).bind fun y163 => (if y160.length + y163.length < 2199023255552 then ((spec_l1Copy.f k x111000 (y160 ++ y163)).bind fun bt171 => (some (bt171.1, bt171.2, 0))) else (none)))) else (none)))) else (none))) else (none)) else (none)))
end
def spec_ShareEnter.f (k : Nat) (l0_0 : List ByteArray) (l0_1 : List (S56)) (a1 : ByteArray) (l2 : List ByteArray) : Option (List ByteArray × (List (S56)) × Int) := (spec_ShareBookOk.f k l0_0 l0_1).bind fun t103 => (if t103 = true then ((spec_l1Copy.f k l0_0 l0_1).bind fun bt104 => ((spec_l1NameOk.f k a1).bind fun t111 => (if t111 = true then ((spec_l1NamesOk.f k l2 l0_0).bind fun t112 => (spec_ShareEnter.j0 k a1 l2 (!t112) l0_0 l0_1 bt104.1 bt104.2)) else (spec_ShareEnter.j0 k a1 l2 true l0_0 l0_1 bt104.1 bt104.2)))) else (some (([] : List ByteArray), ([] : List (S56)), 1)))
def spec_ShareEnter.T13 : Bool × List (List Nat × List Nat) := (true, [([], []), ([], []), ([1], [1]), ([], []), ([2, 3], [2, 3]), ([0, 4], [0, 4]), ([], []), ([], []), ([7, 5], [7]), ([6, 8], [6, 8]), ([9], [9]), ([5, 10, 8], [5, 10]), ([], []), ([12], [12]), ([], []), ([13, 14], [13, 14]), ([11, 15, 11], [11, 15]), ([0, 1, 2, 3, 4, 5, 6, 7, 8, 9, 10, 11, 12, 13, 14, 15, 16], []), ([17, 16, 16, 0, 1, 2, 3, 4, 5, 6, 7, 8, 9, 10, 11, 12, 13, 14, 15, 16], [16, 17])])
def spec_ShareEnter.B13 : List Nat := [0, 0, 2, 0, 14, 31, 0, 0, 191, 511, 1023, 2047, 0, 4096, 0, 28672, 65535, 131071, 262143]
theorem spec_ShareEnter.tab13 : rtab .any (opsOf Try.f59 13) = spec_ShareEnter.T13 := by kernel_rfl
theorem spec_ShareEnter.bits13 : waitsOk spec_ShareEnter.T13.2 spec_ShareEnter.B13 = true := by kernel_rfl
theorem spec_ShareEnter.calls (k : Nat) (A0_0 : Option Addr) (c0_0 : Nat) (l0_0 : List ByteArray) (A0_1 : Option Addr) (c0_1 : Nat) (l0_1 : List (S56)) (a1 : ByteArray) (A2 : Option Addr) (c2 : Nat) (l2 : List ByteArray) (r1 : List ByteArray) (r2 : List (S56)) (r3 : Int) (w : World) (hr0_0 : Kd.C Kd.string w A0_0 l0_0.length l0_0) (hc0_0 : l0_0.length ≤ c0_0) (hr0_1 : Kd.C k56 w A0_1 l0_1.length l0_1) (hc0_1 : l0_1.length ≤ c0_1) (hr2 : Kd.C Kd.string w A2 l2.length l2) (hc2 : l2.length ≤ c2) (h : spec_ShareEnter.f k l0_0 l0_1 a1 l2 = some (r1, r2, r3)) :
  Calls Try.prog 59 #[.agg #[.slice A0_0 l0_0.length c0_0, .slice A0_1 l0_1.length c0_1], .string a1, .slice A2 l2.length c2] w fun e w' => ∃ v0_ v1_ : Value, e = .returned (.tuple #[.agg #[v0_, v1_], .int .i64 r3]) ∧ Kd.R Kd.string 9 w' w.heap.size (fun k_ => (w.heap.size ≤ k_)) v0_ r1 ∧ Kd.N k56 56 w' w.heap.size (fun k_ => (w.heap.size ≤ k_) ∧ some k_ ≠ (v0_ : Value).ownBlock) v1_ r2 ∧ Below w.heap.size w w' := by
 have hu31 := Try.underlying31
 have hu56 := Try.underlying56
 have HR0_0 := am hr0_0
 have HC0_0 := am hc0_0
 clear hr0_0 hc0_0
 have HR0_1 := am hr0_1
 have HC0_1 := am hc0_1
 clear hr0_1 hc0_1
 have HR2 := am hr2
 have HC2 := am hc2
 clear hr2 hc2
 have HB := am (Below.refl w.heap.size w)
 unfold spec_ShareEnter.f at h
 have H := h
 clear h
 obtain ⟨t103, A4, H⟩ := bd H
 refine tC H ?_ ?_ <;> clear H <;> intro c5 H <;> subst c5
 ·obtain ⟨⟨t104, t107⟩, A6, H⟩ := bd H
  dsimp only at H
  have HC7 := am H
  clear H
  go_enter Try.func59, Try.ntmps59
  go_upto_region 4 with (first | ((with_reducible refine gD 3 ?_); refine bX 3 #[.slice A0_0 l0_0.length c0_0, .slice A0_1 l0_1.length c0_1] 31 ?_; intro gb101 hg w8 hbox hb; have BK101 := am (hbox); have GW101 := am (pY89 : w.heap.size ≤ gb101); have GE101 := am (pY89 : w.heap.size ≤ gb101); replace HB := bS pY95 hb; clear hb hbox hg) | ((with_reducible refine gD 6 ?_); refine bX 6 #[.slice none 0 0, .slice none 0 0] 31 ?_; intro gb102 hg w9 hbox hb; have BK102 := am (hbox); have GW102 := am (pY77 : w.heap.size ≤ gb102); have GE102 := am (pY77 : w.heap.size ≤ gb102); replace HB := bS pY90 hb; have NB101_102 := nL pY98 hg; have NB102_101 := nG pY98 hg; replace BK101 := bB pY98 hb; clear hb hbox hg; have hnb10 := NB101_102.1; have hnc10 := NB102_101.1; obtain ⟨hcz11_0, hcz11_1, hfz11_0, hfz11_1⟩ := cz2 BK101) | ((with_reducible refine gC 22 ?_); refine cQ (some 11) Try.func22 (spec_ShareBookOk.calls k _ _ l0_0 _ _ l0_1 true _ (pB HR0_0) HC0_0.1 (pB HR0_1) HC0_1.1 A4.out) ?_; rintro w12 hb; replace BK101 := bB pY98 hb; replace BK102 := bB pY99 hb; replace HB := bS pY81 hb; (try clear hb); obtain ⟨hcz13_0, hcz13_1, hfz13_0, hfz13_1⟩ := cz2 BK101) | ((with_reducible refine gC 89 ?_); refine cE (some 15) Try.func89 (spec_l1Copy.calls k _ _ l0_0 _ _ l0_1 t104 t107 _ (pB HR0_0) HC0_0.1 (pB HR0_1) HC0_1.1 A6.out) ?_; rintro e w14 ⟨v105, v108, rfl, ho0, ho1, hb⟩; refine ⟨_, rfl, ?_⟩; have HO106 := am (Kd.R_lower (Kd.R_newM (M := fun k_ => (w.heap.size ≤ k_)) ho0 (below_size (pY81)) (fun k_ h_ => h_)) (below_size (pY81))); have HO109 := am (Kd.N_lower (Kd.N_mono (ok' := fun k_ => (w.heap.size ≤ k_) ∧ some k_ ≠ (v105 : Value).ownBlock ∧ k_ ≠ gb101 ∧ k_ ≠ gb102) (Kd.S_N (Kd.S_bound ho1)) (fun k_ hk_ => ⟨(Nat.le_trans (below_size (pY81)) hk_.2.1), hk_.1, (fB pY98 k_ hk_.2.1), (fB pY99 k_ hk_.2.1)⟩)) (below_size (pY81))); replace BK101 := bB pY98 hb; replace BK102 := bB pY99 hb; replace HB := bS pY81 hb; (try clear hb); (try clear ho0); (try clear ho1)) | ((with_reducible refine gD 8 ?_); refine bX 8 #[.slice none 0 0, .slice none 0 0] 31 ?_; intro gb110 hg w15 hbox hb; replace HO106 := am (Kd.R_below (pY121) hb); replace HO109 := am (Kd.N_below (Kd.N_elderB (pY122) gb110 (Nat.le_of_eq hg.symm)) hb); have BK110 := am (hbox); have GW110 := am (pY65 : w.heap.size ≤ gb110); have GE110 := am (pY65 : w.heap.size ≤ gb110); replace HB := bS pY81 hb; have NB101_110 := nL pY98 hg; have NB110_101 := nG pY98 hg; replace BK101 := bB pY98 hb; have NB102_110 := nL pY99 hg; have NB110_102 := nG pY99 hg; replace BK102 := bB pY99 hb; clear hb hbox hg; obtain ⟨Ao16, co16, eo16⟩ := Kd.R_slice HO106.1; subst eo16; have hnb17 := NB110_101.1; have hnc17 := NB101_110.1; have hnb18 := NB110_102.1; have hnc18 := NB102_110.1; obtain ⟨hcz19_0, hcz19_1, hfz19_0, hfz19_1⟩ := cz2 BK110; obtain ⟨Ao20, co20, eo20⟩ := Kd.N_slice HO109.1; subst eo20))
  (try simp only [Act.put, List.setIfInBounds_toArray, List.set_cons_zero, List.set_cons_succ])
  go_cut [25] (fun v25 wc => ∃ (kq : Nat) (x25_6 : Bool), v25 = .bool x25_6 ∧ Aside0 (spec_ShareEnter.j0 kq a1 l2 x25_6 l0_0 l0_1 t104 t107 = some (r1, r2, r3)) ∧ Aside0 (kq ≤ k) ∧ Aside0 (Kd.R Kd.string 9 wc w.heap.size (fun k_ => (w.heap.size ≤ k_)) (.slice Ao16 t104.length co16) t104) ∧ Aside0 (Kd.N k56 56 wc w.heap.size (fun k_ => (w.heap.size ≤ k_) ∧ some k_ ≠ ((.slice Ao16 t104.length co16) : Value).ownBlock ∧ k_ ≠ gb101 ∧ k_ ≠ gb102 ∧ k_ ≠ gb110) (.slice Ao20 t107.length co20) t107) ∧ Aside0 (wc.heap[gb101]? = some (.cells #[(.slice A0_0 l0_0.length c0_0), (.slice A0_1 l0_1.length c0_1)] 31 (0, 0))) ∧ Aside0 (wc.heap[gb102]? = some (.cells #[(.slice none 0 0), (.slice none 0 0)] 31 (0, 0))) ∧ Aside0 (wc.heap[gb110]? = some (.cells #[(.slice Ao16 t104.length co16), (.slice Ao20 t107.length co20)] 31 (0, 0))) ∧ Aside0 (Below w.heap.size w wc))
  case first =>
   have H := HC7.1
   clear HC7
   obtain ⟨t111, A21, H⟩ := bd H
   refine tC H ?_ ?_ <;> clear H <;> intro c22 H <;> subst c22
   ·obtain ⟨t112, A23, H⟩ := bd H
    have H' := am H
    clear H
    go_wp2_with (first | ((with_reducible refine gC 70 ?_); refine cQ (some 17) Try.func70 (spec_l1NameOk.calls k a1 true _ A21.out) ?_; rintro w' ⟨nd, rfl⟩; have hnb24 := NB101_102.1; have hnc24 := NB102_101.1; have hnb25 := NB101_110.1; have hnc25 := NB110_101.1; obtain ⟨hcz26_0, hcz26_1, hfz26_0, hfz26_1⟩ := cz2 BK101) | (go_at_call 71; refine cM (spec_l1NamesOk.calls k _ _ l2 _ _ l0_0 t112 _ (Kd.C_below HR2.1 (pY69)) HC2.1 (Kd.C_below HR0_0.1 (pY69)) HC0_0.1 A23.out) ?_; rintro w' ⟨nd, rfl⟩))
    go_meet
    case rel => exact ⟨_, (!t112), (pY136), H', ⟨by first | omega | exact Nat.le_refl _⟩, ⟨by refine rR ?_; exact Kd.R_mono (fR (fR (tR HO106 BK110))) (fun _ hk => hk.1.1)⟩, ⟨by refine rN ?_; exact Kd.N_mono (fN (fN (Kd.N_mono HO109.1 (fun k_ hk => (⟨hk, hk.2⟩ : _ ∧ k_ ≠ gb110))))) (fun _ hk => ⟨hk.1.1.1, ⟨hk.1.1.2.1, ⟨hk.1.1.2.2.1, ⟨hk.1.1.2.2.2, hk.1.2⟩⟩⟩⟩)⟩, ⟨by refine rB ?_; refine blk_far ?_ NB101_110.1 _; refine rB ?_; refine blk_far ?_ NB101_110.1 _; refine rB ?_; exact BK101.1⟩, ⟨by refine rB ?_; refine blk_far ?_ NB102_110.1 _; refine rB ?_; refine blk_far ?_ NB102_110.1 _; refine rB ?_; exact BK102.1⟩, ⟨by refine rB ?_; refine blk_put (cs := #[.slice Ao16 t104.length co16, .slice none 0 0]) ?_ 1 _ rfl; refine rB ?_; refine blk_put (cs := #[.slice none 0 0, .slice none 0 0]) ?_ 0 _ rfl; refine rB ?_; exact BK110.1⟩, ⟨pY69⟩⟩
   ·have H' := am H
    clear H
    go_wp2_with (first | ((with_reducible refine gC 70 ?_); refine cQ (some 17) Try.func70 (spec_l1NameOk.calls k a1 false _ A21.out) ?_; rintro w' ⟨nd, rfl⟩))
    go_meet
    case rel => exact ⟨_, (true), (pY136), H', ⟨by first | omega | exact Nat.le_refl _⟩, ⟨by refine rR ?_; exact Kd.R_mono (fR (fR (tR HO106 BK110))) (fun _ hk => hk.1.1)⟩, ⟨by refine rN ?_; exact Kd.N_mono (fN (fN (Kd.N_mono HO109.1 (fun k_ hk => (⟨hk, hk.2⟩ : _ ∧ k_ ≠ gb110))))) (fun _ hk => ⟨hk.1.1.1, ⟨hk.1.1.2.1, ⟨hk.1.1.2.2.1, ⟨hk.1.1.2.2.2, hk.1.2⟩⟩⟩⟩)⟩, ⟨by refine rB ?_; refine blk_far ?_ NB101_110.1 _; refine rB ?_; refine blk_far ?_ NB101_110.1 _; refine rB ?_; exact BK101.1⟩, ⟨by refine rB ?_; refine blk_far ?_ NB102_110.1 _; refine rB ?_; refine blk_far ?_ NB102_110.1 _; refine rB ?_; exact BK102.1⟩, ⟨by refine rB ?_; refine blk_put (cs := #[.slice Ao16 t104.length co16, .slice none 0 0]) ?_ 1 _ rfl; refine rB ?_; refine blk_put (cs := #[.slice none 0 0, .slice none 0 0]) ?_ 0 _ rfl; refine rB ?_; exact BK110.1⟩, ⟨pY69⟩⟩
  case rest =>
   clear HC7
   try clear c2
   try clear c5
   try clear hcz11_0 hcz11_1 hfz11_0 hfz11_1
   try clear hcz13_0 hcz13_1 hfz13_0 hfz13_1
   try clear hcz19_0 hcz19_1 hfz19_0 hfz19_1
   obtain ⟨kq, x25_6, rfl, HA, HJ6, HO_111000, HO_111001, BK101, BK102, BK110, HB⟩ := hcut
   cases kq with
   | zero => exact absurd HA.out (by simp [spec_ShareEnter.j0])
   | succ kj6 =>
    have H := HA.out
    clear HA
    simp only [spec_ShareEnter.j0] at H
    refine tC H ?_ ?_ <;> clear H <;> intro c27 H <;> subst c27
    simp only [Option.some.injEq, Prod.mk.injEq] at H
    obtain ⟨rfl, rfl, rfl⟩ := H
    have hnb28 := NB110_101.1
    have hnc28 := NB101_110.1
    have hnb29 := NB110_102.1
    have hnc29 := NB102_110.1
    obtain ⟨hcz30_0, hcz30_1, hfz30_0, hfz30_1⟩ := cz2 BK110
    have hnb31 := NB102_101.1
    have hnc31 := NB101_102.1
    obtain ⟨hcz32_0, hcz32_1, hfz32_0, hfz32_1⟩ := cz2 BK102
    rotate_left
    obtain ⟨t113, A33, H⟩ := bd H
    by_cases c34 : t113 ≥ 0
    rw [if_pos c34] at H
    have c34b0 : decide (0 ≤ t113) = true := decide_eq_true c34
    clear c34
    simp only [Option.some.injEq, Prod.mk.injEq] at H
    obtain ⟨rfl, rfl, rfl⟩ := H
    have hnb35 := NB101_102.1
    have hnc35 := NB102_101.1
    have hnb36 := NB101_110.1
    have hnc36 := NB110_101.1
    obtain ⟨hcz37_0, hcz37_1, hfz37_0, hfz37_1⟩ := cz2 BK101
    have M31_ := trivial
    rotate_left
    rw [if_neg c34] at H
    have c34b0 : decide (0 ≤ t113) = false := decide_eq_false c34
    clear c34
    by_cases c42 : (l0_1.length : Int) ≥ 5
    rw [if_pos c42] at H
    have c42b0 : decide (5 ≤ (l0_1.length : Int)) = true := decide_eq_true c42
    have c42b1 : decide (5 ≤ l0_1.length) = true := decide_eq_true (by omega)
    clear c42
    simp only [Option.some.injEq, Prod.mk.injEq] at H
    obtain ⟨rfl, rfl, rfl⟩ := H
    have hnb43 := NB101_102.1
    have hnc43 := NB102_101.1
    have hnb44 := NB101_110.1
    have hnc44 := NB110_101.1
    obtain ⟨hcz45_0, hcz45_1, hfz45_0, hfz45_1⟩ := cz2 BK101
    have M32_ := trivial
    rotate_left
    rw [if_neg c42] at H
    have c42b0 : decide (5 ≤ (l0_1.length : Int)) = false := decide_eq_false c42
    have c42b1 : decide (5 ≤ l0_1.length) = false := decide_eq_false (by omega)
    clear c42
    have H' := am H
    clear H
    have hnb51 := NB101_102.1
    have hnc51 := NB102_101.1
    have hnb52 := NB101_110.1
    have hnc52 := NB110_101.1
    obtain ⟨hcz53_0, hcz53_1, hfz53_0, hfz53_1⟩ := cz2 BK101
    have M33_ := trivial
    rotate_left
    all_goals
     go_wp2_with (first | ((with_reducible refine gC 82 ?_); clear M31_; refine cQ (some 29) Try.func82 (spec_l1At.calls kj6 _ _ l0_0 _ _ l0_1 a1 t113 _ (pB HR0_0) HC0_0.1 (pB HR0_1) HC0_1.1 A33.out) ?_; rintro w2240 hb; replace HO_111000 := am (Kd.R_below (pY113) hb); replace HO_111001 := am (Kd.N_below (pY114) hb); replace BK101 := bB pY98 hb; replace BK102 := bB pY99 hb; replace BK110 := bB pY103 hb; replace HB := bS pY69 hb; (try clear hb); have hnb2241 := NB110_102.1; have hnc2242 := NB102_110.1; obtain ⟨hcz2243_0, hcz2243_1, hfz2244_0, hfz2244_1⟩ := cz2 BK110; obtain ⟨hcz2245_0, hcz2245_1, hfz2246_0, hfz2246_1⟩ := cz2 BK102) | ((with_reducible refine gC 82 ?_); clear M32_; refine cQ (some 29) Try.func82 (spec_l1At.calls kj6 _ _ l0_0 _ _ l0_1 a1 t113 _ (pB HR0_0) HC0_0.1 (pB HR0_1) HC0_1.1 A33.out) ?_; rintro w2280 hb; replace HO_111000 := am (Kd.R_below (pY113) hb); replace HO_111001 := am (Kd.N_below (pY114) hb); replace BK101 := bB pY98 hb; replace BK102 := bB pY99 hb; replace BK110 := bB pY103 hb; replace HB := bS pY69 hb; (try clear hb); obtain ⟨hcz2281_0, hcz2281_1, hfz2282_0, hfz2282_1⟩ := cz2 BK101; have hnb2283 := NB110_102.1; have hnc2284 := NB102_110.1; obtain ⟨hcz2285_0, hcz2285_1, hfz2286_0, hfz2286_1⟩ := cz2 BK110; obtain ⟨hcz2287_0, hcz2287_1, hfz2288_0, hfz2288_1⟩ := cz2 BK102) | ((with_reducible refine gC 82 ?_); clear M33_; refine cQ (some 29) Try.func82 (spec_l1At.calls kj6 _ _ l0_0 _ _ l0_1 a1 t113 _ (pB HR0_0) HC0_0.1 (pB HR0_1) HC0_1.1 A33.out) ?_; rintro w2320 hb; replace HO_111000 := am (Kd.R_below (pY113) hb); replace HO_111001 := am (Kd.N_below (pY114) hb); replace BK101 := bB pY98 hb; replace BK102 := bB pY99 hb; replace BK110 := bB pY103 hb; replace HB := bS pY69 hb; (try clear hb); obtain ⟨hcz2321_0, hcz2321_1, hfz2322_0, hfz2322_1⟩ := cz2 BK101))
    ·refine bodyPost_ret (results_ct rfl _ _ gb102 31 #[.slice Ao16 t104.length co16, .slice Ao20 t107.length co20] (0, 0) _ rfl (by refine rB ?_; refine blk_put (cs := #[.slice Ao16 t104.length co16, .slice none 0 0]) ?_ 1 _ rfl; refine rB ?_; refine blk_put (cs := #[.slice none 0 0, .slice none 0 0]) ?_ 0 _ rfl; refine rB ?_; exact BK102.1) Try.underlying31 rfl (by kernel_rfl)) rfl ?_
     exact ⟨_, _, eR, by refine rR ?_; exact Kd.R_mono (fR (fR (tR HO_111000 BK102))) (fun _ hk => hk.1), by refine rN ?_; exact Kd.N_mono (fN (fN (Kd.N_mono HO_111001.1 (fun k_ hk => (⟨hk, hk.2.2.2.1⟩ : _ ∧ k_ ≠ gb102))))) (fun _ hk => ⟨hk.1.1, hk.1.2.1⟩), pY69⟩
    ·refine bodyPost_ret (results_ct rfl _ _ gb102 31 #[.slice Ao16 t104.length co16, .slice Ao20 t107.length co20] (0, 0) _ rfl (by refine rB ?_; refine blk_put (cs := #[.slice Ao16 t104.length co16, .slice none 0 0]) ?_ 1 _ rfl; refine rB ?_; refine blk_put (cs := #[.slice none 0 0, .slice none 0 0]) ?_ 0 _ rfl; refine rB ?_; exact BK102.1) Try.underlying31 rfl (by kernel_rfl)) rfl ?_
     exact ⟨_, _, eR, by refine rR ?_; exact Kd.R_mono (fR (fR (tR HO_111000 BK102))) (fun _ hk => hk.1), by refine rN ?_; exact Kd.N_mono (fN (fN (Kd.N_mono HO_111001.1 (fun k_ hk => (⟨hk, hk.2.2.2.1⟩ : _ ∧ k_ ≠ gb102))))) (fun _ hk => ⟨hk.1.1, hk.1.2.1⟩), pY69⟩
    ·refine bodyPost_ret (results_ct rfl _ _ gb102 31 #[.slice Ao16 t104.length co16, .slice Ao20 t107.length co20] (0, 0) _ rfl (by refine rB ?_; refine blk_put (cs := #[.slice Ao16 t104.length co16, .slice none 0 0]) ?_ 1 _ rfl; refine rB ?_; refine blk_put (cs := #[.slice none 0 0, .slice none 0 0]) ?_ 0 _ rfl; refine rB ?_; exact BK102.1) Try.underlying31 rfl (by kernel_rfl)) rfl ?_
     exact ⟨_, _, eR, by refine rR ?_; exact Kd.R_mono (fR (fR (tR HO_111000 BK102))) (fun _ hk => hk.1), by refine rN ?_; exact Kd.N_mono (fN (fN (Kd.N_mono HO_111001.1 (fun k_ hk => (⟨hk, hk.2.2.2.1⟩ : _ ∧ k_ ≠ gb102))))) (fun _ hk => ⟨hk.1.1, hk.1.2.1⟩), pY69⟩
    ·go_loopg [9] kj6 (fun kq v9 w' => ∃ (x9_2 : Int), v9 = .int .i64 x9_2 ∧ Aside0 (spec_ShareEnter.l0 kq a1 l2 x9_2 t104 t107 = some (r1, r2, r3)) ∧ Aside0 (kq ≤ kj6) ∧ Aside0 (Kd.R Kd.string 9 w' w.heap.size (fun k_ => (w.heap.size ≤ k_)) (.slice Ao16 t104.length co16) t104) ∧ Aside0 (Kd.N k56 56 w' w.heap.size (fun k_ => (w.heap.size ≤ k_) ∧ some k_ ≠ ((.slice Ao16 t104.length co16) : Value).ownBlock ∧ k_ ≠ gb101 ∧ k_ ≠ gb102 ∧ k_ ≠ gb110) (.slice Ao20 t107.length co20) t107) ∧ Aside0 (w'.heap[gb101]? = some (.cells #[(.slice A0_0 l0_0.length c0_0), (.slice A0_1 l0_1.length c0_1)] 31 (0, 0))) ∧ Aside0 (w'.heap[gb102]? = some (.cells #[(.slice none 0 0), (.slice none 0 0)] 31 (0, 0))) ∧ Aside0 (w'.heap[gb110]? = some (.cells #[(.slice Ao16 t104.length co16), (.slice Ao20 t107.length co20)] 31 (0, 0))) ∧ Aside0 (Below w.heap.size w w'))
     case atStart => exact ⟨(0), (pY136), H', ⟨Nat.le_refl _⟩, ⟨rR HO_111000.1⟩, ⟨rN HO_111001.1⟩, ⟨rB BK101.1⟩, ⟨rB BK102.1⟩, ⟨rB BK110.1⟩, ⟨pY69⟩⟩
     case round =>
      clear H'
      try clear c2
      try clear c5
      try clear c27
      try clear c34
      try clear c34b0
      try clear c42
      try clear c42b0
      try clear c42b1
      try clear hcz11_0 hcz11_1 hfz11_0 hfz11_1
      try clear hcz13_0 hcz13_1 hfz13_0 hfz13_1
      try clear hcz19_0 hcz19_1 hfz19_0 hfz19_1
      try clear hcz53_0 hcz53_1 hfz53_0 hfz53_1
      try clear hcz2321_0 hcz2321_1 hfz2322_0 hfz2322_1
      obtain ⟨x9_2, rfl, HA, HK2, HO_111000, HO_111001, BK101, BK102, BK110, HB⟩ := hrel
      cases gk with
      | zero => exact absurd HA.out (by simp [spec_ShareEnter.l0])
      | succ k2 =>
       have H := HA.out
       clear HA
       simp only [spec_ShareEnter.l0] at H
       refine ic H ?_ ?_ <;> clear H <;> intro c56b0 H
       ·obtain ⟨c57b0, H⟩ := cN H
        by_cases c58 : (Op.bytesLess (((rd_T56 t107 x9_2).f0).toList) a1.toList) = true
        ·rw [if_pos c58] at H
         have c58b0 : (Op.bytesLess (((rd_T56 t107 x9_2).f0).toList) a1.toList) = true := c58
         clear c58
         have H' := am H
         clear H
         have hnb59 := NB110_101.1
         have hnc59 := NB101_110.1
         have hnb60 := NB110_102.1
         have hnc60 := NB102_110.1
         obtain ⟨hcz61_0, hcz61_1, hfz61_0, hfz61_1⟩ := cz2 BK110
         have p114 : 0 ≤ (x9_2 : Int) := oT
         have q114 : x9_2 < (t107.length : Int) := oT
         obtain ⟨ad114, A114_1, c114_1, A114_2, c114_2, e114, hx114_0, hx114_1, hx114_2, hl114_1, hi114_1, hl114_2, hi114_2⟩ := at_T56 (Kd.N_reads' HO_111001.1).2.2 x9_2 p114 q114
         cases e114
         obtain ⟨ce114, hce114, hMe114, hcc114⟩ := Kd.N_get HO_111001.1 z56 x9_2 p114 (by first | exact q114 | exact oT | (have e_ := (Kd.N_reads' HO_111001.1).1; omega))
         obtain ⟨ua114_1, uc114_1, ua114_2, uc114_2, rfl, ul114_1, ge114_1, ul114_2, ge114_2⟩ := k56_openF hMe114
         have hv114_1 := hcc114 1 _ rfl
         rw [add_field _ _ 1 (by omega)] at hv114_1
         replace hv114_1 := Option.some.inj (hv114_1.symm.trans hx114_1)
         injection hv114_1 with hva_ hvn_ hvc_
         rw [hva_] at ge114_1
         rw [hvc_] at ul114_1
         have HL114_1 := am (show Kd.V Kd.string 9 _ w.heap.size _ _ ((rd_T56 t107 x9_2).f1) from Kd.V_mk ul114_1 ge114_1)
         clear hva_ hvn_ hvc_ ge114_1 ul114_1
         have hv114_2 := hcc114 2 _ rfl
         rw [add_field _ _ 2 (by omega)] at hv114_2
         replace hv114_2 := Option.some.inj (hv114_2.symm.trans hx114_2)
         injection hv114_2 with hva_ hvn_ hvc_
         rw [hva_] at ge114_2
         rw [hvc_] at ul114_2
         have HL114_2 := am (show Kd.V Kd.string 9 _ w.heap.size _ _ ((rd_T56 t107 x9_2).f2) from Kd.V_mk ul114_2 ge114_2)
         clear hva_ hvn_ hvc_ ge114_2 ul114_2
         clear hcc114 hce114
         have HR114_1 := am hi114_1
         have HC114_1 := am hl114_1
         clear hi114_1 hl114_1
         have HR114_2 := am hi114_2
         have HC114_2 := am hl114_2
         clear hi114_2 hl114_2
         replace p114 := eq_true p114
         replace q114 := eq_true q114
         go_wp2
         go_roundg k2
         case measure => have := HJ6.out; have := HK2.out; omega
         case rel => exact ⟨(wrap64 (x9_2 + 1)), (pY136), H', ⟨by have := HJ6.out; have := HK2.out; omega⟩, ⟨rR HO_111000.1⟩, ⟨rN HO_111001.1⟩, ⟨rB BK101.1⟩, ⟨rB BK102.1⟩, ⟨rB BK110.1⟩, ⟨pY69⟩⟩
        ·rw [if_neg c58] at H
         have c58b0 : (Op.bytesLess (((rd_T56 t107 x9_2).f0).toList) a1.toList) = false := by simpa using c58
         clear c58
         obtain ⟨y115, Ny115⟩ := yv (([] : List (S56))); first | replace H := bW Ny115 H | rw [← Ny115.1] at H
         have c62b0 := eq_true (oT : 0 ≤ x9_2)
         by_cases c63 : x9_2 ≤ (t107.length : Int)
         ·rw [if_pos c63] at H
          have c63b0 := eq_true c63
          have c63b1 : decide (x9_2 ≤ (t107.length : Int)) = true := decide_eq_true c63
          clear c63
          obtain ⟨y118, Ny118, H⟩ := bY H
          by_cases c64 : y115.length + y118.length < 2199023255552
          ·rw [if_pos c64] at H
           have LMc64 := am c64
           clear c64
           obtain ⟨y123, Ny123, H⟩ := bY H
           obtain ⟨t126, A65, H⟩ := bd H
           by_cases c66 : y123.length < 2199023255552
           ·rw [if_pos c66] at H
            have LMc66 := am c66
            clear c66
            obtain ⟨y129, Ny129, H⟩ := bY H
            have c67b0 := eq_true (oT : 0 ≤ x9_2)
            have c68b0 := eq_true (oT : x9_2 ≤ (t107.length : Int))
            obtain ⟨y132, Ny132, H⟩ := bY H
            by_cases c69 : y129.length + y132.length < 2199023255552
            ·rw [if_pos c69] at H
             have LMc69 := am c69
             clear c69
             obtain ⟨y137, Ny137⟩ := yv (y129 ++ y132); first | replace H := bW Ny137 H | rw [← Ny137.1] at H
             obtain ⟨⟨t140, t143⟩, A70, H⟩ := bd H
             dsimp only at H
             simp only [Option.some.injEq, Prod.mk.injEq] at H
             obtain ⟨rfl, rfl, rfl⟩ := H
             have hnb71 := NB110_101.1
             have hnc71 := NB101_110.1
             have hnb72 := NB110_102.1
             have hnc72 := NB102_110.1
             obtain ⟨hcz73_0, hcz73_1, hfz73_0, hfz73_1⟩ := cz2 BK110
             have p114 : 0 ≤ (x9_2 : Int) := oT
             have q114 : x9_2 < (t107.length : Int) := oT
             obtain ⟨ad114, A114_1, c114_1, A114_2, c114_2, e114, hx114_0, hx114_1, hx114_2, hl114_1, hi114_1, hl114_2, hi114_2⟩ := at_T56 (Kd.N_reads' HO_111001.1).2.2 x9_2 p114 q114
             cases e114
             obtain ⟨ce114, hce114, hMe114, hcc114⟩ := Kd.N_get HO_111001.1 z56 x9_2 p114 (by first | exact q114 | exact oT | (have e_ := (Kd.N_reads' HO_111001.1).1; omega))
             obtain ⟨ua114_1, uc114_1, ua114_2, uc114_2, rfl, ul114_1, ge114_1, ul114_2, ge114_2⟩ := k56_openF hMe114
             have hv114_1 := hcc114 1 _ rfl
             rw [add_field _ _ 1 (by omega)] at hv114_1
             replace hv114_1 := Option.some.inj (hv114_1.symm.trans hx114_1)
             injection hv114_1 with hva_ hvn_ hvc_
             rw [hva_] at ge114_1
             rw [hvc_] at ul114_1
             have HL114_1 := am (show Kd.V Kd.string 9 _ w.heap.size _ _ ((rd_T56 t107 x9_2).f1) from Kd.V_mk ul114_1 ge114_1)
             clear hva_ hvn_ hvc_ ge114_1 ul114_1
             have hv114_2 := hcc114 2 _ rfl
             rw [add_field _ _ 2 (by omega)] at hv114_2
             replace hv114_2 := Option.some.inj (hv114_2.symm.trans hx114_2)
             injection hv114_2 with hva_ hvn_ hvc_
             rw [hva_] at ge114_2
             rw [hvc_] at ul114_2
             have HL114_2 := am (show Kd.V Kd.string 9 _ w.heap.size _ _ ((rd_T56 t107 x9_2).f2) from Kd.V_mk ul114_2 ge114_2)
             clear hva_ hvn_ hvc_ ge114_2 ul114_2
             clear hcc114 hce114
             have HR114_1 := am hi114_1
             have HC114_1 := am hl114_1
             clear hi114_1 hl114_1
             have HR114_2 := am hi114_2
             have HC114_2 := am hl114_2
             clear hi114_2 hl114_2
             replace p114 := eq_true p114
             replace q114 := eq_true q114
             try go_wp2
             replace HO_111000 := am (Kd.R_drew HO_111000.1)
             replace HO_111001 := am (Kd.N_drew HO_111001.1)
             replace HL114_1 := am (Kd.V_drew HL114_1.out)
             replace HL114_2 := am (Kd.V_drew HL114_2.out)
             replace BK101 := am (blk_drew BK101.1)
             replace BK102 := am (blk_drew BK102.1)
             replace BK110 := am (blk_drew BK110.1)
             replace HR114_1 := am (Kd.C_drew HR114_1.1)
             replace HR114_2 := am (Kd.C_drew HR114_2.1)
             replace HB := am (below_drew1 HB.1)
             have q75 : (x9_2 : Int) ≤ ((t107.length : Int) : Int) := oT
             obtain ⟨i075, hi075, _, hsz75, _⟩ := info_parts info56
             have hroom75 : t107.length ≤ co20 := (Kd.N_reads' HO_111001.1).2.1
             have hC75 : Kd.F k56 _ _ (some ad114) t107.length t107 := (Kd.V_at (base := w.heap.size) (Kd.N_V HO_111001.1)).2.2
             have hcut75 := cut_to (P := Try.prog) 29 56 .i64 Try.underlying29 hi075 (some ad114) t107.length co20 x9_2 (oT) q75 hroom75
             have hr75 := Kd.F_take (m := (x9_2 : Int).toNat) hC75 (by omega)
             have hy75 : y118.length = (x9_2 : Int).toNat := (by rw [Ny118.out, List.length_take]; omega)
             rw [← Ny118.out] at hr75
             rw [← hy75] at hcut75
             have HO122 := am (show Kd.V k56 56 _ w.heap.size _ (.slice (some ad114) y118.length co20) y118 from Kd.V_mk (by omega) hr75)
             have HC122 := am (show y118.length ≤ co20 from by omega)
             clear hr75 hC75 hroom75 hi075 hsz75
             have KY75 := am hy75
             clear hy75
             replace q75 := eq_true q75
             have q76 : (x9_2 : Int) ≤ ((t107.length : Int) : Int) := oT
             obtain ⟨i076, hi076, _, hsz76, _⟩ := info_parts info56
             have hroom76 : t107.length ≤ co20 := (Kd.N_reads' HO_111001.1).2.1
             have hC76 : Kd.F k56 _ _ (some ad114) t107.length t107 := (Kd.V_at (base := w.heap.size) (Kd.N_V HO_111001.1)).2.2
             have q076 : (0 : Int) ≤ (x9_2 : Int) := oT
             have hcut76 := cut_from (P := Try.prog) 29 56 .i64 Try.underlying29 hi076 3 hsz76 (some ad114) t107.length co20 x9_2 q076 q76
             have hr76 := Kd.F_cut (m := (x9_2 : Int).toNat) (c := co20) hC76 (by omega) hroom76
             obtain ⟨A76, hA76⟩ : ∃ A1, A1 = (if co20 = (x9_2 : Int).toNat then (some ad114) else ((some ad114) : Option Addr).map (·.add ((x9_2 : Int).toNat * 3))) := ⟨_, rfl⟩
             obtain ⟨c76, hc76⟩ : ∃ c1, c1 = co20 - (x9_2 : Int).toNat := ⟨_, rfl⟩
             have hy76 : y132.length = t107.length - (x9_2 : Int).toNat := (by rw [Ny132.out, List.length_drop] <;> omega)
             rw [show (t107).drop (x9_2 : Int).toNat = y132 from Ny132.out.symm] at hr76
             replace hr76 : Kd.F k56 _ _ A76 y132.length y132 := (by rw [hA76]; exact hr76)
             rw [← hy76, ← hA76, ← hc76] at hcut76
             have HO136 := am (show Kd.V k56 56 _ w.heap.size _ (.slice A76 y132.length c76) y132 from Kd.V_mk (by rw [hy76, hc76]; exact Nat.sub_le_sub_right hroom76 _) hr76)
             have HC136 := am (show y132.length ≤ c76 from by rw [hy76, hc76]; exact Nat.sub_le_sub_right hroom76 _)
             clear hr76 hC76 hroom76 hi076 hsz76 hc76
             have KY76 := am hy76
             have KA76 := am hA76
             clear hy76 hA76
             replace q76 := eq_true q76
             refine sT [18] 19 (uA2 BK110) (fun hHeld => ?_); refine with_tabW spec_ShareEnter.tab13 spec_ShareEnter.bits13 (fun HT_ HW_ => ?_)
             generalize wr.drew = w74 at HO_111000 HO_111001 HL114_1 HL114_2 BK101 BK102 BK110 HR114_1 HR114_2 HB HO122 HO136 hHeld ⊢
             refine pU 1 (some 55) ?_
             refine pU 3 (some 57) ?_
             refine pU 6 (some 60) ?_
             refine pU 7 (some 61) ?_
             refine pU 12 (some 66) ?_
             refine pU 14 (some 68) ?_
             refine tK2 2 (some 56) ?_
             refine pU 4 (some 58) ?_
             refine tK2 13 (some 67) ?_
             refine pU 15 (some 69) ?_
             refine oN 0 (some 54) fun K hK => ?_
             refine Kd.N_lit_step k56 _ 56 ?hg (N' := 54) ?hd (xs := ([] : List (S56))) (inner := []) (ok := (fun k_ => (w.heap.size ≤ k_) ∧ some k_ ≠ (.slice Ao16 t104.length co16 : Value).ownBlock ∧ some k_ ≠ (.slice (some ad114) t107.length co20 : Value).ownBlock ∧ k_ ≠ gb101 ∧ k_ ≠ gb102 ∧ k_ ≠ gb110)) (okp := (fun k_ => (w.heap.size ≤ k_) ∧ some k_ ≠ (.slice Ao16 t104.length co16 : Value).ownBlock ∧ some k_ ≠ (.slice (some ad114) t107.length co20 : Value).ownBlock ∧ k_ ≠ gb101 ∧ k_ ≠ gb102 ∧ k_ ≠ gb110)) ?hr ?hp (fun _ hk => hk) ((show ∀ k_, w74.heap.size ≤ k_ → (fun k_ => (w.heap.size ≤ k_) ∧ some k_ ≠ (.slice Ao16 t104.length co16 : Value).ownBlock ∧ some k_ ≠ (.slice (some ad114) t107.length co20 : Value).ownBlock ∧ k_ ≠ gb101 ∧ k_ ≠ gb102 ∧ k_ ≠ gb110) k_ from fun k_ hk => ⟨(Nat.le_trans (below_size (pY69)) hk), Kd.fresh' (Kd.R_lt (pY113)) k_ hk, Kd.fresh' (Kd.N_lt (pY114)) k_ hk, Kd.freshB (g := gb101) (o := .cells #[.slice A0_0 l0_0.length c0_0, .slice A0_1 l0_1.length c0_1] 31 (0, 0)) (pY98) k_ hk, Kd.freshB (g := gb102) (o := .cells #[.slice none 0 0, .slice none 0 0] 31 (0, 0)) (pY99) k_ hk, Kd.freshB (g := gb110) (o := .cells #[.slice Ao16 t104.length co16, .slice (some ad114) t107.length co20] 31 (0, 0)) (pY103) k_ hk⟩) _ (Nat.le_refl _)) (Below.refl _ _) (Nat.le_refl _) (by simp) ?_; (case hd => rfl); (case hg => rfl); (case hr => first | (go_simp; done) | (go_simp; rfl)); (case hp => exact (Reps.none _ _))
             intro v116 w77 ho78 hb hg_ hnew_
             clear hg_ hnew_
             (first | rw [← Ny115.out] at ho78 | (simp only [Int.reduceToNat] at ho78; rw [← Ny115.out] at ho78))
             replace HO_111000 := am (Kd.R_below (pY113) hb)
             replace HO_111001 := am (Kd.N_elder' (pY114) (by first | exact Kd.N_base ho78 | exact Kd.S_base ho78) hb)
             replace HL114_1 := am (Kd.V_elder' (rV HL114_1.out) (by first | exact Kd.N_base ho78 | exact Kd.S_base ho78) hb)
             replace HL114_2 := am (Kd.V_elder' (rV HL114_2.out) (by first | exact Kd.N_base ho78 | exact Kd.S_base ho78) hb)
             replace HO122 := am (Kd.V_elder' (rV HO122.1) (by first | exact Kd.N_base ho78 | exact Kd.S_base ho78) hb)
             replace HO136 := am (Kd.V_elder' (rV HO136.1) (by first | exact Kd.N_base ho78 | exact Kd.S_base ho78) hb)
             have HO117 := am (Kd.N_lower ho78 (below_size (pY69)))
             replace BK101 := bB pY98 hb
             replace BK102 := bB pY99 hb
             replace BK110 := bB pY103 hb
             replace HR114_1 := am (Kd.C_below (by repeat (first | (with_reducible exact HR114_1.1) | (with_reducible refine Kd.C_alloc ?_ _) | (with_reducible refine Kd.C_drewN ?_ _) | (with_reducible refine Kd.C_drew ?_) | exact HR114_1.1)) hb)
             replace HR114_2 := am (Kd.C_below (by repeat (first | (with_reducible exact HR114_2.1) | (with_reducible refine Kd.C_alloc ?_ _) | (with_reducible refine Kd.C_drewN ?_ _) | (with_reducible refine Kd.C_drew ?_) | exact HR114_2.1)) hb)
             replace HB := bS pY69 hb
             clear hb ho78
             refine hK.out _ _ (uA2 BK110).1 (fun hHeld => ?_)
             clear hK K
             refine nM ?_
             refine oN 5 (some 59) fun K hK => ?_
             refine Kd.N_append_rows_step k56 (w0 := w) w.heap.size (by rfl) (.tmp 54) (.tmp 58) 29 56 (.agg #[(.string ⟨#[]⟩), (.slice none 0 0), (.slice none 0 0)]) 64 rfl Try.underlying29 info56 rfl (by decide) (by omega) v116 y115 y118 _ _ _ (fun k_ => (w.heap.size ≤ k_) ∧ some k_ ≠ (.slice Ao16 t104.length co16 : Value).ownBlock ∧ k_ ≠ gb101 ∧ k_ ≠ gb102 ∧ k_ ≠ gb110) (fun k_ => ((fun k_ => (w.heap.size ≤ k_) ∧ some k_ ≠ (.slice Ao16 t104.length co16 : Value).ownBlock ∧ k_ ≠ gb101 ∧ k_ ≠ gb102 ∧ k_ ≠ gb110)) k_ ∧ some k_ ≠ (v116 : Value).ownBlock) rfl rfl ?aO ?aR (fun _ hk => hk) ?aF ?aB ?aS ?aL ?_
             (case aR => exact (by skip; exact Kd.V_F (Kd.V_mono (ok' := (fun k_ => ((fun k_ => (w.heap.size ≤ k_) ∧ some k_ ≠ (.slice Ao16 t104.length co16 : Value).ownBlock ∧ k_ ≠ gb101 ∧ k_ ≠ gb102 ∧ k_ ≠ gb110)) k_ ∧ some k_ ≠ (v116 : Value).ownBlock)) (HO122.1) (fun k_ hk => ⟨⟨hk.1.1, ⟨hk.1.2.1, ⟨hk.1.2.2.1, ⟨hk.1.2.2.2.1, hk.1.2.2.2.2⟩⟩⟩⟩, hk.2⟩))))
             (case aB => exact (pY69))
             (case aF => exact (fun k_ hk => ⟨(Nat.le_trans (below_size (pY69)) hk), Kd.fresh' (Kd.R_lt (pY113)) k_ hk, Kd.freshB (g := gb101) (o := .cells #[.slice A0_0 l0_0.length c0_0, .slice A0_1 l0_1.length c0_1] 31 (0, 0)) (pY98) k_ hk, Kd.freshB (g := gb102) (o := .cells #[.slice none 0 0, .slice none 0 0] 31 (0, 0)) (pY99) k_ hk, Kd.freshB (g := gb110) (o := .cells #[.slice Ao16 t104.length co16, .slice (some ad114) t107.length co20] 31 (0, 0)) (pY103) k_ hk⟩))
             (case aO => exact (by refine rN ?_; exact Kd.N_mono HO117.1 (fun _ hk => ⟨hk.1, ⟨hk.2.1, ⟨hk.2.2.2.1, ⟨hk.2.2.2.2.1, hk.2.2.2.2.2⟩⟩⟩⟩)))
             (case aS => exact (below_size (pY69)))
             (case aL => have := LMc64.out; omega)
             intro v124 w79 ho hb hg hat
             rw [← Ny123.out] at ho
             replace HO_111000 := am (Kd.R_over' (pY113) (Kd.N_typed (rN HO117.1)) (by decide) hg)
             replace HO_111001 := am (Kd.N_afterv (ok := (fun k_ => (w.heap.size ≤ k_) ∧ some k_ ≠ (.slice Ao16 t104.length co16 : Value).ownBlock ∧ k_ ≠ gb101 ∧ k_ ≠ gb102 ∧ k_ ≠ gb110)) (pY114) hg hat)
             replace BK101 := gN pY98 hg HO117 BK101
             replace BK102 := gN pY99 hg HO117 BK102
             replace BK110 := gN pY103 hg HO117 BK110
             replace HL114_1 := am (Kd.V_afterv (ok := (fun k_ => (w.heap.size ≤ k_) ∧ some k_ ≠ (.slice Ao16 t104.length co16 : Value).ownBlock ∧ some k_ ≠ (.slice (some ad114) t107.length co20 : Value).ownBlock ∧ k_ ≠ gb101 ∧ k_ ≠ gb102 ∧ k_ ≠ gb110)) (by refine rV ?_; exact Kd.V_mono HL114_1.out (fun _ hk => ⟨⟨hk.1.1.1, ⟨hk.1.1.2.1, ⟨hk.1.2, ⟨hk.1.1.2.2.1, ⟨hk.1.1.2.2.2.1, hk.1.1.2.2.2.2⟩⟩⟩⟩⟩, hk.2⟩)) hg hat)
             replace HL114_2 := am (Kd.V_afterv (ok := (fun k_ => (w.heap.size ≤ k_) ∧ some k_ ≠ (.slice Ao16 t104.length co16 : Value).ownBlock ∧ some k_ ≠ (.slice (some ad114) t107.length co20 : Value).ownBlock ∧ k_ ≠ gb101 ∧ k_ ≠ gb102 ∧ k_ ≠ gb110)) (by refine rV ?_; exact Kd.V_mono HL114_2.out (fun _ hk => ⟨⟨hk.1.1.1, ⟨hk.1.1.2.1, ⟨hk.1.2, ⟨hk.1.1.2.2.1, ⟨hk.1.1.2.2.2.1, hk.1.1.2.2.2.2⟩⟩⟩⟩⟩, hk.2⟩)) hg hat)
             replace HO122 := am (Kd.V_afterv (ok := (fun k_ => (w.heap.size ≤ k_) ∧ some k_ ≠ (.slice Ao16 t104.length co16 : Value).ownBlock ∧ k_ ≠ gb101 ∧ k_ ≠ gb102 ∧ k_ ≠ gb110)) (rV HO122.1) hg hat)
             replace HO136 := am (Kd.V_afterv (ok := (fun k_ => (w.heap.size ≤ k_) ∧ some k_ ≠ (.slice Ao16 t104.length co16 : Value).ownBlock ∧ k_ ≠ gb101 ∧ k_ ≠ gb102 ∧ k_ ≠ gb110)) (rV HO136.1) hg hat)
             replace HB := am (hb)
             have HO125 := am (ho)
             clear HO117
             clear ho hb hg hat
             refine hK.out _ _ (uA2 BK110).1 (fun hHeld => ?_)
             clear hK K
             refine nM ?_
             refine oN 8 (some 62) fun K hK => ?_
             refine gE Try.func93 (spec_l1Names.calls _ _ l2 t126 _ (pB HR2) HC2.1 A65.out) ?_
             rintro e w80 ⟨v127, rfl, ho0, hb⟩
             refine ⟨_, rfl, ?_⟩
             replace HO_111001 := am (Kd.N_elder' (pY114) (Kd.R_base ho0) hb)
             replace HL114_1 := am (Kd.V_elder' (rV HL114_1.out) (Kd.R_base ho0) hb)
             replace HL114_2 := am (Kd.V_elder' (rV HL114_2.out) (Kd.R_base ho0) hb)
             replace HO122 := am (Kd.V_elder' (rV HO122.1) (Kd.R_base ho0) hb)
             replace HO136 := am (Kd.V_elder' (rV HO136.1) (Kd.R_base ho0) hb)
             replace HO125 := am (Kd.N_elder' (rN HO125.1) (Kd.R_base ho0) hb)
             have HO128 := am (Kd.R_lower (Kd.R_new' (Kd.R_newM (M := fun k_ => (w.heap.size ≤ k_)) ho0 (below_size (pY69)) (fun k_ h_ => h_)) (Kd.R_lt (pY113))) (below_size (pY69)))
             replace HO_111000 := am (Kd.R_elder' (pY113) (Kd.R_base ho0) hb)
             replace BK101 := bB pY98 hb
             replace BK102 := bB pY99 hb
             replace BK110 := bB pY103 hb
             replace HB := bS pY69 hb
             (try clear hb)
             (try clear hb2)
             (try clear hk)
             (try clear hi)
             (try clear ho0)
             obtain ⟨Ao81, co81, eo81⟩ := Kd.R_slice HO128.1
             (first | subst eo81 | (injection eo81 with f1_ f2_ f3_; have f4_ := f1_.symm; have f5_ := f3_.symm; clear f1_ f2_ f3_; subst f4_; subst f5_))
             refine hK.out _ _ (uA2 BK110).1 (fun hHeld => ?_)
             clear hK K
             refine nM ?_
             refine pU 9 (some 63) ?_
             refine oN 10 (some 64) fun K hK => ?_
             refine value_ (w1 := ?_) (v := ?_) (by rfl) rfl ?_ ?_
             rotate_left 2
             ·go_simp
              constructor
              ·rfl
              ·rfl
             refine hK.out _ _ ⟨(blk_cell (blk_alloc BK110.1 _) 0).trans rfl, (blk_cell (blk_alloc BK110.1 _) 1).trans rfl⟩ (fun hHeld => ?_)
             clear hK K
             refine nM ?_
             refine oN 11 (some 65) fun K hK => ?_
             refine Kd.N_append_step k56 (w0 := w) w.heap.size (by rfl) (.tmp 59) (.tmp 64) 29 56 (.agg #[(.string ⟨#[]⟩), (.slice none 0 0), (.slice none 0 0)]) 64 rfl Try.underlying29 info56 rfl (by decide) (by omega) v124 y123 (⟨a1, ([] : List ByteArray), t126⟩ : S56) [.string a1, .slice none 0 0, .slice Ao81 t126.length co81] (fun k_ => (w.heap.size ≤ k_) ∧ some k_ ≠ (.slice Ao16 t104.length co16 : Value).ownBlock ∧ k_ ≠ gb101 ∧ k_ ≠ gb102 ∧ k_ ≠ gb110) (fun k_ => ((fun k_ => (w.heap.size ≤ k_) ∧ some k_ ≠ (.slice Ao16 t104.length co16 : Value).ownBlock ∧ k_ ≠ gb101 ∧ k_ ≠ gb102 ∧ k_ ≠ gb110)) k_ ∧ some k_ ≠ (v124 : Value).ownBlock) rfl rfl ?aP (fun _ hk => hk) ?aF ?aO ?aB ?aS ?aL ?_
             (case aP => exact (k56_mkF _ _ (⟨a1, ([] : List ByteArray), t126⟩ : S56) (Nat.le_refl _) (Kd.F_nil _ _ _) (Kd.R_reads' (Kd.R_mono (ok' := (fun k_ => ((fun k_ => (w.heap.size ≤ k_) ∧ some k_ ≠ (.slice Ao16 t104.length co16 : Value).ownBlock ∧ k_ ≠ gb101 ∧ k_ ≠ gb102 ∧ k_ ≠ gb110)) k_ ∧ some k_ ≠ (v124 : Value).ownBlock)) (Kd.R_types (Kd.R_types (Kd.R_types (Kd.R_apart' (HO128.1) (Kd.N_typed HO125.1) (by decide)) BK101.1 (by decide)) BK102.1 (by decide)) BK110.1 (by decide)) (fun k_ hk => ⟨⟨hk.1.1.1.1.1.1, ⟨hk.1.1.1.1.2, ⟨hk.1.1.2, ⟨hk.1.2, hk.2⟩⟩⟩⟩, hk.1.1.1.2⟩))).2.1 (Kd.R_F (Kd.R_mono (ok' := (fun k_ => ((fun k_ => (w.heap.size ≤ k_) ∧ some k_ ≠ (.slice Ao16 t104.length co16 : Value).ownBlock ∧ k_ ≠ gb101 ∧ k_ ≠ gb102 ∧ k_ ≠ gb110)) k_ ∧ some k_ ≠ (v124 : Value).ownBlock)) (Kd.R_types (Kd.R_types (Kd.R_types (Kd.R_apart' (HO128.1) (Kd.N_typed HO125.1) (by decide)) BK101.1 (by decide)) BK102.1 (by decide)) BK110.1 (by decide)) (fun k_ hk => ⟨⟨hk.1.1.1.1.1.1, ⟨hk.1.1.1.1.2, ⟨hk.1.1.2, ⟨hk.1.2, hk.2⟩⟩⟩⟩, hk.1.1.1.2⟩)))))
             (case aB => exact (pY69))
             (case aF => exact (fun k_ hk => ⟨(Nat.le_trans (below_size (pY69)) hk), Kd.fresh' (Kd.R_lt (pY113)) k_ hk, Kd.freshB (g := gb101) (o := .cells #[.slice A0_0 l0_0.length c0_0, .slice A0_1 l0_1.length c0_1] 31 (0, 0)) (pY98) k_ hk, Kd.freshB (g := gb102) (o := .cells #[.slice none 0 0, .slice none 0 0] 31 (0, 0)) (pY99) k_ hk, Kd.freshB (g := gb110) (o := .cells #[.slice Ao16 t104.length co16, .slice (some ad114) t107.length co20] 31 (0, 0)) (pY103) k_ hk⟩))
             (case aO => exact (by refine rN ?_; exact Kd.N_mono HO125.1 (fun _ hk => ⟨hk.1.1, ⟨hk.1.2.1, ⟨hk.1.2.2.1, ⟨hk.1.2.2.2.1, hk.1.2.2.2.2⟩⟩⟩⟩)))
             (case aS => exact (below_size (pY69)))
             (case aL => have := LMc66.out; omega)
             intro v130 w82 ho hb hg hat
             rw [← Ny129.out] at ho
             replace HO_111000 := am (Kd.R_over' (pY113) (Kd.N_typed (rN HO125.1)) (by decide) hg)
             replace HO_111001 := am (Kd.N_afterv (ok := (fun k_ => (w.heap.size ≤ k_) ∧ some k_ ≠ (.slice Ao16 t104.length co16 : Value).ownBlock ∧ some k_ ≠ (.slice Ao81 t126.length co81 : Value).ownBlock ∧ k_ ≠ gb101 ∧ k_ ≠ gb102 ∧ k_ ≠ gb110)) (by refine rN ?_; exact Kd.N_mono HO_111001.1 (fun _ hk => ⟨⟨hk.1.1.1, ⟨hk.1.1.2.1, ⟨hk.2, ⟨hk.1.1.2.2.1, ⟨hk.1.1.2.2.2.1, hk.1.1.2.2.2.2⟩⟩⟩⟩⟩, hk.1.2⟩)) hg hat)
             replace BK101 := gN pY98 hg HO125 BK101
             replace BK102 := gN pY99 hg HO125 BK102
             replace BK110 := gN pY103 hg HO125 BK110
             replace HL114_1 := am (Kd.V_afterv (ok := (fun k_ => (w.heap.size ≤ k_) ∧ some k_ ≠ (.slice Ao16 t104.length co16 : Value).ownBlock ∧ some k_ ≠ (.slice (some ad114) t107.length co20 : Value).ownBlock ∧ some k_ ≠ (.slice Ao81 t126.length co81 : Value).ownBlock ∧ k_ ≠ gb101 ∧ k_ ≠ gb102 ∧ k_ ≠ gb110)) (by refine rV ?_; exact Kd.V_mono HL114_1.out (fun _ hk => ⟨⟨hk.1.1.1, ⟨hk.1.1.2.1, ⟨hk.1.1.2.2.1, ⟨hk.2, ⟨hk.1.1.2.2.2.1, ⟨hk.1.1.2.2.2.2.1, hk.1.1.2.2.2.2.2⟩⟩⟩⟩⟩⟩, hk.1.2⟩)) hg hat)
             replace HL114_2 := am (Kd.V_afterv (ok := (fun k_ => (w.heap.size ≤ k_) ∧ some k_ ≠ (.slice Ao16 t104.length co16 : Value).ownBlock ∧ some k_ ≠ (.slice (some ad114) t107.length co20 : Value).ownBlock ∧ some k_ ≠ (.slice Ao81 t126.length co81 : Value).ownBlock ∧ k_ ≠ gb101 ∧ k_ ≠ gb102 ∧ k_ ≠ gb110)) (by refine rV ?_; exact Kd.V_mono HL114_2.out (fun _ hk => ⟨⟨hk.1.1.1, ⟨hk.1.1.2.1, ⟨hk.1.1.2.2.1, ⟨hk.2, ⟨hk.1.1.2.2.2.1, ⟨hk.1.1.2.2.2.2.1, hk.1.1.2.2.2.2.2⟩⟩⟩⟩⟩⟩, hk.1.2⟩)) hg hat)
             replace HO122 := am (Kd.V_afterv (ok := (fun k_ => (w.heap.size ≤ k_) ∧ some k_ ≠ (.slice Ao16 t104.length co16 : Value).ownBlock ∧ some k_ ≠ (.slice Ao81 t126.length co81 : Value).ownBlock ∧ k_ ≠ gb101 ∧ k_ ≠ gb102 ∧ k_ ≠ gb110)) (by refine rV ?_; exact Kd.V_mono HO122.1 (fun _ hk => ⟨⟨hk.1.1.1, ⟨hk.1.1.2.1, ⟨hk.2, ⟨hk.1.1.2.2.1, ⟨hk.1.1.2.2.2.1, hk.1.1.2.2.2.2⟩⟩⟩⟩⟩, hk.1.2⟩)) hg hat)
             replace HO136 := am (Kd.V_afterv (ok := (fun k_ => (w.heap.size ≤ k_) ∧ some k_ ≠ (.slice Ao16 t104.length co16 : Value).ownBlock ∧ some k_ ≠ (.slice Ao81 t126.length co81 : Value).ownBlock ∧ k_ ≠ gb101 ∧ k_ ≠ gb102 ∧ k_ ≠ gb110)) (by refine rV ?_; exact Kd.V_mono HO136.1 (fun _ hk => ⟨⟨hk.1.1.1, ⟨hk.1.1.2.1, ⟨hk.2, ⟨hk.1.1.2.2.1, ⟨hk.1.1.2.2.2.1, hk.1.1.2.2.2.2⟩⟩⟩⟩⟩, hk.1.2⟩)) hg hat)
             replace HB := am (hb)
             have HO131 := am (ho)
             clear HO125
             clear HO128
             clear ho hb hg hat
             refine hK.out _ _ (uA2 BK110).1 (fun hHeld => ?_)
             clear hK K
             refine nM ?_
             refine oN 16 (some 70) fun K hK => ?_
             refine Kd.N_append_rows_step k56 (w0 := w) w.heap.size (by rfl) (.tmp 65) (.tmp 69) 29 56 (.agg #[(.string ⟨#[]⟩), (.slice none 0 0), (.slice none 0 0)]) 64 rfl Try.underlying29 info56 rfl (by decide) (by omega) v130 y129 y132 _ _ _ (fun k_ => (w.heap.size ≤ k_) ∧ some k_ ≠ (.slice Ao16 t104.length co16 : Value).ownBlock ∧ k_ ≠ gb101 ∧ k_ ≠ gb102 ∧ k_ ≠ gb110) (fun k_ => ((fun k_ => (w.heap.size ≤ k_) ∧ some k_ ≠ (.slice Ao16 t104.length co16 : Value).ownBlock ∧ k_ ≠ gb101 ∧ k_ ≠ gb102 ∧ k_ ≠ gb110)) k_ ∧ some k_ ≠ (v130 : Value).ownBlock) rfl rfl ?aO ?aR (fun _ hk => hk) ?aF ?aB ?aS ?aL ?_
             (case aR => exact (by skip; exact Kd.V_F (Kd.V_mono (ok' := (fun k_ => ((fun k_ => (w.heap.size ≤ k_) ∧ some k_ ≠ (.slice Ao16 t104.length co16 : Value).ownBlock ∧ k_ ≠ gb101 ∧ k_ ≠ gb102 ∧ k_ ≠ gb110)) k_ ∧ some k_ ≠ (v130 : Value).ownBlock)) (HO136.1) (fun k_ hk => ⟨⟨hk.1.1, ⟨hk.1.2.1, ⟨hk.1.2.2.2.1, ⟨hk.1.2.2.2.2.1, hk.1.2.2.2.2.2⟩⟩⟩⟩, hk.2⟩))))
             (case aB => exact (pY69))
             (case aF => exact (fun k_ hk => ⟨(Nat.le_trans (below_size (pY69)) hk), Kd.fresh' (Kd.R_lt (pY113)) k_ hk, Kd.freshB (g := gb101) (o := .cells #[.slice A0_0 l0_0.length c0_0, .slice A0_1 l0_1.length c0_1] 31 (0, 0)) (pY98) k_ hk, Kd.freshB (g := gb102) (o := .cells #[.slice none 0 0, .slice none 0 0] 31 (0, 0)) (pY99) k_ hk, Kd.freshB (g := gb110) (o := .cells #[.slice Ao16 t104.length co16, .slice (some ad114) t107.length co20] 31 (0, 0)) (pY103) k_ hk⟩))
             (case aO => exact (rN HO131.1))
             (case aS => exact (below_size (pY69)))
             (case aL => have := LMc69.out; omega)
             intro v138 w83 ho hb hg hat
             rw [← Ny137.out] at ho
             replace HO_111000 := am (Kd.R_over' (pY113) (Kd.N_typed (rN HO131.1)) (by decide) hg)
             replace HO_111001 := am (Kd.N_afterv (ok := (fun k_ => (w.heap.size ≤ k_) ∧ some k_ ≠ (.slice Ao16 t104.length co16 : Value).ownBlock ∧ k_ ≠ gb101 ∧ k_ ≠ gb102 ∧ k_ ≠ gb110)) (by refine rN ?_; exact Kd.N_mono HO_111001.1 (fun _ hk => ⟨⟨hk.1.1, ⟨hk.1.2.1, ⟨hk.1.2.2.2.1, ⟨hk.1.2.2.2.2.1, hk.1.2.2.2.2.2⟩⟩⟩⟩, hk.2⟩)) hg hat)
             replace BK101 := gN pY98 hg HO131 BK101
             replace BK102 := gN pY99 hg HO131 BK102
             replace BK110 := gN pY103 hg HO131 BK110
             replace HL114_1 := am (Kd.V_afterv (ok := (fun k_ => (w.heap.size ≤ k_) ∧ some k_ ≠ (.slice Ao16 t104.length co16 : Value).ownBlock ∧ some k_ ≠ (.slice (some ad114) t107.length co20 : Value).ownBlock ∧ k_ ≠ gb101 ∧ k_ ≠ gb102 ∧ k_ ≠ gb110)) (by refine rV ?_; exact Kd.V_mono HL114_1.out (fun _ hk => ⟨⟨hk.1.1, ⟨hk.1.2.1, ⟨hk.1.2.2.1, ⟨hk.1.2.2.2.2.1, ⟨hk.1.2.2.2.2.2.1, hk.1.2.2.2.2.2.2⟩⟩⟩⟩⟩, hk.2⟩)) hg hat)
             replace HL114_2 := am (Kd.V_afterv (ok := (fun k_ => (w.heap.size ≤ k_) ∧ some k_ ≠ (.slice Ao16 t104.length co16 : Value).ownBlock ∧ some k_ ≠ (.slice (some ad114) t107.length co20 : Value).ownBlock ∧ k_ ≠ gb101 ∧ k_ ≠ gb102 ∧ k_ ≠ gb110)) (by refine rV ?_; exact Kd.V_mono HL114_2.out (fun _ hk => ⟨⟨hk.1.1, ⟨hk.1.2.1, ⟨hk.1.2.2.1, ⟨hk.1.2.2.2.2.1, ⟨hk.1.2.2.2.2.2.1, hk.1.2.2.2.2.2.2⟩⟩⟩⟩⟩, hk.2⟩)) hg hat)
             replace HO122 := am (Kd.V_afterv (ok := (fun k_ => (w.heap.size ≤ k_) ∧ some k_ ≠ (.slice Ao16 t104.length co16 : Value).ownBlock ∧ k_ ≠ gb101 ∧ k_ ≠ gb102 ∧ k_ ≠ gb110)) (by refine rV ?_; exact Kd.V_mono HO122.1 (fun _ hk => ⟨⟨hk.1.1, ⟨hk.1.2.1, ⟨hk.1.2.2.2.1, ⟨hk.1.2.2.2.2.1, hk.1.2.2.2.2.2⟩⟩⟩⟩, hk.2⟩)) hg hat)
             replace HO136 := am (Kd.V_afterv (ok := (fun k_ => (w.heap.size ≤ k_) ∧ some k_ ≠ (.slice Ao16 t104.length co16 : Value).ownBlock ∧ k_ ≠ gb101 ∧ k_ ≠ gb102 ∧ k_ ≠ gb110)) (by refine rV ?_; exact Kd.V_mono HO136.1 (fun _ hk => ⟨⟨hk.1.1, ⟨hk.1.2.1, ⟨hk.1.2.2.2.1, ⟨hk.1.2.2.2.2.1, hk.1.2.2.2.2.2⟩⟩⟩⟩, hk.2⟩)) hg hat)
             replace HB := am (hb)
             have HO139 := am (ho)
             clear HO131
             clear ho hb hg hat
             obtain ⟨Ao84, co84, eo84⟩ := Kd.N_slice HO139.1
             (first | subst eo84 | (injection eo84 with f1_ f2_ f3_; have f4_ := f1_.symm; have f5_ := f3_.symm; clear f1_ f2_ f3_; subst f4_; subst f5_))
             refine hK.out _ _ (uA2 BK110).1 (fun hHeld => ?_)
             clear hK K
             refine nM ?_
             refine pU 17 (some 71) ?_
             refine last_ (i := 18) (N := none) (bz 19 524287) rfl rfl (one_of HT_.out (by kernel_rfl)) (by decide) (fun K hK => ?_)
             have hs85 : w83.cell? ⟨gb110, 1, none⟩ = some (.slice (some ad114) t107.length co20) := (blk_cell BK110.1 1).trans rfl
             have hfs85 := blk_frozen BK110.1 1
             have hns85_0 := NB101_110.1
             have hns85_1 := NB102_110.1
             have hms85_0 := NB110_101.1
             have hms85_1 := NB110_102.1
             refine skip_ (w1 := ?_) (by rfl) rfl ?_ ?_
             rotate_left
             ·go_simp
              rfl
             refine hK.out _ _ ?_
             clear hK K
             refine done_ (done_of HT_.out (by kernel_rfl)) ?_
             obtain ⟨hcz86_0, hcz86_1, hfz86_0, hfz86_1⟩ := cz2 BK110
             try go_wp2_with (first | ((with_reducible refine gate_callee (f := 89) rfl ?_); refine goesL_ (some 73) rfl rfl Try.func89 (by kernel_rfl) rfl #[.agg #[.slice Ao16 t104.length co16, .slice Ao84 y137.length co84]] rfl (pY94) ?_; (with_reducible refine (spec_l1Copy.calls k2 _ _ t104 _ _ y137 t140 t143 _ ?side1 ?side2 ?side3 ?side4 A70.out).mono ?_); (case side1 => refine (Kd.R_reads' (e := 9) (base := w.heap.size) (ok := fun k_ => (w.heap.size ≤ k_)) (n := t104.length) (c := co16) ?_).2.2; exact (by refine rR ?_; exact Kd.R_mono (fR (tR HO_111000 BK110)) (fun _ hk => hk.1.1))); (case side2 => exact (Kd.R_reads' HO_111000.1).2.1); (case side3 => refine (Kd.N_reads' (e := 56) (base := w.heap.size) (ok := fun k_ => ((w.heap.size ≤ k_) ∧ (some k_ ≠ (.slice Ao16 t104.length co16 : Value).ownBlock ∧ (k_ ≠ gb101 ∧ (k_ ≠ gb102 ∧ k_ ≠ gb110))))) (n := y137.length) (c := co84) ?_).2.2; exact (by refine rN ?_; exact (Kd.N_mono (fN (Kd.N_mono HO139.1 (fun k_ hk => (⟨hk, hk.2.2.2.2⟩ : _ ∧ k_ ≠ gb110)))) (fun _ h_ => h_.1)))); (case side4 => exact (Kd.N_reads' HO139.1).2.1); rintro e w87 ⟨v141, v144, rfl, ho0, ho1, hb⟩; refine ⟨_, rfl, ?_⟩; replace HL114_1 := am (Kd.V_mono (Kd.V_told (Kd.V_told (Kd.V_old (by refine rV ?_; exact (Kd.V_mono (Kd.V_far (p := ⟨gb110, 1, none⟩) (Kd.V_mono HL114_1.out (fun k_ hk => (⟨hk, hk.1.2.2.2.2.2⟩ : _ ∧ k_ ≠ gb110))) (fun _ hk => hk.2) (.slice Ao84 y137.length co84)) (fun _ h_ => h_.1))) hb) (Kd.R_base ho0)) (pY134)) (fun _ h_ => h_.1)); replace HL114_2 := am (Kd.V_mono (Kd.V_told (Kd.V_told (Kd.V_old (by refine rV ?_; exact (Kd.V_mono (Kd.V_far (p := ⟨gb110, 1, none⟩) (Kd.V_mono HL114_2.out (fun k_ hk => (⟨hk, hk.1.2.2.2.2.2⟩ : _ ∧ k_ ≠ gb110))) (fun _ hk => hk.2) (.slice Ao84 y137.length co84)) (fun _ h_ => h_.1))) hb) (Kd.R_base ho0)) (pY134)) (fun _ h_ => h_.1)); replace HO122 := am (Kd.V_mono (Kd.V_told (Kd.V_told (Kd.V_old (by refine rV ?_; exact (Kd.V_mono (Kd.V_far (p := ⟨gb110, 1, none⟩) (Kd.V_mono HO122.1 (fun k_ hk => (⟨hk, hk.1.2.2.2.2⟩ : _ ∧ k_ ≠ gb110))) (fun _ hk => hk.2) (.slice Ao84 y137.length co84)) (fun _ h_ => h_.1))) hb) (Kd.R_base ho0)) (pY134)) (fun _ h_ => h_.1)); replace HO136 := am (Kd.V_mono (Kd.V_told (Kd.V_told (Kd.V_old (by refine rV ?_; exact (Kd.V_mono (Kd.V_far (p := ⟨gb110, 1, none⟩) (Kd.V_mono HO136.1 (fun k_ hk => (⟨hk, hk.1.2.2.2.2⟩ : _ ∧ k_ ≠ gb110))) (fun _ hk => hk.2) (.slice Ao84 y137.length co84)) (fun _ h_ => h_.1))) hb) (Kd.R_base ho0)) (pY134)) (fun _ h_ => h_.1)); have HO142 := am (Kd.R_lower (Kd.R_new' (Kd.R_newM (M := fun k_ => (w.heap.size ≤ k_)) ho0 (below_size (pY69)) (fun k_ h_ => h_)) (Kd.R_lt (by refine rR ?_; exact (Kd.R_mono (fR (tR HO_111000 BK110)) (fun _ h_ => h_.1))))) (below_size (pY69))); have HO145 := am (Kd.N_lower (Kd.N_mono (ok' := fun k_ => (w.heap.size ≤ k_) ∧ some k_ ≠ (v141 : Value).ownBlock ∧ some k_ ≠ (.slice Ao16 t104.length co16 : Value).ownBlock ∧ some k_ ≠ (.slice (some ad114) t107.length co20 : Value).ownBlock ∧ some k_ ≠ (.slice Ao84 y137.length co84 : Value).ownBlock ∧ k_ ≠ gb101 ∧ k_ ≠ gb102 ∧ k_ ≠ gb110) (Kd.S_N (Kd.S_bound ho1)) (fun k_ hk_ => ⟨(Nat.le_trans (below_size (pY69)) hk_.2.1), hk_.1, (Kd.fresh' (Kd.R_lt (by refine rR ?_; exact (Kd.R_mono (fR (tR HO_111000 BK110)) (fun _ h_ => h_.1)))) k_ hk_.2.1), (Kd.fresh' (Kd.N_lt (by refine rN ?_; exact (Kd.N_mono (fN (Kd.N_mono HO_111001.1 (fun k_ hk => (⟨hk, hk.1.2.2.2.2⟩ : _ ∧ k_ ≠ gb110)))) (fun _ h_ => h_.1)))) k_ hk_.2.1), (Kd.fresh' (Kd.N_lt (by refine rN ?_; exact (Kd.N_mono (fN (Kd.N_mono HO139.1 (fun k_ hk => (⟨hk, hk.2.2.2.2⟩ : _ ∧ k_ ≠ gb110)))) (fun _ h_ => h_.1)))) k_ hk_.2.1), (Kd.freshB (g := gb101) (o := .cells #[.slice A0_0 l0_0.length c0_0, .slice A0_1 l0_1.length c0_1] 31 (0, 0)) (pY48) k_ hk_.2.1), (Kd.freshB (g := gb102) (o := .cells #[.slice none 0 0, .slice none 0 0] 31 (0, 0)) (pY49) k_ hk_.2.1), (Kd.freshB (g := gb110) (o := .cells #[.slice Ao16 t104.length co16, .slice Ao84 y137.length co84] 31 (0, 0)) (by refine rB ?_; refine blk_put (cs := #[.slice Ao16 t104.length co16, .slice (some ad114) t107.length co20]) ?_ 1 _ rfl; refine rB ?_; exact BK110.1) k_ hk_.2.1)⟩)) (below_size (pY69))); replace HO_111000 := am (Kd.R_elder' (by refine rR ?_; exact (Kd.R_mono (fR (tR HO_111000 BK110)) (fun _ h_ => h_.1))) (Kd.R_base ho0) hb); replace HO_111001 := am (Kd.N_mono (Kd.N_told (Kd.N_told (Kd.N_old (by refine rN ?_; exact (Kd.N_mono (fN (Kd.N_mono HO_111001.1 (fun k_ hk => (⟨hk, hk.1.2.2.2.2⟩ : _ ∧ k_ ≠ gb110)))) (fun _ h_ => h_.1))) hb) (Kd.R_base ho0)) (pY134)) (fun _ h_ => h_.1)); replace HO139 := am (Kd.N_mono (Kd.N_told (Kd.N_told (Kd.N_old (by refine rN ?_; exact (Kd.N_mono (fN (Kd.N_mono HO139.1 (fun k_ hk => (⟨hk, hk.2.2.2.2⟩ : _ ∧ k_ ≠ gb110)))) (fun _ h_ => h_.1))) hb) (Kd.R_base ho0)) (pY134)) (fun _ h_ => h_.1)); replace BK101 := am (blk_below (g := gb101) (o := .cells #[.slice A0_0 l0_0.length c0_0, .slice A0_1 l0_1.length c0_1] 31 (0, 0)) (pY48) hb); replace BK102 := am (blk_below (g := gb102) (o := .cells #[.slice none 0 0, .slice none 0 0] 31 (0, 0)) (pY49) hb); replace BK110 := am (blk_below (g := gb110) (o := .cells #[.slice Ao16 t104.length co16, .slice Ao84 y137.length co84] 31 (0, 0)) (by refine rB ?_; refine blk_put (cs := #[.slice Ao16 t104.length co16, .slice (some ad114) t107.length co20]) ?_ 1 _ rfl; refine rB ?_; exact BK110.1) hb); replace HB := bS pY69 hb; (try clear hb); (try clear hk); (try clear ho0); (try clear ho1); obtain ⟨Ao88, co88, eo88⟩ := Kd.R_slice HO142.1; subst eo88; have hnb89 := NB102_101.1; have hnc89 := NB101_102.1; obtain ⟨hcz90_0, hcz90_1, hfz90_0, hfz90_1⟩ := cz2 BK102; obtain ⟨Ao91, co91, eo91⟩ := Kd.N_slice HO145.1; subst eo91))
             refine bodyPost_ret (results_ct rfl _ _ gb102 31 #[.slice Ao88 t140.length co88, .slice Ao91 t143.length co91] (0, 0) _ rfl (by refine rB ?_; refine blk_put (cs := #[.slice Ao88 t140.length co88, .slice none 0 0]) ?_ 1 _ rfl; refine rB ?_; refine blk_put (cs := #[.slice none 0 0, .slice none 0 0]) ?_ 0 _ rfl; refine rB ?_; exact BK102.1) Try.underlying31 rfl (by kernel_rfl)) rfl ?_
             exact ⟨_, _, eR, by refine rR ?_; exact Kd.R_mono (fR (fR (tR HO142 BK102))) (fun _ hk => hk.1.1.1), by refine rN ?_; exact Kd.N_mono (fN (fN (Kd.N_mono HO145.1 (fun k_ hk => (⟨hk, hk.2.2.2.2.2.2.1⟩ : _ ∧ k_ ≠ gb102))))) (fun _ hk => ⟨hk.1.1, hk.1.2.1⟩), pY69⟩
            ·rw [if_neg c69] at H
             exact absurd H (by simp)
           ·rw [if_neg c66] at H
            exact absurd H (by simp)
          ·rw [if_neg c64] at H
           exact absurd H (by simp)
         ·rw [if_neg c63] at H
          exact absurd H (by simp)
       ·obtain ⟨y146, Ny146⟩ := yv (([] : List (S56))); first | replace H := bW Ny146 H | rw [← Ny146.1] at H
        by_cases c92 : 0 ≤ x9_2
        ·rw [if_pos c92] at H
         have c92b0 := eq_true c92
         have c92b1 : decide (0 ≤ x9_2) = true := decide_eq_true c92
         clear c92
         by_cases c93 : x9_2 ≤ (t107.length : Int)
         ·rw [if_pos c93] at H
          have c93b0 := eq_true c93
          have c93b1 : decide (x9_2 ≤ (t107.length : Int)) = true := decide_eq_true c93
          clear c93
          obtain ⟨y149, Ny149, H⟩ := bY H
          by_cases c94 : y146.length + y149.length < 2199023255552
          ·rw [if_pos c94] at H
           have LMc94 := am c94
           clear c94
           obtain ⟨y154, Ny154, H⟩ := bY H
           obtain ⟨t157, A95, H⟩ := bd H
           by_cases c96 : y154.length < 2199023255552
           ·rw [if_pos c96] at H
            have LMc96 := am c96
            clear c96
            obtain ⟨y160, Ny160, H⟩ := bY H
            have c97b0 := eq_true (oT : 0 ≤ x9_2)
            have c98b0 := eq_true (oT : x9_2 ≤ (t107.length : Int))
            obtain ⟨y163, Ny163, H⟩ := bY H
            by_cases c99 : y160.length + y163.length < 2199023255552
            ·rw [if_pos c99] at H
             have LMc99 := am c99
             clear c99
             obtain ⟨y168, Ny168⟩ := yv (y160 ++ y163); first | replace H := bW Ny168 H | rw [← Ny168.1] at H
             obtain ⟨⟨t171, t174⟩, A100, H⟩ := bd H
             dsimp only at H
             simp only [Option.some.injEq, Prod.mk.injEq] at H
             obtain ⟨rfl, rfl, rfl⟩ := H
             have hnb101 := NB110_101.1
             have hnc101 := NB101_110.1
             have hnb102 := NB110_102.1
             have hnc102 := NB102_110.1
             obtain ⟨hcz103_0, hcz103_1, hfz103_0, hfz103_1⟩ := cz2 BK110
             try go_wp2
             replace HO_111000 := am (Kd.R_drew HO_111000.1)
             replace HO_111001 := am (Kd.N_drew HO_111001.1)
             replace BK101 := am (blk_drew BK101.1)
             replace BK102 := am (blk_drew BK102.1)
             replace BK110 := am (blk_drew BK110.1)
             replace HB := am (below_drew1 HB.1)
             have q105 : (x9_2 : Int) ≤ ((t107.length : Int) : Int) := oT
             obtain ⟨i0105, hi0105, _, hsz105, _⟩ := info_parts info56
             have hroom105 : t107.length ≤ co20 := (Kd.N_reads' HO_111001.1).2.1
             have hC105 : Kd.F k56 _ _ Ao20 t107.length t107 := (Kd.V_at (base := w.heap.size) (Kd.N_V HO_111001.1)).2.2
             have hcut105 := cut_to (P := Try.prog) 29 56 .i64 Try.underlying29 hi0105 Ao20 t107.length co20 x9_2 (oT) q105 hroom105
             have hr105 := Kd.F_take (m := (x9_2 : Int).toNat) hC105 (by omega)
             have hy105 : y149.length = (x9_2 : Int).toNat := (by rw [Ny149.out, List.length_take]; omega)
             rw [← Ny149.out] at hr105
             rw [← hy105] at hcut105
             have HO153 := am (show Kd.V k56 56 _ w.heap.size _ (.slice Ao20 y149.length co20) y149 from Kd.V_mk (by omega) hr105)
             have HC153 := am (show y149.length ≤ co20 from by omega)
             clear hr105 hC105 hroom105 hi0105 hsz105
             have KY105 := am hy105
             clear hy105
             replace q105 := eq_true q105
             have q106 : (x9_2 : Int) ≤ ((t107.length : Int) : Int) := oT
             obtain ⟨i0106, hi0106, _, hsz106, _⟩ := info_parts info56
             have hroom106 : t107.length ≤ co20 := (Kd.N_reads' HO_111001.1).2.1
             have hC106 : Kd.F k56 _ _ Ao20 t107.length t107 := (Kd.V_at (base := w.heap.size) (Kd.N_V HO_111001.1)).2.2
             have q0106 : (0 : Int) ≤ (x9_2 : Int) := oT
             have hcut106 := cut_from (P := Try.prog) 29 56 .i64 Try.underlying29 hi0106 3 hsz106 Ao20 t107.length co20 x9_2 q0106 q106
             have hr106 := Kd.F_cut (m := (x9_2 : Int).toNat) (c := co20) hC106 (by omega) hroom106
             obtain ⟨A106, hA106⟩ : ∃ A1, A1 = (if co20 = (x9_2 : Int).toNat then Ao20 else (Ao20 : Option Addr).map (·.add ((x9_2 : Int).toNat * 3))) := ⟨_, rfl⟩
             obtain ⟨c106, hc106⟩ : ∃ c1, c1 = co20 - (x9_2 : Int).toNat := ⟨_, rfl⟩
             have hy106 : y163.length = t107.length - (x9_2 : Int).toNat := (by rw [Ny163.out, List.length_drop] <;> omega)
             rw [show (t107).drop (x9_2 : Int).toNat = y163 from Ny163.out.symm] at hr106
             replace hr106 : Kd.F k56 _ _ A106 y163.length y163 := (by rw [hA106]; exact hr106)
             rw [← hy106, ← hA106, ← hc106] at hcut106
             have HO167 := am (show Kd.V k56 56 _ w.heap.size _ (.slice A106 y163.length c106) y163 from Kd.V_mk (by rw [hy106, hc106]; exact Nat.sub_le_sub_right hroom106 _) hr106)
             have HC167 := am (show y163.length ≤ c106 from by rw [hy106, hc106]; exact Nat.sub_le_sub_right hroom106 _)
             clear hr106 hC106 hroom106 hi0106 hsz106 hc106
             have KY106 := am hy106
             have KA106 := am hA106
             clear hy106 hA106
             replace q106 := eq_true q106
             refine sT [18] 19 (uA2 BK110) (fun hHeld => ?_); refine with_tabW spec_ShareEnter.tab13 spec_ShareEnter.bits13 (fun HT_ HW_ => ?_)
             generalize wr.drew = w104 at HO_111000 HO_111001 BK101 BK102 BK110 HB HO153 HO167 hHeld ⊢
             refine pU 1 (some 55) ?_
             refine pU 3 (some 57) ?_
             refine pU 6 (some 60) ?_
             refine pU 7 (some 61) ?_
             refine pU 12 (some 66) ?_
             refine pU 14 (some 68) ?_
             refine tK2 2 (some 56) ?_
             refine pU 4 (some 58) ?_
             refine tK2 13 (some 67) ?_
             refine pU 15 (some 69) ?_
             refine oN 0 (some 54) fun K hK => ?_
             refine Kd.N_lit_step k56 _ 56 ?hg (N' := 54) ?hd (xs := ([] : List (S56))) (inner := []) (ok := (fun k_ => (w.heap.size ≤ k_) ∧ some k_ ≠ (.slice Ao16 t104.length co16 : Value).ownBlock ∧ some k_ ≠ (.slice Ao20 t107.length co20 : Value).ownBlock ∧ k_ ≠ gb101 ∧ k_ ≠ gb102 ∧ k_ ≠ gb110)) (okp := (fun k_ => (w.heap.size ≤ k_) ∧ some k_ ≠ (.slice Ao16 t104.length co16 : Value).ownBlock ∧ some k_ ≠ (.slice Ao20 t107.length co20 : Value).ownBlock ∧ k_ ≠ gb101 ∧ k_ ≠ gb102 ∧ k_ ≠ gb110)) ?hr ?hp (fun _ hk => hk) ((show ∀ k_, w104.heap.size ≤ k_ → (fun k_ => (w.heap.size ≤ k_) ∧ some k_ ≠ (.slice Ao16 t104.length co16 : Value).ownBlock ∧ some k_ ≠ (.slice Ao20 t107.length co20 : Value).ownBlock ∧ k_ ≠ gb101 ∧ k_ ≠ gb102 ∧ k_ ≠ gb110) k_ from fun k_ hk => ⟨(Nat.le_trans (below_size (pY69)) hk), Kd.fresh' (Kd.R_lt (pY113)) k_ hk, Kd.fresh' (Kd.N_lt (pY114)) k_ hk, Kd.freshB (g := gb101) (o := .cells #[.slice A0_0 l0_0.length c0_0, .slice A0_1 l0_1.length c0_1] 31 (0, 0)) (pY98) k_ hk, Kd.freshB (g := gb102) (o := .cells #[.slice none 0 0, .slice none 0 0] 31 (0, 0)) (pY99) k_ hk, Kd.freshB (g := gb110) (o := .cells #[.slice Ao16 t104.length co16, .slice Ao20 t107.length co20] 31 (0, 0)) (pY103) k_ hk⟩) _ (Nat.le_refl _)) (Below.refl _ _) (Nat.le_refl _) (by simp) ?_; (case hd => rfl); (case hg => rfl); (case hr => first | (go_simp; done) | (go_simp; rfl)); (case hp => exact (Reps.none _ _))
             intro v147 w107 ho108 hb hg_ hnew_
             clear hg_ hnew_
             (first | rw [← Ny146.out] at ho108 | (simp only [Int.reduceToNat] at ho108; rw [← Ny146.out] at ho108))
             replace HO_111000 := am (Kd.R_below (pY113) hb)
             replace HO_111001 := am (Kd.N_elder' (pY114) (by first | exact Kd.N_base ho108 | exact Kd.S_base ho108) hb)
             replace HO153 := am (Kd.V_elder' (rV HO153.1) (by first | exact Kd.N_base ho108 | exact Kd.S_base ho108) hb)
             replace HO167 := am (Kd.V_elder' (rV HO167.1) (by first | exact Kd.N_base ho108 | exact Kd.S_base ho108) hb)
             have HO148 := am (Kd.N_lower ho108 (below_size (pY69)))
             replace BK101 := bB pY98 hb
             replace BK102 := bB pY99 hb
             replace BK110 := bB pY103 hb
             replace HB := bS pY69 hb
             clear hb ho108
             refine hK.out _ _ (uA2 BK110).1 (fun hHeld => ?_)
             clear hK K
             refine nM ?_
             refine oN 5 (some 59) fun K hK => ?_
             refine Kd.N_append_rows_step k56 (w0 := w) w.heap.size (by rfl) (.tmp 54) (.tmp 58) 29 56 (.agg #[(.string ⟨#[]⟩), (.slice none 0 0), (.slice none 0 0)]) 64 rfl Try.underlying29 info56 rfl (by decide) (by omega) v147 y146 y149 _ _ _ (fun k_ => (w.heap.size ≤ k_) ∧ some k_ ≠ (.slice Ao16 t104.length co16 : Value).ownBlock ∧ k_ ≠ gb101 ∧ k_ ≠ gb102 ∧ k_ ≠ gb110) (fun k_ => ((fun k_ => (w.heap.size ≤ k_) ∧ some k_ ≠ (.slice Ao16 t104.length co16 : Value).ownBlock ∧ k_ ≠ gb101 ∧ k_ ≠ gb102 ∧ k_ ≠ gb110)) k_ ∧ some k_ ≠ (v147 : Value).ownBlock) rfl rfl ?aO ?aR (fun _ hk => hk) ?aF ?aB ?aS ?aL ?_
             (case aR => exact (by skip; exact Kd.V_F (Kd.V_mono (ok' := (fun k_ => ((fun k_ => (w.heap.size ≤ k_) ∧ some k_ ≠ (.slice Ao16 t104.length co16 : Value).ownBlock ∧ k_ ≠ gb101 ∧ k_ ≠ gb102 ∧ k_ ≠ gb110)) k_ ∧ some k_ ≠ (v147 : Value).ownBlock)) (HO153.1) (fun k_ hk => ⟨⟨hk.1.1, ⟨hk.1.2.1, ⟨hk.1.2.2.1, ⟨hk.1.2.2.2.1, hk.1.2.2.2.2⟩⟩⟩⟩, hk.2⟩))))
             (case aB => exact (pY69))
             (case aF => exact (fun k_ hk => ⟨(Nat.le_trans (below_size (pY69)) hk), Kd.fresh' (Kd.R_lt (pY113)) k_ hk, Kd.freshB (g := gb101) (o := .cells #[.slice A0_0 l0_0.length c0_0, .slice A0_1 l0_1.length c0_1] 31 (0, 0)) (pY98) k_ hk, Kd.freshB (g := gb102) (o := .cells #[.slice none 0 0, .slice none 0 0] 31 (0, 0)) (pY99) k_ hk, Kd.freshB (g := gb110) (o := .cells #[.slice Ao16 t104.length co16, .slice Ao20 t107.length co20] 31 (0, 0)) (pY103) k_ hk⟩))
             (case aO => exact (by refine rN ?_; exact Kd.N_mono HO148.1 (fun _ hk => ⟨hk.1, ⟨hk.2.1, ⟨hk.2.2.2.1, ⟨hk.2.2.2.2.1, hk.2.2.2.2.2⟩⟩⟩⟩)))
             (case aS => exact (below_size (pY69)))
             (case aL => have := LMc94.out; omega)
             intro v155 w109 ho hb hg hat
             rw [← Ny154.out] at ho
             replace HO_111000 := am (Kd.R_over' (pY113) (Kd.N_typed (rN HO148.1)) (by decide) hg)
             replace HO_111001 := am (Kd.N_afterv (ok := (fun k_ => (w.heap.size ≤ k_) ∧ some k_ ≠ (.slice Ao16 t104.length co16 : Value).ownBlock ∧ k_ ≠ gb101 ∧ k_ ≠ gb102 ∧ k_ ≠ gb110)) (pY114) hg hat)
             replace BK101 := gN pY98 hg HO148 BK101
             replace BK102 := gN pY99 hg HO148 BK102
             replace BK110 := gN pY103 hg HO148 BK110
             replace HO153 := am (Kd.V_afterv (ok := (fun k_ => (w.heap.size ≤ k_) ∧ some k_ ≠ (.slice Ao16 t104.length co16 : Value).ownBlock ∧ k_ ≠ gb101 ∧ k_ ≠ gb102 ∧ k_ ≠ gb110)) (rV HO153.1) hg hat)
             replace HO167 := am (Kd.V_afterv (ok := (fun k_ => (w.heap.size ≤ k_) ∧ some k_ ≠ (.slice Ao16 t104.length co16 : Value).ownBlock ∧ k_ ≠ gb101 ∧ k_ ≠ gb102 ∧ k_ ≠ gb110)) (rV HO167.1) hg hat)
             replace HB := am (hb)
             have HO156 := am (ho)
             clear HO148
             clear ho hb hg hat
             refine hK.out _ _ (uA2 BK110).1 (fun hHeld => ?_)
             clear hK K
             refine nM ?_
             refine oN 8 (some 62) fun K hK => ?_
             refine gE Try.func93 (spec_l1Names.calls _ _ l2 t157 _ (pB HR2) HC2.1 A95.out) ?_
             rintro e w110 ⟨v158, rfl, ho0, hb⟩
             refine ⟨_, rfl, ?_⟩
             replace HO_111001 := am (Kd.N_elder' (pY114) (Kd.R_base ho0) hb)
             replace HO153 := am (Kd.V_elder' (rV HO153.1) (Kd.R_base ho0) hb)
             replace HO167 := am (Kd.V_elder' (rV HO167.1) (Kd.R_base ho0) hb)
             replace HO156 := am (Kd.N_elder' (rN HO156.1) (Kd.R_base ho0) hb)
             have HO159 := am (Kd.R_lower (Kd.R_new' (Kd.R_newM (M := fun k_ => (w.heap.size ≤ k_)) ho0 (below_size (pY69)) (fun k_ h_ => h_)) (Kd.R_lt (pY113))) (below_size (pY69)))
             replace HO_111000 := am (Kd.R_elder' (pY113) (Kd.R_base ho0) hb)
             replace BK101 := bB pY98 hb
             replace BK102 := bB pY99 hb
             replace BK110 := bB pY103 hb
             replace HB := bS pY69 hb
             (try clear hb)
             (try clear hb2)
             (try clear hk)
             (try clear hi)
             (try clear ho0)
             obtain ⟨Ao111, co111, eo111⟩ := Kd.R_slice HO159.1
             (first | subst eo111 | (injection eo111 with f1_ f2_ f3_; have f4_ := f1_.symm; have f5_ := f3_.symm; clear f1_ f2_ f3_; subst f4_; subst f5_))
             refine hK.out _ _ (uA2 BK110).1 (fun hHeld => ?_)
             clear hK K
             refine nM ?_
             refine pU 9 (some 63) ?_
             refine oN 10 (some 64) fun K hK => ?_
             refine value_ (w1 := ?_) (v := ?_) (by rfl) rfl ?_ ?_
             rotate_left 2
             ·go_simp
              constructor
              ·rfl
              ·rfl
             refine hK.out _ _ ⟨(blk_cell (blk_alloc BK110.1 _) 0).trans rfl, (blk_cell (blk_alloc BK110.1 _) 1).trans rfl⟩ (fun hHeld => ?_)
             clear hK K
             refine nM ?_
             refine oN 11 (some 65) fun K hK => ?_
             refine Kd.N_append_step k56 (w0 := w) w.heap.size (by rfl) (.tmp 59) (.tmp 64) 29 56 (.agg #[(.string ⟨#[]⟩), (.slice none 0 0), (.slice none 0 0)]) 64 rfl Try.underlying29 info56 rfl (by decide) (by omega) v155 y154 (⟨a1, ([] : List ByteArray), t157⟩ : S56) [.string a1, .slice none 0 0, .slice Ao111 t157.length co111] (fun k_ => (w.heap.size ≤ k_) ∧ some k_ ≠ (.slice Ao16 t104.length co16 : Value).ownBlock ∧ k_ ≠ gb101 ∧ k_ ≠ gb102 ∧ k_ ≠ gb110) (fun k_ => ((fun k_ => (w.heap.size ≤ k_) ∧ some k_ ≠ (.slice Ao16 t104.length co16 : Value).ownBlock ∧ k_ ≠ gb101 ∧ k_ ≠ gb102 ∧ k_ ≠ gb110)) k_ ∧ some k_ ≠ (v155 : Value).ownBlock) rfl rfl ?aP (fun _ hk => hk) ?aF ?aO ?aB ?aS ?aL ?_
             (case aP => exact (k56_mkF _ _ (⟨a1, ([] : List ByteArray), t157⟩ : S56) (Nat.le_refl _) (Kd.F_nil _ _ _) (Kd.R_reads' (Kd.R_mono (ok' := (fun k_ => ((fun k_ => (w.heap.size ≤ k_) ∧ some k_ ≠ (.slice Ao16 t104.length co16 : Value).ownBlock ∧ k_ ≠ gb101 ∧ k_ ≠ gb102 ∧ k_ ≠ gb110)) k_ ∧ some k_ ≠ (v155 : Value).ownBlock)) (Kd.R_types (Kd.R_types (Kd.R_types (Kd.R_apart' (HO159.1) (Kd.N_typed HO156.1) (by decide)) BK101.1 (by decide)) BK102.1 (by decide)) BK110.1 (by decide)) (fun k_ hk => ⟨⟨hk.1.1.1.1.1.1, ⟨hk.1.1.1.1.2, ⟨hk.1.1.2, ⟨hk.1.2, hk.2⟩⟩⟩⟩, hk.1.1.1.2⟩))).2.1 (Kd.R_F (Kd.R_mono (ok' := (fun k_ => ((fun k_ => (w.heap.size ≤ k_) ∧ some k_ ≠ (.slice Ao16 t104.length co16 : Value).ownBlock ∧ k_ ≠ gb101 ∧ k_ ≠ gb102 ∧ k_ ≠ gb110)) k_ ∧ some k_ ≠ (v155 : Value).ownBlock)) (Kd.R_types (Kd.R_types (Kd.R_types (Kd.R_apart' (HO159.1) (Kd.N_typed HO156.1) (by decide)) BK101.1 (by decide)) BK102.1 (by decide)) BK110.1 (by decide)) (fun k_ hk => ⟨⟨hk.1.1.1.1.1.1, ⟨hk.1.1.1.1.2, ⟨hk.1.1.2, ⟨hk.1.2, hk.2⟩⟩⟩⟩, hk.1.1.1.2⟩)))))
             (case aB => exact (pY69))
             (case aF => exact (fun k_ hk => ⟨(Nat.le_trans (below_size (pY69)) hk), Kd.fresh' (Kd.R_lt (pY113)) k_ hk, Kd.freshB (g := gb101) (o := .cells #[.slice A0_0 l0_0.length c0_0, .slice A0_1 l0_1.length c0_1] 31 (0, 0)) (pY98) k_ hk, Kd.freshB (g := gb102) (o := .cells #[.slice none 0 0, .slice none 0 0] 31 (0, 0)) (pY99) k_ hk, Kd.freshB (g := gb110) (o := .cells #[.slice Ao16 t104.length co16, .slice Ao20 t107.length co20] 31 (0, 0)) (pY103) k_ hk⟩))
             (case aO => exact (by refine rN ?_; exact Kd.N_mono HO156.1 (fun _ hk => ⟨hk.1.1, ⟨hk.1.2.1, ⟨hk.1.2.2.1, ⟨hk.1.2.2.2.1, hk.1.2.2.2.2⟩⟩⟩⟩)))
             (case aS => exact (below_size (pY69)))
             (case aL => have := LMc96.out; omega)
             intro v161 w112 ho hb hg hat
             rw [← Ny160.out] at ho
             replace HO_111000 := am (Kd.R_over' (pY113) (Kd.N_typed (rN HO156.1)) (by decide) hg)
             replace HO_111001 := am (Kd.N_afterv (ok := (fun k_ => (w.heap.size ≤ k_) ∧ some k_ ≠ (.slice Ao16 t104.length co16 : Value).ownBlock ∧ some k_ ≠ (.slice Ao111 t157.length co111 : Value).ownBlock ∧ k_ ≠ gb101 ∧ k_ ≠ gb102 ∧ k_ ≠ gb110)) (by refine rN ?_; exact Kd.N_mono HO_111001.1 (fun _ hk => ⟨⟨hk.1.1.1, ⟨hk.1.1.2.1, ⟨hk.2, ⟨hk.1.1.2.2.1, ⟨hk.1.1.2.2.2.1, hk.1.1.2.2.2.2⟩⟩⟩⟩⟩, hk.1.2⟩)) hg hat)
             replace BK101 := gN pY98 hg HO156 BK101
             replace BK102 := gN pY99 hg HO156 BK102
             replace BK110 := gN pY103 hg HO156 BK110
             replace HO153 := am (Kd.V_afterv (ok := (fun k_ => (w.heap.size ≤ k_) ∧ some k_ ≠ (.slice Ao16 t104.length co16 : Value).ownBlock ∧ some k_ ≠ (.slice Ao111 t157.length co111 : Value).ownBlock ∧ k_ ≠ gb101 ∧ k_ ≠ gb102 ∧ k_ ≠ gb110)) (by refine rV ?_; exact Kd.V_mono HO153.1 (fun _ hk => ⟨⟨hk.1.1.1, ⟨hk.1.1.2.1, ⟨hk.2, ⟨hk.1.1.2.2.1, ⟨hk.1.1.2.2.2.1, hk.1.1.2.2.2.2⟩⟩⟩⟩⟩, hk.1.2⟩)) hg hat)
             replace HO167 := am (Kd.V_afterv (ok := (fun k_ => (w.heap.size ≤ k_) ∧ some k_ ≠ (.slice Ao16 t104.length co16 : Value).ownBlock ∧ some k_ ≠ (.slice Ao111 t157.length co111 : Value).ownBlock ∧ k_ ≠ gb101 ∧ k_ ≠ gb102 ∧ k_ ≠ gb110)) (by refine rV ?_; exact Kd.V_mono HO167.1 (fun _ hk => ⟨⟨hk.1.1.1, ⟨hk.1.1.2.1, ⟨hk.2, ⟨hk.1.1.2.2.1, ⟨hk.1.1.2.2.2.1, hk.1.1.2.2.2.2⟩⟩⟩⟩⟩, hk.1.2⟩)) hg hat)
             replace HB := am (hb)
             have HO162 := am (ho)
             clear HO156
             clear HO159
             clear ho hb hg hat
             refine hK.out _ _ (uA2 BK110).1 (fun hHeld => ?_)
             clear hK K
             refine nM ?_
             refine oN 16 (some 70) fun K hK => ?_
             refine Kd.N_append_rows_step k56 (w0 := w) w.heap.size (by rfl) (.tmp 65) (.tmp 69) 29 56 (.agg #[(.string ⟨#[]⟩), (.slice none 0 0), (.slice none 0 0)]) 64 rfl Try.underlying29 info56 rfl (by decide) (by omega) v161 y160 y163 _ _ _ (fun k_ => (w.heap.size ≤ k_) ∧ some k_ ≠ (.slice Ao16 t104.length co16 : Value).ownBlock ∧ k_ ≠ gb101 ∧ k_ ≠ gb102 ∧ k_ ≠ gb110) (fun k_ => ((fun k_ => (w.heap.size ≤ k_) ∧ some k_ ≠ (.slice Ao16 t104.length co16 : Value).ownBlock ∧ k_ ≠ gb101 ∧ k_ ≠ gb102 ∧ k_ ≠ gb110)) k_ ∧ some k_ ≠ (v161 : Value).ownBlock) rfl rfl ?aO ?aR (fun _ hk => hk) ?aF ?aB ?aS ?aL ?_
             (case aR => exact (by skip; exact Kd.V_F (Kd.V_mono (ok' := (fun k_ => ((fun k_ => (w.heap.size ≤ k_) ∧ some k_ ≠ (.slice Ao16 t104.length co16 : Value).ownBlock ∧ k_ ≠ gb101 ∧ k_ ≠ gb102 ∧ k_ ≠ gb110)) k_ ∧ some k_ ≠ (v161 : Value).ownBlock)) (HO167.1) (fun k_ hk => ⟨⟨hk.1.1, ⟨hk.1.2.1, ⟨hk.1.2.2.2.1, ⟨hk.1.2.2.2.2.1, hk.1.2.2.2.2.2⟩⟩⟩⟩, hk.2⟩))))
             (case aB => exact (pY69))
             (case aF => exact (fun k_ hk => ⟨(Nat.le_trans (below_size (pY69)) hk), Kd.fresh' (Kd.R_lt (pY113)) k_ hk, Kd.freshB (g := gb101) (o := .cells #[.slice A0_0 l0_0.length c0_0, .slice A0_1 l0_1.length c0_1] 31 (0, 0)) (pY98) k_ hk, Kd.freshB (g := gb102) (o := .cells #[.slice none 0 0, .slice none 0 0] 31 (0, 0)) (pY99) k_ hk, Kd.freshB (g := gb110) (o := .cells #[.slice Ao16 t104.length co16, .slice Ao20 t107.length co20] 31 (0, 0)) (pY103) k_ hk⟩))
             (case aO => exact (rN HO162.1))
             (case aS => exact (below_size (pY69)))
             (case aL => have := LMc99.out; omega)
             intro v169 w113 ho hb hg hat
             rw [← Ny168.out] at ho
             replace HO_111000 := am (Kd.R_over' (pY113) (Kd.N_typed (rN HO162.1)) (by decide) hg)
             replace HO_111001 := am (Kd.N_afterv (ok := (fun k_ => (w.heap.size ≤ k_) ∧ some k_ ≠ (.slice Ao16 t104.length co16 : Value).ownBlock ∧ k_ ≠ gb101 ∧ k_ ≠ gb102 ∧ k_ ≠ gb110)) (by refine rN ?_; exact Kd.N_mono HO_111001.1 (fun _ hk => ⟨⟨hk.1.1, ⟨hk.1.2.1, ⟨hk.1.2.2.2.1, ⟨hk.1.2.2.2.2.1, hk.1.2.2.2.2.2⟩⟩⟩⟩, hk.2⟩)) hg hat)
             replace BK101 := gN pY98 hg HO162 BK101
             replace BK102 := gN pY99 hg HO162 BK102
             replace BK110 := gN pY103 hg HO162 BK110
             replace HO153 := am (Kd.V_afterv (ok := (fun k_ => (w.heap.size ≤ k_) ∧ some k_ ≠ (.slice Ao16 t104.length co16 : Value).ownBlock ∧ k_ ≠ gb101 ∧ k_ ≠ gb102 ∧ k_ ≠ gb110)) (by refine rV ?_; exact Kd.V_mono HO153.1 (fun _ hk => ⟨⟨hk.1.1, ⟨hk.1.2.1, ⟨hk.1.2.2.2.1, ⟨hk.1.2.2.2.2.1, hk.1.2.2.2.2.2⟩⟩⟩⟩, hk.2⟩)) hg hat)
             replace HO167 := am (Kd.V_afterv (ok := (fun k_ => (w.heap.size ≤ k_) ∧ some k_ ≠ (.slice Ao16 t104.length co16 : Value).ownBlock ∧ k_ ≠ gb101 ∧ k_ ≠ gb102 ∧ k_ ≠ gb110)) (by refine rV ?_; exact Kd.V_mono HO167.1 (fun _ hk => ⟨⟨hk.1.1, ⟨hk.1.2.1, ⟨hk.1.2.2.2.1, ⟨hk.1.2.2.2.2.1, hk.1.2.2.2.2.2⟩⟩⟩⟩, hk.2⟩)) hg hat)
             replace HB := am (hb)
             have HO170 := am (ho)
             clear HO162
             clear ho hb hg hat
             obtain ⟨Ao114, co114, eo114⟩ := Kd.N_slice HO170.1
             (first | subst eo114 | (injection eo114 with f1_ f2_ f3_; have f4_ := f1_.symm; have f5_ := f3_.symm; clear f1_ f2_ f3_; subst f4_; subst f5_))
             refine hK.out _ _ (uA2 BK110).1 (fun hHeld => ?_)
             clear hK K
             refine nM ?_
             refine pU 17 (some 71) ?_
             refine last_ (i := 18) (N := none) (bz 19 524287) rfl rfl (one_of HT_.out (by kernel_rfl)) (by decide) (fun K hK => ?_)
             have hs115 : w113.cell? ⟨gb110, 1, none⟩ = some (.slice Ao20 t107.length co20) := (blk_cell BK110.1 1).trans rfl
             have hfs115 := blk_frozen BK110.1 1
             have hns115_0 := NB101_110.1
             have hns115_1 := NB102_110.1
             have hms115_0 := NB110_101.1
             have hms115_1 := NB110_102.1
             refine skip_ (w1 := ?_) (by rfl) rfl ?_ ?_
             rotate_left
             ·go_simp
              rfl
             refine hK.out _ _ ?_
             clear hK K
             refine done_ (done_of HT_.out (by kernel_rfl)) ?_
             obtain ⟨hcz116_0, hcz116_1, hfz116_0, hfz116_1⟩ := cz2 BK110
             try go_wp2_with (first | ((with_reducible refine gate_callee (f := 89) rfl ?_); refine goesL_ (some 73) rfl rfl Try.func89 (by kernel_rfl) rfl #[.agg #[.slice Ao16 t104.length co16, .slice Ao114 y168.length co114]] rfl (pY94) ?_; (with_reducible refine (spec_l1Copy.calls k2 _ _ t104 _ _ y168 t171 t174 _ ?side1 ?side2 ?side3 ?side4 A100.out).mono ?_); (case side1 => refine (Kd.R_reads' (e := 9) (base := w.heap.size) (ok := fun k_ => (w.heap.size ≤ k_)) (n := t104.length) (c := co16) ?_).2.2; exact (by refine rR ?_; exact Kd.R_mono (fR (tR HO_111000 BK110)) (fun _ hk => hk.1.1))); (case side2 => exact (Kd.R_reads' HO_111000.1).2.1); (case side3 => refine (Kd.N_reads' (e := 56) (base := w.heap.size) (ok := fun k_ => ((w.heap.size ≤ k_) ∧ (some k_ ≠ (.slice Ao16 t104.length co16 : Value).ownBlock ∧ (k_ ≠ gb101 ∧ (k_ ≠ gb102 ∧ k_ ≠ gb110))))) (n := y168.length) (c := co114) ?_).2.2; exact (by refine rN ?_; exact (Kd.N_mono (fN (Kd.N_mono HO170.1 (fun k_ hk => (⟨hk, hk.2.2.2.2⟩ : _ ∧ k_ ≠ gb110)))) (fun _ h_ => h_.1)))); (case side4 => exact (Kd.N_reads' HO170.1).2.1); rintro e w117 ⟨v172, v175, rfl, ho0, ho1, hb⟩; refine ⟨_, rfl, ?_⟩; replace HO153 := am (Kd.V_mono (Kd.V_told (Kd.V_told (Kd.V_old (by refine rV ?_; exact (Kd.V_mono (Kd.V_far (p := ⟨gb110, 1, none⟩) (Kd.V_mono HO153.1 (fun k_ hk => (⟨hk, hk.1.2.2.2.2⟩ : _ ∧ k_ ≠ gb110))) (fun _ hk => hk.2) (.slice Ao114 y168.length co114)) (fun _ h_ => h_.1))) hb) (Kd.R_base ho0)) (pY134)) (fun _ h_ => h_.1)); replace HO167 := am (Kd.V_mono (Kd.V_told (Kd.V_told (Kd.V_old (by refine rV ?_; exact (Kd.V_mono (Kd.V_far (p := ⟨gb110, 1, none⟩) (Kd.V_mono HO167.1 (fun k_ hk => (⟨hk, hk.1.2.2.2.2⟩ : _ ∧ k_ ≠ gb110))) (fun _ hk => hk.2) (.slice Ao114 y168.length co114)) (fun _ h_ => h_.1))) hb) (Kd.R_base ho0)) (pY134)) (fun _ h_ => h_.1)); have HO173 := am (Kd.R_lower (Kd.R_new' (Kd.R_newM (M := fun k_ => (w.heap.size ≤ k_)) ho0 (below_size (pY69)) (fun k_ h_ => h_)) (Kd.R_lt (by refine rR ?_; exact (Kd.R_mono (fR (tR HO_111000 BK110)) (fun _ h_ => h_.1))))) (below_size (pY69))); have HO176 := am (Kd.N_lower (Kd.N_mono (ok' := fun k_ => (w.heap.size ≤ k_) ∧ some k_ ≠ (v172 : Value).ownBlock ∧ some k_ ≠ (.slice Ao16 t104.length co16 : Value).ownBlock ∧ some k_ ≠ (.slice Ao20 t107.length co20 : Value).ownBlock ∧ some k_ ≠ (.slice Ao114 y168.length co114 : Value).ownBlock ∧ k_ ≠ gb101 ∧ k_ ≠ gb102 ∧ k_ ≠ gb110) (Kd.S_N (Kd.S_bound ho1)) (fun k_ hk_ => ⟨(Nat.le_trans (below_size (pY69)) hk_.2.1), hk_.1, (Kd.fresh' (Kd.R_lt (by refine rR ?_; exact (Kd.R_mono (fR (tR HO_111000 BK110)) (fun _ h_ => h_.1)))) k_ hk_.2.1), (Kd.fresh' (Kd.N_lt (by refine rN ?_; exact (Kd.N_mono (fN (Kd.N_mono HO_111001.1 (fun k_ hk => (⟨hk, hk.1.2.2.2.2⟩ : _ ∧ k_ ≠ gb110)))) (fun _ h_ => h_.1)))) k_ hk_.2.1), (Kd.fresh' (Kd.N_lt (by refine rN ?_; exact (Kd.N_mono (fN (Kd.N_mono HO170.1 (fun k_ hk => (⟨hk, hk.2.2.2.2⟩ : _ ∧ k_ ≠ gb110)))) (fun _ h_ => h_.1)))) k_ hk_.2.1), (Kd.freshB (g := gb101) (o := .cells #[.slice A0_0 l0_0.length c0_0, .slice A0_1 l0_1.length c0_1] 31 (0, 0)) (pY48) k_ hk_.2.1), (Kd.freshB (g := gb102) (o := .cells #[.slice none 0 0, .slice none 0 0] 31 (0, 0)) (pY49) k_ hk_.2.1), (Kd.freshB (g := gb110) (o := .cells #[.slice Ao16 t104.length co16, .slice Ao114 y168.length co114] 31 (0, 0)) (by refine rB ?_; refine blk_put (cs := #[.slice Ao16 t104.length co16, .slice Ao20 t107.length co20]) ?_ 1 _ rfl; refine rB ?_; exact BK110.1) k_ hk_.2.1)⟩)) (below_size (pY69))); replace HO_111000 := am (Kd.R_elder' (by refine rR ?_; exact (Kd.R_mono (fR (tR HO_111000 BK110)) (fun _ h_ => h_.1))) (Kd.R_base ho0) hb); replace HO_111001 := am (Kd.N_mono (Kd.N_told (Kd.N_told (Kd.N_old (by refine rN ?_; exact (Kd.N_mono (fN (Kd.N_mono HO_111001.1 (fun k_ hk => (⟨hk, hk.1.2.2.2.2⟩ : _ ∧ k_ ≠ gb110)))) (fun _ h_ => h_.1))) hb) (Kd.R_base ho0)) (pY134)) (fun _ h_ => h_.1)); replace HO170 := am (Kd.N_mono (Kd.N_told (Kd.N_told (Kd.N_old (by refine rN ?_; exact (Kd.N_mono (fN (Kd.N_mono HO170.1 (fun k_ hk => (⟨hk, hk.2.2.2.2⟩ : _ ∧ k_ ≠ gb110)))) (fun _ h_ => h_.1))) hb) (Kd.R_base ho0)) (pY134)) (fun _ h_ => h_.1)); replace BK101 := am (blk_below (g := gb101) (o := .cells #[.slice A0_0 l0_0.length c0_0, .slice A0_1 l0_1.length c0_1] 31 (0, 0)) (pY48) hb); replace BK102 := am (blk_below (g := gb102) (o := .cells #[.slice none 0 0, .slice none 0 0] 31 (0, 0)) (pY49) hb); replace BK110 := am (blk_below (g := gb110) (o := .cells #[.slice Ao16 t104.length co16, .slice Ao114 y168.length co114] 31 (0, 0)) (by refine rB ?_; refine blk_put (cs := #[.slice Ao16 t104.length co16, .slice Ao20 t107.length co20]) ?_ 1 _ rfl; refine rB ?_; exact BK110.1) hb); replace HB := bS pY69 hb; (try clear hb); (try clear hk); (try clear ho0); (try clear ho1); obtain ⟨Ao118, co118, eo118⟩ := Kd.R_slice HO173.1; subst eo118; have hnb119 := NB102_101.1; have hnc119 := NB101_102.1; obtain ⟨hcz120_0, hcz120_1, hfz120_0, hfz120_1⟩ := cz2 BK102; obtain ⟨Ao121, co121, eo121⟩ := Kd.N_slice HO176.1; subst eo121))
             refine bodyPost_ret (results_ct rfl _ _ gb102 31 #[.slice Ao118 t171.length co118, .slice Ao121 t174.length co121] (0, 0) _ rfl (by refine rB ?_; refine blk_put (cs := #[.slice Ao118 t171.length co118, .slice none 0 0]) ?_ 1 _ rfl; refine rB ?_; refine blk_put (cs := #[.slice none 0 0, .slice none 0 0]) ?_ 0 _ rfl; refine rB ?_; exact BK102.1) Try.underlying31 rfl (by kernel_rfl)) rfl ?_
             exact ⟨_, _, eR, by refine rR ?_; exact Kd.R_mono (fR (fR (tR HO173 BK102))) (fun _ hk => hk.1.1.1), by refine rN ?_; exact Kd.N_mono (fN (fN (Kd.N_mono HO176.1 (fun k_ hk => (⟨hk, hk.2.2.2.2.2.2.1⟩ : _ ∧ k_ ≠ gb102))))) (fun _ hk => ⟨hk.1.1, hk.1.2.1⟩), pY69⟩
            ·rw [if_neg c99] at H
             exact absurd H (by simp)
           ·rw [if_neg c96] at H
            exact absurd H (by simp)
          ·rw [if_neg c94] at H
           exact absurd H (by simp)
         ·rw [if_neg c93] at H
          exact absurd H (by simp)
        ·rw [if_neg c92] at H
         exact absurd H (by simp)
 ·simp only [Option.some.injEq, Prod.mk.injEq] at H
  obtain ⟨rfl, rfl, rfl⟩ := H
  go_enter Try.func59, Try.ntmps59
  go_wp2_with (first | ((with_reducible refine gD 3 ?_); refine bX 3 #[.slice A0_0 l0_0.length c0_0, .slice A0_1 l0_1.length c0_1] 31 ?_; intro gb101 hg w122 hbox hb; have BK101 := am (hbox); have GW101 := am (pY89 : w.heap.size ≤ gb101); have GE101 := am (pY89 : w.heap.size ≤ gb101); replace HB := bS pY95 hb; clear hb hbox hg) | ((with_reducible refine gD 6 ?_); refine bX 6 #[.slice none 0 0, .slice none 0 0] 31 ?_; intro gb102 hg w123 hbox hb; have BK102 := am (hbox); have GW102 := am (pY77 : w.heap.size ≤ gb102); have GE102 := am (pY77 : w.heap.size ≤ gb102); replace HB := bS pY90 hb; have NB101_102 := nL pY98 hg; have NB102_101 := nG pY98 hg; replace BK101 := bB pY98 hb; clear hb hbox hg; have hnb124 := NB101_102.1; have hnc124 := NB102_101.1; obtain ⟨hcz125_0, hcz125_1, hfz125_0, hfz125_1⟩ := cz2 BK101) | ((with_reducible refine gC 22 ?_); refine cQ (some 11) Try.func22 (spec_ShareBookOk.calls k _ _ l0_0 _ _ l0_1 false _ (pB HR0_0) HC0_0.1 (pB HR0_1) HC0_1.1 A4.out) ?_; rintro w126 hb; replace BK101 := bB pY98 hb; replace BK102 := bB pY99 hb; replace HB := bS pY81 hb; (try clear hb); obtain ⟨hcz127_0, hcz127_1, hfz127_0, hfz127_1⟩ := cz2 BK102))
  refine bodyPost_ret (results_ct rfl _ _ gb102 31 #[.slice none 0 0, .slice none 0 0] (0, 0) _ rfl (pY6) Try.underlying31 rfl (by kernel_rfl)) rfl ?_
  exact ⟨_, _, eR, by first | exact Kd.R_nil _ _ _ _ _ | exact Kd.N_nil _ _ _ _ _ | exact Kd.V_nil _ _ _ _ _ | exact Kd.Q_nil _ _ _ _ _ | exact Kd.S_nil _ _ _ _ _, by first | exact Kd.S_nil _ _ _ _ _ | exact Kd.N_nil _ _ _ _ _ | exact Kd.V_nil _ _ _ _ _ | exact Kd.Q_nil _ _ _ _ _ | exact Kd.R_nil _ _ _ _ _, pY81⟩
end Go.Proofs.Ytaofjgnhapnndaa.Q
namespace Go.Proofs.Ytaofjgnhapnndaa.Q
open Go.RowKit Go.Proofs.YtaofjgnhapnndaaW.PrintWords Go.Proofs.YtaofjgnhapnndaaW.PrintLast Go.Proofs.YtaofjgnhapnndaaW.PrintMore
set_option linter.unusedVariables false
set_option linter.unusedSimpArgs false
def spec_l3Taken.l0 : Nat → Int → List ByteArray → Int → List ByteArray → List (S56) → Option (Bool)
 | 0, _, _, _, _, _ => none
 | k + 1, x1, x2, x7, x102000, x102001 => if x7 < (x102001.length : Int) then (if x7 = x1 then (spec_l3Taken.l0 k x1 x2 (wrap64 (x7 + 1)) x102000 x102001) else (if 0 ≤ x7 then ((spec_l1Share.f k ((rd_T56 x102001 x7).f1) x2).bind fun t103 => (if t103 = true then (some true) else (spec_l3Taken.l0 k x1 x2 (wrap64 (x7 + 1)) x102000 x102001))) else (none))) else (some false)
def spec_l3Taken.f (k : Nat) (l0_0 : List ByteArray) (l0_1 : List (S56)) (a1 : Int) (l2 : List ByteArray) : Option (Bool) := spec_l3Taken.l0 k a1 l2 0 l0_0 l0_1
theorem spec_l3Taken.calls (k : Nat) (A0_0 : Option Addr) (c0_0 : Nat) (l0_0 : List ByteArray) (A0_1 : Option Addr) (c0_1 : Nat) (l0_1 : List (S56)) (a1 : Int) (A2 : Option Addr) (c2 : Nat) (l2 : List ByteArray) (r : Bool) (w : World) (hr0_0 : Kd.C Kd.string w A0_0 l0_0.length l0_0) (hc0_0 : l0_0.length ≤ c0_0) (hr0_1 : Kd.C k56 w A0_1 l0_1.length l0_1) (hc0_1 : l0_1.length ≤ c0_1) (hr2 : Kd.C Kd.string w A2 l2.length l2) (hc2 : l2.length ≤ c2) (h : spec_l3Taken.f k l0_0 l0_1 a1 l2 = some r) :
  Calls Try.prog 105 #[.agg #[.slice A0_0 l0_0.length c0_0, .slice A0_1 l0_1.length c0_1], .int .i64 a1, .slice A2 l2.length c2] w fun e w' => e = .returned (.bool r) ∧ Below w.heap.size w w' := by
 have hu31 := Try.underlying31
 have HR0_0 := am hr0_0
 have HC0_0 := am hc0_0
 clear hr0_0 hc0_0
 have HR0_1 := am hr0_1
 have HC0_1 := am hc0_1
 clear hr0_1 hc0_1
 have HR2 := am hr2
 have HC2 := am hc2
 clear hr2 hc2
 have HB := am (Below.refl w.heap.size w)
 unfold spec_l3Taken.f at h
 have H := h
 clear h
 have H' := am H
 clear H
 go_enter Try.func105, Try.ntmps105
 go_wp2_with (first | ((with_reducible refine gD 3 ?_); refine bX 3 #[.slice A0_0 l0_0.length c0_0, .slice A0_1 l0_1.length c0_1] 31 ?_; intro gb101 hg w4 hbox hb; have BK101 := am (hbox); have GW101 := am (pY89 : w.heap.size ≤ gb101); have GE101 := am (pY89 : w.heap.size ≤ gb101); replace HB := bS pY95 hb; clear hb hbox hg))
 go_loopg [7] k (fun kq v7 w' => ∃ (x7_1 : Int), v7 = .int .i64 x7_1 ∧ Aside0 (spec_l3Taken.l0 kq a1 l2 x7_1 l0_0 l0_1 = some r) ∧ Aside0 (kq ≤ k) ∧ Aside0 (w'.heap[gb101]? = some (.cells #[(.slice A0_0 l0_0.length c0_0), (.slice A0_1 l0_1.length c0_1)] 31 (0, 0))) ∧ Aside0 (Below w.heap.size w w'))
 case atStart => exact ⟨(0), (pY136), H', ⟨Nat.le_refl _⟩, ⟨rB BK101.1⟩, ⟨pY90⟩⟩
 case round =>
  clear H'
  try clear c2
  obtain ⟨x7_1, rfl, HA, HK1, BK101, HB⟩ := hrel
  cases gk with
  | zero => exact absurd HA.out (by simp [spec_l3Taken.l0])
  | succ k1 =>
   have H := HA.out
   clear HA
   simp only [spec_l3Taken.l0] at H
   refine ic H ?_ ?_ <;> clear H <;> intro c5b0 H
   ·by_cases c6 : x7_1 = a1
    ·rw [if_pos c6] at H
     have c6b0 : (x7_1 == a1) = true := beq_iff_eq.mpr c6
     have c6b1 : (x7_1 != a1) = false := bne_eq_false_iff_eq.mpr c6
     clear c6
     have H' := am H
     clear H
     obtain ⟨hcz7_0, hcz7_1, hfz7_0, hfz7_1⟩ := cz2 BK101
     go_wp2
     go_roundg k1
     case measure => have := HK1.out; omega
     case rel => exact ⟨(wrap64 (x7_1 + 1)), (pY136), H', ⟨by have := HK1.out; omega⟩, ⟨rB BK101.1⟩, ⟨pY90⟩⟩
    ·rw [if_neg c6] at H
     have c6b0 : (x7_1 == a1) = false := beq_eq_false_iff_ne.mpr c6
     have c6b1 : (x7_1 != a1) = true := bne_iff_ne.mpr c6
     obtain ⟨c8b0, H⟩ := cN H
     obtain ⟨t103, A9, H⟩ := bd H
     refine tC H ?_ ?_ <;> clear H <;> intro c10 H <;> subst c10
     ·obtain rfl := Option.some.inj H
      obtain ⟨hcz11_0, hcz11_1, hfz11_0, hfz11_1⟩ := cz2 BK101
      obtain ⟨ad102, A102_1, c102_1, A102_2, c102_2, e102, hx102_0, hx102_1, hx102_2, HR102_1, HC102_1, HR102_2, HC102_2, p102, q102⟩ := aT56 HR0_1 HB x7_1
      cases e102
      go_wp2_with (first | (go_at_call 72; refine cM (spec_l1Share.calls k1 _ _ ((rd_T56 l0_1 x7_1).f1) _ _ l2 true _ (pB HR102_1) HC102_1.1 (pB HR2) HC2.1 A9.out) ?_; rintro w' ⟨nd, rfl⟩))
      go_ret
      exact ⟨eR, pY90⟩
     ·have H' := am H
      clear H
      obtain ⟨hcz12_0, hcz12_1, hfz12_0, hfz12_1⟩ := cz2 BK101
      obtain ⟨ad102, A102_1, c102_1, A102_2, c102_2, e102, hx102_0, hx102_1, hx102_2, HR102_1, HC102_1, HR102_2, HC102_2, p102, q102⟩ := aT56 HR0_1 HB x7_1
      cases e102
      go_wp2_with (first | (go_at_call 72; refine cM (spec_l1Share.calls k1 _ _ ((rd_T56 l0_1 x7_1).f1) _ _ l2 false _ (pB HR102_1) HC102_1.1 (pB HR2) HC2.1 A9.out) ?_; rintro w' ⟨nd, rfl⟩))
      go_roundg k1
      case measure => have := HK1.out; omega
      case rel => exact ⟨(wrap64 (x7_1 + 1)), (pY136), H', ⟨by have := HK1.out; omega⟩, ⟨rB BK101.1⟩, ⟨pY90⟩⟩
   ·obtain rfl := Option.some.inj H
    obtain ⟨hcz13_0, hcz13_1, hfz13_0, hfz13_1⟩ := cz2 BK101
    go_wp2
    go_ret
    exact ⟨eR, pY90⟩
end Go.Proofs.Ytaofjgnhapnndaa.Q
