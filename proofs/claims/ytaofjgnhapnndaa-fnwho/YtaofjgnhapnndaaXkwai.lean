/- Texts that the row needs: words on memory and rows, the contracts of the functions it reaches, and the plain lemmas on what they compute. -/
import Derived.Test.YtaofjgnhapnndaaXkwah
set_option maxHeartbeats 8000000
set_option maxRecDepth 100000
open Go.Proofs.YtaofjgnhapnndaaFkw
namespace Go.Proofs.Ytaofjgnhapnndaa.Q
open Go.RowKit Go.Proofs.YtaofjgnhapnndaaW.PrintWords Go.Proofs.YtaofjgnhapnndaaW.PrintLast Go.Proofs.YtaofjgnhapnndaaW.PrintMore
set_option linter.unusedVariables false
set_option linter.unusedSimpArgs false
theorem bnd_ne {w : World} {k g t : Nat} {cs : Array Value} (h : ∃ q, q ∈ 56 :: (k56).E ∧ ∃ cells, w.heap[k]? = some (.cells cells q (0, 0))) (hb : w.heap[g]? = some (.cells cs t (0, 0))) (ht : ∀ q ∈ 56 :: (k56).E, q ≠ t) : k ≠ g := by
 obtain ⟨q, hq, cells, hc⟩ := h
 intro e
 subst e
 rw [hb] at hc
 injection hc with hc
 injection hc with _ hc _
 exact ht q hq hc.symm
theorem isS_ne {w0 w : World} {k g : Nat} {f0 : List Int} {f1 : Int} (h : ∃ q, q ∈ 56 :: (k56).E ∧ ∃ cells, w.heap[k]? = some (.cells cells q (0, 0))) (hI : IsS103 w0 w g f0 f1) : k ≠ g := by
 obtain ⟨_, _, hg, _⟩ := hI
 exact bnd_ne h hg (by decide)
theorem isS_lt {w0 w : World} {g : Nat} {f0 : List Int} {f1 : Int} (hI : IsS103 w0 w g f0 f1) : g < w.heap.size := by
 obtain ⟨_, _, hg, _⟩ := hI
 exact blk_lt hg
theorem toN_ {w w' : World} {e : Ending} {r1 : List ByteArray} {r2 : List S56} {Q R S : Prop} (h : ∃ v0_ v1_ : Value, e = .returned (.agg #[v0_, v1_]) ∧ Kd.R Kd.string 9 w' w.heap.size (fun _ => True) v0_ r1 ∧ Kd.S k56 56 w' w.heap.size (fun k_ => some k_ ≠ (v0_ : Value).ownBlock) v1_ r2 ∧ Q ∧ R ∧ S) :
  ∃ v0_ v1_ : Value, e = .returned (.agg #[v0_, v1_]) ∧ Kd.R Kd.string 9 w' w.heap.size (fun k_ => (w.heap.size ≤ k_)) v0_ r1 ∧ Kd.N k56 56 w' w.heap.size (fun k_ => (w.heap.size ≤ k_) ∧ some k_ ≠ (v0_ : Value).ownBlock) v1_ r2 ∧ Q ∧ R ∧ S := by
 obtain ⟨v0, v1, h1, h2, h3, h4⟩ := h
 exact ⟨v0, v1, h1, Kd.R_mono (Kd.R_bound h2) (fun _ hk => hk.2.1), Kd.N_mono (Kd.S_N (Kd.S_bound h3)) (fun _ hk => ⟨hk.2.1, hk.1⟩), h4⟩
mutual
def spec_l5Spoil.j0 : Nat → Bool → List Int → Int → List ByteArray → List (S56) → Option (List ByteArray × (List (S56)) × Int)
 | 0, _, _, _, _, _ => none
 | k + 1, x19, x1000, x1001, x110000, x110001 => if x19 = true then ((spec_l1Rd_of.f k x1000 x1001 (([(⟨#[]⟩ : ByteArray), (⟨#[65]⟩ : ByteArray), (⟨#[97]⟩ : ByteArray), (⟨#[122, 122]⟩ : ByteArray)] : List ByteArray))).bind fun bt115 => (if x110000.length < 8796093022208 then (some ((x110000 ++ [bt115.1]), x110001, bt115.2)) else (none))) else ((spec_l1Rd_pick.f k x1000 x1001 (x110001.length : Int)).bind fun bt120 => ((spec_l1Rd_pick.f k x1000 bt120.2 5).bind fun bt122 => (if bt122.1 = 0 then ((spec_l1Rd_of.f k x1000 bt122.2 (([(⟨#[]⟩ : ByteArray), (⟨#[66]⟩ : ByteArray), (⟨#[122, 122]⟩ : ByteArray), (⟨#[97]⟩ : ByteArray)] : List ByteArray))).bind fun bt127 => (if 0 ≤ bt120.1 then (if bt120.1 < (x110001.length : Int) then (some (x110000, (x110001.set (bt120.1 : Int).toNat (⟨bt127.1, (rd_T56 x110001 bt120.1).f1, (rd_T56 x110001 bt120.1).f2⟩ : S56)), bt127.2)) else (none)) else (none))) else (if bt122.1 = 1 then (if 0 ≤ bt120.1 then (if bt120.1 < (x110001.length : Int) then ((spec_l1Rd_of.f k x1000 bt122.2 (([(⟨#[]⟩ : ByteArray), (⟨#[122, 122]⟩ : ByteArray), (⟨#[107, 101, 103]⟩ : ByteArray), (⟨#[119]⟩ : ByteArray)] : List ByteArray))).bind fun bt134 => (if ((rd_T56 x110001 bt120.1).f2).length < 8796093022208 then (some (x110000, (x110001.set (bt120.1 : Int).toNat (⟨(rd_T56 x110001 bt120.1).f0, (rd_T56 x110001 bt120.1).f1, (((rd_T56 x110001 bt120.1).f2) ++ [bt134.1])⟩ : S56)), bt134.2)) else (none))) else (none)) else (none)) else (if bt122.1 = 2 then (if 0 ≤ bt120.1 then (if bt120.1 < (x110001.length : Int) then ((spec_l1Rd_of.f k x1000 bt122.2 (([(⟨#[]⟩ : ByteArray), (⟨#[122, 122]⟩ : ByteArray), (⟨#[107, 101, 103]⟩ : ByteArray), (⟨#[119]⟩ : ByteArray)] : List ByteArray))).bind fun bt144 => (if ((rd_T56 x110001 bt120.1).f1).length < 8796093022208 then (some (x110000, (x110001.set (bt120.1 : Int).toNat (⟨(rd_T56 x110001 bt120.1).f0, (((rd_T56 x110001 bt120.1).f1) ++ [bt144.1]), (rd_T56 x110001 bt120.1).f2⟩ : S56)), bt144.2)) else (none))) else (none)) else (none)) else (if bt122.1 = 3 then (if 0 ≤ bt120.1 then (if bt120.1 < (x110001.length : Int) then (if x110001.length < 2199023255552 then (some (x110000, x110001 ++ [rd_T56 x110001 bt120.1], bt122.2)) else (none)) else (none)) else (none)) else ((spec_l1Rd_pick.f k x1000 bt122.2 2).bind fun bt151 => (spec_l5Spoil.l0 k (wrap64 (5 + bt151.1)) 0 x1000 bt151.2 x110000 x110001))))))))
def spec_l5Spoil.l0 : Nat → Int → Int → List Int → Int → List ByteArray → List (S56) → Option (List ByteArray × (List (S56)) × Int)
 | 0, _, _, _, _, _, _ => none
 | k + 1, x7, x8, x1000, x1001, x110000, x110001 => if (x110001.length : Int) < x7 then ((spec_l5Dec.f x8).bind fun t153 => (if 1 + t153.size ≤ 9223372036854775807 then (if x110001.length < 2199023255552 then (spec_l5Spoil.l0 k x7 (wrap64 (x8 + 1)) x1000 x1001 x110000 (x110001 ++ [(⟨(⟨#[122]⟩ : ByteArray) ++ t153, ([] : List ByteArray), ([] : List ByteArray)⟩ : S56)])) else (none)) else (none))) else (some (x110000, x110001, x1001))
end
def spec_l5Spoil.f (k : Nat) (s0_0 : List Int) (s0_1 : Int) (l1_0 : List ByteArray) (l1_1 : List (S56)) : Option (List ByteArray × (List (S56)) × Int) := (spec_l1Copy.f k l1_0 l1_1).bind fun bt103 => (if (bt103.2.length : Int) = 0 then (spec_l5Spoil.j0 k true s0_0 s0_1 bt103.1 bt103.2) else ((spec_l1Rd_pick.f k s0_0 s0_1 4).bind fun bt110 => (spec_l5Spoil.j0 k (bt110.1 == 0) s0_0 bt110.2 bt103.1 bt103.2)))
def spec_l5Spoil.T3 : Bool × List (List Nat × List Nat) := (true, [([], []), ([0], [0]), ([], []), ([], []), ([2, 3], [2, 3]), ([4], [4]), ([1, 5, 4], [1, 5]), ([0, 1, 2, 3, 4, 5, 6], []), ([7, 6, 6, 0, 1, 2, 3, 4, 5, 6], [6, 7])])
def spec_l5Spoil.B3 : List Nat := [0, 1, 0, 0, 12, 28, 63, 127, 255]
theorem spec_l5Spoil.tab3 : rtab .any (opsOf Try.f120 3) = spec_l5Spoil.T3 := by kernel_rfl
theorem spec_l5Spoil.bits3 : waitsOk spec_l5Spoil.T3.2 spec_l5Spoil.B3 = true := by kernel_rfl
def spec_l5Spoil.T11 : Bool × List (List Nat × List Nat) := (true, [([], []), ([0], [0]), ([], []), ([2], [2]), ([3], [3]), ([4], [4]), ([5], [5]), ([1, 6, 3], [1, 6]), ([0, 1, 2, 3, 4, 5, 6, 7], []), ([8, 7, 7, 0, 1, 2, 3, 4, 5, 6, 7], [7, 8])])
def spec_l5Spoil.B11 : List Nat := [0, 1, 0, 4, 12, 28, 60, 127, 255, 511]
theorem spec_l5Spoil.tab11 : rtab .any (opsOf Try.f120 11) = spec_l5Spoil.T11 := by kernel_rfl
theorem spec_l5Spoil.bits11 : waitsOk spec_l5Spoil.T11.2 spec_l5Spoil.B11 = true := by kernel_rfl
def spec_l5Spoil.T13 : Bool × List (List Nat × List Nat) := (true, [([], []), ([0], [0]), ([], []), ([], []), ([], []), ([3, 4], [3, 4]), ([1, 2, 0, 1, 2, 3, 4, 5], [1, 2]), ([6, 0, 1, 2, 3, 4, 5], [6]), ([7, 5, 5, 0, 1, 2, 3, 4, 5], [5, 7])])
def spec_l5Spoil.B13 : List Nat := [0, 1, 0, 0, 0, 24, 63, 127, 255]
theorem spec_l5Spoil.tab13 : rtab .any (opsOf Try.f120 13) = spec_l5Spoil.T13 := by kernel_rfl
theorem spec_l5Spoil.bits13 : waitsOk spec_l5Spoil.T13.2 spec_l5Spoil.B13 = true := by kernel_rfl
def spec_l5Spoil.T15 : Bool × List (List Nat × List Nat) := (true, [([], []), ([0], [0]), ([], []), ([], []), ([3], [3]), ([], []), ([4, 5], [4, 5]), ([6], [6]), ([7], [7]), ([], []), ([], []), ([9, 10], [9, 10]), ([11], [11]), ([8, 12, 11], [8, 12]), ([1, 2, 0, 1, 2, 3, 4, 5, 6, 7, 8, 9, 10, 11, 12, 13], [1, 2]), ([14, 0, 1, 2, 3, 4, 5, 6, 7, 8, 9, 10, 11, 12, 13], [14]), ([15, 13, 13, 0, 1, 2, 3, 4, 5, 6, 7, 8, 9, 10, 11, 12, 13], [13, 15])])
def spec_l5Spoil.B15 : List Nat := [0, 1, 0, 0, 8, 0, 56, 120, 248, 0, 0, 1536, 3584, 8184, 16383, 32767, 65535]
theorem spec_l5Spoil.tab15 : rtab .any (opsOf Try.f120 15) = spec_l5Spoil.T15 := by kernel_rfl
theorem spec_l5Spoil.bits15 : waitsOk spec_l5Spoil.T15.2 spec_l5Spoil.B15 = true := by kernel_rfl
def spec_l5Spoil.T17 : Bool × List (List Nat × List Nat) := (true, [([], []), ([0], [0]), ([], []), ([], []), ([3], [3]), ([], []), ([4, 5], [4, 5]), ([6], [6]), ([7], [7]), ([], []), ([], []), ([9, 10], [9, 10]), ([11], [11]), ([8, 12, 11], [8, 12]), ([1, 2, 0, 1, 2, 3, 4, 5, 6, 7, 8, 9, 10, 11, 12, 13], [1, 2]), ([14, 0, 1, 2, 3, 4, 5, 6, 7, 8, 9, 10, 11, 12, 13], [14]), ([15, 13, 13, 0, 1, 2, 3, 4, 5, 6, 7, 8, 9, 10, 11, 12, 13], [13, 15])])
def spec_l5Spoil.B17 : List Nat := [0, 1, 0, 0, 8, 0, 56, 120, 248, 0, 0, 1536, 3584, 8184, 16383, 32767, 65535]
theorem spec_l5Spoil.tab17 : rtab .any (opsOf Try.f120 17) = spec_l5Spoil.T17 := by kernel_rfl
theorem spec_l5Spoil.bits17 : waitsOk spec_l5Spoil.T17.2 spec_l5Spoil.B17 = true := by kernel_rfl
theorem spec_l5Spoil.calls (k : Nat) (g : Nat) (s0_0 : List Int) (s0_1 : Int) (A1_0 : Option Addr) (c1_0 : Nat) (l1_0 : List ByteArray) (A1_1 : Option Addr) (c1_1 : Nat) (l1_1 : List (S56)) (r1 : List ByteArray) (r2 : List (S56)) (r3 : Int) (w0 w : World) (hI : IsS103 w0 w g s0_0 s0_1) (hB : Below w0.heap.size w0 w) (hr1_0 : Kd.C Kd.string w A1_0 l1_0.length l1_0) (hc1_0 : l1_0.length ≤ c1_0) (hf1_0 : ∀ ad, A1_0 = some ad → 0 < l1_0.length → ad.block ≠ g) (hr1_1 : ∀ W_, KeepBut w W_ g none → Kd.C k56 W_ A1_1 l1_1.length l1_1) (hc1_1 : l1_1.length ≤ c1_1) (h : spec_l5Spoil.f k s0_0 s0_1 l1_0 l1_1 = some (r1, r2, r3)) :
  Calls Try.prog 120 #[.pointer (some ⟨g, 0, none⟩), .agg #[.slice A1_0 l1_0.length c1_0, .slice A1_1 l1_1.length c1_1]] w fun e w' => ∃ v0_ v1_ : Value, e = .returned (.agg #[v0_, v1_]) ∧ Kd.R Kd.string 9 w' w.heap.size (fun k_ => (w.heap.size ≤ k_)) v0_ r1 ∧ Kd.N k56 56 w' w.heap.size (fun k_ => (w.heap.size ≤ k_) ∧ some k_ ≠ (v0_ : Value).ownBlock) v1_ r2 ∧ IsS103 w0 w' g s0_0 r3 ∧ Below w0.heap.size w0 w' ∧ KeepBut w w' g none := by
 have hu31 := Try.underlying31
 have hu56 := Try.underlying56
 have HR1_0 := am hr1_0
 have HC1_0 := am hc1_0
 clear hr1_0 hc1_0
 have HR1_1 := am hr1_1
 have HC1_1 := am hc1_1
 clear hr1_1 hc1_1
 have HI0 := am hI
 have HK := am (KeepBut.refl w g none)
 have HL := am hB.size
 clear hI
 have HW0 := am hB.size
 have HB := am hB
 clear hB
 unfold spec_l5Spoil.f at h
 have H := h
 clear h
 obtain ⟨⟨t103, t106⟩, A3, H⟩ := bd H
 dsimp only at H
 have HC4 := am H
 clear H
 go_enter Try.func120, Try.ntmps120
 go_upto_region 2 with (first | ((with_reducible refine gD 3 ?_); refine bX 3 #[.slice A1_0 l1_0.length c1_0, .slice A1_1 l1_1.length c1_1] 31 ?_; intro gb101 hg w5 hbox hb; replace HB := bS pY88 hb; have BK101 := am (hbox); have GW101 := am (pY74 : w.heap.size ≤ gb101); have GE101 := am (Nat.le_trans HW0.out (pY74 : w.heap.size ≤ gb101) : w0.heap.size ≤ gb101); replace HK := am (KeepBut.trans (pY93) (KeepBut.of_below hb g none) (.inl rfl)); have NB0_101 := am (by rw [hg]; exact Nat.ne_of_lt (IsS103.lt (show IsS103 w0 _ g s0_0 s0_1 from pY92)) : g ≠ gb101); have NB101_0 := am (by rw [hg]; exact Nat.ne_of_gt (IsS103.lt (show IsS103 w0 _ g s0_0 s0_1 from pY92)) : gb101 ≠ g); replace HI0 := am (IsS103.below (pY92) hb); clear hb hbox hg) | ((with_reducible refine gD 4 ?_); refine bX 4 #[.slice none 0 0, .slice none 0 0] 31 ?_; intro gb102 hg w6 hbox hb; replace HB := bS pY76 hb; have BK102 := am (hbox); have GW102 := am (pY54 : w.heap.size ≤ gb102); have GE102 := am (Nat.le_trans HW0.out (pY54 : w.heap.size ≤ gb102) : w0.heap.size ≤ gb102); replace HK := am (KeepBut.trans (pY87) (KeepBut.of_below hb g none) (.inl rfl)); have NB101_102 := nL pY98 hg; have NB102_101 := nG pY98 hg; replace BK101 := bB pY98 hb; have NB0_102 := am (by rw [hg]; exact Nat.ne_of_lt (IsS103.lt (show IsS103 w0 _ g s0_0 s0_1 from pY85)) : g ≠ gb102); have NB102_0 := am (by rw [hg]; exact Nat.ne_of_gt (IsS103.lt (show IsS103 w0 _ g s0_0 s0_1 from pY85)) : gb102 ≠ g); replace HI0 := am (IsS103.below (pY85) hb); clear hb hbox hg; have hnb7 := NB101_102.1; have hnc7 := NB102_101.1; have hnb8 := NB101_0.1; have hnc8 := NB0_101.1; obtain ⟨hcz9_0, hcz9_1, hfz9_0, hfz9_1⟩ := cz2 BK101) | ((with_reducible refine gC 89 ?_); refine cE (some 10) Try.func89 (spec_l1Copy.calls k _ _ l1_0 _ _ l1_1 t103 t106 _ (Kd.C_keep (⟨#[]⟩ : ByteArray) HR1_0.1 (pY72) hf1_0) HC1_0.1 (Kd.C_foot_now HR1_1.1 (pY72)) HC1_1.1 A3.out) ?_; rintro e w10 ⟨v104, v107, rfl, ho0, ho1, hb⟩; refine ⟨_, rfl, ?_⟩; have HO105 := am (Kd.R_lower ho0 (keep_size (w := w) (g := g) (row := none) (pY72))); have HO108 := am (Kd.S_lower ho1 (keep_size (w := w) (g := g) (row := none) (pY72))); replace BK101 := bB pY98 hb; replace BK102 := bB pY99 hb; replace HK := am (KeepBut.trans (pY72) (KeepBut.of_below hb g none) (.inl rfl)); replace HB := bS pY57 hb; replace HI0 := am (IsS103.below (pY67) hb); (try clear hb); (try clear ho0); (try clear ho1)) | ((with_reducible refine gD 5 ?_); refine bX 5 #[.slice none 0 0, .slice none 0 0] 31 ?_; intro gb109 hg w11 hbox hb; replace HO105 := am (Kd.R_below (pY120) hb); replace HO108 := am (Kd.S_below (rS HO108.1) hb); replace HB := bS pY57 hb; have BK109 := am (hbox); have GW109 := am (pY19 : w.heap.size ≤ gb109); have GE109 := am (Nat.le_trans HW0.out (pY19 : w.heap.size ≤ gb109) : w0.heap.size ≤ gb109); replace HK := am (KeepBut.trans (pY72) (KeepBut.of_below hb g none) (.inl rfl)); have NB101_109 := nL pY98 hg; have NB109_101 := nG pY98 hg; replace BK101 := bB pY98 hb; have NB102_109 := nL pY99 hg; have NB109_102 := nG pY99 hg; replace BK102 := bB pY99 hb; have NB0_109 := am (by rw [hg]; exact Nat.ne_of_lt (IsS103.lt (show IsS103 w0 _ g s0_0 s0_1 from pY67)) : g ≠ gb109); have NB109_0 := am (by rw [hg]; exact Nat.ne_of_gt (IsS103.lt (show IsS103 w0 _ g s0_0 s0_1 from pY67)) : gb109 ≠ g); replace HI0 := am (IsS103.below (pY67) hb); clear hb hbox hg; obtain ⟨Ao12, co12, eo12⟩ := Kd.R_slice HO105.1; subst eo12; have hnb13 := NB109_101.1; have hnc13 := NB101_109.1; have hnb14 := NB109_102.1; have hnc14 := NB102_109.1; have hnb15 := NB109_0.1; have hnc15 := NB0_109.1; obtain ⟨hcz16_0, hcz16_1, hfz16_0, hfz16_1⟩ := cz2 BK109; obtain ⟨Ao17, co17, eo17⟩ := Kd.S_slice HO108.1; subst eo17))
 (try simp only [Act.put, List.setIfInBounds_toArray, List.set_cons_zero, List.set_cons_succ])
 go_cut [19] (fun v19 wc => ∃ (kq : Nat) (x19_3 : Bool) (x1001_3 : Int), v19 = .bool x19_3 ∧ Aside0 (spec_l5Spoil.j0 kq x19_3 s0_0 x1001_3 t103 t106 = some (r1, r2, r3)) ∧ Aside0 (kq ≤ k) ∧ Aside0 (Kd.R Kd.string 9 wc w.heap.size (fun _ => True) (.slice Ao12 t103.length co12) t103) ∧ Aside0 (Kd.S k56 56 wc w.heap.size (fun k_ => some k_ ≠ ((.slice Ao12 t103.length co12) : Value).ownBlock) (.slice Ao17 t106.length co17) t106) ∧ Aside0 (wc.heap[gb101]? = some (.cells #[(.slice A1_0 l1_0.length c1_0), (.slice A1_1 l1_1.length c1_1)] 31 (0, 0))) ∧ Aside0 (wc.heap[gb102]? = some (.cells #[(.slice none 0 0), (.slice none 0 0)] 31 (0, 0))) ∧ Aside0 (wc.heap[gb109]? = some (.cells #[(.slice Ao12 t103.length co12), (.slice Ao17 t106.length co17)] 31 (0, 0))) ∧ Aside0 (IsS103 w0 wc g s0_0 x1001_3) ∧ Aside0 (KeepBut w wc g none) ∧ Aside0 (Below w0.heap.size w0 wc))
 case first =>
  have H := HC4.1
  clear HC4
  by_cases c18 : (t106.length : Int) = 0
  ·rw [if_pos c18] at H
   have c18b0 : ((t106.length : Int) == 0) = true := beq_iff_eq.mpr c18
   have c18b1 : ((t106.length : Int) != 0) = false := bne_eq_false_iff_eq.mpr c18
   clear c18
   (first | rw [c18b0] | (simp only [i64_w, i32_w]; rw [c18b0]) | skip)
   have H' := am H
   clear H
   have hnb19 := NB109_101.1
   have hnc19 := NB101_109.1
   have hnb20 := NB109_102.1
   have hnc20 := NB102_109.1
   have hnb21 := NB109_0.1
   have hnc21 := NB0_109.1
   obtain ⟨hcz22_0, hcz22_1, hfz22_0, hfz22_1⟩ := cz2 BK109
   go_wp2
   go_meet
   case rel => exact ⟨_, (true), (s0_1), (pY136), H', ⟨by first | omega | exact Nat.le_refl _⟩, ⟨by refine rR ?_; exact Kd.R_mono (fR (fR (tR HO105 BK109))) (fun _ hk => trivial)⟩, ⟨by refine rS ?_; exact Kd.S_mono (fS (fS (tS HO108 BK109))) (fun _ hk => hk.1)⟩, ⟨by refine rB ?_; refine blk_far ?_ NB101_109.1 _; refine rB ?_; refine blk_far ?_ NB101_109.1 _; refine rB ?_; exact BK101.1⟩, ⟨by refine rB ?_; refine blk_far ?_ NB102_109.1 _; refine rB ?_; refine blk_far ?_ NB102_109.1 _; refine rB ?_; exact BK102.1⟩, ⟨by refine rB ?_; refine blk_put (cs := #[.slice Ao12 t103.length co12, .slice none 0 0]) ?_ 1 _ rfl; refine rB ?_; refine blk_put (cs := #[.slice none 0 0, .slice none 0 0]) ?_ 0 _ rfl; refine rB ?_; exact BK109.1⟩, ⟨pY35⟩, ⟨pY51⟩, ⟨pY24⟩⟩
  ·rw [if_neg c18] at H
   have c18b0 : ((t106.length : Int) == 0) = false := beq_eq_false_iff_ne.mpr c18
   have c18b1 : ((t106.length : Int) != 0) = true := bne_iff_ne.mpr c18
   have c18b2 : ¬ (t106 = []) := fun h_ => c18 (by rw [h_]; rfl)
   (first | rw [c18b0] | (simp only [i64_w, i32_w]; rw [c18b0]) | skip)
   obtain ⟨⟨t110, t111⟩, A23, H⟩ := bd H
   dsimp only at H
   have H' := am H
   clear H
   have hnb24 := NB109_101.1
   have hnc24 := NB101_109.1
   have hnb25 := NB109_102.1
   have hnc25 := NB102_109.1
   have hnb26 := NB109_0.1
   have hnc26 := NB0_109.1
   obtain ⟨hcz27_0, hcz27_1, hfz27_0, hfz27_1⟩ := cz2 BK109
   go_wp2_with (first | (go_at_call 100; refine cM (spec_l1Rd_pick.calls k g s0_0 s0_1 4 t110 t111 w0 _ ((pY35)) ((pY24)) A23.out) ?_; rintro w28 ⟨hi, hb, hk⟩; replace BK101 := am (KeepBut.blk hk (g' := gb101) (o := .cells #[.slice A1_0 l1_0.length c1_0, .slice A1_1 l1_1.length c1_1] 31 (0, 0)) (pY10) NB101_0.1 (by simp)); replace BK102 := am (KeepBut.blk hk (g' := gb102) (o := .cells #[.slice none 0 0, .slice none 0 0] 31 (0, 0)) (by refine rB ?_; refine blk_far ?_ NB102_109.1 _; refine rB ?_; refine blk_far ?_ NB102_109.1 _; refine rB ?_; exact BK102.1) NB102_0.1 (by simp)); replace HO105 := am (Kd.R_mono (Kd.R_keep (IsS103.apart (show IsS103 w0 _ g s0_0 s0_1 from pY35) (by refine rR ?_; exact (Kd.R_mono (fR (fR (tR HO105 BK109))) (fun _ h_ => h_.1))) (by decide)) hk (fun _ h => h.2)) (fun _ h => h.1)); replace HO108 := am (Kd.S_mono (Kd.S_keep (IsS103.apartS (show IsS103 w0 _ g s0_0 s0_1 from pY35) (by refine rS ?_; exact (Kd.S_mono (fS (fS (tS HO108 BK109))) (fun _ h_ => h_.1))) (by decide)) hk (fun _ h => h.2)) (fun _ h => h.1)); replace BK109 := am (KeepBut.blk hk (g' := gb109) (o := .cells #[.slice Ao12 t103.length co12, .slice Ao17 t106.length co17] 31 (0, 0)) (by refine rB ?_; refine blk_put (cs := #[.slice Ao12 t103.length co12, .slice none 0 0]) ?_ 1 _ rfl; refine rB ?_; refine blk_put (cs := #[.slice none 0 0, .slice none 0 0]) ?_ 0 _ rfl; refine rB ?_; exact BK109.1) NB109_0.1 (by simp)); replace HK := am (KeepBut.trans (pY51) hk (.inl rfl)); replace HB := am (hb); replace HI0 := am (hi); (try clear hb); (try clear hk); (try clear hi)))
   go_meet
   case rel => exact ⟨_, ((t110 == 0)), (t111), (pY136), H', ⟨by first | omega | exact Nat.le_refl _⟩, ⟨rR HO105.1⟩, ⟨rS HO108.1⟩, ⟨rB BK101.1⟩, ⟨rB BK102.1⟩, ⟨rB BK109.1⟩, ⟨pY35⟩, ⟨pY51⟩, ⟨pY24⟩⟩
 case rest =>
  clear HC4
  try clear hcz16_0 hcz16_1 hfz16_0 hfz16_1
  try clear hcz9_0 hcz9_1 hfz9_0 hfz9_1
  obtain ⟨kq, x19_3, x1001_3, rfl, HA, HJ3, HO_110000, HO_110001, BK101, BK102, BK109, HI0, HK, HB⟩ := hcut
  cases kq with
  | zero => exact absurd HA.out (by simp [spec_l5Spoil.j0])
  | succ kj3 =>
   have H := HA.out
   clear HA
   simp only [spec_l5Spoil.j0] at H
   refine tC H ?_ ?_ <;> clear H <;> intro c29 H <;> subst c29
   obtain ⟨y112, Ny112⟩ := yv (([(⟨#[]⟩ : ByteArray), (⟨#[65]⟩ : ByteArray), (⟨#[97]⟩ : ByteArray), (⟨#[122, 122]⟩ : ByteArray)] : List ByteArray)); first | replace H := bW Ny112 H | rw [← Ny112.1] at H
   obtain ⟨⟨t115, t116⟩, A30, H⟩ := bd H
   dsimp only at H
   by_cases c31 : t103.length < 8796093022208
   rw [if_pos c31] at H
   have LMc31 := am c31
   clear c31
   obtain ⟨y117, Ny117⟩ := yv (t103 ++ [t115]); first | replace H := bW Ny117 H | rw [← Ny117.1] at H
   simp only [Option.some.injEq, Prod.mk.injEq] at H
   obtain ⟨rfl, rfl, rfl⟩ := H
   rotate_left
   rw [if_neg c31] at H
   exact absurd H (by simp)
   obtain ⟨⟨t120, t121⟩, A47, H⟩ := bd H
   dsimp only at H
   obtain ⟨⟨t122, t123⟩, A48, H⟩ := bd H
   dsimp only at H
   by_cases c49 : t122 = 0
   rw [if_pos c49] at H
   have c49b0 : (t122 == 0) = true := beq_iff_eq.mpr c49
   have c49b1 : (t122 != 0) = false := bne_eq_false_iff_eq.mpr c49
   clear c49
   obtain ⟨y124, Ny124⟩ := yv (([(⟨#[]⟩ : ByteArray), (⟨#[66]⟩ : ByteArray), (⟨#[122, 122]⟩ : ByteArray), (⟨#[97]⟩ : ByteArray)] : List ByteArray)); first | replace H := bW Ny124 H | rw [← Ny124.1] at H
   obtain ⟨⟨t127, t128⟩, A50, H⟩ := bd H
   dsimp only at H
   obtain ⟨c51b0, H⟩ := cN H
   obtain ⟨c52b0, H⟩ := cN H
   obtain ⟨y129, Ny129⟩ := yv (t106.set (t120 : Int).toNat (⟨t127, (rd_T56 t106 t120).f1, (rd_T56 t106 t120).f2⟩ : S56)); first | replace H := bW Ny129 H | rw [← Ny129.1] at H
   simp only [Option.some.injEq, Prod.mk.injEq] at H
   obtain ⟨rfl, rfl, rfl⟩ := H
   have hnb54 := NB109_101.1
   have hnc54 := NB101_109.1
   have hnb55 := NB109_102.1
   have hnc55 := NB102_109.1
   have hnb56 := NB109_0.1
   have hnc56 := NB0_109.1
   obtain ⟨hcz57_0, hcz57_1, hfz57_0, hfz57_1⟩ := cz2 BK109
   have M72_ := trivial
   have M73_ := trivial
   rotate_left
   rw [if_neg c49] at H
   have c49b0 : (t122 == 0) = false := beq_eq_false_iff_ne.mpr c49
   have c49b1 : (t122 != 0) = true := bne_iff_ne.mpr c49
   by_cases c71 : t122 = 1
   rw [if_pos c71] at H
   have c71b0 : (t122 == 1) = true := beq_iff_eq.mpr c71
   have c71b1 : (t122 != 1) = false := bne_eq_false_iff_eq.mpr c71
   clear c71
   obtain ⟨c72b0, H⟩ := cN H
   obtain ⟨c73b0, H⟩ := cN H
   obtain ⟨y131, Ny131⟩ := yv (([(⟨#[]⟩ : ByteArray), (⟨#[122, 122]⟩ : ByteArray), (⟨#[107, 101, 103]⟩ : ByteArray), (⟨#[119]⟩ : ByteArray)] : List ByteArray)); first | replace H := bW Ny131 H | rw [← Ny131.1] at H
   obtain ⟨⟨t134, t135⟩, A74, H⟩ := bd H
   dsimp only at H
   by_cases c75 : ((rd_T56 t106 t120).f2).length < 8796093022208
   rw [if_pos c75] at H
   have LMc75 := am c75
   clear c75
   obtain ⟨y136, Ny136⟩ := yv (((rd_T56 t106 t120).f2) ++ [t134]); first | replace H := bW Ny136 H | rw [← Ny136.1] at H
   obtain ⟨y139, Ny139⟩ := yv (t106.set (t120 : Int).toNat (⟨(rd_T56 t106 t120).f0, (rd_T56 t106 t120).f1, y136⟩ : S56)); first | replace H := bW Ny139 H | rw [← Ny139.1] at H
   simp only [Option.some.injEq, Prod.mk.injEq] at H
   obtain ⟨rfl, rfl, rfl⟩ := H
   have hnb77 := NB109_101.1
   have hnc77 := NB101_109.1
   have hnb78 := NB109_102.1
   have hnc78 := NB102_109.1
   have hnb79 := NB109_0.1
   have hnc79 := NB0_109.1
   obtain ⟨hcz80_0, hcz80_1, hfz80_0, hfz80_1⟩ := cz2 BK109
   have M72_ := trivial
   have M73_ := trivial
   rotate_left
   rw [if_neg c75] at H
   exact absurd H (by simp)
   rw [if_neg c71] at H
   have c71b0 : (t122 == 1) = false := beq_eq_false_iff_ne.mpr c71
   have c71b1 : (t122 != 1) = true := bne_iff_ne.mpr c71
   by_cases c98 : t122 = 2
   rw [if_pos c98] at H
   have c98b0 : (t122 == 2) = true := beq_iff_eq.mpr c98
   have c98b1 : (t122 != 2) = false := bne_eq_false_iff_eq.mpr c98
   clear c98
   obtain ⟨c99b0, H⟩ := cN H
   obtain ⟨c100b0, H⟩ := cN H
   obtain ⟨y141, Ny141⟩ := yv (([(⟨#[]⟩ : ByteArray), (⟨#[122, 122]⟩ : ByteArray), (⟨#[107, 101, 103]⟩ : ByteArray), (⟨#[119]⟩ : ByteArray)] : List ByteArray)); first | replace H := bW Ny141 H | rw [← Ny141.1] at H
   obtain ⟨⟨t144, t145⟩, A101, H⟩ := bd H
   dsimp only at H
   by_cases c102 : ((rd_T56 t106 t120).f1).length < 8796093022208
   rw [if_pos c102] at H
   have LMc102 := am c102
   clear c102
   obtain ⟨y146, Ny146⟩ := yv (((rd_T56 t106 t120).f1) ++ [t144]); first | replace H := bW Ny146 H | rw [← Ny146.1] at H
   obtain ⟨y149, Ny149⟩ := yv (t106.set (t120 : Int).toNat (⟨(rd_T56 t106 t120).f0, y146, (rd_T56 t106 t120).f2⟩ : S56)); first | replace H := bW Ny149 H | rw [← Ny149.1] at H
   simp only [Option.some.injEq, Prod.mk.injEq] at H
   obtain ⟨rfl, rfl, rfl⟩ := H
   have hnb104 := NB109_101.1
   have hnc104 := NB101_109.1
   have hnb105 := NB109_102.1
   have hnc105 := NB102_109.1
   have hnb106 := NB109_0.1
   have hnc106 := NB0_109.1
   obtain ⟨hcz107_0, hcz107_1, hfz107_0, hfz107_1⟩ := cz2 BK109
   have M72_ := trivial
   have M73_ := trivial
   rotate_left
   rw [if_neg c102] at H
   exact absurd H (by simp)
   rw [if_neg c98] at H
   have c98b0 : (t122 == 2) = false := beq_eq_false_iff_ne.mpr c98
   have c98b1 : (t122 != 2) = true := bne_iff_ne.mpr c98
   by_cases c125 : t122 = 3
   rw [if_pos c125] at H
   have c125b0 : (t122 == 3) = true := beq_iff_eq.mpr c125
   have c125b1 : (t122 != 3) = false := bne_eq_false_iff_eq.mpr c125
   clear c125
   obtain ⟨c126b0, H⟩ := cN H
   obtain ⟨c127b0, H⟩ := cN H
   by_cases cL : t106.length < 2199023255552
   rw [if_pos cL] at H
   have LM := am cL
   clear cL
   simp only [Option.some.injEq, Prod.mk.injEq] at H
   obtain ⟨rfl, rfl, rfl⟩ := H
   have hnb77 := NB109_101.1
   have hnc77 := NB101_109.1
   have hnb78 := NB109_102.1
   have hnc78 := NB102_109.1
   have hnb79 := NB109_0.1
   have hnc79 := NB0_109.1
   obtain ⟨hcz80_0, hcz80_1, hfz80_0, hfz80_1⟩ := cz2 BK109
   have M72_ := trivial
   have M73_ := trivial
   rotate_left
   rw [if_neg cL] at H
   exact absurd H (by simp)
   rw [if_neg c125] at H
   have c125b0 : (t122 == 3) = false := beq_eq_false_iff_ne.mpr c125
   have c125b1 : (t122 != 3) = true := bne_iff_ne.mpr c125
   obtain ⟨⟨t151, t152⟩, A128, H⟩ := bd H
   dsimp only at H
   have H' := am H
   clear H
   have hnb129 := NB109_101.1
   have hnc129 := NB101_109.1
   have hnb130 := NB109_102.1
   have hnc130 := NB102_109.1
   have hnb131 := NB109_0.1
   have hnc131 := NB0_109.1
   obtain ⟨hcz132_0, hcz132_1, hfz132_0, hfz132_1⟩ := cz2 BK109
   have M72_ := trivial
   have M73_ := trivial
   have M74_ := trivial
   rotate_left
   all_goals
    try go_wp2_with (first | ((with_reducible refine gC 100 ?_); clear M72_; refine cQ (some 33) Try.func100 (spec_l1Rd_pick.calls kj3 g s0_0 x1001_3 (t106.length : Int) t120 t121 w0 _ ((pY35)) ((pY24)) A47.out) ?_; rintro w3880 ⟨hi, hb, hk⟩; replace HO_110000 := am (Kd.R_mono (Kd.R_keep (IsS103.apart (show IsS103 w0 _ g s0_0 x1001_3 from pY35) (pY117) (by decide)) hk (fun _ h => h.2)) (fun _ h => h.1)); replace HO_110001 := am (Kd.S_mono (Kd.S_keep (IsS103.apartS (show IsS103 w0 _ g s0_0 x1001_3 from pY35) (pY118) (by decide)) hk (fun _ h => h.2)) (fun _ h => h.1)); replace BK101 := kb pY98 hk NB101_0; replace BK102 := kb pY99 hk NB102_0; replace BK109 := kb pY106 hk NB109_0; replace HK := am (KeepBut.trans (pY51) hk (.inl rfl)); replace HB := am (hb); replace HI0 := am (hi); (try clear hb); (try clear hk); (try clear hi)) | ((with_reducible refine gC 100 ?_); clear M73_; refine cQ (some 35) Try.func100 (spec_l1Rd_pick.calls kj3 g s0_0 t121 5 t122 t123 w0 _ ((pY35)) ((pY24)) A48.out) ?_; rintro w3920 ⟨hi, hb, hk⟩; replace HO_110000 := am (Kd.R_mono (Kd.R_keep (IsS103.apart (show IsS103 w0 _ g s0_0 t121 from pY35) (pY117) (by decide)) hk (fun _ h => h.2)) (fun _ h => h.1)); replace HO_110001 := am (Kd.S_mono (Kd.S_keep (IsS103.apartS (show IsS103 w0 _ g s0_0 t121 from pY35) (pY118) (by decide)) hk (fun _ h => h.2)) (fun _ h => h.1)); replace BK101 := kb pY98 hk NB101_0; replace BK102 := kb pY99 hk NB102_0; replace BK109 := kb pY106 hk NB109_0; replace HK := am (KeepBut.trans (pY51) hk (.inl rfl)); replace HB := am (hb); replace HI0 := am (hi); (try clear hb); (try clear hk); (try clear hi)) | ((with_reducible refine gC 100 ?_); clear M74_; refine cQ (some 37) Try.func100 (spec_l1Rd_pick.calls kj3 g s0_0 t123 2 t151 t152 w0 _ ((pY35)) ((pY24)) A128.out) ?_; rintro w3960 ⟨hi, hb, hk⟩; replace HO_110000 := am (Kd.R_mono (Kd.R_keep (IsS103.apart (show IsS103 w0 _ g s0_0 t123 from pY35) (pY117) (by decide)) hk (fun _ h => h.2)) (fun _ h => h.1)); replace HO_110001 := am (Kd.S_mono (Kd.S_keep (IsS103.apartS (show IsS103 w0 _ g s0_0 t123 from pY35) (pY118) (by decide)) hk (fun _ h => h.2)) (fun _ h => h.1)); replace BK101 := kb pY98 hk NB101_0; replace BK102 := kb pY99 hk NB102_0; replace BK109 := kb pY106 hk NB109_0; replace HK := am (KeepBut.trans (pY51) hk (.inl rfl)); replace HB := am (hb); replace HI0 := am (hi); (try clear hb); (try clear hk); (try clear hi)))
   ·replace HO_110000 := am (Kd.R_drew HO_110000.1)
    replace HO_110001 := am (Kd.S_drew HO_110001.1)
    replace BK101 := am (blk_drew BK101.1)
    replace BK102 := am (blk_drew BK102.1)
    replace BK109 := am (blk_drew BK109.1)
    replace HI0 := am (IsS103.drew HI0.out)
    replace HK := am (keep_drew HK.out)
    replace HB := am (below_drew1 HB.1)
    refine sT [8] 9 (uA2 BK109) (fun hHeld => ?_); refine with_tabW spec_l5Spoil.tab3 spec_l5Spoil.bits3 (fun HT_ HW_ => ?_)
    generalize wc.drew = w32 at HO_110000 HO_110001 BK101 BK102 BK109 HI0 HK HB hHeld ⊢
    refine pU 0 (some 20) ?_
    refine pU 2 (some 22) ?_
    refine tK2 1 (some 21) ?_
    refine oN 3 (some 23) fun K hK => ?_
    refine Kd.R_lit_step Kd.string _ 9 ?hg (N := 23) ?hd (xs := ([(⟨#[]⟩ : ByteArray), (⟨#[65]⟩ : ByteArray), (⟨#[97]⟩ : ByteArray), (⟨#[122, 122]⟩ : ByteArray)] : List ByteArray)) (inner := [.string (⟨#[]⟩ : ByteArray), .string (⟨#[65]⟩ : ByteArray), .string (⟨#[97]⟩ : ByteArray), .string (⟨#[122, 122]⟩ : ByteArray)]) (ok := fun _ => True) (okp := fun _ => True) ?hr ?hp (fun _ hk => hk) trivial (Below.refl _ _) (Nat.le_refl _) (by simp) ?_; (case hd => rfl); (case hg => rfl); (case hr => first | (go_simp; done) | (go_simp; rfl)); (case hp => exact (Reps.one (show Kd.M Kd.string _ _ _ (⟨#[]⟩ : ByteArray) [.string (⟨#[]⟩ : ByteArray)] from rfl) (Reps.one (show Kd.M Kd.string _ _ _ (⟨#[65]⟩ : ByteArray) [.string (⟨#[65]⟩ : ByteArray)] from rfl) (Reps.one (show Kd.M Kd.string _ _ _ (⟨#[97]⟩ : ByteArray) [.string (⟨#[97]⟩ : ByteArray)] from rfl) (Reps.one (show Kd.M Kd.string _ _ _ (⟨#[122, 122]⟩ : ByteArray) [.string (⟨#[122, 122]⟩ : ByteArray)] from rfl) (Reps.none _ _))))))
    intro v113 w33 ho34 hb hg_ hnew_
    clear hg_ hnew_
    (first | rw [← Ny112.out] at ho34 | (simp only [Int.reduceToNat] at ho34; rw [← Ny112.out] at ho34))
    replace HO_110001 := am (Kd.S_elder' (pY118) (Kd.R_base ho34) hb)
    have HO114 := am (Kd.R_lower (Kd.R_new' ho34 (Kd.R_lt (pY117))) (keep_size (w := w) (g := g) (row := none) (pY51)))
    replace HO_110000 := am (Kd.R_elder' (pY117) (Kd.R_base ho34) hb)
    replace BK101 := bB pY98 hb
    replace BK102 := bB pY99 hb
    replace BK109 := bB pY106 hb
    replace HK := am (KeepBut.trans (pY51) (KeepBut.of_below hb g none) (.inl rfl))
    replace HB := bS pY24 hb
    replace HI0 := am (IsS103.below (pY35) hb)
    clear hb ho34
    obtain ⟨Ao35, co35, eo35⟩ := Kd.R_slice HO114.1
    (first | subst eo35 | (injection eo35 with f1_ f2_ f3_; have f4_ := f1_.symm; have f5_ := f3_.symm; clear f1_ f2_ f3_; subst f4_; subst f5_))
    refine hK.out _ _ (uA2 BK109).1 (fun hHeld => ?_)
    clear hK K
    refine nM ?_
    refine oN 4 (some 24) fun K hK => ?_
    refine gQ Try.func101 (spec_l1Rd_of.calls kj3 g s0_0 x1001_3 _ _ y112 t115 t116 w0 _ ((pY35)) ((pY24)) (pC (Kd.R_reads' HO114.1).2.2) ((Kd.R_reads' HO114.1).2.1) (far_slice (IsS103.own_ne HI0.out HO114.1 (by decide))) A30.out) ?_
    rintro w36 ⟨hi, hb, hk⟩
    replace HO_110000 := am (Kd.R_mono (Kd.R_keep (IsS103.apart (show IsS103 w0 _ g s0_0 x1001_3 from pY35) (pY117) (by decide)) hk (fun _ h => h.2)) (fun _ h => h.1))
    replace HO_110001 := am (Kd.S_mono (Kd.S_keep (IsS103.apartS (show IsS103 w0 _ g s0_0 x1001_3 from pY35) (pY118) (by decide)) hk (fun _ h => h.2)) (fun _ h => h.1))
    replace BK101 := kb pY98 hk NB101_0
    replace BK102 := kb pY99 hk NB102_0
    replace BK109 := kb pY106 hk NB109_0
    replace HO114 := am (Kd.R_mono (Kd.R_keep (IsS103.apart (show IsS103 w0 _ g s0_0 x1001_3 from pY35) (rR HO114.1) (by decide)) hk (fun _ h => h.2)) (fun _ h => h.1))
    replace HK := am (KeepBut.trans (pY51) hk (.inl rfl))
    replace HB := am (hb)
    replace HI0 := am (hi)
    (try clear hb)
    (try clear hb2)
    (try clear hk)
    (try clear hi)
    refine hK.out _ _ (uA2 BK109).1 (fun hHeld => ?_)
    clear hK K
    refine nM ?_
    refine oN 5 (some 25) fun K hK => ?_
    refine value_ (w1 := ?_) (v := ?_) (by rfl) rfl ?_ ?_
    rotate_left 2
    ·go_simp
     constructor
     ·rfl
     ·rfl
    refine hK.out _ _ ⟨(blk_cell (blk_alloc BK109.1 _) 0).trans rfl, (blk_cell (blk_alloc BK109.1 _) 1).trans rfl⟩ (fun hHeld => ?_)
    clear hK K
    refine nM ?_
    refine oN 6 (some 26) fun K hK => ?_
    refine Kd.R_append_step Kd.string w.heap.size (by rfl) (.tmp 21) (.tmp 25) 23 9 (.string ⟨#[]⟩) 16 rfl Try.underlying23 info9 rfl (by decide) (by omega) (.slice Ao12 t103.length co12) t103 t115 [.string t115] (fun k_ => some k_ ≠ (.slice Ao35 y112.length co35 : Value).ownBlock) (fun _ => False) rfl rfl ?aP (fun _ hk => hk.elim) ?aF ?aO (Below.refl _ _) ?aS ?aL ?_
    (case aP => exact rfl)
    (case aF => exact (fun k_ hk => Kd.fresh' (Kd.R_lt (rR HO114.1)) k_ hk))
    (case aO => exact (by refine rR ?_; exact Kd.R_mono HO_110000.1 (fun _ hk => hk.2)))
    (case aS => exact (keep_size (w := w) (g := g) (row := none) (pY51)))
    (case aL => have := LMc31.out; omega)
    intro v118 w37 ho hb hg hat
    rw [← Ny117.out] at ho
    replace HO_110001 := am (Kd.S_after (ok := (fun k_ => some k_ ≠ (.slice Ao35 y112.length co35 : Value).ownBlock)) (by refine rS ?_; exact Kd.S_mono HO_110001.1 (fun _ hk => ⟨hk.2, hk.1⟩)) hg hat)
    replace BK101 := gR pY98 hg HO_110000 BK101
    replace BK102 := gR pY99 hg HO_110000 BK102
    replace BK109 := gR pY106 hg HO_110000 BK109
    replace HO114 := am (Kd.R_after (ok := (fun _ => True)) (rR HO114.1) hg hat)
    replace HB := am (below_weaken (pY24) HL.out hb)
    replace HI0 := am (IsS103.grown (pY35) hg (IsS103.own_ne HI0.out HO_110000.1 (by decide)))
    replace HK := am (KeepBut.trans (pY51) (KeepBut.of_grown hg g) (Kd.R_base2 HO_110000.1))
    have HO119 := am (ho)
    clear HO_110000
    clear ho hb hg hat
    obtain ⟨Ao38, co38, eo38⟩ := Kd.R_slice HO119.1
    (first | subst eo38 | (injection eo38 with f1_ f2_ f3_; have f4_ := f1_.symm; have f5_ := f3_.symm; clear f1_ f2_ f3_; subst f4_; subst f5_))
    refine hK.out _ _ (uA2 BK109).1 (fun hHeld => ?_)
    clear hK K
    refine nM ?_
    refine pU 7 (some 27) ?_
    refine last_ (i := 8) (N := none) (bz 9 511) rfl rfl (one_of HT_.out (by kernel_rfl)) (by decide) (fun K hK => ?_)
    have hs39 : w37.cell? ⟨gb109, 0, none⟩ = some (.slice Ao12 t103.length co12) := (blk_cell BK109.1 0).trans rfl
    have hfs39 := blk_frozen BK109.1 0
    have hns39_0 := NB101_109.1
    have hns39_1 := NB102_109.1
    have hms39_0 := NB109_101.1
    have hms39_1 := NB109_102.1
    refine skip_ (w1 := ?_) (by rfl) rfl ?_ ?_
    rotate_left
    ·go_simp
     rfl
    refine hK.out _ _ ?_
    clear hK K
    refine done_ (done_of HT_.out (by kernel_rfl)) ?_
    have hnb40 := NB109_101.1
    have hnc40 := NB101_109.1
    have hnb41 := NB109_102.1
    have hnc41 := NB102_109.1
    have hnb42 := NB109_0.1
    have hnc42 := NB0_109.1
    obtain ⟨hcz43_0, hcz43_1, hfz43_0, hfz43_1⟩ := cz2 BK109
    have hnb44 := NB102_101.1
    have hnc44 := NB101_102.1
    have hnb45 := NB102_0.1
    have hnc45 := NB0_102.1
    obtain ⟨hcz46_0, hcz46_1, hfz46_0, hfz46_1⟩ := cz2 BK102
    try go_wp2
    refine bodyPost_ret (results_cell_row rfl _ _ gb102 31 #[.slice Ao38 y117.length co38, .slice Ao17 t106.length co17] (0, 0) _ rfl (by refine rB ?_; refine blk_put (cs := #[.slice Ao38 y117.length co38, .slice none 0 0]) ?_ 1 _ rfl; refine rB ?_; refine blk_put (cs := #[.slice none 0 0, .slice none 0 0]) ?_ 0 _ rfl; refine rB ?_; refine blk_far ?_ NB102_109.1 _; refine rB ?_; exact BK102.1) Try.underlying31 rfl (by kernel_rfl)) rfl ?_
    refine toN_ ?_
    exact ⟨_, _, eR, by refine rR ?_; exact Kd.R_mono (fR (fR (Kd.R_far (p := ⟨gb109, 0, none⟩) (Kd.R_types (tR HO119 BK109) BK102.1 (by decide)) (fun _ hk => hk.1.2) (.slice Ao38 y117.length co38)))) (fun _ hk => trivial), by refine rS ?_; exact Kd.S_mono (fS (fS (Kd.S_far (p := ⟨gb109, 0, none⟩) (Kd.S_types (tS HO_110001 BK109) BK102.1 (by decide)) (fun _ hk => hk.1.2) (.slice Ao38 y117.length co38)))) (fun _ hk => hk.1.1.2), pY35, pY24, pY51⟩
   ·replace HO_110000 := am (Kd.R_drew HO_110000.1)
    replace HO_110001 := am (Kd.S_drew HO_110001.1)
    replace BK101 := am (blk_drew BK101.1)
    replace BK102 := am (blk_drew BK102.1)
    replace BK109 := am (blk_drew BK109.1)
    replace HI0 := am (IsS103.drew HI0.out)
    replace HK := am (keep_drew HK.out)
    replace HB := am (below_drew1 HB.1)
    refine sT [8] 9 (uA2 BK109) (fun hHeld => ?_); refine with_tabW spec_l5Spoil.tab13 spec_l5Spoil.bits13 (fun HT_ HW_ => ?_)
    generalize w3920.drew = w60 at HO_110000 HO_110001 BK101 BK102 BK109 HI0 HK HB hHeld ⊢
    refine pU 0 (some 57) ?_
    refine pU 2 (some 59) ?_
    refine pU 3 (some 60) ?_
    refine tK2 1 (some 58) ?_
    refine oN 4 (some 61) fun K hK => ?_
    refine Kd.R_lit_step Kd.string _ 9 ?hg (N := 61) ?hd (xs := ([(⟨#[]⟩ : ByteArray), (⟨#[66]⟩ : ByteArray), (⟨#[122, 122]⟩ : ByteArray), (⟨#[97]⟩ : ByteArray)] : List ByteArray)) (inner := [.string (⟨#[]⟩ : ByteArray), .string (⟨#[66]⟩ : ByteArray), .string (⟨#[122, 122]⟩ : ByteArray), .string (⟨#[97]⟩ : ByteArray)]) (ok := fun _ => True) (okp := fun _ => True) ?hr ?hp (fun _ hk => hk) trivial (Below.refl _ _) (Nat.le_refl _) (by simp) ?_; (case hd => rfl); (case hg => rfl); (case hr => first | (go_simp; done) | (go_simp; rfl)); (case hp => exact (Reps.one (show Kd.M Kd.string _ _ _ (⟨#[]⟩ : ByteArray) [.string (⟨#[]⟩ : ByteArray)] from rfl) (Reps.one (show Kd.M Kd.string _ _ _ (⟨#[66]⟩ : ByteArray) [.string (⟨#[66]⟩ : ByteArray)] from rfl) (Reps.one (show Kd.M Kd.string _ _ _ (⟨#[122, 122]⟩ : ByteArray) [.string (⟨#[122, 122]⟩ : ByteArray)] from rfl) (Reps.one (show Kd.M Kd.string _ _ _ (⟨#[97]⟩ : ByteArray) [.string (⟨#[97]⟩ : ByteArray)] from rfl) (Reps.none _ _))))))
    intro v125 w61 ho62 hb hg_ hnew_
    clear hg_ hnew_
    (first | rw [← Ny124.out] at ho62 | (simp only [Int.reduceToNat] at ho62; rw [← Ny124.out] at ho62))
    replace HO_110001 := am (Kd.S_elder' (pY118) (Kd.R_base ho62) hb)
    have HO126 := am (Kd.R_lower (Kd.R_new' ho62 (Kd.R_lt (pY117))) (keep_size (w := w) (g := g) (row := none) (pY51)))
    replace HO_110000 := am (Kd.R_elder' (pY117) (Kd.R_base ho62) hb)
    replace BK101 := bB pY98 hb
    replace BK102 := bB pY99 hb
    replace BK109 := bB pY106 hb
    replace HK := am (KeepBut.trans (pY51) (KeepBut.of_below hb g none) (.inl rfl))
    replace HB := bS pY24 hb
    replace HI0 := am (IsS103.below (pY35) hb)
    clear hb ho62
    obtain ⟨Ao63, co63, eo63⟩ := Kd.R_slice HO126.1
    (first | subst eo63 | (injection eo63 with f1_ f2_ f3_; have f4_ := f1_.symm; have f5_ := f3_.symm; clear f1_ f2_ f3_; subst f4_; subst f5_))
    refine hK.out _ _ (uA2 BK109).1 (fun hHeld => ?_)
    clear hK K
    refine nM ?_
    refine oN 5 (some 62) fun K hK => ?_
    refine gQ Try.func101 (spec_l1Rd_of.calls kj3 g s0_0 t123 _ _ y124 t127 t128 w0 _ ((pY35)) ((pY24)) (pC (Kd.R_reads' HO126.1).2.2) ((Kd.R_reads' HO126.1).2.1) (far_slice (IsS103.own_ne HI0.out HO126.1 (by decide))) A50.out) ?_
    rintro w64 ⟨hi, hb, hk⟩
    replace HO_110000 := am (Kd.R_mono (Kd.R_keep (IsS103.apart (show IsS103 w0 _ g s0_0 t123 from pY35) (pY117) (by decide)) hk (fun _ h => h.2)) (fun _ h => h.1))
    replace HO_110001 := am (Kd.S_mono (Kd.S_keep (IsS103.apartS (show IsS103 w0 _ g s0_0 t123 from pY35) (pY118) (by decide)) hk (fun _ h => h.2)) (fun _ h => h.1))
    replace BK101 := kb pY98 hk NB101_0
    replace BK102 := kb pY99 hk NB102_0
    replace BK109 := kb pY106 hk NB109_0
    replace HO126 := am (Kd.R_mono (Kd.R_keep (IsS103.apart (show IsS103 w0 _ g s0_0 t123 from pY35) (rR HO126.1) (by decide)) hk (fun _ h => h.2)) (fun _ h => h.1))
    replace HK := am (KeepBut.trans (pY51) hk (.inl rfl))
    replace HB := am (hb)
    replace HI0 := am (hi)
    (try clear hb)
    (try clear hb2)
    (try clear hk)
    (try clear hi)
    have p53 : 0 ≤ (t120 : Int) := oT
    have q53 : (t120 : Int) < ((t106.length : Int) : Int) := oT
    obtain ⟨go53, co53, eo53, gb53, gl53, cl53, HG53⟩ := Kd.S_form HO_110001.1 (by omega)
    (first | cases eo53 | (injection eo53 with ea_ en_ ec_; (first | subst ea_ | (injection ea_ with ea_; subst ea_)); subst ec_; clear en_))
    have GB53 := am gb53
    have GG53 := am HG53
    clear gb53 gl53 HG53
    obtain ⟨_, ce53, hcl53, hM53, hcc53, hfr53, _, _⟩ := Kd.S_elem HO_110001.1 z56 (t120 : Int) p53 q53
    obtain ⟨ve53_1, ve53_2, rfl, ge53_1, ge53_2⟩ := k56_openM hM53
    have hx53_0 : World.cell? _ ⟨go53, (t120 : Int).toNat * 3, none⟩ = some (.string ((rd_T56 t106 t120).f0)) := hcc53 0 _ rfl
    have hx53_1 : World.cell? _ ⟨go53, (t120 : Int).toNat * 3 + 1, none⟩ = some (ve53_1) := hcc53 1 _ rfl
    have hx53_2 : World.cell? _ ⟨go53, (t120 : Int).toNat * 3 + 2, none⟩ = some (ve53_2) := hcc53 2 _ rfl
    have hf53_0 : World.frozen? _ ⟨go53, (t120 : Int).toNat * 3, none⟩ = false := hfr53 0
    have hf53_1 : World.frozen? _ ⟨go53, (t120 : Int).toNat * 3 + 1, none⟩ = false := hfr53 1
    have hf53_2 : World.frozen? _ ⟨go53, (t120 : Int).toNat * 3 + 2, none⟩ = false := hfr53 2
    clear hcl53 hcc53 hfr53 hM53
    replace p53 := eq_true p53
    replace q53 := eq_true q53
    have HN0_go53 := am (show g ≠ go53 from by have h_ := IsS103.own_neS HI0.out HO_110001.1 (by decide); intro e_; exact h_ (by rw [e_]; rfl))
    have HX65 := am (show Kd.S k56 56 w64 w.heap.size (fun k_ => ((fun k_ => some k_ ≠ (.slice Ao12 t103.length co12 : Value).ownBlock ∧ some k_ ≠ (.slice Ao63 y124.length co63 : Value).ownBlock)) k_ ∧ ¬ (fun _ => False) k_) (.slice (some ⟨go53, 0, none⟩) t106.length co17) t106 from (by refine rS ?_; exact Kd.S_mono HO_110001.1 (fun k_ hk => ⟨⟨hk.1, hk.2⟩, fun e_ => e_⟩)))
    obtain ⟨oki65, ce65, hcl65, hM65, hcc65, hfr65, hoki65, hH65⟩ := Kd.S_elem HX65.out z56 (t120 : Int) (oT) (by have h_ : (t120 : Int) < ((t106.length : Int) : Int) := oT; first | exact h_ | (have e_ := (Kd.S_reads' HO_110001.1).1; omega) | simpa using h_)
    obtain ⟨ve65_1, ve65_2, rfl, ge65_1, ge65_2⟩ := k56_openM hM65
    have HP65 := (Kd.S_seg hH65 (oT) (by have h_ : (t120 : Int) < ((t106.length : Int) : Int) := oT; first | exact h_ | (have e_ := (Kd.S_reads' HO_110001.1).1; omega) | simpa using h_) (seg := [.string t127]) (j := 0) (show 1 ≤ 3 from by decide) (x' := (⟨t127, (rd_T56 t106 t120).f1, (rd_T56 t106 t120).f2⟩ : S56)) (k56_mkM _ _ _ (⟨t127, (rd_T56 t106 t120).f1, (rd_T56 t106 t120).f2⟩ : S56) ge65_1 ge65_2 (k56_sepM hM65)) (fun _ hk => Or.inl hk) (fun _ hk => hk.elim)).1
    rw [← Ny129.out] at HP65
    have HQ65 := am HP65
    clear hcl65 hcc65 hfr65 hM65 HP65
    refine hK.out _ _ (uA2 BK109).1 (fun hHeld => ?_)
    clear hK K
    refine nM ?_
    refine pU 6 (some 63) ?_
    refine pU 7 (some 64) ?_
    refine last_ (i := 8) (N := none) (bz 9 511) rfl rfl (one_of HT_.out (by kernel_rfl)) (by decide) (fun K hK => ?_)
    refine skip_ (w1 := ?_) (by rfl) rfl ?_ ?_
    rotate_left
    ·go_simp
     rfl
    refine hK.out _ _ ?_
    clear hK K
    refine done_ (done_of HT_.out (by kernel_rfl)) ?_
    have n0_ : Aside0 (Kd.R Kd.string 9 (w64.setCell ⟨go53, (t120 : Int).toNat * 3, none⟩ (.string t127)) w.heap.size (fun k_ => some k_ ≠ (.slice Ao63 y124.length co63 : Value).ownBlock) (.slice Ao12 t103.length co12) t103) := ⟨by refine rR ?_; exact Kd.R_mono (Kd.R_far (p := ⟨go53, (t120 : Int).toNat * 3, none⟩) (tR HO_110000 GG53) (fun _ hk => hk.2) (.string t127)) (fun _ hk => hk.1.2)⟩
    have n1_ : Aside0 (Kd.S k56 56 (w64.setCell ⟨go53, (t120 : Int).toNat * 3, none⟩ (.string t127)) w.heap.size (fun k_ => some k_ ≠ (.slice Ao12 t103.length co12 : Value).ownBlock ∧ some k_ ≠ (.slice Ao63 y124.length co63 : Value).ownBlock) (.slice (some ⟨go53, 0, none⟩) t106.length co17) y129) := ⟨rS HQ65.out⟩
    have n2_ : Aside0 (Kd.R Kd.string 9 (w64.setCell ⟨go53, (t120 : Int).toNat * 3, none⟩ (.string t127)) w.heap.size (fun k_ => some k_ ≠ (.slice Ao12 t103.length co12 : Value).ownBlock) (.slice Ao63 y124.length co63) y124) := ⟨by refine rR ?_; exact Kd.R_mono (Kd.R_far (p := ⟨go53, (t120 : Int).toNat * 3, none⟩) (tR HO126 GG53) (fun _ hk => hk.2) (.string t127)) (fun _ hk => hk.1.2)⟩
    have n3_ : Aside0 ((w64.setCell ⟨go53, (t120 : Int).toNat * 3, none⟩ (.string t127)).heap[gb101]? = some (.cells #[.slice A1_0 l1_0.length c1_0, .slice A1_1 l1_1.length c1_1] 31 (0, 0))) := ⟨by refine rB ?_; refine blk_far ?_ (by have h_ := Kd.S_ne HO_110001.1 BK101.1 (by decide); intro e_; exact h_ (by rw [e_]; rfl)) _; refine rB ?_; exact BK101.1⟩
    have n4_ : Aside0 ((w64.setCell ⟨go53, (t120 : Int).toNat * 3, none⟩ (.string t127)).heap[gb102]? = some (.cells #[.slice none 0 0, .slice none 0 0] 31 (0, 0))) := ⟨by refine rB ?_; refine blk_far ?_ (by have h_ := Kd.S_ne HO_110001.1 BK102.1 (by decide); intro e_; exact h_ (by rw [e_]; rfl)) _; refine rB ?_; exact BK102.1⟩
    have n5_ : Aside0 ((w64.setCell ⟨go53, (t120 : Int).toNat * 3, none⟩ (.string t127)).heap[gb109]? = some (.cells #[.slice Ao12 t103.length co12, .slice (some ⟨go53, 0, none⟩) t106.length co17] 31 (0, 0))) := ⟨by refine rB ?_; refine blk_far ?_ (by have h_ := Kd.S_ne HO_110001.1 BK109.1 (by decide); intro e_; exact h_ (by rw [e_]; rfl)) _; refine rB ?_; exact BK109.1⟩
    have n6_ : Aside0 (IsS103 w0 (w64.setCell ⟨go53, (t120 : Int).toNat * 3, none⟩ (.string t127)) g s0_0 t128) := ⟨by repeat (first | (with_reducible first | exact HI0.out | apply IsS103.alloc | apply IsS103.drewN | apply IsS103.drew | apply IsS103.set_1 | refine IsS103.far ?_ HN0_go53.out _ | refine IsS103.far ?_ NB0_101.1 _ | refine IsS103.far ?_ NB0_102.1 _ | refine IsS103.far ?_ NB0_109.1 _) | exact HI0.out)⟩
    have n7_ : Aside0 (KeepBut w (w64.setCell ⟨go53, (t120 : Int).toNat * 3, none⟩ (.string t127)) g none) := ⟨by repeat (first | (with_reducible first | exact HK.out | apply KeepBut.set_ | apply keep_drewN | apply keep_drew | apply keep_alloc | refine keep_far ?_ GB53.out _ | refine keep_far ?_ GW101.out _ | refine keep_far ?_ GW102.out _ | refine keep_far ?_ GW109.out _) | exact HK.out)⟩
    have n8_ : Aside0 (Below w0.heap.size w0 (w64.setCell ⟨go53, (t120 : Int).toNat * 3, none⟩ (.string t127))) := ⟨by repeat (first | (with_reducible first | exact HB.1 | apply below_alloc | apply pw_below_drewN | apply below_drew1 | refine below_set ?_ (Nat.le_trans HL.out GB53.out) | refine below_set ?_ (IsS103.ge HI0.out) | refine below_set ?_ GE101.1 | refine below_set ?_ GE102.1 | refine below_set ?_ GE109.1) | exact HB.1)⟩
    (try clear HO_110000)
    (try clear HO_110001)
    (try clear HO126)
    (try clear BK101)
    (try clear BK102)
    (try clear BK109)
    (try clear HI0)
    (try clear HK)
    (try clear HB)
    generalize (w64.setCell ⟨go53, (t120 : Int).toNat * 3, none⟩ (.string t127)) = w66 at n0_ n1_ n2_ n3_ n4_ n5_ n6_ n7_ n8_ ⊢
    have HO_110000 := n0_
    have HO_110001 := n1_
    have HO126 := n2_
    have BK101 := n3_
    have BK102 := n4_
    have BK109 := n5_
    have HI0 := n6_
    have HK := n7_
    have HB := n8_
    clear n0_ n1_ n2_ n3_ n4_ n5_ n6_ n7_ n8_
    obtain ⟨hcz67_0, hcz67_1, hfz67_0, hfz67_1⟩ := cz2 BK109
    have hnb68 := NB102_101.1
    have hnc68 := NB101_102.1
    have hnb69 := NB102_0.1
    have hnc69 := NB0_102.1
    obtain ⟨hcz70_0, hcz70_1, hfz70_0, hfz70_1⟩ := cz2 BK102
    try go_wp2
    refine bodyPost_ret (results_cell_row rfl _ _ gb102 31 #[.slice Ao12 t103.length co12, .slice (some ⟨go53, 0, none⟩) t106.length co17] (0, 0) _ rfl (by refine rB ?_; refine blk_put (cs := #[.slice Ao12 t103.length co12, .slice none 0 0]) ?_ 1 _ rfl; refine rB ?_; refine blk_put (cs := #[.slice none 0 0, .slice none 0 0]) ?_ 0 _ rfl; refine rB ?_; exact BK102.1) Try.underlying31 rfl (by kernel_rfl)) rfl ?_
    refine toN_ ?_
    exact ⟨_, _, eR, by refine rR ?_; exact Kd.R_mono (fR (fR (tR HO_110000 BK102))) (fun _ hk => trivial), by refine rS ?_; exact Kd.S_mono (fS (fS (tS HO_110001 BK102))) (fun _ hk => hk.1.1), pY35, pY24, pY51⟩
   ·replace HO_110000 := am (Kd.R_drew HO_110000.1)
    replace HO_110001 := am (Kd.S_drew HO_110001.1)
    replace BK101 := am (blk_drew BK101.1)
    replace BK102 := am (blk_drew BK102.1)
    replace BK109 := am (blk_drew BK109.1)
    replace HI0 := am (IsS103.drew HI0.out)
    replace HK := am (keep_drew HK.out)
    replace HB := am (below_drew1 HB.1)
    have p130 : 0 ≤ (t120 : Int) := oT
    have q130 : t120 < (t106.length : Int) := oT
    obtain ⟨ad130, A130_1, c130_1, A130_2, c130_2, e130, hx130_0, hx130_1, hx130_2, hl130_1, hi130_1, hl130_2, hi130_2⟩ := at_T56 (Kd.S_reads' HO_110001.1).2.2 t120 p130 q130
    cases e130
    obtain ⟨ce130, hce130, hMe130, hcc130⟩ := Kd.S_get HO_110001.1 z56 t120 p130 (by first | exact q130 | exact oT | (have e_ := (Kd.S_reads' HO_110001.1).1; omega))
    obtain ⟨ve130_1, ve130_2, rfl, ge130_1, ge130_2⟩ := k56_openM hMe130
    have hv130_1 := hcc130 1 _ rfl
    rw [add_field _ _ 1 (by omega)] at hv130_1
    replace hv130_1 := Option.some.inj (hv130_1.symm.trans hx130_1)
    rw [hv130_1] at ge130_1
    have HL130_1 := am (show Kd.R Kd.string 9 _ _ _ _ ((rd_T56 t106 t120).f1) from ge130_1)
    clear hv130_1 ge130_1
    have HX130_1 := am hx130_1
    have hv130_2 := hcc130 2 _ rfl
    rw [add_field _ _ 2 (by omega)] at hv130_2
    replace hv130_2 := Option.some.inj (hv130_2.symm.trans hx130_2)
    rw [hv130_2] at ge130_2
    have HL130_2 := am (show Kd.R Kd.string 9 _ _ _ _ ((rd_T56 t106 t120).f2) from ge130_2)
    clear hv130_2 ge130_2
    have HX130_2 := am hx130_2
    clear hcc130 hce130
    have HR130_1 := am hi130_1
    have HC130_1 := am hl130_1
    clear hi130_1 hl130_1
    have HR130_2 := am hi130_2
    have HC130_2 := am hl130_2
    clear hi130_2 hl130_2
    replace p130 := eq_true p130
    replace q130 := eq_true q130
    refine sT (S := fun w' => w'.cell? ⟨gb109, 0, none⟩ = some (.slice Ao12 t103.length co12) ∧ w'.cell? ⟨gb109, 1, none⟩ = some (.slice (some ad130) t106.length co17) ∧ w'.cell? (ad130.add ((t120).toNat * 3)) = some (.string ((rd_T56 t106 t120).f0)) ∧ w'.cell? ⟨(ad130.add ((t120).toNat * 3)).block, (ad130.add ((t120).toNat * 3)).off + 1, none⟩ = some (.slice A130_1 ((rd_T56 t106 t120).f1).length c130_1) ∧ w'.cell? ⟨(ad130.add ((t120).toNat * 3)).block, (ad130.add ((t120).toNat * 3)).off + 2, none⟩ = some (.slice A130_2 ((rd_T56 t106 t120).f2).length c130_2)) [16] 17 ⟨⟨(blk_cell BK109.1 0).trans rfl, (blk_cell BK109.1 1).trans rfl, hx130_0, hx130_1, hx130_2⟩⟩ (fun hHeld => ?_); refine with_tabW spec_l5Spoil.tab15 spec_l5Spoil.bits15 (fun HT_ HW_ => ?_)
    generalize w3920.drew = w83 at HO_110000 HO_110001 BK101 BK102 BK109 HI0 HK HB HL130_1 HL130_2 HR130_1 HR130_2 HX130_1 HX130_2 hx130_0 hx130_1 hx130_2 hHeld ⊢
    refine pU 0 (some 67) ?_
    refine pU 2 (some 69) ?_
    refine pU 3 (some 70) ?_
    refine pU 5 (some 72) ?_
    refine pU 9 (some 76) ?_
    refine tK5 1 (some 68) ?_
    refine tK5 4 (some 71) ?_
    refine pU 6 (some 73) ?_
    refine pU 7 (some 74) ?_
    refine tK5 8 (some 75) ?_
    refine oN 10 (some 77) fun K hK => ?_
    refine Kd.R_lit_step Kd.string _ 9 ?hg (N := 77) ?hd (xs := ([(⟨#[]⟩ : ByteArray), (⟨#[122, 122]⟩ : ByteArray), (⟨#[107, 101, 103]⟩ : ByteArray), (⟨#[119]⟩ : ByteArray)] : List ByteArray)) (inner := [.string (⟨#[]⟩ : ByteArray), .string (⟨#[122, 122]⟩ : ByteArray), .string (⟨#[107, 101, 103]⟩ : ByteArray), .string (⟨#[119]⟩ : ByteArray)]) (ok := fun _ => True) (okp := fun _ => True) ?hr ?hp (fun _ hk => hk) trivial (Below.refl _ _) (Nat.le_refl _) (by simp) ?_; (case hd => rfl); (case hg => rfl); (case hr => first | (go_simp; done) | (go_simp; rfl)); (case hp => exact (Reps.one (show Kd.M Kd.string _ _ _ (⟨#[]⟩ : ByteArray) [.string (⟨#[]⟩ : ByteArray)] from rfl) (Reps.one (show Kd.M Kd.string _ _ _ (⟨#[122, 122]⟩ : ByteArray) [.string (⟨#[122, 122]⟩ : ByteArray)] from rfl) (Reps.one (show Kd.M Kd.string _ _ _ (⟨#[107, 101, 103]⟩ : ByteArray) [.string (⟨#[107, 101, 103]⟩ : ByteArray)] from rfl) (Reps.one (show Kd.M Kd.string _ _ _ (⟨#[119]⟩ : ByteArray) [.string (⟨#[119]⟩ : ByteArray)] from rfl) (Reps.none _ _))))))
    intro v132 w84 ho85 hb hg_ hnew_
    have HS2_ := (hb.cell (World.block_lt_of_cell? _ _ (hHeld.2.2.1))).trans (hHeld.2.2.1)
    have HS3_ := (hb.cell (World.block_lt_of_cell? _ _ (hHeld.2.2.2.1))).trans (hHeld.2.2.2.1)
    have HS4_ := (hb.cell (World.block_lt_of_cell? _ _ (hHeld.2.2.2.2))).trans (hHeld.2.2.2.2)
    clear hg_ hnew_
    (first | rw [← Ny131.out] at ho85 | (simp only [Int.reduceToNat] at ho85; rw [← Ny131.out] at ho85))
    replace HO_110001 := am (Kd.S_elder' (pY118) (Kd.R_base ho85) hb)
    have HO133 := am (Kd.R_lower (Kd.R_new' (Kd.R_new' (Kd.R_new' ho85 (Kd.R_lt (pY117))) (Kd.R_lt (rR HL130_1.out))) (Kd.R_lt (rR HL130_2.out))) (keep_size (w := w) (g := g) (row := none) (pY51)))
    replace HO_110000 := am (Kd.R_elder' (pY117) (Kd.R_base ho85) hb)
    replace HL130_1 := am (Kd.R_elder' (rR HL130_1.out) (Kd.R_base ho85) hb)
    replace HL130_2 := am (Kd.R_elder' (rR HL130_2.out) (Kd.R_base ho85) hb)
    replace BK101 := bB pY98 hb
    replace BK102 := bB pY99 hb
    replace BK109 := bB pY106 hb
    replace HR130_1 := am (Kd.C_below (by repeat (first | (with_reducible exact HR130_1.1) | (with_reducible refine Kd.C_alloc ?_ _) | (with_reducible refine Kd.C_drewN ?_ _) | (with_reducible refine Kd.C_drew ?_) | exact HR130_1.1)) hb)
    replace HX130_1 := am (pw_cell_below hb HX130_1.out)
    replace HR130_2 := am (Kd.C_below (by repeat (first | (with_reducible exact HR130_2.1) | (with_reducible refine Kd.C_alloc ?_ _) | (with_reducible refine Kd.C_drewN ?_ _) | (with_reducible refine Kd.C_drew ?_) | exact HR130_2.1)) hb)
    replace HX130_2 := am (pw_cell_below hb HX130_2.out)
    replace HK := am (KeepBut.trans (pY51) (KeepBut.of_below hb g none) (.inl rfl))
    replace HB := bS pY24 hb
    replace HI0 := am (IsS103.below (pY35) hb)
    clear hb ho85
    obtain ⟨Ao86, co86, eo86⟩ := Kd.R_slice HO133.1
    (first | subst eo86 | (injection eo86 with f1_ f2_ f3_; have f4_ := f1_.symm; have f5_ := f3_.symm; clear f1_ f2_ f3_; subst f4_; subst f5_))
    refine hK.out _ _ ⟨(blk_cell BK109.1 0).trans rfl, (blk_cell BK109.1 1).trans rfl, HS2_, HS3_, HS4_⟩ (fun hHeld => ?_)
    clear hK K
    refine nM ?_
    refine oN 11 (some 78) fun K hK => ?_
    refine goes_ Try.func101 (by kernel_rfl) rfl #[.pointer (some ⟨g, 0, none⟩), .slice Ao86 y131.length co86] (by rfl) rfl rfl (pY94) ?_
    with_reducible refine (spec_l1Rd_of.calls kj3 g s0_0 t123 _ _ y131 t134 t135 w0 _ ?side1 ?side2 ?side3 ?side4 ?side5 A74.out).mono ?_
    (case side1 => exact (pY35))
    (case side2 => exact (pY24))
    (case side3 => exact pC (Kd.R_reads' HO133.1).2.2)
    (case side4 => exact (Kd.R_reads' HO133.1).2.1)
    (case side5 => exact far_slice (IsS103.own_ne HI0.out HO133.1 (by decide)))
    rintro e w87 ⟨rfl, hi, hb, hk⟩
    have HS2_ := keep_cell hk (hHeld.2.2.1) (pY18)
    have HS3_ := keep_cell hk (hHeld.2.2.2.1) (pY18)
    have HS4_ := keep_cell hk (hHeld.2.2.2.2) (pY18)
    refine ⟨_, rfl, ?_⟩
    replace HO_110000 := am (Kd.R_mono (Kd.R_keep (IsS103.apart (show IsS103 w0 _ g s0_0 t123 from pY35) (pY117) (by decide)) hk (fun _ h => h.2)) (fun _ h => h.1))
    replace BK101 := kb pY98 hk NB101_0
    replace BK102 := kb pY99 hk NB102_0
    replace BK109 := kb pY106 hk NB109_0
    replace HL130_1 := am (Kd.R_mono (Kd.R_keep (IsS103.apart (show IsS103 w0 _ g s0_0 t123 from pY35) (rR HL130_1.out) (by decide)) hk (fun _ h => h.2)) (fun _ h => h.1))
    replace HX130_1 := am (keep_cell hk HX130_1.out (pY14))
    replace HL130_2 := am (Kd.R_mono (Kd.R_keep (IsS103.apart (show IsS103 w0 _ g s0_0 t123 from pY35) (rR HL130_2.out) (by decide)) hk (fun _ h => h.2)) (fun _ h => h.1))
    replace HX130_2 := am (keep_cell hk HX130_2.out (pY14))
    replace HO_110001 := am (Kd.S_mono (Kd.S_keep (IsS103.apartS (show IsS103 w0 _ g s0_0 t123 from pY35) (pY118) (by decide)) hk (fun _ h => h.2)) (fun _ h => h.1))
    replace HO133 := am (Kd.R_mono (Kd.R_keep (IsS103.apart (show IsS103 w0 _ g s0_0 t123 from pY35) (rR HO133.1) (by decide)) hk (fun _ h => h.2)) (fun _ h => h.1))
    replace HK := am (KeepBut.trans (pY51) hk (.inl rfl))
    replace HB := am (hb)
    replace HI0 := am (hi)
    (try clear hb)
    (try clear hb2)
    (try clear hk)
    (try clear hi)
    obtain ⟨go88, co88, eo88, gb88, gl88, cl88, HG88⟩ := Kd.S_form HO_110001.1 (by have h_ : (t120 : Int) < ((t106.length : Int) : Int) := oT; have h2_ : 0 ≤ (t120 : Int) := (oT); omega)
    (first | cases eo88 | (injection eo88 with ea_ en_ ec_; (first | subst ea_ | (injection ea_ with ea_; subst ea_)); subst ec_; clear en_))
    have GB88 := am gb88
    have GG88 := am HG88
    clear gb88 gl88 HG88
    (first | simp only [add_plain] at hx130_0 | skip)
    (first | simp only [add_plain] at hx130_1 | skip)
    (first | simp only [add_plain] at hx130_2 | skip)
    obtain ⟨oki88, ce88, hcl88, hM88, hcc88, _, _, hH88⟩ := Kd.S_elem HO_110001.1 z56 (t120 : Int) (oT) (by have h_ : (t120 : Int) < ((t106.length : Int) : Int) := oT; first | exact h_ | (have e_ := (Kd.S_reads' HO_110001.1).1; omega) | simpa using h_)
    obtain ⟨ve88_1, ve88_2, rfl, ge88_1, ge88_2⟩ := k56_openM hM88
    have hs88 := k56_sepM hM88
    clear hM88
    have hv88 := hcc88 2 _ rfl
    have hX88 := HX130_2.out
    (try simp only [add_plain] at hX88)
    (try simp only [Nat.add_zero] at hv88)
    replace hv88 := Option.some.inj (hv88.symm.trans hX88)
    subst hv88
    clear hX88 hcc88 hcl88
    have UU88 := am (show Kd.R Kd.string 9 _ w.heap.size oki88 (.slice A130_2 ((rd_T56 t106 t120).f2).length c130_2) ((rd_T56 t106 t120).f2) from ge88_2)
    have HH88 := am hH88
    have HN88 := am (Kd.S_reads' HO_110001.1).1
    have HE88_1 := am ge88_1
    have HSp88 := am hs88
    clear hs88
    clear hH88 ge88_1 ge88_2
    refine hK.out _ _ ⟨(blk_cell BK109.1 0).trans rfl, (blk_cell BK109.1 1).trans rfl, HS2_, HS3_, HS4_⟩ (fun hHeld => ?_)
    clear hK K
    refine nM ?_
    refine oN 12 (some 79) fun K hK => ?_
    refine value_ (w1 := ?_) (v := ?_) (by rfl) rfl ?_ ?_
    rotate_left 2
    ·go_simp
     constructor
     ·rfl
     ·rfl
    refine hK.out _ _ ⟨(blk_cell (blk_alloc BK109.1 _) 0).trans rfl, (blk_cell (blk_alloc BK109.1 _) 1).trans rfl, (World.cell?_alloc_lt _ _ _ (World.block_lt_of_cell? _ _ (hHeld.2.2.1))).trans (hHeld.2.2.1), (World.cell?_alloc_lt _ _ _ (World.block_lt_of_cell? _ _ (hHeld.2.2.2.1))).trans (hHeld.2.2.2.1), (World.cell?_alloc_lt _ _ _ (World.block_lt_of_cell? _ _ (hHeld.2.2.2.2))).trans (hHeld.2.2.2.2)⟩ (fun hHeld => ?_)
    clear hK K
    refine nM ?_
    refine oN 13 (some 80) fun K hK => ?_
    refine Kd.R_append_step Kd.string w.heap.size (by rfl) (.tmp 75) (.tmp 79) 23 9 (.string ⟨#[]⟩) 16 rfl Try.underlying23 info9 rfl (by decide) (by omega) (.slice A130_2 ((rd_T56 t106 t120).f2).length c130_2) ((rd_T56 t106 t120).f2) t134 [.string t134] (fun k_ => oki88 k_ ∨ ((fun k_ => some k_ ≠ (.slice Ao12 t103.length co12 : Value).ownBlock ∧ some k_ ≠ (.slice Ao86 y131.length co86 : Value).ownBlock)) k_ ∧ w87.heap.size ≤ k_) (fun _ => False) rfl rfl ?aP (fun _ hk => hk.elim) ?aF ?aO (Below.refl _ _) ?aS ?aL ?_
    (case aP => exact rfl)
    (case aF => exact (fun k_ hk => .inr ⟨⟨Kd.fresh' (Kd.R_lt (pY117)) k_ hk, Kd.fresh' (Kd.R_lt (rR HO133.1)) k_ hk⟩, hk⟩))
    (case aO => exact (by refine rR ?_; exact Kd.R_mono UU88.out (fun _ hk => .inl hk)))
    (case aS => exact (keep_size (w := w) (g := g) (row := none) (pY51)))
    (case aL => have := LMc75.out; omega)
    intro v137 w89 ho hb hg hat
    (first | have HS2_ := cell_grown hg (hHeld.2.2.1) (pY52) | have HS2_ := cell_grown hg (cell_unalloc (hHeld.2.2.1) (pY86)) (pY52))
    (first | have HS3_ := cell_grown hg (hHeld.2.2.2.1) (pY52) | have HS3_ := cell_grown hg (cell_unalloc (hHeld.2.2.2.1) (pY86)) (pY52))
    (first | have HS4_ := cell_grown hg (hHeld.2.2.2.2) (pY52) | have HS4_ := cell_grown hg (cell_unalloc (hHeld.2.2.2.2) (pY86)) (pY52))
    rw [← Ny136.out] at ho
    have n0_ := am (Kd.R_grown2 (pY117) rfl hg (fun k_ e_ => (HL130_2.out.1 k_ e_).1.1))
    have n1_ := gR pY98 hg HL130_2 BK101
    have n2_ := gR pY99 hg HL130_2 BK102
    have n3_ := gR pY106 hg HL130_2 BK109
    have n4_ := am (IsS103.grown (pY35) hg (IsS103.own_ne HI0.out HL130_2.out (by decide)))
    have n5_ := am (Kd.R_grown2 (rR HO133.1) rfl hg (fun k_ e_ => (HL130_2.out.1 k_ e_).2))
    have n6_ := am (below_weaken (pY24) HL.out hb)
    have n7_ := am (KeepBut.trans (pY51) (KeepBut.of_grown hg g) (Kd.R_base2 HL130_2.out))
    have n8_ := am (Kd.H_grown (Kd.H_widen (by repeat (first | exact HH88.out | refine Kd.H_alloc ?_ _ | refine Kd.H_drewN ?_ _ | refine Kd.H_drew ?_))) hg (fun k_ e_ => .inl (UU88.out.1 k_ e_)))
    have n9_ := am (Kd.R_grown2 (rR HE88_1.out) rfl hg (fun k_ e_ => fun e2_ => HSp88.out k_ e2_.symm e_))
    have n10_ := am (sep_g2 HSp88.out hat (rR HE88_1.out))
    have n11_ := am (ho)
    clear HO_110000
    clear BK101
    clear BK102
    clear BK109
    clear HI0
    clear HO133
    clear HB
    clear HK
    clear HH88
    clear HE88_1
    clear HSp88
    clear HO_110001
    clear UU88
    clear HL130_1
    clear HL130_2
    have HO_110000 := n0_
    have BK101 := n1_
    have BK102 := n2_
    have BK109 := n3_
    have HI0 := n4_
    have HO133 := n5_
    have HB := n6_
    have HK := n7_
    have HH88 := n8_
    have HE88_1 := n9_
    have HSp88 := n10_
    have HO138 := n11_
    clear n0_ n1_ n2_ n3_ n4_ n5_ n6_ n7_ n8_ n9_ n10_ n11_
    clear ho hb hg hat
    have p76 : 0 ≤ (t120 : Int) := oT
    have q76 : (t120 : Int) < ((t106.length : Int) : Int) := oT
    replace p76 := eq_true p76
    replace q76 := eq_true q76
    obtain ⟨Ao92, co92, eo92⟩ := Kd.R_slice HO138.1
    (first | subst eo92 | (injection eo92 with f1_ f2_ f3_; have f4_ := f1_.symm; have f5_ := f3_.symm; clear f1_ f2_ f3_; subst f4_; subst f5_))
    obtain ⟨_, _, hraw90, _, _, hcc90, _⟩ := Kd.H_raw HH88.out (oT) (by have h_ : (t120 : Int) < ((t106.length : Int) : Int) := oT; first | exact h_ | (have e_ := (HN88.out); omega) | simpa using h_)
    obtain ⟨_, hfr90⟩ := Kd.H_at HH88.out (oT) (by have h_ : (t120 : Int) < ((t106.length : Int) : Int) := oT; first | exact h_ | (have e_ := (HN88.out); omega) | simpa using h_)
    have hx90_0 := hcc90 2 _ rfl
    have hf90_0 := hfr90 2
    (try rw [show (k56).sz = 3 from rfl] at hx90_0)
    (try rw [show (k56).sz = 3 from rfl] at hf90_0)
    have HP90 := Kd.S_seg0 HH88.out (oT) (by have h_ : (t120 : Int) < ((t106.length : Int) : Int) := oT; first | exact h_ | (have e_ := (HN88.out); omega) | simpa using h_) (seg := [.slice Ao92 y136.length co92]) (j := 2) (show 3 ≤ 3 from by decide) (x' := (⟨(rd_T56 t106 t120).f0, (rd_T56 t106 t120).f1, y136⟩ : S56)) (k56_mkM _ _ _ (⟨(rd_T56 t106 t120).f0, (rd_T56 t106 t120).f1, y136⟩ : S56) (Kd.R_mono HE88_1.out (fun _ h_ => .inl h_)) HO138.1 HSp88.out) (fun _ hk => hk)
    clear hcc90 hfr90
    have HN0_go88 := am (show g ≠ go88 from by have h_ := IsS103.own_ne HI0.out hraw90 (by decide); intro e_; exact h_ (by rw [e_]; rfl))
    have HNB101_go88 := am (show gb101 ≠ go88 from by have h_ := Kd.R_ne hraw90 BK101.1 (by decide); intro e_; exact h_ (by rw [e_]; rfl))
    have HNB102_go88 := am (show gb102 ≠ go88 from by have h_ := Kd.R_ne hraw90 BK102.1 (by decide); intro e_; exact h_ (by rw [e_]; rfl))
    have HNB109_go88 := am (show gb109 ≠ go88 from by have h_ := Kd.R_ne hraw90 BK109.1 (by decide); intro e_; exact h_ (by rw [e_]; rfl))
    have HS90 := HP90.1
    rw [← Ny139.out] at HS90
    have HQ90 := am HS90
    obtain ⟨_, hgg90⟩ := Kd.R_typed hraw90 go88 rfl
    have GG90_ := am hgg90
    clear HP90 HS90 hgg90
    refine hK.out _ _ ⟨(blk_cell BK109.1 0).trans rfl, (blk_cell BK109.1 1).trans rfl, HS2_, HS3_, HS4_⟩ (fun hHeld => ?_)
    clear hK K
    refine nM ?_
    refine pU 14 (some 81) ?_
    refine pU 15 (some 82) ?_
    refine last_ (i := 16) (N := none) (bz 17 131071) rfl rfl (one_of HT_.out (by kernel_rfl)) (by decide) (fun K hK => ?_)
    refine skip_ (w1 := ?_) (by rfl) rfl ?_ ?_
    rotate_left
    ·go_simp
     rfl
    refine hK.out _ _ ?_
    clear hK K
    refine done_ (done_of HT_.out (by kernel_rfl)) ?_
    have n0_ : Aside0 (Kd.R Kd.string 9 (w89.setCell ⟨go88, (t120 : Int).toNat * 3 + 2, none⟩ (.slice Ao92 y136.length co92)) w.heap.size (fun k_ => some k_ ≠ (.slice Ao86 y131.length co86 : Value).ownBlock) (.slice Ao12 t103.length co12) t103) := ⟨by refine rR ?_; exact Kd.R_mono (Kd.R_far (p := ⟨go88, (t120 : Int).toNat * 3 + 2, none⟩) (tR HO_110000 GG90_) (fun _ hk => hk.2) (.slice Ao92 y136.length co92)) (fun _ hk => hk.1.2)⟩
    have n1_ : Aside0 (Kd.R Kd.string 9 (w89.setCell ⟨go88, (t120 : Int).toNat * 3 + 2, none⟩ (.slice Ao92 y136.length co92)) w.heap.size (fun k_ => some k_ ≠ (.slice Ao12 t103.length co12 : Value).ownBlock) (.slice Ao86 y131.length co86) y131) := ⟨by refine rR ?_; exact Kd.R_mono (Kd.R_far (p := ⟨go88, (t120 : Int).toNat * 3 + 2, none⟩) (tR HO133 GG90_) (fun _ hk => hk.2) (.slice Ao92 y136.length co92)) (fun _ hk => hk.1.1.1.2)⟩
    have n2_ : Aside0 (Kd.S k56 56 (w89.setCell ⟨go88, (t120 : Int).toNat * 3 + 2, none⟩ (.slice Ao92 y136.length co92)) w.heap.size (fun k_ => some k_ ≠ (.slice Ao12 t103.length co12 : Value).ownBlock ∧ some k_ ≠ (.slice Ao86 y131.length co86 : Value).ownBlock) (.slice (some ⟨go88, 0, none⟩) t106.length co17) y139) := ⟨rS HQ90.out⟩
    have n3_ : Aside0 ((w89.setCell ⟨go88, (t120 : Int).toNat * 3 + 2, none⟩ (.slice Ao92 y136.length co92)).heap[gb101]? = some (.cells #[.slice A1_0 l1_0.length c1_0, .slice A1_1 l1_1.length c1_1] 31 (0, 0))) := ⟨by refine rB ?_; refine blk_far ?_ HNB101_go88.out _; refine rB ?_; exact BK101.1⟩
    have n4_ : Aside0 ((w89.setCell ⟨go88, (t120 : Int).toNat * 3 + 2, none⟩ (.slice Ao92 y136.length co92)).heap[gb102]? = some (.cells #[.slice none 0 0, .slice none 0 0] 31 (0, 0))) := ⟨by refine rB ?_; refine blk_far ?_ HNB102_go88.out _; refine rB ?_; exact BK102.1⟩
    have n5_ : Aside0 ((w89.setCell ⟨go88, (t120 : Int).toNat * 3 + 2, none⟩ (.slice Ao92 y136.length co92)).heap[gb109]? = some (.cells #[.slice Ao12 t103.length co12, .slice (some ⟨go88, 0, none⟩) t106.length co17] 31 (0, 0))) := ⟨by refine rB ?_; refine blk_far ?_ HNB109_go88.out _; refine rB ?_; exact BK109.1⟩
    have n6_ : Aside0 (IsS103 w0 (w89.setCell ⟨go88, (t120 : Int).toNat * 3 + 2, none⟩ (.slice Ao92 y136.length co92)) g s0_0 t135) := ⟨by repeat (first | (with_reducible first | exact HI0.out | apply IsS103.alloc | apply IsS103.drewN | apply IsS103.drew | apply IsS103.set_1 | refine IsS103.far ?_ HN0_go88.out _ | refine IsS103.far ?_ NB0_101.1 _ | refine IsS103.far ?_ NB0_102.1 _ | refine IsS103.far ?_ NB0_109.1 _) | exact HI0.out)⟩
    have n7_ : Aside0 (KeepBut w (w89.setCell ⟨go88, (t120 : Int).toNat * 3 + 2, none⟩ (.slice Ao92 y136.length co92)) g none) := ⟨by repeat (first | (with_reducible first | exact HK.out | apply KeepBut.set_ | apply keep_drewN | apply keep_drew | apply keep_alloc | refine keep_far ?_ GB88.out _ | refine keep_far ?_ GW101.out _ | refine keep_far ?_ GW102.out _ | refine keep_far ?_ GW109.out _) | exact HK.out)⟩
    have n8_ : Aside0 (Below w0.heap.size w0 (w89.setCell ⟨go88, (t120 : Int).toNat * 3 + 2, none⟩ (.slice Ao92 y136.length co92))) := ⟨by repeat (first | (with_reducible first | exact HB.1 | apply below_alloc | apply pw_below_drewN | apply below_drew1 | refine below_set ?_ (Nat.le_trans HL.out GB88.out) | refine below_set ?_ (IsS103.ge HI0.out) | refine below_set ?_ GE101.1 | refine below_set ?_ GE102.1 | refine below_set ?_ GE109.1) | exact HB.1)⟩
    (try clear HO_110000)
    (try clear HO133)
    (try clear HO_110001)
    (try clear BK101)
    (try clear BK102)
    (try clear BK109)
    (try clear HI0)
    (try clear HK)
    (try clear HB)
    generalize (w89.setCell ⟨go88, (t120 : Int).toNat * 3 + 2, none⟩ (.slice Ao92 y136.length co92)) = w93 at n0_ n1_ n2_ n3_ n4_ n5_ n6_ n7_ n8_ ⊢
    have HO_110000 := n0_
    have HO133 := n1_
    have HO_110001 := n2_
    have BK101 := n3_
    have BK102 := n4_
    have BK109 := n5_
    have HI0 := n6_
    have HK := n7_
    have HB := n8_
    clear n0_ n1_ n2_ n3_ n4_ n5_ n6_ n7_ n8_
    obtain ⟨hcz94_0, hcz94_1, hfz94_0, hfz94_1⟩ := cz2 BK109
    have hnb95 := NB102_101.1
    have hnc95 := NB101_102.1
    have hnb96 := NB102_0.1
    have hnc96 := NB0_102.1
    obtain ⟨hcz97_0, hcz97_1, hfz97_0, hfz97_1⟩ := cz2 BK102
    try go_wp2
    refine bodyPost_ret (results_cell_row rfl _ _ gb102 31 #[.slice Ao12 t103.length co12, .slice (some ⟨go88, 0, none⟩) t106.length co17] (0, 0) _ rfl (by refine rB ?_; refine blk_put (cs := #[.slice Ao12 t103.length co12, .slice none 0 0]) ?_ 1 _ rfl; refine rB ?_; refine blk_put (cs := #[.slice none 0 0, .slice none 0 0]) ?_ 0 _ rfl; refine rB ?_; exact BK102.1) Try.underlying31 rfl (by kernel_rfl)) rfl ?_
    refine toN_ ?_
    exact ⟨_, _, eR, by refine rR ?_; exact Kd.R_mono (fR (fR (tR HO_110000 BK102))) (fun _ hk => trivial), by refine rS ?_; exact Kd.S_mono (fS (fS (tS HO_110001 BK102))) (fun _ hk => hk.1.1), pY35, pY24, pY51⟩
   ·replace HO_110000 := am (Kd.R_drew HO_110000.1)
    replace HO_110001 := am (Kd.S_drew HO_110001.1)
    replace BK101 := am (blk_drew BK101.1)
    replace BK102 := am (blk_drew BK102.1)
    replace BK109 := am (blk_drew BK109.1)
    replace HI0 := am (IsS103.drew HI0.out)
    replace HK := am (keep_drew HK.out)
    replace HB := am (below_drew1 HB.1)
    have p140 : 0 ≤ (t120 : Int) := oT
    have q140 : t120 < (t106.length : Int) := oT
    obtain ⟨ad140, A140_1, c140_1, A140_2, c140_2, e140, hx140_0, hx140_1, hx140_2, hl140_1, hi140_1, hl140_2, hi140_2⟩ := at_T56 (Kd.S_reads' HO_110001.1).2.2 t120 p140 q140
    cases e140
    obtain ⟨ce140, hce140, hMe140, hcc140⟩ := Kd.S_get HO_110001.1 z56 t120 p140 (by first | exact q140 | exact oT | (have e_ := (Kd.S_reads' HO_110001.1).1; omega))
    obtain ⟨ve140_1, ve140_2, rfl, ge140_1, ge140_2⟩ := k56_openM hMe140
    have hv140_1 := hcc140 1 _ rfl
    rw [add_field _ _ 1 (by omega)] at hv140_1
    replace hv140_1 := Option.some.inj (hv140_1.symm.trans hx140_1)
    rw [hv140_1] at ge140_1
    have HL140_1 := am (show Kd.R Kd.string 9 _ _ _ _ ((rd_T56 t106 t120).f1) from ge140_1)
    clear hv140_1 ge140_1
    have HX140_1 := am hx140_1
    have hv140_2 := hcc140 2 _ rfl
    rw [add_field _ _ 2 (by omega)] at hv140_2
    replace hv140_2 := Option.some.inj (hv140_2.symm.trans hx140_2)
    rw [hv140_2] at ge140_2
    have HL140_2 := am (show Kd.R Kd.string 9 _ _ _ _ ((rd_T56 t106 t120).f2) from ge140_2)
    clear hv140_2 ge140_2
    have HX140_2 := am hx140_2
    clear hcc140 hce140
    have HR140_1 := am hi140_1
    have HC140_1 := am hl140_1
    clear hi140_1 hl140_1
    have HR140_2 := am hi140_2
    have HC140_2 := am hl140_2
    clear hi140_2 hl140_2
    replace p140 := eq_true p140
    replace q140 := eq_true q140
    refine sT (S := fun w' => w'.cell? ⟨gb109, 0, none⟩ = some (.slice Ao12 t103.length co12) ∧ w'.cell? ⟨gb109, 1, none⟩ = some (.slice (some ad140) t106.length co17) ∧ w'.cell? (ad140.add ((t120).toNat * 3)) = some (.string ((rd_T56 t106 t120).f0)) ∧ w'.cell? ⟨(ad140.add ((t120).toNat * 3)).block, (ad140.add ((t120).toNat * 3)).off + 1, none⟩ = some (.slice A140_1 ((rd_T56 t106 t120).f1).length c140_1) ∧ w'.cell? ⟨(ad140.add ((t120).toNat * 3)).block, (ad140.add ((t120).toNat * 3)).off + 2, none⟩ = some (.slice A140_2 ((rd_T56 t106 t120).f2).length c140_2)) [16] 17 ⟨⟨(blk_cell BK109.1 0).trans rfl, (blk_cell BK109.1 1).trans rfl, hx140_0, hx140_1, hx140_2⟩⟩ (fun hHeld => ?_); refine with_tabW spec_l5Spoil.tab17 spec_l5Spoil.bits17 (fun HT_ HW_ => ?_)
    generalize w3920.drew = w110 at HO_110000 HO_110001 BK101 BK102 BK109 HI0 HK HB HL140_1 HL140_2 HR140_1 HR140_2 HX140_1 HX140_2 hx140_0 hx140_1 hx140_2 hHeld ⊢
    refine pU 0 (some 85) ?_
    refine pU 2 (some 87) ?_
    refine pU 3 (some 88) ?_
    refine pU 5 (some 90) ?_
    refine pU 9 (some 94) ?_
    refine tK5 1 (some 86) ?_
    refine tK5 4 (some 89) ?_
    refine pU 6 (some 91) ?_
    refine pU 7 (some 92) ?_
    refine tK5 8 (some 93) ?_
    refine oN 10 (some 95) fun K hK => ?_
    refine Kd.R_lit_step Kd.string _ 9 ?hg (N := 95) ?hd (xs := ([(⟨#[]⟩ : ByteArray), (⟨#[122, 122]⟩ : ByteArray), (⟨#[107, 101, 103]⟩ : ByteArray), (⟨#[119]⟩ : ByteArray)] : List ByteArray)) (inner := [.string (⟨#[]⟩ : ByteArray), .string (⟨#[122, 122]⟩ : ByteArray), .string (⟨#[107, 101, 103]⟩ : ByteArray), .string (⟨#[119]⟩ : ByteArray)]) (ok := fun _ => True) (okp := fun _ => True) ?hr ?hp (fun _ hk => hk) trivial (Below.refl _ _) (Nat.le_refl _) (by simp) ?_; (case hd => rfl); (case hg => rfl); (case hr => first | (go_simp; done) | (go_simp; rfl)); (case hp => exact (Reps.one (show Kd.M Kd.string _ _ _ (⟨#[]⟩ : ByteArray) [.string (⟨#[]⟩ : ByteArray)] from rfl) (Reps.one (show Kd.M Kd.string _ _ _ (⟨#[122, 122]⟩ : ByteArray) [.string (⟨#[122, 122]⟩ : ByteArray)] from rfl) (Reps.one (show Kd.M Kd.string _ _ _ (⟨#[107, 101, 103]⟩ : ByteArray) [.string (⟨#[107, 101, 103]⟩ : ByteArray)] from rfl) (Reps.one (show Kd.M Kd.string _ _ _ (⟨#[119]⟩ : ByteArray) [.string (⟨#[119]⟩ : ByteArray)] from rfl) (Reps.none _ _))))))
    intro v142 w111 ho112 hb hg_ hnew_
    have HS2_ := (hb.cell (World.block_lt_of_cell? _ _ (hHeld.2.2.1))).trans (hHeld.2.2.1)
    have HS3_ := (hb.cell (World.block_lt_of_cell? _ _ (hHeld.2.2.2.1))).trans (hHeld.2.2.2.1)
    have HS4_ := (hb.cell (World.block_lt_of_cell? _ _ (hHeld.2.2.2.2))).trans (hHeld.2.2.2.2)
    clear hg_ hnew_
    (first | rw [← Ny141.out] at ho112 | (simp only [Int.reduceToNat] at ho112; rw [← Ny141.out] at ho112))
    replace HO_110001 := am (Kd.S_elder' (pY118) (Kd.R_base ho112) hb)
    have HO143 := am (Kd.R_lower (Kd.R_new' (Kd.R_new' (Kd.R_new' ho112 (Kd.R_lt (pY117))) (Kd.R_lt (rR HL140_1.out))) (Kd.R_lt (rR HL140_2.out))) (keep_size (w := w) (g := g) (row := none) (pY51)))
    replace HO_110000 := am (Kd.R_elder' (pY117) (Kd.R_base ho112) hb)
    replace HL140_1 := am (Kd.R_elder' (rR HL140_1.out) (Kd.R_base ho112) hb)
    replace HL140_2 := am (Kd.R_elder' (rR HL140_2.out) (Kd.R_base ho112) hb)
    replace BK101 := bB pY98 hb
    replace BK102 := bB pY99 hb
    replace BK109 := bB pY106 hb
    replace HR140_1 := am (Kd.C_below (by repeat (first | (with_reducible exact HR140_1.1) | (with_reducible refine Kd.C_alloc ?_ _) | (with_reducible refine Kd.C_drewN ?_ _) | (with_reducible refine Kd.C_drew ?_) | exact HR140_1.1)) hb)
    replace HX140_1 := am (pw_cell_below hb HX140_1.out)
    replace HR140_2 := am (Kd.C_below (by repeat (first | (with_reducible exact HR140_2.1) | (with_reducible refine Kd.C_alloc ?_ _) | (with_reducible refine Kd.C_drewN ?_ _) | (with_reducible refine Kd.C_drew ?_) | exact HR140_2.1)) hb)
    replace HX140_2 := am (pw_cell_below hb HX140_2.out)
    replace HK := am (KeepBut.trans (pY51) (KeepBut.of_below hb g none) (.inl rfl))
    replace HB := bS pY24 hb
    replace HI0 := am (IsS103.below (pY35) hb)
    clear hb ho112
    obtain ⟨Ao113, co113, eo113⟩ := Kd.R_slice HO143.1
    (first | subst eo113 | (injection eo113 with f1_ f2_ f3_; have f4_ := f1_.symm; have f5_ := f3_.symm; clear f1_ f2_ f3_; subst f4_; subst f5_))
    refine hK.out _ _ ⟨(blk_cell BK109.1 0).trans rfl, (blk_cell BK109.1 1).trans rfl, HS2_, HS3_, HS4_⟩ (fun hHeld => ?_)
    clear hK K
    refine nM ?_
    refine oN 11 (some 96) fun K hK => ?_
    refine goes_ Try.func101 (by kernel_rfl) rfl #[.pointer (some ⟨g, 0, none⟩), .slice Ao113 y141.length co113] (by rfl) rfl rfl (pY94) ?_
    with_reducible refine (spec_l1Rd_of.calls kj3 g s0_0 t123 _ _ y141 t144 t145 w0 _ ?side1 ?side2 ?side3 ?side4 ?side5 A101.out).mono ?_
    (case side1 => exact (pY35))
    (case side2 => exact (pY24))
    (case side3 => exact pC (Kd.R_reads' HO143.1).2.2)
    (case side4 => exact (Kd.R_reads' HO143.1).2.1)
    (case side5 => exact far_slice (IsS103.own_ne HI0.out HO143.1 (by decide)))
    rintro e w114 ⟨rfl, hi, hb, hk⟩
    have HS2_ := keep_cell hk (hHeld.2.2.1) (pY18)
    have HS3_ := keep_cell hk (hHeld.2.2.2.1) (pY18)
    have HS4_ := keep_cell hk (hHeld.2.2.2.2) (pY18)
    refine ⟨_, rfl, ?_⟩
    replace HO_110000 := am (Kd.R_mono (Kd.R_keep (IsS103.apart (show IsS103 w0 _ g s0_0 t123 from pY35) (pY117) (by decide)) hk (fun _ h => h.2)) (fun _ h => h.1))
    replace BK101 := kb pY98 hk NB101_0
    replace BK102 := kb pY99 hk NB102_0
    replace BK109 := kb pY106 hk NB109_0
    replace HL140_1 := am (Kd.R_mono (Kd.R_keep (IsS103.apart (show IsS103 w0 _ g s0_0 t123 from pY35) (rR HL140_1.out) (by decide)) hk (fun _ h => h.2)) (fun _ h => h.1))
    replace HX140_1 := am (keep_cell hk HX140_1.out (pY14))
    replace HL140_2 := am (Kd.R_mono (Kd.R_keep (IsS103.apart (show IsS103 w0 _ g s0_0 t123 from pY35) (rR HL140_2.out) (by decide)) hk (fun _ h => h.2)) (fun _ h => h.1))
    replace HX140_2 := am (keep_cell hk HX140_2.out (pY14))
    replace HO_110001 := am (Kd.S_mono (Kd.S_keep (IsS103.apartS (show IsS103 w0 _ g s0_0 t123 from pY35) (pY118) (by decide)) hk (fun _ h => h.2)) (fun _ h => h.1))
    replace HO143 := am (Kd.R_mono (Kd.R_keep (IsS103.apart (show IsS103 w0 _ g s0_0 t123 from pY35) (rR HO143.1) (by decide)) hk (fun _ h => h.2)) (fun _ h => h.1))
    replace HK := am (KeepBut.trans (pY51) hk (.inl rfl))
    replace HB := am (hb)
    replace HI0 := am (hi)
    (try clear hb)
    (try clear hb2)
    (try clear hk)
    (try clear hi)
    obtain ⟨go115, co115, eo115, gb115, gl115, cl115, HG115⟩ := Kd.S_form HO_110001.1 (by have h_ : (t120 : Int) < ((t106.length : Int) : Int) := oT; have h2_ : 0 ≤ (t120 : Int) := (oT); omega)
    (first | cases eo115 | (injection eo115 with ea_ en_ ec_; (first | subst ea_ | (injection ea_ with ea_; subst ea_)); subst ec_; clear en_))
    have GB115 := am gb115
    have GG115 := am HG115
    clear gb115 gl115 HG115
    (first | simp only [add_plain] at hx140_0 | skip)
    (first | simp only [add_plain] at hx140_1 | skip)
    (first | simp only [add_plain] at hx140_2 | skip)
    obtain ⟨oki115, ce115, hcl115, hM115, hcc115, _, _, hH115⟩ := Kd.S_elem HO_110001.1 z56 (t120 : Int) (oT) (by have h_ : (t120 : Int) < ((t106.length : Int) : Int) := oT; first | exact h_ | (have e_ := (Kd.S_reads' HO_110001.1).1; omega) | simpa using h_)
    obtain ⟨ve115_1, ve115_2, rfl, ge115_1, ge115_2⟩ := k56_openM hM115
    have hs115 := k56_sepM hM115
    clear hM115
    have hv115 := hcc115 1 _ rfl
    have hX115 := HX140_1.out
    (try simp only [add_plain] at hX115)
    (try simp only [Nat.add_zero] at hv115)
    replace hv115 := Option.some.inj (hv115.symm.trans hX115)
    subst hv115
    clear hX115 hcc115 hcl115
    have UU115 := am (show Kd.R Kd.string 9 _ w.heap.size oki115 (.slice A140_1 ((rd_T56 t106 t120).f1).length c140_1) ((rd_T56 t106 t120).f1) from ge115_1)
    have HH115 := am hH115
    have HN115 := am (Kd.S_reads' HO_110001.1).1
    have HE115_2 := am ge115_2
    have HSp115 := am hs115
    clear hs115
    clear hH115 ge115_1 ge115_2
    refine hK.out _ _ ⟨(blk_cell BK109.1 0).trans rfl, (blk_cell BK109.1 1).trans rfl, HS2_, HS3_, HS4_⟩ (fun hHeld => ?_)
    clear hK K
    refine nM ?_
    refine oN 12 (some 97) fun K hK => ?_
    refine value_ (w1 := ?_) (v := ?_) (by rfl) rfl ?_ ?_
    rotate_left 2
    ·go_simp
     constructor
     ·rfl
     ·rfl
    refine hK.out _ _ ⟨(blk_cell (blk_alloc BK109.1 _) 0).trans rfl, (blk_cell (blk_alloc BK109.1 _) 1).trans rfl, (World.cell?_alloc_lt _ _ _ (World.block_lt_of_cell? _ _ (hHeld.2.2.1))).trans (hHeld.2.2.1), (World.cell?_alloc_lt _ _ _ (World.block_lt_of_cell? _ _ (hHeld.2.2.2.1))).trans (hHeld.2.2.2.1), (World.cell?_alloc_lt _ _ _ (World.block_lt_of_cell? _ _ (hHeld.2.2.2.2))).trans (hHeld.2.2.2.2)⟩ (fun hHeld => ?_)
    clear hK K
    refine nM ?_
    refine oN 13 (some 98) fun K hK => ?_
    refine Kd.R_append_step Kd.string w.heap.size (by rfl) (.tmp 93) (.tmp 97) 23 9 (.string ⟨#[]⟩) 16 rfl Try.underlying23 info9 rfl (by decide) (by omega) (.slice A140_1 ((rd_T56 t106 t120).f1).length c140_1) ((rd_T56 t106 t120).f1) t144 [.string t144] (fun k_ => oki115 k_ ∨ ((fun k_ => some k_ ≠ (.slice Ao12 t103.length co12 : Value).ownBlock ∧ some k_ ≠ (.slice Ao113 y141.length co113 : Value).ownBlock)) k_ ∧ w114.heap.size ≤ k_) (fun _ => False) rfl rfl ?aP (fun _ hk => hk.elim) ?aF ?aO (Below.refl _ _) ?aS ?aL ?_
    (case aP => exact rfl)
    (case aF => exact (fun k_ hk => .inr ⟨⟨Kd.fresh' (Kd.R_lt (pY117)) k_ hk, Kd.fresh' (Kd.R_lt (rR HO143.1)) k_ hk⟩, hk⟩))
    (case aO => exact (by refine rR ?_; exact Kd.R_mono UU115.out (fun _ hk => .inl hk)))
    (case aS => exact (keep_size (w := w) (g := g) (row := none) (pY51)))
    (case aL => have := LMc102.out; omega)
    intro v147 w116 ho hb hg hat
    (first | have HS2_ := cell_grown hg (hHeld.2.2.1) (pY53) | have HS2_ := cell_grown hg (cell_unalloc (hHeld.2.2.1) (pY86)) (pY53))
    (first | have HS3_ := cell_grown hg (hHeld.2.2.2.1) (pY53) | have HS3_ := cell_grown hg (cell_unalloc (hHeld.2.2.2.1) (pY86)) (pY53))
    (first | have HS4_ := cell_grown hg (hHeld.2.2.2.2) (pY53) | have HS4_ := cell_grown hg (cell_unalloc (hHeld.2.2.2.2) (pY86)) (pY53))
    rw [← Ny146.out] at ho
    have n0_ := am (Kd.R_grown2 (pY117) rfl hg (fun k_ e_ => (HL140_1.out.1 k_ e_).1.1))
    have n1_ := gR pY98 hg HL140_1 BK101
    have n2_ := gR pY99 hg HL140_1 BK102
    have n3_ := gR pY106 hg HL140_1 BK109
    have n4_ := am (IsS103.grown (pY35) hg (IsS103.own_ne HI0.out HL140_1.out (by decide)))
    have n5_ := am (Kd.R_grown2 (rR HO143.1) rfl hg (fun k_ e_ => (HL140_1.out.1 k_ e_).2))
    have n6_ := am (below_weaken (pY24) HL.out hb)
    have n7_ := am (KeepBut.trans (pY51) (KeepBut.of_grown hg g) (Kd.R_base2 HL140_1.out))
    have n8_ := am (Kd.H_grown (Kd.H_widen (by repeat (first | exact HH115.out | refine Kd.H_alloc ?_ _ | refine Kd.H_drewN ?_ _ | refine Kd.H_drew ?_))) hg (fun k_ e_ => .inl (UU115.out.1 k_ e_)))
    have n9_ := am (Kd.R_grown2 (rR HE115_2.out) rfl hg (fun k_ e_ => fun e2_ => HSp115.out k_ e_ e2_.symm))
    have n10_ := am (sep_g1 HSp115.out hat (rR HE115_2.out))
    have n11_ := am (ho)
    clear HO_110000
    clear BK101
    clear BK102
    clear BK109
    clear HI0
    clear HO143
    clear HB
    clear HK
    clear HH115
    clear HE115_2
    clear HSp115
    clear HO_110001
    clear UU115
    clear HL140_1
    clear HL140_2
    have HO_110000 := n0_
    have BK101 := n1_
    have BK102 := n2_
    have BK109 := n3_
    have HI0 := n4_
    have HO143 := n5_
    have HB := n6_
    have HK := n7_
    have HH115 := n8_
    have HE115_2 := n9_
    have HSp115 := n10_
    have HO148 := n11_
    clear n0_ n1_ n2_ n3_ n4_ n5_ n6_ n7_ n8_ n9_ n10_ n11_
    clear ho hb hg hat
    have p103 : 0 ≤ (t120 : Int) := oT
    have q103 : (t120 : Int) < ((t106.length : Int) : Int) := oT
    replace p103 := eq_true p103
    replace q103 := eq_true q103
    obtain ⟨Ao119, co119, eo119⟩ := Kd.R_slice HO148.1
    (first | subst eo119 | (injection eo119 with f1_ f2_ f3_; have f4_ := f1_.symm; have f5_ := f3_.symm; clear f1_ f2_ f3_; subst f4_; subst f5_))
    obtain ⟨_, _, hraw117, _, _, hcc117, _⟩ := Kd.H_raw HH115.out (oT) (by have h_ : (t120 : Int) < ((t106.length : Int) : Int) := oT; first | exact h_ | (have e_ := (HN115.out); omega) | simpa using h_)
    obtain ⟨_, hfr117⟩ := Kd.H_at HH115.out (oT) (by have h_ : (t120 : Int) < ((t106.length : Int) : Int) := oT; first | exact h_ | (have e_ := (HN115.out); omega) | simpa using h_)
    have hx117_0 := hcc117 1 _ rfl
    have hf117_0 := hfr117 1
    (try rw [show (k56).sz = 3 from rfl] at hx117_0)
    (try rw [show (k56).sz = 3 from rfl] at hf117_0)
    have HP117 := Kd.S_seg0 HH115.out (oT) (by have h_ : (t120 : Int) < ((t106.length : Int) : Int) := oT; first | exact h_ | (have e_ := (HN115.out); omega) | simpa using h_) (seg := [.slice Ao119 y146.length co119]) (j := 1) (show 2 ≤ 3 from by decide) (x' := (⟨(rd_T56 t106 t120).f0, y146, (rd_T56 t106 t120).f2⟩ : S56)) (k56_mkM _ _ _ (⟨(rd_T56 t106 t120).f0, y146, (rd_T56 t106 t120).f2⟩ : S56) HO148.1 (Kd.R_mono HE115_2.out (fun _ h_ => .inl h_)) HSp115.out) (fun _ hk => hk)
    clear hcc117 hfr117
    have HN0_go115 := am (show g ≠ go115 from by have h_ := IsS103.own_ne HI0.out hraw117 (by decide); intro e_; exact h_ (by rw [e_]; rfl))
    have HNB101_go115 := am (show gb101 ≠ go115 from by have h_ := Kd.R_ne hraw117 BK101.1 (by decide); intro e_; exact h_ (by rw [e_]; rfl))
    have HNB102_go115 := am (show gb102 ≠ go115 from by have h_ := Kd.R_ne hraw117 BK102.1 (by decide); intro e_; exact h_ (by rw [e_]; rfl))
    have HNB109_go115 := am (show gb109 ≠ go115 from by have h_ := Kd.R_ne hraw117 BK109.1 (by decide); intro e_; exact h_ (by rw [e_]; rfl))
    have HS117 := HP117.1
    rw [← Ny149.out] at HS117
    have HQ117 := am HS117
    obtain ⟨_, hgg117⟩ := Kd.R_typed hraw117 go115 rfl
    have GG117_ := am hgg117
    clear HP117 HS117 hgg117
    refine hK.out _ _ ⟨(blk_cell BK109.1 0).trans rfl, (blk_cell BK109.1 1).trans rfl, HS2_, HS3_, HS4_⟩ (fun hHeld => ?_)
    clear hK K
    refine nM ?_
    refine pU 14 (some 99) ?_
    refine pU 15 (some 100) ?_
    refine last_ (i := 16) (N := none) (bz 17 131071) rfl rfl (one_of HT_.out (by kernel_rfl)) (by decide) (fun K hK => ?_)
    refine skip_ (w1 := ?_) (by rfl) rfl ?_ ?_
    rotate_left
    ·go_simp
     rfl
    refine hK.out _ _ ?_
    clear hK K
    refine done_ (done_of HT_.out (by kernel_rfl)) ?_
    have n0_ : Aside0 (Kd.R Kd.string 9 (w116.setCell ⟨go115, (t120 : Int).toNat * 3 + 1, none⟩ (.slice Ao119 y146.length co119)) w.heap.size (fun k_ => some k_ ≠ (.slice Ao113 y141.length co113 : Value).ownBlock) (.slice Ao12 t103.length co12) t103) := ⟨by refine rR ?_; exact Kd.R_mono (Kd.R_far (p := ⟨go115, (t120 : Int).toNat * 3 + 1, none⟩) (tR HO_110000 GG117_) (fun _ hk => hk.2) (.slice Ao119 y146.length co119)) (fun _ hk => hk.1.2)⟩
    have n1_ : Aside0 (Kd.R Kd.string 9 (w116.setCell ⟨go115, (t120 : Int).toNat * 3 + 1, none⟩ (.slice Ao119 y146.length co119)) w.heap.size (fun k_ => some k_ ≠ (.slice Ao12 t103.length co12 : Value).ownBlock) (.slice Ao113 y141.length co113) y141) := ⟨by refine rR ?_; exact Kd.R_mono (Kd.R_far (p := ⟨go115, (t120 : Int).toNat * 3 + 1, none⟩) (tR HO143 GG117_) (fun _ hk => hk.2) (.slice Ao119 y146.length co119)) (fun _ hk => hk.1.1.1.2)⟩
    have n2_ : Aside0 (Kd.S k56 56 (w116.setCell ⟨go115, (t120 : Int).toNat * 3 + 1, none⟩ (.slice Ao119 y146.length co119)) w.heap.size (fun k_ => some k_ ≠ (.slice Ao12 t103.length co12 : Value).ownBlock ∧ some k_ ≠ (.slice Ao113 y141.length co113 : Value).ownBlock) (.slice (some ⟨go115, 0, none⟩) t106.length co17) y149) := ⟨rS HQ117.out⟩
    have n3_ : Aside0 ((w116.setCell ⟨go115, (t120 : Int).toNat * 3 + 1, none⟩ (.slice Ao119 y146.length co119)).heap[gb101]? = some (.cells #[.slice A1_0 l1_0.length c1_0, .slice A1_1 l1_1.length c1_1] 31 (0, 0))) := ⟨by refine rB ?_; refine blk_far ?_ HNB101_go115.out _; refine rB ?_; exact BK101.1⟩
    have n4_ : Aside0 ((w116.setCell ⟨go115, (t120 : Int).toNat * 3 + 1, none⟩ (.slice Ao119 y146.length co119)).heap[gb102]? = some (.cells #[.slice none 0 0, .slice none 0 0] 31 (0, 0))) := ⟨by refine rB ?_; refine blk_far ?_ HNB102_go115.out _; refine rB ?_; exact BK102.1⟩
    have n5_ : Aside0 ((w116.setCell ⟨go115, (t120 : Int).toNat * 3 + 1, none⟩ (.slice Ao119 y146.length co119)).heap[gb109]? = some (.cells #[.slice Ao12 t103.length co12, .slice (some ⟨go115, 0, none⟩) t106.length co17] 31 (0, 0))) := ⟨by refine rB ?_; refine blk_far ?_ HNB109_go115.out _; refine rB ?_; exact BK109.1⟩
    have n6_ : Aside0 (IsS103 w0 (w116.setCell ⟨go115, (t120 : Int).toNat * 3 + 1, none⟩ (.slice Ao119 y146.length co119)) g s0_0 t145) := ⟨by repeat (first | (with_reducible first | exact HI0.out | apply IsS103.alloc | apply IsS103.drewN | apply IsS103.drew | apply IsS103.set_1 | refine IsS103.far ?_ HN0_go115.out _ | refine IsS103.far ?_ NB0_101.1 _ | refine IsS103.far ?_ NB0_102.1 _ | refine IsS103.far ?_ NB0_109.1 _) | exact HI0.out)⟩
    have n7_ : Aside0 (KeepBut w (w116.setCell ⟨go115, (t120 : Int).toNat * 3 + 1, none⟩ (.slice Ao119 y146.length co119)) g none) := ⟨by repeat (first | (with_reducible first | exact HK.out | apply KeepBut.set_ | apply keep_drewN | apply keep_drew | apply keep_alloc | refine keep_far ?_ GB115.out _ | refine keep_far ?_ GW101.out _ | refine keep_far ?_ GW102.out _ | refine keep_far ?_ GW109.out _) | exact HK.out)⟩
    have n8_ : Aside0 (Below w0.heap.size w0 (w116.setCell ⟨go115, (t120 : Int).toNat * 3 + 1, none⟩ (.slice Ao119 y146.length co119))) := ⟨by repeat (first | (with_reducible first | exact HB.1 | apply below_alloc | apply pw_below_drewN | apply below_drew1 | refine below_set ?_ (Nat.le_trans HL.out GB115.out) | refine below_set ?_ (IsS103.ge HI0.out) | refine below_set ?_ GE101.1 | refine below_set ?_ GE102.1 | refine below_set ?_ GE109.1) | exact HB.1)⟩
    (try clear HO_110000)
    (try clear HO143)
    (try clear HO_110001)
    (try clear BK101)
    (try clear BK102)
    (try clear BK109)
    (try clear HI0)
    (try clear HK)
    (try clear HB)
    generalize (w116.setCell ⟨go115, (t120 : Int).toNat * 3 + 1, none⟩ (.slice Ao119 y146.length co119)) = w120 at n0_ n1_ n2_ n3_ n4_ n5_ n6_ n7_ n8_ ⊢
    have HO_110000 := n0_
    have HO143 := n1_
    have HO_110001 := n2_
    have BK101 := n3_
    have BK102 := n4_
    have BK109 := n5_
    have HI0 := n6_
    have HK := n7_
    have HB := n8_
    clear n0_ n1_ n2_ n3_ n4_ n5_ n6_ n7_ n8_
    obtain ⟨hcz121_0, hcz121_1, hfz121_0, hfz121_1⟩ := cz2 BK109
    have hnb122 := NB102_101.1
    have hnc122 := NB101_102.1
    have hnb123 := NB102_0.1
    have hnc123 := NB0_102.1
    obtain ⟨hcz124_0, hcz124_1, hfz124_0, hfz124_1⟩ := cz2 BK102
    try go_wp2
    refine bodyPost_ret (results_cell_row rfl _ _ gb102 31 #[.slice Ao12 t103.length co12, .slice (some ⟨go115, 0, none⟩) t106.length co17] (0, 0) _ rfl (by refine rB ?_; refine blk_put (cs := #[.slice Ao12 t103.length co12, .slice none 0 0]) ?_ 1 _ rfl; refine rB ?_; refine blk_put (cs := #[.slice none 0 0, .slice none 0 0]) ?_ 0 _ rfl; refine rB ?_; exact BK102.1) Try.underlying31 rfl (by kernel_rfl)) rfl ?_
    refine toN_ ?_
    exact ⟨_, _, eR, by refine rR ?_; exact Kd.R_mono (fR (fR (tR HO_110000 BK102))) (fun _ hk => trivial), by refine rS ?_; exact Kd.S_mono (fS (fS (tS HO_110001 BK102))) (fun _ hk => hk.1.1), pY35, pY24, pY51⟩
   ·replace HO_110000 := am (Kd.R_drew HO_110000.1)
    replace HO_110001 := am (Kd.S_drew HO_110001.1)
    replace BK101 := am (blk_drew BK101.1)
    replace BK102 := am (blk_drew BK102.1)
    replace BK109 := am (blk_drew BK109.1)
    replace HI0 := am (IsS103.drew HI0.out)
    replace HK := am (keep_drew HK.out)
    replace HB := am (below_drew1 HB.1)
    have p130 : 0 ≤ (t120 : Int) := oT
    have q130 : t120 < (t106.length : Int) := oT
    have HN := am (show Kd.N k56 56 w3920.drew w.heap.size (fun k_ => (w.heap.size ≤ k_) ∧ some k_ ≠ (.slice Ao12 t103.length co12 : Value).ownBlock ∧ k_ ≠ g ∧ k_ ≠ gb101 ∧ k_ ≠ gb102 ∧ k_ ≠ gb109) _ t106 from Kd.N_mono (Kd.S_N (Kd.S_bound HO_110001.1)) (fun k_ hk => ⟨hk.2.1, hk.1, isS_ne hk.2.2.2 HI0.out, bnd_ne hk.2.2.2 BK101.1 (by decide), bnd_ne hk.2.2.2 BK102.1 (by decide), bnd_ne hk.2.2.2 BK109.1 (by decide)⟩))
    clear HO_110001
    obtain ⟨ad130, A130_1, c130_1, A130_2, c130_2, e130, hx130_0, hx130_1, hx130_2, hl130_1, hi130_1, hl130_2, hi130_2⟩ := at_T56 (Kd.N_reads' HN.out).2.2 t120 p130 q130
    cases e130
    clear hl130_1 hi130_1 hl130_2 hi130_2
    obtain ⟨ce_, hce_, hMe_, hcc_⟩ := Kd.N_get HN.out z56 t120 p130 q130
    obtain ⟨ua1, uc1, ua2, uc2, rfl, ul1, ge1, ul2, ge2⟩ := k56_openF hMe_
    have hv1 := hcc_ 1 _ rfl
    rw [add_field _ _ 1 (by omega)] at hv1
    replace hv1 := Option.some.inj (hv1.symm.trans hx130_1)
    have hv2 := hcc_ 2 _ rfl
    rw [add_field _ _ 2 (by omega)] at hv2
    replace hv2 := Option.some.inj (hv2.symm.trans hx130_2)
    injection hv1 with hv1 _ hw1
    injection hv2 with hv2 _ hw2
    subst hv1; subst hw1; subst hv2; subst hw2
    clear hcc_ hce_ ul1 ge1 ul2 ge2
    have FKE := am (show Kd.FK k56 w3920.drew (fun k => (fun k_ => (w.heap.size ≤ k_) ∧ some k_ ≠ (.slice Ao12 t103.length co12 : Value).ownBlock ∧ k_ ≠ g ∧ k_ ≠ gb101 ∧ k_ ≠ gb102 ∧ k_ ≠ gb109) k ∧ some k ≠ (.slice (some ad130) t106.length co17 : Value).ownBlock) (rd_T56 t106 t120) [.string (rd_T56 t106 t120).f0, .slice ua1 (rd_T56 t106 t120).f1.length uc1, .slice ua2 (rd_T56 t106 t120).f2.length uc2] from hMe_)
    clear hMe_
    replace p130 := eq_true p130
    replace q130 := eq_true q130
    refine sT [10] 11 (uA2 BK109) (fun hHeld => ?_)
    generalize w3920.drew = w83 at HO_110000 HN BK101 BK102 BK109 HI0 HK HB FKE hx130_0 hx130_1 hx130_2 hHeld ⊢
    refine pU0 0 (some 103) ?_
    refine pU0 2 (some 105) ?_
    refine pU0 4 (some 107) ?_
    refine tK2_ 1 (some 104) ?_
    refine tK2_ 3 (some 106) ?_
    refine pU0 5 (some 108) ?_
    refine oM 6 (some 109) fun K hK => ?_
    refine value_ (w1 := ?_) (v := ?_) (by rfl) rfl ?_ ?_
    rotate_left 2
    ·go_simp
     constructor
     ·rfl
     ·rfl
    refine hK.out _ _ (uA2 BK109).1 (fun hHeld => ?_)
    clear hK K
    refine nM ?_
    refine oM 7 (some 110) fun K hK => ?_
    refine value_ (w1 := ?_) (v := ?_) (by rfl) rfl ?_ ?_
    rotate_left 2
    ·go_simp
     constructor
     ·rfl
     ·rfl
    refine hK.out _ _ ⟨(blk_cell (blk_alloc BK109.1 _) 0).trans rfl, (blk_cell (blk_alloc BK109.1 _) 1).trans rfl⟩ (fun hHeld => ?_)
    clear hK K
    refine nM ?_
    refine oM 8 (some 111) fun K hK => ?_
    refine Kd.N_append_step k56 w.heap.size (by rfl) (.tmp 104) (.tmp 110) 29 56 (.agg #[(.string ⟨#[]⟩), (.slice none 0 0), (.slice none 0 0)]) 64 rfl Try.underlying29 info56 rfl (by decide) (by omega) (.slice (some ad130) t106.length co17) t106 (rd_T56 t106 t120) [.string (rd_T56 t106 t120).f0, .slice ua1 (rd_T56 t106 t120).f1.length uc1, .slice ua2 (rd_T56 t106 t120).f2.length uc2] (fun k_ => (w.heap.size ≤ k_) ∧ some k_ ≠ (.slice Ao12 t103.length co12 : Value).ownBlock ∧ k_ ≠ g ∧ k_ ≠ gb101 ∧ k_ ≠ gb102 ∧ k_ ≠ gb109) (fun k => (fun k_ => (w.heap.size ≤ k_) ∧ some k_ ≠ (.slice Ao12 t103.length co12 : Value).ownBlock ∧ k_ ≠ g ∧ k_ ≠ gb101 ∧ k_ ≠ gb102 ∧ k_ ≠ gb109) k ∧ some k ≠ (.slice (some ad130) t106.length co17 : Value).ownBlock) rfl rfl FKE.out (fun _ hk => hk) (fun k_ hk => ⟨Nat.le_trans HK.out.1 hk, Kd.fresh' (Kd.R_lt HO_110000.1) k_ hk, fun e_ => absurd (isS_lt HI0.out) (by omega), Kd.freshB BK101.1 k_ hk, Kd.freshB BK102.1 k_ hk, Kd.freshB BK109.1 k_ hk⟩) HN.out (Below.refl _ _) HK.out.1 (by have := LM.out; omega) ?_
    intro vN w84 ho hb hg hat
    replace HO_110000 := am (Kd.R_over' HO_110000.1 (Kd.N_typed HN.out) (by decide) hg)
    replace BK101 := am (blk_grown BK101.1 hg (Kd.N_ne HN.out BK101.1 (by decide)))
    replace BK102 := am (blk_grown BK102.1 hg (Kd.N_ne HN.out BK102.1 (by decide)))
    replace BK109 := am (blk_grown BK109.1 hg (Kd.N_ne HN.out BK109.1 (by decide)))
    replace HI0 := am (IsS103.grown HI0.out hg (IsS103.own_neN HI0.out HN.out (by decide)))
    replace HK := am (KeepBut.trans HK.out (KeepBut.of_grown hg g) (Kd.N_base2 HN.out))
    replace HN := am ho
    replace HB := am (below_weaken HB.1 HL.out hb)
    clear FKE hx130_0 hx130_1 hx130_2 ho hb hg hat
    generalize hyy : t106 ++ [rd_T56 t106 t120] = yN at HN ⊢
    obtain ⟨Ag, cg, rfl⟩ := Kd.N_slice HN.out
    refine hK.out _ _ (uA2 BK109).1 (fun hHeld => ?_)
    clear hK K
    refine nM ?_
    refine pU0 9 (some 112) ?_
    refine last_ (i := 10) (N := none) (bz 11 2047) rfl rfl (by kernel_rfl) (by decide) (fun K hK => ?_)
    have hs8 : w84.cell? ⟨gb109, 1, none⟩ = some (.slice (some ad130) t106.length co17) := (blk_cell BK109.1 1).trans rfl
    have hfs8 := blk_frozen BK109.1 1
    refine skip_ (w1 := (w84.setCell ⟨gb109, 1, none⟩ (.slice Ag yN.length cg))) (by rfl) rfl ?_ ?_
    ·go_simp
     (try rfl)
    refine hK.out _ _ ?_
    clear hK K
    refine done_ (by kernel_rfl) ?_
    clear hs8 hfs8
    have n0_ := am (Kd.R_mono (Kd.R_far (p := ⟨gb109, 1, none⟩) (tR HO_110000 BK109) (fun _ hk => hk.2) (.slice Ag yN.length cg)) (fun _ hk => hk.1))
    have n1_ := am (Kd.N_far (p := ⟨gb109, 1, none⟩) HN.out (fun _ hk => hk.2.2.2.2.2) (.slice Ag yN.length cg))
    have n2_ := am (blk_far (p := ⟨gb109, 1, none⟩) BK101.1 NB101_109.1 (.slice Ag yN.length cg))
    have n3_ := am (blk_far (p := ⟨gb109, 1, none⟩) BK102.1 NB102_109.1 (.slice Ag yN.length cg))
    have n4_ := am (blk_put (cs := #[.slice Ao12 t103.length co12, .slice (some ad130) t106.length co17]) BK109.1 1 (.slice Ag yN.length cg) rfl)
    have n5_ : Aside0 (IsS103 w0 (w84.setCell ⟨gb109, 1, none⟩ (.slice Ag yN.length cg)) g s0_0 t123) := ⟨by refine IsS103.far ?_ NB0_109.1 _; exact HI0.out⟩
    have n6_ : Aside0 (KeepBut w (w84.setCell ⟨gb109, 1, none⟩ (.slice Ag yN.length cg)) g none) := ⟨by refine keep_far ?_ GW109.out _; exact HK.out⟩
    have n7_ : Aside0 (Below w0.heap.size w0 (w84.setCell ⟨gb109, 1, none⟩ (.slice Ag yN.length cg))) := ⟨by refine below_set ?_ GE109.1; exact HB.1⟩
    clear HO_110000 HN BK101 BK102 BK109 HI0 HK HB
    change Aside0 ((w84.setCell ⟨gb109, 1, none⟩ (.slice Ag yN.length cg)).heap[gb109]? = some (.cells #[.slice Ao12 t103.length co12, .slice Ag yN.length cg] 31 (0, 0))) at n4_
    generalize (w84.setCell ⟨gb109, 1, none⟩ (.slice Ag yN.length cg)) = w93 at n0_ n1_ n2_ n3_ n4_ n5_ n6_ n7_ ⊢
    have HO_110000 := n0_
    have HN := n1_
    have BK101 := n2_
    have BK102 := n3_
    have BK109 := n4_
    have HI0 := n5_
    have HK := n6_
    have HB := n7_
    clear n0_ n1_ n2_ n3_ n4_ n5_ n6_ n7_
    have hcz109_0 : w93.cell? ⟨gb109, 0, none⟩ = some (.slice Ao12 t103.length co12) := (blk_cell BK109.1 0).trans rfl
    have hfz109_0 := blk_frozen BK109.1 0
    have hcz109_1 : w93.cell? ⟨gb109, 1, none⟩ = some (.slice Ag yN.length cg) := (blk_cell BK109.1 1).trans rfl
    have hfz109_1 := blk_frozen BK109.1 1
    have hcz102_0 : w93.cell? ⟨gb102, 0, none⟩ = some (.slice none 0 0) := (blk_cell BK102.1 0).trans rfl
    have hfz102_0 := blk_frozen BK102.1 0
    have hcz102_1 : w93.cell? ⟨gb102, 1, none⟩ = some (.slice none 0 0) := (blk_cell BK102.1 1).trans rfl
    have hfz102_1 := blk_frozen BK102.1 1
    have hnbz1 := NB102_101.1
    have hnbz2 := NB101_102.1
    have hnbz3 := NB102_0.1
    have hnbz4 := NB0_102.1
    try go_wp2
    refine bodyPost_ret (results_cell_row rfl _ _ gb102 31 #[.slice Ao12 t103.length co12, .slice Ag yN.length cg] (0, 0) _ rfl (blk_put (cs := #[.slice Ao12 t103.length co12, .slice none 0 0]) (blk_put (cs := #[.slice none 0 0, .slice none 0 0]) BK102.1 0 _ rfl) 1 _ rfl) Try.underlying31 rfl (by kernel_rfl)) rfl ?_
    rw [hyy]
    refine ⟨_, _, rfl, Kd.R_mono (Kd.R_bound (fR (fR (tR HO_110000 BK102)))) (fun _ hk => hk.2.1), Kd.N_mono (Kd.N_far (p := ⟨gb102, 1, none⟩) (Kd.N_far (p := ⟨gb102, 0, none⟩) HN.out (fun _ hk => hk.2.2.2.2.1) (.slice Ao12 t103.length co12)) (fun _ hk => hk.2.2.2.2.1) (.slice Ag yN.length cg)) (fun _ hk => ⟨hk.1, hk.2.1⟩), ?_, ?_, ?_⟩
    ·refine IsS103.far ?_ NB0_102.1 _; refine IsS103.far ?_ NB0_102.1 _; exact HI0.out
    ·exact below_set (below_set HB.1 GE102.1) GE102.1
    ·refine keep_far ?_ GW102.out _; refine keep_far ?_ GW102.out _; exact HK.out
   ·go_loopg [8] kj3 (fun kq v8 w' => ∃ (x8_2 : Int) (x110001_2 : List (S56)) (u110001 : Value), v8 = .int .i64 x8_2 ∧ Aside0 (spec_l5Spoil.l0 kq (wrap64 (5 + t151)) x8_2 s0_0 t152 t103 x110001_2 = some (r1, r2, r3)) ∧ Aside0 (kq ≤ kj3) ∧ Aside0 (Kd.R Kd.string 9 w' w.heap.size (fun _ => True) (.slice Ao12 t103.length co12) t103) ∧ Aside0 (Kd.S k56 56 w' w.heap.size (fun k_ => some k_ ≠ ((.slice Ao12 t103.length co12) : Value).ownBlock) u110001 x110001_2) ∧ Aside0 (w'.heap[gb101]? = some (.cells #[(.slice A1_0 l1_0.length c1_0), (.slice A1_1 l1_1.length c1_1)] 31 (0, 0))) ∧ Aside0 (w'.heap[gb102]? = some (.cells #[(.slice none 0 0), (.slice none 0 0)] 31 (0, 0))) ∧ Aside0 (w'.heap[gb109]? = some (.cells #[(.slice Ao12 t103.length co12), u110001] 31 (0, 0))) ∧ Aside0 (IsS103 w0 w' g s0_0 t152) ∧ Aside0 (KeepBut w w' g none) ∧ Aside0 (Below w0.heap.size w0 w'))
    case atStart => exact ⟨(0), (t106), (.slice Ao17 t106.length co17), (pY136), H', ⟨Nat.le_refl _⟩, ⟨rR HO_110000.1⟩, ⟨rS HO_110001.1⟩, ⟨rB BK101.1⟩, ⟨rB BK102.1⟩, ⟨rB BK109.1⟩, ⟨pY35⟩, ⟨pY51⟩, ⟨pY24⟩⟩
    case round =>
     clear H'
     try clear c71
     try clear c71b0
     try clear c71b1
     try clear c98
     try clear c98b0
     try clear c98b1
     try clear c125
     try clear c125b0
     try clear c125b1
     try clear hcz132_0 hcz132_1 hfz132_0 hfz132_1
     obtain ⟨x8_2, x110001_2, u110001, rfl, HA, HK2, HO_110000, HO_110001, BK101, BK102, BK109, HI0, HK, HB⟩ := hrel
     cases gk with
     | zero => exact absurd HA.out (by simp [spec_l5Spoil.l0])
     | succ k2 =>
      have H := HA.out
      clear HA
      simp only [spec_l5Spoil.l0] at H
      refine ic H ?_ ?_ <;> clear H <;> intro c136b0 H
      ·obtain ⟨t153, A137, H⟩ := bd H
       by_cases c138 : 1 + t153.size ≤ 9223372036854775807
       ·rw [if_pos c138] at H
        have c138b0 := eq_true c138
        have c138b1 : decide (1 + t153.size ≤ 9223372036854775807) = true := decide_eq_true c138
        try have c138b2 : (9223372036854775807 < 1 + t153.size) = False := eq_false (Nat.not_lt.2 c138)
        by_cases c139 : x110001_2.length < 2199023255552
        ·rw [if_pos c139] at H
         have LMc139 := am c139
         clear c139
         obtain ⟨y154, Ny154⟩ := yv (x110001_2 ++ [(⟨(⟨#[122]⟩ : ByteArray) ++ t153, ([] : List ByteArray), ([] : List ByteArray)⟩ : S56)]); first | replace H := bW Ny154 H | rw [← Ny154.1] at H
         have H' := am H
         clear H
         have hnb140 := NB109_101.1
         have hnc140 := NB101_109.1
         have hnb141 := NB109_102.1
         have hnc141 := NB102_109.1
         have hnb142 := NB109_0.1
         have hnc142 := NB0_109.1
         obtain ⟨hcz143_0, hcz143_1, hfz143_0, hfz143_1⟩ := cz2 BK109
         obtain ⟨Ao144, co144, eo144⟩ := Kd.S_slice HO_110001.1
         subst eo144
         try go_wp2
         replace HO_110000 := am (Kd.R_drew HO_110000.1)
         replace HO_110001 := am (Kd.S_drew HO_110001.1)
         replace BK101 := am (blk_drew BK101.1)
         replace BK102 := am (blk_drew BK102.1)
         replace BK109 := am (blk_drew BK109.1)
         replace HI0 := am (IsS103.drew HI0.out)
         replace HK := am (keep_drew HK.out)
         replace HB := am (below_drew1 HB.1)
         refine sT [9] 10 (uA2 BK109) (fun hHeld => ?_); refine with_tabW spec_l5Spoil.tab11 spec_l5Spoil.bits11 (fun HT_ HW_ => ?_)
         generalize wr.drew = w145 at HO_110000 HO_110001 BK101 BK102 BK109 HI0 HK HB hHeld ⊢
         refine pU 0 (some 46) ?_
         refine pU 2 (some 48) ?_
         refine tK2 1 (some 47) ?_
         refine oN 3 (some 49) fun K hK => ?_
         refine gQ Try.func131 (spec_l5Dec.calls x8_2 t153 _ A137.out) ?_
         rintro w146 hb
         replace HO_110000 := am (Kd.R_below (pY117) hb)
         replace HO_110001 := am (Kd.S_below (pY118) hb)
         replace BK101 := bB pY98 hb
         replace BK102 := bB pY99 hb
         replace BK109 := bB pY106 hb
         replace HK := am (KeepBut.trans (pY51) (KeepBut.of_below hb g none) (.inl rfl))
         replace HB := bS pY24 hb
         replace HI0 := am (IsS103.below (pY35) hb)
         (try clear hb)
         (try clear hb2)
         (try clear hk)
         (try clear hi)
         refine hK.out _ _ (uA2 BK109).1 (fun hHeld => ?_)
         clear hK K
         refine nM ?_
         refine pU 4 (some 50) ?_
         refine pU 5 (some 51) ?_
         refine oN 6 (some 52) fun K hK => ?_
         refine value_ (w1 := ?_) (v := ?_) (by rfl) rfl ?_ ?_
         rotate_left 2
         ·go_simp
          constructor
          ·rfl
          ·rfl
         refine hK.out _ _ ⟨(blk_cell (blk_alloc BK109.1 _) 0).trans rfl, (blk_cell (blk_alloc BK109.1 _) 1).trans rfl⟩ (fun hHeld => ?_)
         clear hK K
         refine nM ?_
         refine oN 7 (some 53) fun K hK => ?_
         refine Kd.S_append_step k56 w.heap.size (by rfl) (.tmp 47) (.tmp 52) 29 56 (.agg #[(.string ⟨#[]⟩), (.slice none 0 0), (.slice none 0 0)]) 64 rfl Try.underlying29 info56 rfl (by decide) (by omega) (.slice Ao144 x110001_2.length co144) x110001_2 (⟨(⟨#[122]⟩ : ByteArray) ++ t153, ([] : List ByteArray), ([] : List ByteArray)⟩ : S56) [.string ((⟨#[122]⟩ : ByteArray) ++ t153), .slice none 0 0, .slice none 0 0] (fun k_ => some k_ ≠ (.slice Ao12 t103.length co12 : Value).ownBlock) (fun _ => False) rfl rfl ?aP (fun k_ hk_ => hk_.elim) ?aF ?aO (Below.refl _ _) ?aS ?aL ?_
         (case aP => exact k56_mkM _ _ _ (⟨(⟨#[122]⟩ : ByteArray) ++ t153, ([] : List ByteArray), ([] : List ByteArray)⟩ : S56) (Kd.R_nil _ _ _ _ _) (Kd.R_nil _ _ _ _ _))
         (case aF => exact (fun k_ hk => Kd.fresh' (Kd.R_lt (pY117)) k_ hk))
         (case aO => exact (by refine rS ?_; exact Kd.S_mono HO_110001.1 (fun k_ hk => ⟨hk, fun e_ => e_⟩)))
         (case aS => exact (keep_size (w := w) (g := g) (row := none) (pY51)))
         (case aL => have := LMc139.out; omega)
         intro v155 w147 ho hb hg hat
         rw [← Ny154.out] at ho
         replace HO_110000 := am (Kd.R_over' (pY117) (Kd.S_typed (pY118)) (by decide) hg)
         replace BK101 := gS pY98 hg HO_110001 BK101
         replace BK102 := gS pY99 hg HO_110001 BK102
         replace BK109 := gS pY106 hg HO_110001 BK109
         replace HB := am (below_weaken (pY24) HL.out hb)
         replace HI0 := am (IsS103.grown (pY35) hg (IsS103.own_neS HI0.out HO_110001.1 (by decide)))
         replace HK := am (KeepBut.trans (pY51) (KeepBut.of_grown hg g) (Kd.S_base2 HO_110001.1))
         have HO156 := am (ho)
         clear HO_110001
         clear ho hb hg hat
         obtain ⟨Ao148, co148, eo148⟩ := Kd.S_slice HO156.1
         (first | subst eo148 | (injection eo148 with f1_ f2_ f3_; have f4_ := f1_.symm; have f5_ := f3_.symm; clear f1_ f2_ f3_; subst f4_; subst f5_))
         refine hK.out _ _ (uA2 BK109).1 (fun hHeld => ?_)
         clear hK K
         refine nM ?_
         refine pU 8 (some 54) ?_
         refine last_ (i := 9) (N := none) (bz 10 1023) rfl rfl (one_of HT_.out (by kernel_rfl)) (by decide) (fun K hK => ?_)
         have hs149 : w147.cell? ⟨gb109, 1, none⟩ = some (.slice Ao144 x110001_2.length co144) := (blk_cell BK109.1 1).trans rfl
         have hfs149 := blk_frozen BK109.1 1
         have hns149_0 := NB101_109.1
         have hns149_1 := NB102_109.1
         have hms149_0 := NB109_101.1
         have hms149_1 := NB109_102.1
         refine skip_ (w1 := ?_) (by rfl) rfl ?_ ?_
         rotate_left
         ·go_simp
          rfl
         refine hK.out _ _ ?_
         clear hK K
         refine done_ (done_of HT_.out (by kernel_rfl)) ?_
         try go_wp2
         go_roundg k2
         case measure => have := HJ3.out; have := HK2.out; omega
         case rel => exact ⟨(wrap64 (x8_2 + 1)), (y154), (.slice Ao148 y154.length co148), (pY136), H', ⟨by have := HJ3.out; have := HK2.out; omega⟩, ⟨by refine rR ?_; exact Kd.R_mono (fR (tR HO_110000 BK109)) (fun _ hk => trivial)⟩, ⟨by refine rS ?_; exact Kd.S_mono (fS (tS HO156 BK109)) (fun _ hk => hk.1)⟩, ⟨by refine rB ?_; refine blk_far ?_ NB101_109.1 _; refine rB ?_; exact BK101.1⟩, ⟨by refine rB ?_; refine blk_far ?_ NB102_109.1 _; refine rB ?_; exact BK102.1⟩, ⟨by refine rB ?_; refine blk_put (cs := #[.slice Ao12 t103.length co12, .slice Ao144 x110001_2.length co144]) ?_ 1 _ rfl; refine rB ?_; exact BK109.1⟩, ⟨pY35⟩, ⟨pY51⟩, ⟨pY24⟩⟩
        ·rw [if_neg c139] at H
         exact absurd H (by simp)
       ·rw [if_neg c138] at H
        exact absurd H (by simp)
      ·simp only [Option.some.injEq, Prod.mk.injEq] at H
       obtain ⟨rfl, rfl, rfl⟩ := H
       have hnb150 := NB109_101.1
       have hnc150 := NB101_109.1
       have hnb151 := NB109_102.1
       have hnc151 := NB102_109.1
       have hnb152 := NB109_0.1
       have hnc152 := NB0_109.1
       obtain ⟨hcz153_0, hcz153_1, hfz153_0, hfz153_1⟩ := cz2 BK109
       obtain ⟨Ao154, co154, eo154⟩ := Kd.S_slice HO_110001.1
       subst eo154
       have hnb155 := NB102_101.1
       have hnc155 := NB101_102.1
       have hnb156 := NB102_0.1
       have hnc156 := NB0_102.1
       obtain ⟨hcz157_0, hcz157_1, hfz157_0, hfz157_1⟩ := cz2 BK102
       go_wp2
       refine bodyPost_ret (results_cell_row rfl _ _ gb102 31 #[.slice Ao12 t103.length co12, .slice Ao154 x110001_2.length co154] (0, 0) _ rfl (by refine rB ?_; refine blk_put (cs := #[.slice Ao12 t103.length co12, .slice none 0 0]) ?_ 1 _ rfl; refine rB ?_; refine blk_put (cs := #[.slice none 0 0, .slice none 0 0]) ?_ 0 _ rfl; refine rB ?_; exact BK102.1) Try.underlying31 rfl (by kernel_rfl)) rfl ?_
       refine toN_ ?_
       exact ⟨_, _, eR, by refine rR ?_; exact Kd.R_mono (fR (fR (tR HO_110000 BK102))) (fun _ hk => trivial), by refine rS ?_; exact Kd.S_mono (fS (fS (tS HO_110001 BK102))) (fun _ hk => hk.1), pY35, pY24, pY51⟩
end Go.Proofs.Ytaofjgnhapnndaa.Q
namespace Go.Proofs.Ytaofjgnhapnndaa.Q
open Go.RowKit Go.Proofs.YtaofjgnhapnndaaW.PrintWords Go.Proofs.YtaofjgnhapnndaaW.PrintLast Go.Proofs.YtaofjgnhapnndaaW.PrintMore
set_option linter.unusedVariables false
set_option linter.unusedSimpArgs false
def spec_l5Any.f (k : Nat) (s0_0 : List Int) (s0_1 : Int) : Option (List ByteArray × (List (S56)) × Int) := (spec_l5Book.f k s0_0 s0_1).bind fun bt102 => ((spec_l1Rd_pick.f k s0_0 bt102.2.2 20).bind fun bt110 => (if bt110.1 = 0 then ((spec_l5Spoil.f k s0_0 bt110.2 bt102.1 bt102.2.1).bind fun bt112 => (some (bt112.1, bt112.2.1, bt112.2.2))) else (some (bt102.1, bt102.2.1, bt110.2))))
theorem spec_l5Any.calls (k : Nat) (g : Nat) (s0_0 : List Int) (s0_1 : Int) (r1 : List ByteArray) (r2 : List (S56)) (r3 : Int) (w0 w : World) (hI : IsS103 w0 w g s0_0 s0_1) (hB : Below w0.heap.size w0 w) (h : spec_l5Any.f k s0_0 s0_1 = some (r1, r2, r3)) :
  Calls Try.prog 98 #[.pointer (some ⟨g, 0, none⟩)] w fun e w' => ∃ v0_ v1_ : Value, e = .returned (.agg #[v0_, v1_]) ∧ Kd.R Kd.string 9 w' w.heap.size (fun k_ => (w.heap.size ≤ k_)) v0_ r1 ∧ Kd.N k56 56 w' w.heap.size (fun k_ => (w.heap.size ≤ k_) ∧ some k_ ≠ (v0_ : Value).ownBlock) v1_ r2 ∧ IsS103 w0 w' g s0_0 r3 ∧ Below w0.heap.size w0 w' ∧ KeepBut w w' g none := by
 have hu31 := Try.underlying31
 have HI0 := am hI
 have HK := am (KeepBut.refl w g none)
 have HL := am hB.size
 clear hI
 have HW0 := am hB.size
 have HB := am hB
 clear hB
 unfold spec_l5Any.f at h
 have H := h
 clear h
 obtain ⟨⟨t102, t105, t108⟩, A2, H⟩ := bd H
 dsimp only at H
 obtain ⟨⟨t110, t111⟩, A3, H⟩ := bd H
 dsimp only at H
 by_cases c4 : t110 = 0
 rw [if_pos c4] at H
 have c4b0 : (t110 == 0) = true := beq_iff_eq.mpr c4
 have c4b1 : (t110 != 0) = false := bne_eq_false_iff_eq.mpr c4
 clear c4
 obtain ⟨⟨t112, t115, t118⟩, A5, H⟩ := bd H
 dsimp only at H
 simp only [Option.some.injEq, Prod.mk.injEq] at H
 obtain ⟨rfl, rfl, rfl⟩ := H
 have M78_ := trivial
 rotate_left
 rw [if_neg c4] at H
 have c4b0 : (t110 == 0) = false := beq_eq_false_iff_ne.mpr c4
 have c4b1 : (t110 != 0) = true := bne_iff_ne.mpr c4
 simp only [Option.some.injEq, Prod.mk.injEq] at H
 obtain ⟨rfl, rfl, rfl⟩ := H
 have M80_ := trivial
 rotate_left
 all_goals
  go_enter Try.func98, Try.ntmps98
  go_wp2_with (first | ((with_reducible refine gD 2 ?_); refine bX 2 #[.slice none 0 0, .slice none 0 0] 31 ?_; intro gb101 hg w4000 hbox hb; replace HB := bS pY88 hb; have BK101 := am (hbox); have GW101 := am (pY74 : w.heap.size ≤ gb101); have GE101 := am (Nat.le_trans HW0.out (pY74 : w.heap.size ≤ gb101) : w0.heap.size ≤ gb101); replace HK := am (KeepBut.trans (pY93) (KeepBut.of_below hb g none) (.inl rfl)); have NB0_101 := am (by rw [hg]; exact Nat.ne_of_lt (IsS103.lt (show IsS103 w0 _ g s0_0 s0_1 from pY92)) : g ≠ gb101); have NB101_0 := am (by rw [hg]; exact Nat.ne_of_gt (IsS103.lt (show IsS103 w0 _ g s0_0 s0_1 from pY92)) : gb101 ≠ g); replace HI0 := am (IsS103.below (pY92) hb); clear hb hbox hg) | ((with_reducible refine gC 119 ?_); refine cE (some 5) Try.func119 (spec_l5Book.calls k g s0_0 s0_1 t102 t105 t108 w0 _ ((pY85)) ((pY76)) A2.out) ?_; rintro e w4040 ⟨v103, v106, rfl, ho0, ho1, hi, hb, hk⟩; refine ⟨_, rfl, ?_⟩; have HO104 := am (Kd.R_lower (Kd.R_newM (M := fun k_ => (w.heap.size ≤ k_)) (Kd.R_mono (ok' := fun k_ => True) ho0 (fun _ hk_ => trivial)) (keep_size (w := w) (g := g) (row := none) (pY87)) (fun k_ h_ => h_)) (keep_size (w := w) (g := g) (row := none) (pY87))); have HO107 := am (Kd.N_lower (Kd.N_mono (ok' := fun k_ => (w.heap.size ≤ k_) ∧ some k_ ≠ (v103 : Value).ownBlock ∧ k_ ≠ gb101 ∧ k_ ≠ g) ho1 (fun k_ hk_ => ⟨(Nat.le_trans (keep_size (w := w) (g := g) (row := none) (pY87)) hk_.1), hk_.2, (fB pY98 k_ hk_.1), (IsS103.fresh (pY85) k_ hk_.1)⟩)) (keep_size (w := w) (g := g) (row := none) (pY87))); replace BK101 := kb pY98 hk NB101_0; replace HK := am (KeepBut.trans (pY87) hk (.inl rfl)); replace HB := am (hb); replace HI0 := am (hi); (try clear hb); (try clear hk); (try clear hi); (try clear ho0); (try clear ho1)) | ((with_reducible refine gD 3 ?_); refine bX 3 #[.slice none 0 0, .slice none 0 0] 31 ?_; intro gb109 hg w4080 hbox hb; replace HO104 := am (Kd.R_below (pY125) hb); replace HO107 := am (Kd.N_below (Kd.N_elderB (rN HO107.1) gb109 (Nat.le_of_eq hg.symm)) hb); replace HB := bS pY76 hb; have BK109 := am (hbox); have GW109 := am (pY54 : w.heap.size ≤ gb109); have GE109 := am (Nat.le_trans HW0.out (pY54 : w.heap.size ≤ gb109) : w0.heap.size ≤ gb109); replace HK := am (KeepBut.trans (pY87) (KeepBut.of_below hb g none) (.inl rfl)); have NB101_109 := nL pY98 hg; have NB109_101 := nG pY98 hg; replace BK101 := bB pY98 hb; have NB0_109 := am (by rw [hg]; exact Nat.ne_of_lt (IsS103.lt (show IsS103 w0 _ g s0_0 t108 from pY85)) : g ≠ gb109); have NB109_0 := am (by rw [hg]; exact Nat.ne_of_gt (IsS103.lt (show IsS103 w0 _ g s0_0 t108 from pY85)) : gb109 ≠ g); replace HI0 := am (IsS103.below (pY85) hb); clear hb hbox hg; obtain ⟨Ao4081, co4082, eo4083⟩ := Kd.R_slice HO104.1; subst eo4083; have hnb4084 := NB109_101.1; have hnc4085 := NB101_109.1; have hnb4086 := NB109_0.1; have hnc4087 := NB0_109.1; obtain ⟨hcz4088_0, hcz4088_1, hfz4089_0, hfz4089_1⟩ := cz2 BK109; obtain ⟨Ao4090, co4091, eo4092⟩ := Kd.N_slice HO107.1; subst eo4092) | ((with_reducible refine gC 100 ?_); clear M78_; refine cQ (some 7) Try.func100 (spec_l1Rd_pick.calls k g s0_0 t108 20 t110 t111 w0 _ ((pY71)) ((pY58)) A3.out) ?_; rintro w4120 ⟨hi, hb, hk⟩; replace BK101 := am (KeepBut.blk hk (g' := gb101) (o := .cells #[.slice none 0 0, .slice none 0 0] 31 (0, 0)) (pY10) NB101_0.1 (by simp)); replace HO104 := am (Kd.R_mono (Kd.R_keep (IsS103.apart (show IsS103 w0 _ g s0_0 t108 from pY71) (by refine rR ?_; exact (Kd.R_mono (fR (fR (tR HO104 BK109))) (fun _ h_ => h_.1))) (by decide)) hk (fun _ h => h.2)) (fun _ h => h.1)); replace HO107 := am (Kd.N_mono (Kd.N_keep (Kd.N_mono (ok := fun k_ => ((((w.heap.size ≤ k_)) ∧ (some k_ ≠ (.slice Ao4081 t102.length co4082 : Value).ownBlock ∧ (k_ ≠ gb101 ∧ k_ ≠ g))) ∧ k_ ≠ gb109)) (by refine rN ?_; exact (Kd.N_mono (fN (fN (Kd.N_mono HO107.1 (fun k_ hk => (⟨hk, hk.2⟩ : _ ∧ k_ ≠ gb109))))) (fun _ h_ => h_.1))) (fun k_ hk_ => (⟨hk_, hk_.1.2.2.2⟩ : _ ∧ k_ ≠ g))) hk (fun _ h => h.2)) (fun _ h => h.1)); replace BK109 := am (KeepBut.blk hk (g' := gb109) (o := .cells #[.slice Ao4081 t102.length co4082, .slice Ao4090 t105.length co4091] 31 (0, 0)) (by refine rB ?_; refine blk_put (cs := #[.slice Ao4081 t102.length co4082, .slice none 0 0]) ?_ 1 _ rfl; refine rB ?_; refine blk_put (cs := #[.slice none 0 0, .slice none 0 0]) ?_ 0 _ rfl; refine rB ?_; exact BK109.1) NB109_0.1 (by simp)); replace HK := am (KeepBut.trans (pY73) hk (.inl rfl)); replace HB := am (hb); replace HI0 := am (hi); (try clear hb); (try clear hk); (try clear hi); obtain ⟨hcz4121_0, hcz4121_1, hfz4122_0, hfz4122_1⟩ := cz2 BK109) | ((with_reducible refine gC 120 ?_); refine cE (some 11) Try.func120 (spec_l5Spoil.calls k g s0_0 t111 _ _ t102 _ _ t105 t112 t115 t118 w0 _ ((pY71)) ((pY58)) (pC (Kd.R_reads' HO104.1).2.2) ((Kd.R_reads' HO104.1).2.1) (far_slice (IsS103.own_ne HI0.out HO104.1 (by decide))) (Kd.C_foot_ownV (base := 0) (Kd.N_V (Kd.N_mono (ok := fun k_ => ((((w.heap.size ≤ k_)) ∧ (some k_ ≠ (.slice Ao4081 t102.length co4082 : Value).ownBlock ∧ (k_ ≠ gb101 ∧ k_ ≠ g))) ∧ k_ ≠ gb109)) (rN HO107.1) (fun k_ hk_ => (⟨hk_, hk_.1.2.2.2⟩ : _ ∧ k_ ≠ g)))) (fun _ h_ => h_.2)) ((Kd.N_reads' HO107.1).2.1) A5.out) ?_; rintro e w4160 ⟨v113, v116, rfl, ho0, ho1, hi, hb, hk⟩; refine ⟨_, rfl, ?_⟩; have HO114 := am (Kd.R_lower (Kd.R_new' (Kd.R_newM (M := fun k_ => (w.heap.size ≤ k_)) (Kd.R_mono (ok' := fun k_ => True) ho0 (fun _ hk_ => trivial)) (keep_size (w := w) (g := g) (row := none) (pY73)) (fun k_ h_ => h_)) (Kd.R_lt (pY125))) (keep_size (w := w) (g := g) (row := none) (pY73))); have HO117 := am (Kd.N_lower (Kd.N_mono (ok' := fun k_ => (w.heap.size ≤ k_) ∧ some k_ ≠ (v113 : Value).ownBlock ∧ some k_ ≠ (.slice Ao4081 t102.length co4082 : Value).ownBlock ∧ some k_ ≠ (.slice Ao4090 t105.length co4091 : Value).ownBlock ∧ k_ ≠ gb101 ∧ k_ ≠ gb109 ∧ k_ ≠ g) ho1 (fun k_ hk_ => ⟨(Nat.le_trans (keep_size (w := w) (g := g) (row := none) (pY73)) hk_.1), hk_.2, (Kd.fresh' (Kd.R_lt (pY125)) k_ hk_.1), (Kd.fresh' (Kd.N_lt (rN HO107.1)) k_ hk_.1), (fB pY98 k_ hk_.1), (fB pY106 k_ hk_.1), (IsS103.fresh (pY71) k_ hk_.1)⟩)) (keep_size (w := w) (g := g) (row := none) (pY73))); replace BK101 := kb pY98 hk NB101_0; replace HO104 := am (Kd.R_mono (Kd.R_told (Kd.R_oldK (IsS103.apart (show IsS103 w0 _ g s0_0 t111 from pY71) (pY125) (by decide)) hk) (Kd.R_base ho0)) (fun _ h_ => h_.1)); replace HO107 := am (Kd.N_mono (Kd.N_told (Kd.N_told (Kd.N_oldK (Kd.N_mono (ok := fun k_ => ((((w.heap.size ≤ k_)) ∧ (some k_ ≠ (.slice Ao4081 t102.length co4082 : Value).ownBlock ∧ (k_ ≠ gb101 ∧ k_ ≠ g))) ∧ k_ ≠ gb109)) (rN HO107.1) (fun k_ hk_ => (⟨hk_, hk_.1.2.2.2⟩ : _ ∧ k_ ≠ g))) hk) (Kd.R_base ho0)) (Kd.N_base ho1)) (fun _ h_ => h_.1)); replace BK109 := kb pY106 hk NB109_0; replace HK := am (KeepBut.trans (pY73) hk (.inl rfl)); replace HB := am (hb); replace HI0 := am (hi); (try clear hb); (try clear hk); (try clear hi); (try clear ho0); (try clear ho1); obtain ⟨Ao4161, co4162, eo4163⟩ := Kd.R_slice HO114.1; subst eo4163; have hnb4164 := NB101_0.1; have hnc4165 := NB0_101.1; obtain ⟨hcz4166_0, hcz4166_1, hfz4167_0, hfz4167_1⟩ := cz2 BK101; obtain ⟨Ao4168, co4169, eo4170⟩ := Kd.N_slice HO117.1; subst eo4170) | ((with_reducible refine gC 100 ?_); clear M80_; refine cQ (some 7) Try.func100 (spec_l1Rd_pick.calls k g s0_0 t108 20 t110 t111 w0 _ ((pY71)) ((pY58)) A3.out) ?_; rintro w4200 ⟨hi, hb, hk⟩; replace BK101 := am (KeepBut.blk hk (g' := gb101) (o := .cells #[.slice none 0 0, .slice none 0 0] 31 (0, 0)) (pY10) NB101_0.1 (by simp)); replace HO104 := am (Kd.R_mono (Kd.R_keep (IsS103.apart (show IsS103 w0 _ g s0_0 t108 from pY71) (by refine rR ?_; exact (Kd.R_mono (fR (fR (tR HO104 BK109))) (fun _ h_ => h_.1))) (by decide)) hk (fun _ h => h.2)) (fun _ h => h.1)); replace HO107 := am (Kd.N_mono (Kd.N_keep (Kd.N_mono (ok := fun k_ => ((((w.heap.size ≤ k_)) ∧ (some k_ ≠ (.slice Ao4081 t102.length co4082 : Value).ownBlock ∧ (k_ ≠ gb101 ∧ k_ ≠ g))) ∧ k_ ≠ gb109)) (by refine rN ?_; exact (Kd.N_mono (fN (fN (Kd.N_mono HO107.1 (fun k_ hk => (⟨hk, hk.2⟩ : _ ∧ k_ ≠ gb109))))) (fun _ h_ => h_.1))) (fun k_ hk_ => (⟨hk_, hk_.1.2.2.2⟩ : _ ∧ k_ ≠ g))) hk (fun _ h => h.2)) (fun _ h => h.1)); replace BK109 := am (KeepBut.blk hk (g' := gb109) (o := .cells #[.slice Ao4081 t102.length co4082, .slice Ao4090 t105.length co4091] 31 (0, 0)) (by refine rB ?_; refine blk_put (cs := #[.slice Ao4081 t102.length co4082, .slice none 0 0]) ?_ 1 _ rfl; refine rB ?_; refine blk_put (cs := #[.slice none 0 0, .slice none 0 0]) ?_ 0 _ rfl; refine rB ?_; exact BK109.1) NB109_0.1 (by simp)); replace HK := am (KeepBut.trans (pY73) hk (.inl rfl)); replace HB := am (hb); replace HI0 := am (hi); (try clear hb); (try clear hk); (try clear hi); obtain ⟨hcz4201_0, hcz4201_1, hfz4202_0, hfz4202_1⟩ := cz2 BK109; have hnb4203 := NB101_0.1; have hnc4204 := NB0_101.1; obtain ⟨hcz4205_0, hcz4205_1, hfz4206_0, hfz4206_1⟩ := cz2 BK101))
 ·refine bodyPost_ret (results_cell_row rfl _ _ gb101 31 #[.slice Ao4161 t112.length co4162, .slice Ao4168 t115.length co4169] (0, 0) _ rfl (by refine rB ?_; refine blk_put (cs := #[.slice Ao4161 t112.length co4162, .slice none 0 0]) ?_ 1 _ rfl; refine rB ?_; refine blk_put (cs := #[.slice none 0 0, .slice none 0 0]) ?_ 0 _ rfl; refine rB ?_; exact BK101.1) Try.underlying31 rfl (by kernel_rfl)) rfl ?_
  exact ⟨_, _, eR, by refine rR ?_; exact Kd.R_mono (fR (fR (tR HO114 BK101))) (fun _ hk => hk.1.1.1), by refine rN ?_; exact Kd.N_mono (fN (fN (Kd.N_mono HO117.1 (fun k_ hk => (⟨hk, hk.2.2.2.2.1⟩ : _ ∧ k_ ≠ gb101))))) (fun _ hk => ⟨hk.1.1, hk.1.2.1⟩), pY71, pY58, pY73⟩
 ·refine bodyPost_ret (results_cell_row rfl _ _ gb101 31 #[.slice Ao4081 t102.length co4082, .slice Ao4090 t105.length co4091] (0, 0) _ rfl (by refine rB ?_; refine blk_put (cs := #[.slice Ao4081 t102.length co4082, .slice none 0 0]) ?_ 1 _ rfl; refine rB ?_; refine blk_put (cs := #[.slice none 0 0, .slice none 0 0]) ?_ 0 _ rfl; refine rB ?_; exact BK101.1) Try.underlying31 rfl (by kernel_rfl)) rfl ?_
  exact ⟨_, _, eR, by refine rR ?_; exact Kd.R_mono (fR (fR (tR HO104 BK101))) (fun _ hk => hk.1.1), by refine rN ?_; exact Kd.N_mono (fN (fN (Kd.N_mono HO107.1 (fun k_ hk => (⟨hk, hk.1.2.2.1⟩ : _ ∧ k_ ≠ gb101))))) (fun _ hk => ⟨hk.1.1.1, hk.1.1.2.1⟩), pY71, pY58, pY73⟩
def spec_l5Thing.j0 : Nat → Bool → List Int → Int → List ByteArray → List (S56) → Option (ByteArray × Int)
 | 0, _, _, _, _, _ => none
 | k + 1, x13, x1000, x1001, x102000, x102001 => if x13 = true then ((spec_l1Rd_pick.f k x1000 x1001 (x102000.length : Int)).bind fun bt104 => (if 0 ≤ bt104.1 then (if bt104.1 < (x102000.length : Int) then (some (rdOf ByteArray.empty x102000 bt104.1, bt104.2)) else (none)) else (none))) else ((spec_l1Rd_of.f k x1000 x1001 (([(⟨#[]⟩ : ByteArray), (⟨#[122, 122]⟩ : ByteArray), (⟨#[107, 101, 103]⟩ : ByteArray)] : List ByteArray))).bind fun bt110 => (some (bt110.1, bt110.2)))
def spec_l5Thing.f (k : Nat) (s0_0 : List Int) (s0_1 : Int) (l1_0 : List ByteArray) (l1_1 : List (S56)) : Option (ByteArray × Int) := if (l1_0.length : Int) > 0 then ((spec_l1Rd_pick.f k s0_0 s0_1 10).bind fun bt102 => (spec_l5Thing.j0 k (decide (bt102.1 > 0)) s0_0 bt102.2 l1_0 l1_1)) else (spec_l5Thing.j0 k false s0_0 s0_1 l1_0 l1_1)
def spec_l5Thing.T2 : Bool × List (List Nat × List Nat) := (true, [([], []), ([0], [0]), ([], []), ([], []), ([3], [3]), ([4], [4]), ([2, 5], [2, 5]), ([1, 6], [1, 6]), ([7], [7]), ([8, 6, 0, 1, 2, 3, 4, 5, 6, 7, 8], [8])])
def spec_l5Thing.B2 : List Nat := [0, 1, 0, 0, 8, 24, 60, 127, 255, 511]
theorem spec_l5Thing.tab2 : rtab .any (opsOf Try.f99 2) = spec_l5Thing.T2 := by kernel_rfl
theorem spec_l5Thing.bits2 : waitsOk spec_l5Thing.T2.2 spec_l5Thing.B2 = true := by kernel_rfl
theorem spec_l5Thing.calls (k : Nat) (g : Nat) (s0_0 : List Int) (s0_1 : Int) (A1_0 : Option Addr) (c1_0 : Nat) (l1_0 : List ByteArray) (A1_1 : Option Addr) (c1_1 : Nat) (l1_1 : List (S56)) (r1 : ByteArray) (r2 : Int) (w0 w : World) (hI : IsS103 w0 w g s0_0 s0_1) (hB : Below w0.heap.size w0 w) (hr1_0 : Kd.C Kd.string w A1_0 l1_0.length l1_0) (hc1_0 : l1_0.length ≤ c1_0) (hf1_0 : ∀ ad, A1_0 = some ad → 0 < l1_0.length → ad.block ≠ g) (hr1_1 : ∀ W_, KeepBut w W_ g none → Kd.C k56 W_ A1_1 l1_1.length l1_1) (hc1_1 : l1_1.length ≤ c1_1) (h : spec_l5Thing.f k s0_0 s0_1 l1_0 l1_1 = some (r1, r2)) :
  Calls Try.prog 99 #[.pointer (some ⟨g, 0, none⟩), .agg #[.slice A1_0 l1_0.length c1_0, .slice A1_1 l1_1.length c1_1]] w fun e w' => e = .returned (.string r1) ∧ IsS103 w0 w' g s0_0 r2 ∧ Below w0.heap.size w0 w' ∧ KeepBut w w' g none := by
 have hu31 := Try.underlying31
 have HR1_0 := am hr1_0
 have HC1_0 := am hc1_0
 clear hr1_0 hc1_0
 have HR1_1 := am hr1_1
 have HC1_1 := am hc1_1
 clear hr1_1 hc1_1
 have HI0 := am hI
 have HK := am (KeepBut.refl w g none)
 have HL := am hB.size
 clear hI
 have HW0 := am hB.size
 have HB := am hB
 clear hB
 unfold spec_l5Thing.f at h
 have H := h
 clear h
 have HC3 := am H
 clear H
 go_enter Try.func99, Try.ntmps99
 go_upto_region 1 with (first | ((with_reducible refine gD 3 ?_); refine bX 3 #[.slice A1_0 l1_0.length c1_0, .slice A1_1 l1_1.length c1_1] 31 ?_; intro gb101 hg w4 hbox hb; replace HB := bS pY88 hb; have BK101 := am (hbox); have GW101 := am (pY74 : w.heap.size ≤ gb101); have GE101 := am (Nat.le_trans HW0.out (pY74 : w.heap.size ≤ gb101) : w0.heap.size ≤ gb101); replace HK := am (KeepBut.trans (pY93) (KeepBut.of_below hb g none) (.inl rfl)); have NB0_101 := am (by rw [hg]; exact Nat.ne_of_lt (IsS103.lt (show IsS103 w0 _ g s0_0 s0_1 from pY92)) : g ≠ gb101); have NB101_0 := am (by rw [hg]; exact Nat.ne_of_gt (IsS103.lt (show IsS103 w0 _ g s0_0 s0_1 from pY92)) : gb101 ≠ g); replace HI0 := am (IsS103.below (pY92) hb); clear hb hbox hg))
 (try simp only [Act.put, List.setIfInBounds_toArray, List.set_cons_zero, List.set_cons_succ])
 go_cut [13] (fun v13 wc => ∃ (kq : Nat) (x13_2 : Bool) (x1001_2 : Int), v13 = .bool x13_2 ∧ Aside0 (spec_l5Thing.j0 kq x13_2 s0_0 x1001_2 l1_0 l1_1 = some (r1, r2)) ∧ Aside0 (kq ≤ k) ∧ Aside0 (wc.heap[gb101]? = some (.cells #[(.slice A1_0 l1_0.length c1_0), (.slice A1_1 l1_1.length c1_1)] 31 (0, 0))) ∧ Aside0 (IsS103 w0 wc g s0_0 x1001_2) ∧ Aside0 (KeepBut w wc g none) ∧ Aside0 (Below w0.heap.size w0 wc))
 case first =>
  have H := HC3.1
  clear HC3
  by_cases c5 : (l1_0.length : Int) > 0
  ·rw [if_pos c5] at H
   have c5b0 : decide (0 < (l1_0.length : Int)) = true := decide_eq_true c5
   have c5b1 : decide (0 < l1_0.length) = true := decide_eq_true (by omega)
   clear c5
   (first | rw [c5b0] | (simp only [i64_w, i32_w]; rw [c5b0]) | skip)
   obtain ⟨⟨t102, t103⟩, A6, H⟩ := bd H
   dsimp only at H
   have H' := am H
   clear H
   have hnb7 := NB101_0.1
   have hnc7 := NB0_101.1
   obtain ⟨hcz8_0, hcz8_1, hfz8_0, hfz8_1⟩ := cz2 BK101
   go_wp2_with (first | (go_at_call 100; refine cM (spec_l1Rd_pick.calls k g s0_0 s0_1 10 t102 t103 w0 _ ((pY85)) ((pY76)) A6.out) ?_; rintro w9 ⟨hi, hb, hk⟩; replace BK101 := kb pY98 hk NB101_0; replace HK := am (KeepBut.trans (pY87) hk (.inl rfl)); replace HB := am (hb); replace HI0 := am (hi); (try clear hb); (try clear hk); (try clear hi)))
   go_meet
   case rel => exact ⟨_, (decide (t102 > 0)), (t103), (pY136), H', ⟨by first | omega | exact Nat.le_refl _⟩, ⟨rB BK101.1⟩, ⟨pY85⟩, ⟨pY87⟩, ⟨pY76⟩⟩
  ·rw [if_neg c5] at H
   have c5b0 : decide (0 < (l1_0.length : Int)) = false := decide_eq_false c5
   have c5b1 : decide (0 < l1_0.length) = false := decide_eq_false (by omega)
   clear c5
   (first | rw [c5b0] | (simp only [i64_w, i32_w]; rw [c5b0]) | skip)
   have H' := am H
   clear H
   have hnb10 := NB101_0.1
   have hnc10 := NB0_101.1
   obtain ⟨hcz11_0, hcz11_1, hfz11_0, hfz11_1⟩ := cz2 BK101
   go_wp2
   go_meet
   case rel => exact ⟨_, (false), (s0_1), (pY136), H', ⟨by first | omega | exact Nat.le_refl _⟩, ⟨rB BK101.1⟩, ⟨pY85⟩, ⟨pY87⟩, ⟨pY76⟩⟩
 case rest =>
  clear HC3
  obtain ⟨kq, x13_2, x1001_2, rfl, HA, HJ2, BK101, HI0, HK, HB⟩ := hcut
  cases kq with
  | zero => exact absurd HA.out (by simp [spec_l5Thing.j0])
  | succ kj2 =>
   have H := HA.out
   clear HA
   simp only [spec_l5Thing.j0] at H
   refine tC H ?_ ?_ <;> clear H <;> intro c12 H <;> subst c12
   ·obtain ⟨⟨t104, t105⟩, A13, H⟩ := bd H
    dsimp only at H
    obtain ⟨c14b0, H⟩ := cN H
    obtain ⟨c15b0, H⟩ := cN H
    simp only [Option.some.injEq, Prod.mk.injEq] at H
    obtain ⟨rfl, rfl⟩ := H
    try go_wp2
    replace BK101 := am (blk_drew BK101.1)
    replace HI0 := am (IsS103.drew HI0.out)
    replace HK := am (keep_drew HK.out)
    replace HB := am (below_drew1 HB.1)
    have p106 : 0 ≤ (t104 : Int) := oT
    have q106 : t104 < (l1_0.length : Int) := oT
    obtain ⟨ad106, e106, hx106_0⟩ := Kd.at_string HR1_0.1 t104 p106 q106
    have hw106_0 := hx106_0
    cases e106
    have hne106_0 := (show ((ad106.add (t104).toNat) : Addr).block ≠ g from by first | (rw [add_block]; exact hf1_0 ad106 rfl (by omega)) | (show (Addr.add _ _).block ≠ _; rw [add_block]; exact hf1_0 ad106 rfl (by omega)) | exact hf1_0 ad106 rfl (by omega))
    replace hx106_0 := keep_cell HK.out hx106_0 (by first | (rw [add_block]; exact hf1_0 _ rfl (by omega)) | exact hf1_0 _ rfl (by omega) | exact hf1_0 ad106 rfl (by omega))
    replace p106 := eq_true p106
    replace q106 := eq_true q106
    refine sT (S := fun w' => w'.cell? ⟨gb101, 0, none⟩ = some (.slice (some ad106) l1_0.length c1_0) ∧ w'.cell? ⟨gb101, 1, none⟩ = some (.slice A1_1 l1_1.length c1_1) ∧ w'.cell? (ad106.add (t104).toNat) = some (.string (rdOf ByteArray.empty l1_0 t104))) [] 10 ⟨⟨(blk_cell BK101.1 0).trans rfl, (blk_cell BK101.1 1).trans rfl, (keep_cell HK.out hw106_0 hne106_0)⟩⟩ (fun hHeld => ?_); refine with_tabW spec_l5Thing.tab2 spec_l5Thing.bits2 (fun HT_ HW_ => ?_)
    generalize wc.drew = w16 at BK101 HI0 HK HB hf1_0 hx106_0 hHeld ⊢
    refine pU 0 (some 14) ?_
    refine pU 2 (some 16) ?_
    refine pU 3 (some 17) ?_
    refine tK3 1 (some 15) ?_
    refine tK3 4 (some 18) ?_
    refine pU 5 (some 19) ?_
    refine oN 6 (some 20) fun K hK => ?_
    refine gQ Try.func100 (spec_l1Rd_pick.calls kj2 g s0_0 x1001_2 (l1_0.length : Int) t104 t105 w0 _ ((pY85)) ((pY76)) A13.out) ?_
    rintro w17 ⟨hi, hb, hk⟩
    replace BK101 := kb pY98 hk NB101_0
    replace HK := am (KeepBut.trans (pY87) hk (.inl rfl))
    replace HB := am (hb)
    replace HI0 := am (hi)
    (try clear hb)
    (try clear hb2)
    (try clear hk)
    (try clear hi)
    refine hK.out _ _ ⟨(blk_cell BK101.1 0).trans rfl, (blk_cell BK101.1 1).trans rfl, (keep_cell HK.out hw106_0 hne106_0)⟩ (fun hHeld => ?_)
    clear hK K
    refine nM ?_
    refine pU 7 (some 21) ?_
    refine tK3 8 (some 22) ?_
    refine pU 9 (some 4) ?_
    refine done_ (done_of HT_.out (by kernel_rfl)) ?_
    try go_wp2
    go_ret
    exact ⟨eR, pY85, pY76, pY87⟩
   ·obtain ⟨y107, Ny107⟩ := yv (([(⟨#[]⟩ : ByteArray), (⟨#[122, 122]⟩ : ByteArray), (⟨#[107, 101, 103]⟩ : ByteArray)] : List ByteArray)); first | replace H := bW Ny107 H | rw [← Ny107.1] at H
    obtain ⟨⟨t110, t111⟩, A18, H⟩ := bd H
    dsimp only at H
    simp only [Option.some.injEq, Prod.mk.injEq] at H
    obtain ⟨rfl, rfl⟩ := H
    go_wp2_with (first | ((with_reducible refine gate_dst (N := 24) rfl ?_); refine Kd.R_lit Kd.string _ 9 ?hg (N := 24) ?hd (xs := ([(⟨#[]⟩ : ByteArray), (⟨#[122, 122]⟩ : ByteArray), (⟨#[107, 101, 103]⟩ : ByteArray)] : List ByteArray)) (inner := [.string (⟨#[]⟩ : ByteArray), .string (⟨#[122, 122]⟩ : ByteArray), .string (⟨#[107, 101, 103]⟩ : ByteArray)]) (ok := fun _ => True) (okp := fun _ => True) ?hr ?hp (fun _ hk => hk) trivial (Below.refl _ _) (Nat.le_refl _) (by simp) ?_; (case hd => rfl); (case hg => rfl); (case hr => first | (go_simp; done) | (go_simp; rfl)); (case hp => exact (Reps.one (show Kd.M Kd.string _ _ _ (⟨#[]⟩ : ByteArray) [.string (⟨#[]⟩ : ByteArray)] from rfl) (Reps.one (show Kd.M Kd.string _ _ _ (⟨#[122, 122]⟩ : ByteArray) [.string (⟨#[122, 122]⟩ : ByteArray)] from rfl) (Reps.one (show Kd.M Kd.string _ _ _ (⟨#[107, 101, 103]⟩ : ByteArray) [.string (⟨#[107, 101, 103]⟩ : ByteArray)] from rfl) (Reps.none _ _))))); intro v108 w19 ho20 hb hg_ hnew_; clear hg_ hnew_; (first | rw [← Ny107.out] at ho20 | (simp only [Int.reduceToNat] at ho20; rw [← Ny107.out] at ho20)); have HO109 := am (Kd.R_lower ho20 (keep_size (w := w) (g := g) (row := none) (pY87))); replace BK101 := bB pY98 hb; replace HK := am (KeepBut.trans (pY87) (KeepBut.of_below hb g none) (.inl rfl)); replace HB := bS pY76 hb; replace HI0 := am (IsS103.below (pY85) hb); clear hb ho20; obtain ⟨Ao21, co21, eo21⟩ := Kd.R_slice HO109.1; subst eo21) | ((with_reducible refine gC 101 ?_); refine cQ (some 25) Try.func101 (spec_l1Rd_of.calls kj2 g s0_0 x1001_2 _ _ y107 t110 t111 w0 _ ((pY85)) ((pY76)) (pC (Kd.R_reads' HO109.1).2.2) ((Kd.R_reads' HO109.1).2.1) (far_slice (IsS103.own_ne HI0.out HO109.1 (by decide))) A18.out) ?_; rintro w22 ⟨hi, hb, hk⟩; replace BK101 := kb pY98 hk NB101_0; replace HO109 := am (Kd.R_mono (Kd.R_keep (IsS103.apart (show IsS103 w0 _ g s0_0 x1001_2 from pY85) (rR HO109.1) (by decide)) hk (fun _ h => h.2)) (fun _ h => h.1)); replace HK := am (KeepBut.trans (pY87) hk (.inl rfl)); replace HB := am (hb); replace HI0 := am (hi); (try clear hb); (try clear hk); (try clear hi)))
    go_ret
    exact ⟨eR, pY85, pY76, pY87⟩
def spec_DrawShareWho.f (k : Nat) (l0 : List Int) : Option (List ByteArray × (List (S56)) × ByteArray) := (spec_l1Open.f l0).bind fun bt102 => ((spec_l5Any.f k bt102.1 bt102.2).bind fun bt105 => ((spec_l5Thing.f k bt102.1 bt105.2.2 bt105.1 bt105.2.1).bind fun bt113 => (some (bt105.1, bt105.2.1, bt113.1))))
theorem spec_DrawShareWho.calls (k : Nat) (A0 : Option Addr) (c0 : Nat) (l0 : List Int) (r1 : List ByteArray) (r2 : List (S56)) (r3 : ByteArray) (w : World) (hr0 : Kd.C (Kd.int .u8) w A0 l0.length l0) (hc0 : l0.length ≤ c0) (h : spec_DrawShareWho.f k l0 = some (r1, r2, r3)) :
  Calls Try.prog 51 #[.slice A0 l0.length c0] w fun e w' => ∃ v0_ v1_ : Value, e = .returned (.tuple #[.agg #[v0_, v1_], .string r3]) ∧ Kd.R Kd.string 9 w' w.heap.size (fun k_ => (w.heap.size ≤ k_)) v0_ r1 ∧ Kd.N k56 56 w' w.heap.size (fun k_ => (w.heap.size ≤ k_) ∧ some k_ ≠ (v0_ : Value).ownBlock) v1_ r2 ∧ Below w.heap.size w w' := by
 have hu31 := Try.underlying31
 have HR0 := am hr0
 have HC0 := am hc0
 clear hr0 hc0
 have HB := am (Below.refl w.heap.size w)
 unfold spec_DrawShareWho.f at h
 have H := h
 clear h
 obtain ⟨⟨t102, t103⟩, A2, H⟩ := bd H
 dsimp only at H
 obtain ⟨⟨t105, t108, t111⟩, A3, H⟩ := bd H
 dsimp only at H
 obtain ⟨⟨t113, t114⟩, A4, H⟩ := bd H
 dsimp only at H
 simp only [Option.some.injEq, Prod.mk.injEq] at H
 obtain ⟨rfl, rfl, rfl⟩ := H
 go_enter Try.func51, Try.ntmps51
 try go_wp2_with (first | ((with_reducible refine gD 2 ?_); refine bX 2 #[.slice none 0 0, .slice none 0 0] 31 ?_; intro gb101 hg w5 hbox hb; have BK101 := am (hbox); have GW101 := am (pY89 : w.heap.size ≤ gb101); have GE101 := am (pY89 : w.heap.size ≤ gb101); replace HB := bS pY95 hb; clear hb hbox hg) | ((with_reducible refine gC 97 ?_); refine cE (some 7) Try.func97 (spec_l1Open.calls _ _ l0 t102 t103 w _ ((pY90)) HR0.1 HC0.1 A2.out) ?_; rintro e w6 ⟨g104, rfl, hi, hb, hb2⟩; refine ⟨_, rfl, ?_⟩; replace HB := am (hb); have HI104 := am (hi); have NB104_101 := am (IsS103.ne_blk hi (blk_below (g := gb101) (o := .cells #[.slice none 0 0, .slice none 0 0] 31 (0, 0)) (pY98) hb2) (by decide)); have NB101_104 := am (Ne.symm (IsS103.ne_blk hi (blk_below (g := gb101) (o := .cells #[.slice none 0 0, .slice none 0 0] 31 (0, 0)) (pY98) hb2) (by decide))); replace BK101 := am (blk_below (g := gb101) (o := .cells #[.slice none 0 0, .slice none 0 0] 31 (0, 0)) (pY98) hb2); (try clear hb); (try clear hb2); (try clear hi)) | ((with_reducible refine gC 98 ?_); refine cE (some 9) Try.func98 (spec_l5Any.calls k g104 t102 t103 t105 t108 t111 w _ ((pY78)) ((pY75)) A3.out) ?_; rintro e w7 ⟨v106, v109, rfl, ho0, ho1, hi, hb, hk⟩; refine ⟨_, rfl, ?_⟩; have HO107 := am (Kd.R_lower (Kd.R_newM (M := fun k_ => (w.heap.size ≤ k_)) (Kd.R_mono (ok' := fun k_ => True) ho0 (fun _ hk_ => trivial)) (below_size (pY75)) (fun k_ h_ => h_)) (below_size (pY75))); have HO110 := am (Kd.N_lower (Kd.N_mono (ok' := fun k_ => (w.heap.size ≤ k_) ∧ some k_ ≠ (v106 : Value).ownBlock ∧ k_ ≠ gb101 ∧ k_ ≠ g104) ho1 (fun k_ hk_ => ⟨(Nat.le_trans (below_size (pY75)) hk_.1), hk_.2, (fB pY98 k_ hk_.1), (IsS103.fresh (pY78) k_ hk_.1)⟩)) (below_size (pY75))); replace BK101 := kb pY98 hk NB101_104; replace HB := am (hb); replace HI104 := am (hi); (try clear hb); (try clear hk); (try clear hi); (try clear ho0); (try clear ho1)) | ((with_reducible refine gD 5 ?_); refine bX 5 #[.slice none 0 0, .slice none 0 0] 31 ?_; intro gb112 hg w8 hbox hb; replace HO107 := am (Kd.R_below (rR HO107.1) hb); replace HO110 := am (Kd.N_below (Kd.N_elderB (rN HO110.1) gb112 (Nat.le_of_eq hg.symm)) hb); have BK112 := am (hbox); have GW112 := am (pY55 : w.heap.size ≤ gb112); have GE112 := am (pY55 : w.heap.size ≤ gb112); replace HB := bS pY75 hb; have NB101_112 := nL pY98 hg; have NB112_101 := nG pY98 hg; replace BK101 := bB pY98 hb; have NB104_112 := am (by rw [hg]; exact Nat.ne_of_lt (IsS103.lt (show IsS103 w _ g104 t102 t111 from pY78)) : g104 ≠ gb112); have NB112_104 := am (by rw [hg]; exact Nat.ne_of_gt (IsS103.lt (show IsS103 w _ g104 t102 t111 from pY78)) : gb112 ≠ g104); replace HI104 := am (IsS103.below (pY78) hb); clear hb hbox hg; obtain ⟨Ao9, co9, eo9⟩ := Kd.R_slice HO107.1; subst eo9; have hnb10 := NB112_101.1; have hnc10 := NB101_112.1; have hnb11 := NB112_104.1; have hnc11 := NB104_112.1; obtain ⟨hcz12_0, hcz12_1, hfz12_0, hfz12_1⟩ := cz2 BK112; obtain ⟨Ao13, co13, eo13⟩ := Kd.N_slice HO110.1; subst eo13))
 obtain ⟨w14, eW_⟩ : ∃ w_, w_ = ((w8.setCell ⟨gb112, 0, none⟩ (.slice Ao9 t105.length co9)).setCell ⟨gb112, 1, none⟩ (.slice Ao13 t108.length co13)) := ⟨_, rfl⟩
 rw [← eW_]
 replace HO107 : Aside0 (Kd.R Kd.string 9 w14 w.heap.size (fun k_ => (w.heap.size ≤ k_)) (.slice Ao9 t105.length co9) t105) := by rw [eW_]; exact ⟨by refine rR ?_; exact Kd.R_mono (fR (fR (tR HO107 BK112))) (fun _ hk => hk.1.1)⟩
 replace HO110 : Aside0 (Kd.N k56 56 w14 w.heap.size (fun k_ => (w.heap.size ≤ k_) ∧ some k_ ≠ (.slice Ao9 t105.length co9 : Value).ownBlock ∧ k_ ≠ gb101 ∧ k_ ≠ g104 ∧ k_ ≠ gb112) (.slice Ao13 t108.length co13) t108) := by rw [eW_]; exact ⟨by refine rN ?_; exact Kd.N_mono (fN (fN (Kd.N_mono HO110.1 (fun k_ hk => (⟨hk, hk.2⟩ : _ ∧ k_ ≠ gb112))))) (fun _ hk => ⟨hk.1.1.1, ⟨hk.1.1.2.1, ⟨hk.1.1.2.2.1, ⟨hk.1.1.2.2.2, hk.1.2⟩⟩⟩⟩)⟩
 replace BK101 := uF2 eW_ BK101 NB101_112
 replace BK112 := uP2 eW_ BK112
 replace HI104 : Aside0 (IsS103 w w14 g104 t102 t111) := by rw [eW_]; exact ⟨pY59⟩
 replace HB := uC2 eW_ HB GE112
 clear eW_
 replace HO107 := am (Kd.R_drew HO107.1)
 replace HO110 := am (Kd.N_drew HO110.1)
 replace BK101 := am (blk_drew BK101.1)
 replace BK112 := am (blk_drew BK112.1)
 replace HI104 := am (IsS103.drew HI104.out)
 replace HB := am (below_drew1 HB.1)
 refine sT [] 6 (uA2 BK112) (fun hHeld => ?_)
 generalize w14.drew = w15 at HO107 HO110 BK101 BK112 HI104 HB hHeld ⊢
 refine pU0 1 (some 11) ?_
 refine tK2_ 0 (some 10) ?_
 refine tK2_ 2 (some 12) ?_
 refine oM 3 (some 13) fun K hK => ?_
 refine gQ Try.func99 (spec_l5Thing.calls k g104 t102 t111 _ _ t105 _ _ t108 t113 t114 w _ ((pY59)) ((pY56)) (pC (Kd.R_reads' HO107.1).2.2) ((Kd.R_reads' HO107.1).2.1) (far_slice (IsS103.own_ne HI104.out HO107.1 (by decide))) (Kd.C_foot_ownV (base := 0) (Kd.N_V (Kd.N_mono (ok := fun k_ => (((w.heap.size ≤ k_)) ∧ (some k_ ≠ (.slice Ao9 t105.length co9 : Value).ownBlock ∧ (k_ ≠ gb101 ∧ (k_ ≠ g104 ∧ k_ ≠ gb112))))) (rN HO110.1) (fun k_ hk_ => (⟨hk_, hk_.2.2.2.1⟩ : _ ∧ k_ ≠ g104)))) (fun _ h_ => h_.2)) ((Kd.N_reads' HO110.1).2.1) A4.out) ?_
 rintro w16 ⟨hi, hb, hk⟩
 replace BK101 := kb pY98 hk NB101_104
 replace HO107 := am (Kd.R_mono (Kd.R_keep (IsS103.apart (show IsS103 w _ g104 t102 t111 from pY59) (rR HO107.1) (by decide)) hk (fun _ h => h.2)) (fun _ h => h.1))
 replace HO110 := am (Kd.N_mono (Kd.N_keep (Kd.N_mono (ok := fun k_ => (((w.heap.size ≤ k_)) ∧ (some k_ ≠ (.slice Ao9 t105.length co9 : Value).ownBlock ∧ (k_ ≠ gb101 ∧ (k_ ≠ g104 ∧ k_ ≠ gb112))))) (rN HO110.1) (fun k_ hk_ => (⟨hk_, hk_.2.2.2.1⟩ : _ ∧ k_ ≠ g104))) hk (fun _ h => h.2)) (fun _ h => h.1))
 replace BK112 := am (KeepBut.blk hk (g' := gb112) (o := .cells #[.slice Ao9 t105.length co9, .slice Ao13 t108.length co13] 31 (0, 0)) (rB BK112.1) NB112_104.1 (by simp))
 replace HB := am (hb)
 replace HI104 := am (hi)
 (try clear hb)
 (try clear hb2)
 (try clear hk)
 (try clear hi)
 refine hK.out _ _ (uA2 BK112).1 (fun hHeld => ?_)
 clear hK K
 refine nM ?_
 refine oM 4 none fun K hK => ?_
 have hs17 : w16.cell? ⟨gb101, 0, none⟩ = some (.slice none 0 0) := (blk_cell BK101.1 0).trans rfl
 have hfs17 := blk_frozen BK101.1 0
 have hns17_1 := NB112_101.1
 have hms17_1 := NB101_112.1
 have hs18 : w16.cell? ⟨gb101, 1, none⟩ = some (.slice none 0 0) := (blk_cell BK101.1 1).trans rfl
 have hfs18 := blk_frozen BK101.1 1
 have hns18_1 := NB112_101.1
 have hms18_1 := NB101_112.1
 refine skip_ (w1 := ?_) (by rfl) rfl ?_ ?_
 rotate_left
 ·go_simp
  rfl
 refine hK.out _ _ ⟨((cell_far (p := ⟨gb101, _, none⟩) NB112_101.1 _).trans (((cell_far (p := ⟨gb101, _, none⟩) NB112_101.1 _).trans (hHeld.1)))), ((cell_far (p := ⟨gb101, _, none⟩) NB112_101.1 _).trans (((cell_far (p := ⟨gb101, _, none⟩) NB112_101.1 _).trans (hHeld.2))))⟩ (fun hHeld => ?_)
 clear hK K
 refine pU0 5 (some 3) ?_
 refine done_ (by kernel_rfl) ?_
 try go_wp2
 refine bodyPost_ret (results_ct rfl _ _ gb101 31 #[.slice Ao9 t105.length co9, .slice Ao13 t108.length co13] (0, 0) _ rfl (by refine rB ?_; refine blk_put (cs := #[.slice Ao9 t105.length co9, .slice none 0 0]) ?_ 1 _ rfl; refine rB ?_; refine blk_put (cs := #[.slice none 0 0, .slice none 0 0]) ?_ 0 _ rfl; refine rB ?_; exact BK101.1) Try.underlying31 rfl (by kernel_rfl)) rfl ?_
 exact ⟨_, _, eR, by refine rR ?_; exact Kd.R_mono (fR (fR (tR HO107 BK101))) (fun _ hk => hk.1), by refine rN ?_; exact Kd.N_mono (fN (fN (Kd.N_mono HO110.1 (fun k_ hk => (⟨hk, hk.2.2.1⟩ : _ ∧ k_ ≠ gb101))))) (fun _ hk => ⟨hk.1.1, hk.1.2.1⟩), pY56⟩
def laws_wHas.l0 : Nat → List ByteArray → ByteArray → Int → Option (Bool)
 | 0, _, _, _ => none
 | k + 1, x0, x1, x5 => if x5 < (x0.length : Int) then (if 0 ≤ x5 then (if (rdOf ByteArray.empty x0 x5).toList = x1.toList then (some true) else (laws_wHas.l0 k x0 x1 (wrap64 (x5 + 1)))) else (none)) else (some false)
def laws_wHas.f (k : Nat) (l0 : List ByteArray) (a1 : ByteArray) : Option (Bool) := laws_wHas.l0 k l0 a1 0
theorem laws_wHas.calls (k : Nat) (A0 : Option Addr) (c0 : Nat) (l0 : List ByteArray) (a1 : ByteArray) (r : Bool) (w : World) (hr0 : Kd.C Kd.string w A0 l0.length l0) (hc0 : l0.length ≤ c0) (h : laws_wHas.f k l0 a1 = some r) :
  Calls Try.prog 52 #[.slice A0 l0.length c0, .string a1] w fun e w' => e = .returned (.bool r) ∧ Drawn0 w w' := by
 have HR0 := am hr0
 have HC0 := am hc0
 clear hr0 hc0
 unfold laws_wHas.f at h
 have H := h
 clear h
 have H' := am H
 clear H
 go_enter Try.func52, Try.ntmps52
 go_wp2
 go_loopg [5] k (fun kq v5 w' => ∃ (x5_1 : Int), v5 = .int .i64 x5_1 ∧ Aside0 (laws_wHas.l0 kq l0 a1 x5_1 = some r) ∧ Aside0 (kq ≤ k) ∧ Drawn0 w w')
 case atStart => exact ⟨(0), (pY136), H', ⟨Nat.le_refl _⟩, pY133⟩
 case round =>
  clear H'
  obtain ⟨x5_1, rfl, HA, HK1, ⟨m1, rfl⟩⟩ := hrel
  cases gk with
  | zero => exact absurd HA.out (by simp [laws_wHas.l0])
  | succ k1 =>
   have H := HA.out
   clear HA
   simp only [laws_wHas.l0] at H
   refine ic H ?_ ?_ <;> clear H <;> intro c3b0 H
   ·obtain ⟨c4b0, H⟩ := cN H
    by_cases c5 : (rdOf ByteArray.empty l0 x5_1).toList = a1.toList
    ·rw [if_pos c5] at H
     have c5b0 : ((rdOf ByteArray.empty l0 x5_1).toList == a1.toList) = true := beq_iff_eq.mpr c5
     have c5b1 : ((rdOf ByteArray.empty l0 x5_1).toList != a1.toList) = false := bne_eq_false_iff_eq.mpr c5
     clear c5
     obtain rfl := Option.some.inj H
     obtain ⟨ad101, e101, hx101_0, p101, q101⟩ := aS HR0 b0 x5_1
     cases e101
     go_wp2
     go_ret
     exact ⟨by first | rfl | (simp; done) | (simp [*]; done), pY133⟩
    ·rw [if_neg c5] at H
     have c5b0 : ((rdOf ByteArray.empty l0 x5_1).toList == a1.toList) = false := beq_eq_false_iff_ne.mpr c5
     have c5b1 : ((rdOf ByteArray.empty l0 x5_1).toList != a1.toList) = true := bne_iff_ne.mpr c5
     have H' := am H
     clear H
     obtain ⟨ad101, e101, hx101_0, p101, q101⟩ := aS HR0 b0 x5_1
     cases e101
     go_wp2
     go_roundg k1
     case measure => have := HK1.out; omega
     case rel => exact ⟨(wrap64 (x5_1 + 1)), (pY136), H', ⟨by have := HK1.out; omega⟩, pY133⟩
   ·obtain rfl := Option.some.inj H
    go_wp2
    go_ret
    exact ⟨by first | rfl | (simp; done) | (simp [*]; done), pY133⟩
mutual
def laws_FnWho.j0 : Nat → ByteArray → ByteArray → Bool → List ByteArray → List (S56) → Option (Bool)
 | 0, _, _, _, _, _ => none
 | k + 1, x4, x5, x28, x109000, x109001 => if x28 = true then ((spec_ShareWho.f k x109000 x109001 x4).bind fun t112 => (if x5.toList = t112.toList then (some (x5.toList == ([] : List UInt8))) else (some false))) else (laws_FnWho.l0 k x4 x5 0 0 x109000 x109001)
def laws_FnWho.l0 : Nat → ByteArray → ByteArray → Int → Int → List ByteArray → List (S56) → Option (Bool)
 | 0, _, _, _, _, _, _ => none
 | k + 1, x4, x5, x6, x7, x109000, x109001 => if x7 < (x109001.length : Int) then (if 0 ≤ x7 then ((laws_wHas.f k ((rd_T56 x109001 x7).f1) x4).bind fun t114 => (if t114 = true then (if x5.toList = ((rd_T56 x109001 x7).f0).toList then ((laws_wHas.f k ((rd_T56 x109001 x7).f2) x4).bind fun t117 => (if t117 = true then (laws_FnWho.l0 k x4 x5 (wrap64 (x6 + 1)) (wrap64 (x7 + 1)) x109000 x109001) else (some false))) else (some false)) else (laws_FnWho.l0 k x4 x5 x6 (wrap64 (x7 + 1)) x109000 x109001))) else (none)) else (if x6 = 0 then (if x5.toList = ([] : List UInt8) then (some true) else (some (x6 == 1))) else (some (x6 == 1)))
end
def laws_FnWho.f (k : Nat) (l0 : List Int) : Option (Bool) := if (l0.length : Int) > 1048576 then (some true) else ((spec_DrawShareWho.f k l0).bind fun bt101 => ((impl_ShareWho.f k bt101.1 bt101.2.1 bt101.2.2).bind fun t109 => ((spec_ShareWho.f k bt101.1 bt101.2.1 bt101.2.2).bind fun t110 => (if t109.toList = t110.toList then ((spec_ShareBookOk.f k bt101.1 bt101.2.1).bind fun t111 => (laws_FnWho.j0 k bt101.2.2 t109 (!t111) bt101.1 bt101.2.1)) else (laws_FnWho.j0 k bt101.2.2 t109 true bt101.1 bt101.2.1)))))
theorem laws_FnWho.calls (k : Nat) (A0 : Option Addr) (c0 : Nat) (l0 : List Int) (r : Bool) (w : World) (hr0 : Kd.C (Kd.int .u8) w A0 l0.length l0) (hc0 : l0.length ≤ c0) (h : laws_FnWho.f k l0 = some r) :
  Calls Try.prog 14 #[.slice A0 l0.length c0] w fun e w' => e = .returned (.bool r) ∧ Below w.heap.size w w' := by
 have hu31 := Try.underlying31
 have HR0 := am hr0
 have HC0 := am hc0
 clear hr0 hc0
 have HB := am (Below.refl w.heap.size w)
 unfold laws_FnWho.f at h
 have H := h
 clear h
 by_cases c2 : (l0.length : Int) > 1048576
 ·rw [if_pos c2] at H
  have c2b0 : decide (1048576 < (l0.length : Int)) = true := decide_eq_true c2
  have c2b1 : decide (1048576 < l0.length) = true := decide_eq_true (by omega)
  clear c2
  obtain rfl := Option.some.inj H
  go_enter Try.func14, Try.ntmps14
  go_wp2
  go_ret
  exact ⟨eR, pY95⟩
 ·rw [if_neg c2] at H
  have c2b0 : decide (1048576 < (l0.length : Int)) = false := decide_eq_false c2
  have c2b1 : decide (1048576 < l0.length) = false := decide_eq_false (by omega)
  clear c2
  obtain ⟨⟨t101, t104, t107⟩, A3, H⟩ := bd H
  dsimp only at H
  obtain ⟨t109, A4, H⟩ := bd H
  have HC5 := am H
  clear H
  go_enter Try.func14, Try.ntmps14
  go_upto_region 5 with (first | ((with_reducible refine gC 51 ?_); refine cE (some 13) Try.func51 (spec_DrawShareWho.calls k _ _ l0 t101 t104 t107 _ (pC HR0.1) HC0.1 A3.out) ?_; rintro e w6 ⟨v102, v105, rfl, ho0, ho1, hb⟩; refine ⟨_, rfl, ?_⟩; have HO103 := am (Kd.R_lower (Kd.R_mono (ok' := fun k_ => True) ho0 (fun _ hk_ => trivial)) (below_size (pY95))); have HO106 := am (Kd.N_lower (Kd.N_mono (ok' := fun k_ => some k_ ≠ (v102 : Value).ownBlock) ho1 (fun k_ hk_ => hk_.2)) (below_size (pY95))); replace HB := bS pY95 hb; (try clear hb); (try clear ho0); (try clear ho1)) | ((with_reducible refine gD 3 ?_); refine bX 3 #[.slice none 0 0, .slice none 0 0] 31 ?_; intro gb108 hg w7 hbox hb; replace HO103 := am (Kd.R_below (rR HO103.1) hb); replace HO106 := am (Kd.N_below (Kd.N_elderB (rN HO106.1) gb108 (Nat.le_of_eq hg.symm)) hb); have BK108 := am (hbox); have GW108 := am (pY89 : w.heap.size ≤ gb108); have GE108 := am (pY89 : w.heap.size ≤ gb108); replace HB := bS pY95 hb; clear hb hbox hg; obtain ⟨Ao8, co8, eo8⟩ := Kd.R_slice HO103.1; subst eo8; obtain ⟨hcz9_0, hcz9_1, hfz9_0, hfz9_1⟩ := cz2 BK108; obtain ⟨Ao10, co10, eo10⟩ := Kd.N_slice HO106.1; subst eo10) | ((with_reducible refine gate_callee (f := 27) rfl ?_); refine goesL_ (some 18) rfl rfl Try.func27 (by kernel_rfl) rfl #[.agg #[.slice Ao8 t101.length co8, .slice Ao10 t104.length co10], .string t107] rfl (pY94) ?_; (with_reducible refine (impl_ShareWho.calls k _ _ t101 _ _ t104 t107 t109 _ ?side1 ?side2 ?side3 ?side4 A4.out).mono ?_); (case side1 => refine (Kd.R_reads' (e := 9) (base := w.heap.size) (ok := fun k_ => True) (n := t101.length) (c := co8) ?_).2.2; exact (by refine rR ?_; exact (Kd.R_mono (fR (fR (tR HO103 BK108))) (fun _ h_ => h_.1)))); (case side2 => exact (Kd.R_reads' HO103.1).2.1); (case side3 => refine (Kd.N_reads' (e := 56) (base := w.heap.size) (ok := fun k_ => (some k_ ≠ (.slice Ao8 t101.length co8 : Value).ownBlock ∧ k_ ≠ gb108)) (n := t104.length) (c := co10) ?_).2.2; exact (by refine rN ?_; exact (Kd.N_mono (fN (fN (Kd.N_mono HO106.1 (fun k_ hk => (⟨hk, hk.2⟩ : _ ∧ k_ ≠ gb108))))) (fun _ h_ => h_.1)))); (case side4 => exact (Kd.N_reads' HO106.1).2.1); rintro e w11 ⟨rfl, hb⟩; refine ⟨_, rfl, ?_⟩; replace HO103 := am (Kd.R_below (by refine rR ?_; exact (Kd.R_mono (fR (fR (tR HO103 BK108))) (fun _ h_ => h_.1))) hb); replace HO106 := am (Kd.N_below (by refine rN ?_; exact (Kd.N_mono (fN (fN (Kd.N_mono HO106.1 (fun k_ hk => (⟨hk, hk.2⟩ : _ ∧ k_ ≠ gb108))))) (fun _ h_ => h_.1))) hb); replace BK108 := am (blk_below (g := gb108) (o := .cells #[.slice Ao8 t101.length co8, .slice Ao10 t104.length co10] 31 (0, 0)) (by refine rB ?_; refine blk_put (cs := #[.slice Ao8 t101.length co8, .slice none 0 0]) ?_ 1 _ rfl; refine rB ?_; refine blk_put (cs := #[.slice none 0 0, .slice none 0 0]) ?_ 0 _ rfl; refine rB ?_; exact BK108.1) hb); replace HB := bS pY91 hb; (try clear hb); (try clear hk)))
  (try simp only [Act.put, List.setIfInBounds_toArray, List.set_cons_zero, List.set_cons_succ])
  go_cut [28] (fun v28 wc => ∃ (kq : Nat) (x28_4 : Bool), v28 = .bool x28_4 ∧ Aside0 (laws_FnWho.j0 kq t107 t109 x28_4 t101 t104 = some r) ∧ Aside0 (kq ≤ k) ∧ Aside0 (Kd.R Kd.string 9 wc w.heap.size (fun _ => True) (.slice Ao8 t101.length co8) t101) ∧ Aside0 (Kd.N k56 56 wc w.heap.size (fun k_ => some k_ ≠ ((.slice Ao8 t101.length co8) : Value).ownBlock ∧ k_ ≠ gb108) (.slice Ao10 t104.length co10) t104) ∧ Aside0 (wc.heap[gb108]? = some (.cells #[(.slice Ao8 t101.length co8), (.slice Ao10 t104.length co10)] 31 (0, 0))) ∧ Aside0 (Below w.heap.size w wc))
  case first =>
   have H := HC5.1
   clear HC5
   obtain ⟨t110, A12, H⟩ := bd H
   by_cases c13 : t109.toList = t110.toList
   ·rw [if_pos c13] at H
    have c13b0 : (t109.toList == t110.toList) = true := beq_iff_eq.mpr c13
    have c13b1 : (t109.toList != t110.toList) = false := bne_eq_false_iff_eq.mpr c13
    clear c13
    (first | rw [c13b0] | (simp only [i64_w, i32_w]; rw [c13b0]) | skip)
    obtain ⟨t111, A14, H⟩ := bd H
    have H' := am H
    clear H
    obtain ⟨hcz15_0, hcz15_1, hfz15_0, hfz15_1⟩ := cz2 BK108
    go_wp2_with (first | ((with_reducible refine gC 26 ?_); refine cQ (some 22) Try.func26 (spec_ShareWho.calls k _ _ t101 _ _ t104 t107 t110 _ (pC (Kd.R_reads' HO103.1).2.2) ((Kd.R_reads' HO103.1).2.1) (pC (Kd.N_reads' HO106.1).2.2) ((Kd.N_reads' HO106.1).2.1) A12.out) ?_; rintro w16 hb; replace HO103 := am (Kd.R_below (rR HO103.1) hb); replace HO106 := am (Kd.N_below (rN HO106.1) hb); replace BK108 := bB pY100 hb; replace HB := bS pY91 hb; (try clear hb); obtain ⟨hcz17_0, hcz17_1, hfz17_0, hfz17_1⟩ := cz2 BK108) | (go_at_call 22; refine cM (spec_ShareBookOk.calls k _ _ t101 _ _ t104 t111 _ (pC (Kd.R_reads' HO103.1).2.2) ((Kd.R_reads' HO103.1).2.1) (pC (Kd.N_reads' HO106.1).2.2) ((Kd.N_reads' HO106.1).2.1) A14.out) ?_; rintro w18 hb; replace HO103 := am (Kd.R_below (rR HO103.1) hb); replace HO106 := am (Kd.N_below (rN HO106.1) hb); replace BK108 := bB pY100 hb; replace HB := bS pY91 hb; (try clear hb)))
    go_meet
    case rel => exact ⟨_, (!t111), (pY136), H', ⟨by first | omega | exact Nat.le_refl _⟩, ⟨rR HO103.1⟩, ⟨rN HO106.1⟩, ⟨rB BK108.1⟩, ⟨pY91⟩⟩
   ·rw [if_neg c13] at H
    have c13b0 : (t109.toList == t110.toList) = false := beq_eq_false_iff_ne.mpr c13
    have c13b1 : (t109.toList != t110.toList) = true := bne_iff_ne.mpr c13
    (first | rw [c13b0] | (simp only [i64_w, i32_w]; rw [c13b0]) | skip)
    have H' := am H
    clear H
    obtain ⟨hcz19_0, hcz19_1, hfz19_0, hfz19_1⟩ := cz2 BK108
    go_wp2_with (first | ((with_reducible refine gC 26 ?_); refine cQ (some 22) Try.func26 (spec_ShareWho.calls k _ _ t101 _ _ t104 t107 t110 _ (pC (Kd.R_reads' HO103.1).2.2) ((Kd.R_reads' HO103.1).2.1) (pC (Kd.N_reads' HO106.1).2.2) ((Kd.N_reads' HO106.1).2.1) A12.out) ?_; rintro w20 hb; replace HO103 := am (Kd.R_below (rR HO103.1) hb); replace HO106 := am (Kd.N_below (rN HO106.1) hb); replace BK108 := bB pY100 hb; replace HB := bS pY91 hb; (try clear hb)))
    go_meet
    case rel => exact ⟨_, (true), (pY136), H', ⟨by first | omega | exact Nat.le_refl _⟩, ⟨rR HO103.1⟩, ⟨rN HO106.1⟩, ⟨rB BK108.1⟩, ⟨pY91⟩⟩
  case rest =>
   clear HC5
   try clear c2
   try clear c2b0
   try clear c2b1
   try clear hcz9_0 hcz9_1 hfz9_0 hfz9_1
   obtain ⟨kq, x28_4, rfl, HA, HJ4, HO_109000, HO_109001, BK108, HB⟩ := hcut
   cases kq with
   | zero => exact absurd HA.out (by simp [laws_FnWho.j0])
   | succ kj4 =>
    have H := HA.out
    clear HA
    simp only [laws_FnWho.j0] at H
    refine tC H ?_ ?_ <;> clear H <;> intro c21 H <;> subst c21
    obtain ⟨t112, A22, H⟩ := bd H
    by_cases c23 : t109.toList = t112.toList
    rw [if_pos c23] at H
    have c23b0 : (t109.toList == t112.toList) = true := beq_iff_eq.mpr c23
    have c23b1 : (t109.toList != t112.toList) = false := bne_eq_false_iff_eq.mpr c23
    clear c23
    obtain rfl := Option.some.inj H
    obtain ⟨hcz24_0, hcz24_1, hfz24_0, hfz24_1⟩ := cz2 BK108
    rotate_left
    rw [if_neg c23] at H
    have c23b0 : (t109.toList == t112.toList) = false := beq_eq_false_iff_ne.mpr c23
    have c23b1 : (t109.toList != t112.toList) = true := bne_iff_ne.mpr c23
    obtain rfl := Option.some.inj H
    obtain ⟨hcz26_0, hcz26_1, hfz26_0, hfz26_1⟩ := cz2 BK108
    rotate_left
    have H' := am H
    clear H
    rotate_left
    all_goals
     go_wp2_with (first | ((with_reducible refine gC 26 ?_); refine cQ (some 32) Try.func26 (spec_ShareWho.calls kj4 _ _ t101 _ _ t104 t107 t112 _ (pC (Kd.R_reads' HO_109000.1).2.2) ((Kd.R_reads' HO_109000.1).2.1) (pC (Kd.N_reads' HO_109001.1).2.2) ((Kd.N_reads' HO_109001.1).2.1) A22.out) ?_; rintro w4240 hb; replace HO_109000 := am (Kd.R_below (rR HO_109000.1) hb); replace HO_109001 := am (Kd.N_below (rN HO_109001.1) hb); replace BK108 := bB pY100 hb; replace HB := bS pY91 hb; (try clear hb)))
    ·go_ret
     exact ⟨eR, pY91⟩
    ·go_ret
     exact ⟨eR, pY91⟩
    ·go_loopg [6, 7] kj4 (fun kq v6 v7 w' => ∃ (x6_2 : Int) (x7_2 : Int), v6 = .int .i64 x6_2 ∧ v7 = .int .i64 x7_2 ∧ Aside0 (laws_FnWho.l0 kq t107 t109 x6_2 x7_2 t101 t104 = some r) ∧ Aside0 (kq ≤ kj4) ∧ Aside0 (Kd.R Kd.string 9 w' w.heap.size (fun _ => True) (.slice Ao8 t101.length co8) t101) ∧ Aside0 (Kd.N k56 56 w' w.heap.size (fun k_ => some k_ ≠ ((.slice Ao8 t101.length co8) : Value).ownBlock ∧ k_ ≠ gb108) (.slice Ao10 t104.length co10) t104) ∧ Aside0 (w'.heap[gb108]? = some (.cells #[(.slice Ao8 t101.length co8), (.slice Ao10 t104.length co10)] 31 (0, 0))) ∧ Aside0 (Below w.heap.size w w'))
     case atStart => exact ⟨(0), (0), (pY136), (pY136), H', ⟨Nat.le_refl _⟩, ⟨rR HO_109000.1⟩, ⟨rN HO_109001.1⟩, ⟨rB BK108.1⟩, ⟨pY91⟩⟩
     case round =>
      clear H'
      try clear c2
      try clear c2b0
      try clear c2b1
      try clear c21
      try clear hcz9_0 hcz9_1 hfz9_0 hfz9_1
      obtain ⟨x6_2, x7_2, rfl, rfl, HA, HK2, HO_109000, HO_109001, BK108, HB⟩ := hrel
      cases gk with
      | zero => exact absurd HA.out (by simp [laws_FnWho.l0])
      | succ k2 =>
       have H := HA.out
       clear HA
       simp only [laws_FnWho.l0] at H
       refine ic H ?_ ?_ <;> clear H <;> intro c28b0 H
       obtain ⟨c29b0, H⟩ := cN H
       obtain ⟨t114, A30, H⟩ := bd H
       refine tC H ?_ ?_ <;> clear H <;> intro c31 H <;> subst c31
       by_cases c32 : t109.toList = ((rd_T56 t104 x7_2).f0).toList
       rw [if_pos c32] at H
       have c32b0 : (t109.toList == ((rd_T56 t104 x7_2).f0).toList) = true := beq_iff_eq.mpr c32
       have c32b1 : (t109.toList != ((rd_T56 t104 x7_2).f0).toList) = false := bne_eq_false_iff_eq.mpr c32
       clear c32
       obtain ⟨t117, A33, H⟩ := bd H
       refine tC H ?_ ?_ <;> clear H <;> intro c34 H <;> subst c34
       have H' := am H
       clear H
       obtain ⟨hcz35_0, hcz35_1, hfz35_0, hfz35_1⟩ := cz2 BK108
       have p113 : 0 ≤ (x7_2 : Int) := oT
       have q113 : x7_2 < (t104.length : Int) := oT
       obtain ⟨ad113, A113_1, c113_1, A113_2, c113_2, e113, hx113_0, hx113_1, hx113_2, hl113_1, hi113_1, hl113_2, hi113_2⟩ := at_T56 (Kd.N_reads' HO_109001.1).2.2 x7_2 p113 q113
       cases e113
       obtain ⟨ce113, hce113, hMe113, hcc113⟩ := Kd.N_get HO_109001.1 z56 x7_2 p113 (by first | exact q113 | exact oT | (have e_ := (Kd.N_reads' HO_109001.1).1; omega))
       obtain ⟨ua113_1, uc113_1, ua113_2, uc113_2, rfl, ul113_1, ge113_1, ul113_2, ge113_2⟩ := k56_openF hMe113
       have hv113_1 := hcc113 1 _ rfl
       rw [add_field _ _ 1 (by omega)] at hv113_1
       replace hv113_1 := Option.some.inj (hv113_1.symm.trans hx113_1)
       injection hv113_1 with hva_ hvn_ hvc_
       rw [hva_] at ge113_1
       rw [hvc_] at ul113_1
       have HL113_1 := am (show Kd.V Kd.string 9 _ w.heap.size _ _ ((rd_T56 t104 x7_2).f1) from Kd.V_mk ul113_1 ge113_1)
       clear hva_ hvn_ hvc_ ge113_1 ul113_1
       have hv113_2 := hcc113 2 _ rfl
       rw [add_field _ _ 2 (by omega)] at hv113_2
       replace hv113_2 := Option.some.inj (hv113_2.symm.trans hx113_2)
       injection hv113_2 with hva_ hvn_ hvc_
       rw [hva_] at ge113_2
       rw [hvc_] at ul113_2
       have HL113_2 := am (show Kd.V Kd.string 9 _ w.heap.size _ _ ((rd_T56 t104 x7_2).f2) from Kd.V_mk ul113_2 ge113_2)
       clear hva_ hvn_ hvc_ ge113_2 ul113_2
       clear hcc113 hce113
       have HR113_1 := am hi113_1
       have HC113_1 := am hl113_1
       clear hi113_1 hl113_1
       have HR113_2 := am hi113_2
       have HC113_2 := am hl113_2
       clear hi113_2 hl113_2
       replace p113 := eq_true p113
       replace q113 := eq_true q113
       have M82_ := trivial
       have M83_ := trivial
       rotate_left
       obtain rfl := Option.some.inj H
       obtain ⟨hcz36_0, hcz36_1, hfz36_0, hfz36_1⟩ := cz2 BK108
       have p113 : 0 ≤ (x7_2 : Int) := oT
       have q113 : x7_2 < (t104.length : Int) := oT
       obtain ⟨ad113, A113_1, c113_1, A113_2, c113_2, e113, hx113_0, hx113_1, hx113_2, hl113_1, hi113_1, hl113_2, hi113_2⟩ := at_T56 (Kd.N_reads' HO_109001.1).2.2 x7_2 p113 q113
       cases e113
       obtain ⟨ce113, hce113, hMe113, hcc113⟩ := Kd.N_get HO_109001.1 z56 x7_2 p113 (by first | exact q113 | exact oT | (have e_ := (Kd.N_reads' HO_109001.1).1; omega))
       obtain ⟨ua113_1, uc113_1, ua113_2, uc113_2, rfl, ul113_1, ge113_1, ul113_2, ge113_2⟩ := k56_openF hMe113
       have hv113_1 := hcc113 1 _ rfl
       rw [add_field _ _ 1 (by omega)] at hv113_1
       replace hv113_1 := Option.some.inj (hv113_1.symm.trans hx113_1)
       injection hv113_1 with hva_ hvn_ hvc_
       rw [hva_] at ge113_1
       rw [hvc_] at ul113_1
       have HL113_1 := am (show Kd.V Kd.string 9 _ w.heap.size _ _ ((rd_T56 t104 x7_2).f1) from Kd.V_mk ul113_1 ge113_1)
       clear hva_ hvn_ hvc_ ge113_1 ul113_1
       have hv113_2 := hcc113 2 _ rfl
       rw [add_field _ _ 2 (by omega)] at hv113_2
       replace hv113_2 := Option.some.inj (hv113_2.symm.trans hx113_2)
       injection hv113_2 with hva_ hvn_ hvc_
       rw [hva_] at ge113_2
       rw [hvc_] at ul113_2
       have HL113_2 := am (show Kd.V Kd.string 9 _ w.heap.size _ _ ((rd_T56 t104 x7_2).f2) from Kd.V_mk ul113_2 ge113_2)
       clear hva_ hvn_ hvc_ ge113_2 ul113_2
       clear hcc113 hce113
       have HR113_1 := am hi113_1
       have HC113_1 := am hl113_1
       clear hi113_1 hl113_1
       have HR113_2 := am hi113_2
       have HC113_2 := am hl113_2
       clear hi113_2 hl113_2
       replace p113 := eq_true p113
       replace q113 := eq_true q113
       have M82_ := trivial
       have M84_ := trivial
       rotate_left
       rw [if_neg c32] at H
       have c32b0 : (t109.toList == ((rd_T56 t104 x7_2).f0).toList) = false := beq_eq_false_iff_ne.mpr c32
       have c32b1 : (t109.toList != ((rd_T56 t104 x7_2).f0).toList) = true := bne_iff_ne.mpr c32
       obtain rfl := Option.some.inj H
       obtain ⟨hcz37_0, hcz37_1, hfz37_0, hfz37_1⟩ := cz2 BK108
       have p113 : 0 ≤ (x7_2 : Int) := oT
       have q113 : x7_2 < (t104.length : Int) := oT
       obtain ⟨ad113, A113_1, c113_1, A113_2, c113_2, e113, hx113_0, hx113_1, hx113_2, hl113_1, hi113_1, hl113_2, hi113_2⟩ := at_T56 (Kd.N_reads' HO_109001.1).2.2 x7_2 p113 q113
       cases e113
       obtain ⟨ce113, hce113, hMe113, hcc113⟩ := Kd.N_get HO_109001.1 z56 x7_2 p113 (by first | exact q113 | exact oT | (have e_ := (Kd.N_reads' HO_109001.1).1; omega))
       obtain ⟨ua113_1, uc113_1, ua113_2, uc113_2, rfl, ul113_1, ge113_1, ul113_2, ge113_2⟩ := k56_openF hMe113
       have hv113_1 := hcc113 1 _ rfl
       rw [add_field _ _ 1 (by omega)] at hv113_1
       replace hv113_1 := Option.some.inj (hv113_1.symm.trans hx113_1)
       injection hv113_1 with hva_ hvn_ hvc_
       rw [hva_] at ge113_1
       rw [hvc_] at ul113_1
       have HL113_1 := am (show Kd.V Kd.string 9 _ w.heap.size _ _ ((rd_T56 t104 x7_2).f1) from Kd.V_mk ul113_1 ge113_1)
       clear hva_ hvn_ hvc_ ge113_1 ul113_1
       have hv113_2 := hcc113 2 _ rfl
       rw [add_field _ _ 2 (by omega)] at hv113_2
       replace hv113_2 := Option.some.inj (hv113_2.symm.trans hx113_2)
       injection hv113_2 with hva_ hvn_ hvc_
       rw [hva_] at ge113_2
       rw [hvc_] at ul113_2
       have HL113_2 := am (show Kd.V Kd.string 9 _ w.heap.size _ _ ((rd_T56 t104 x7_2).f2) from Kd.V_mk ul113_2 ge113_2)
       clear hva_ hvn_ hvc_ ge113_2 ul113_2
       clear hcc113 hce113
       have HR113_1 := am hi113_1
       have HC113_1 := am hl113_1
       clear hi113_1 hl113_1
       have HR113_2 := am hi113_2
       have HC113_2 := am hl113_2
       clear hi113_2 hl113_2
       replace p113 := eq_true p113
       replace q113 := eq_true q113
       have M85_ := trivial
       rotate_left
       have H' := am H
       clear H
       obtain ⟨hcz38_0, hcz38_1, hfz38_0, hfz38_1⟩ := cz2 BK108
       have p113 : 0 ≤ (x7_2 : Int) := oT
       have q113 : x7_2 < (t104.length : Int) := oT
       obtain ⟨ad113, A113_1, c113_1, A113_2, c113_2, e113, hx113_0, hx113_1, hx113_2, hl113_1, hi113_1, hl113_2, hi113_2⟩ := at_T56 (Kd.N_reads' HO_109001.1).2.2 x7_2 p113 q113
       cases e113
       obtain ⟨ce113, hce113, hMe113, hcc113⟩ := Kd.N_get HO_109001.1 z56 x7_2 p113 (by first | exact q113 | exact oT | (have e_ := (Kd.N_reads' HO_109001.1).1; omega))
       obtain ⟨ua113_1, uc113_1, ua113_2, uc113_2, rfl, ul113_1, ge113_1, ul113_2, ge113_2⟩ := k56_openF hMe113
       have hv113_1 := hcc113 1 _ rfl
       rw [add_field _ _ 1 (by omega)] at hv113_1
       replace hv113_1 := Option.some.inj (hv113_1.symm.trans hx113_1)
       injection hv113_1 with hva_ hvn_ hvc_
       rw [hva_] at ge113_1
       rw [hvc_] at ul113_1
       have HL113_1 := am (show Kd.V Kd.string 9 _ w.heap.size _ _ ((rd_T56 t104 x7_2).f1) from Kd.V_mk ul113_1 ge113_1)
       clear hva_ hvn_ hvc_ ge113_1 ul113_1
       have hv113_2 := hcc113 2 _ rfl
       rw [add_field _ _ 2 (by omega)] at hv113_2
       replace hv113_2 := Option.some.inj (hv113_2.symm.trans hx113_2)
       injection hv113_2 with hva_ hvn_ hvc_
       rw [hva_] at ge113_2
       rw [hvc_] at ul113_2
       have HL113_2 := am (show Kd.V Kd.string 9 _ w.heap.size _ _ ((rd_T56 t104 x7_2).f2) from Kd.V_mk ul113_2 ge113_2)
       clear hva_ hvn_ hvc_ ge113_2 ul113_2
       clear hcc113 hce113
       have HR113_1 := am hi113_1
       have HC113_1 := am hl113_1
       clear hi113_1 hl113_1
       have HR113_2 := am hi113_2
       have HC113_2 := am hl113_2
       clear hi113_2 hl113_2
       replace p113 := eq_true p113
       replace q113 := eq_true q113
       have M86_ := trivial
       rotate_left
       by_cases c39 : x6_2 = 0
       rw [if_pos c39] at H
       have c39b0 : (x6_2 == 0) = true := beq_iff_eq.mpr c39
       have c39b1 : (x6_2 != 0) = false := bne_eq_false_iff_eq.mpr c39
       clear c39
       by_cases c40 : t109.toList = ([] : List UInt8)
       rw [if_pos c40] at H
       have c40b0 : (t109.toList == ([] : List UInt8)) = true := beq_iff_eq.mpr c40
       have c40b1 : (t109.toList != ([] : List UInt8)) = false := bne_eq_false_iff_eq.mpr c40
       clear c40
       obtain rfl := Option.some.inj H
       obtain ⟨hcz41_0, hcz41_1, hfz41_0, hfz41_1⟩ := cz2 BK108
       rotate_left
       rw [if_neg c40] at H
       have c40b0 : (t109.toList == ([] : List UInt8)) = false := beq_eq_false_iff_ne.mpr c40
       have c40b1 : (t109.toList != ([] : List UInt8)) = true := bne_iff_ne.mpr c40
       obtain rfl := Option.some.inj H
       obtain ⟨hcz42_0, hcz42_1, hfz42_0, hfz42_1⟩ := cz2 BK108
       rotate_left
       rw [if_neg c39] at H
       have c39b0 : (x6_2 == 0) = false := beq_eq_false_iff_ne.mpr c39
       have c39b1 : (x6_2 != 0) = true := bne_iff_ne.mpr c39
       obtain rfl := Option.some.inj H
       obtain ⟨hcz43_0, hcz43_1, hfz43_0, hfz43_1⟩ := cz2 BK108
       rotate_left
       all_goals
        go_wp2_with (first | ((with_reducible refine gC 52 ?_); clear M82_; refine cQ (some 52) Try.func52 (laws_wHas.calls k2 _ _ ((rd_T56 t104 x7_2).f1) t107 true _ (pC (by repeat (first | (with_reducible exact HR113_1.1) | (with_reducible refine Kd.C_alloc ?_ _) | (with_reducible refine Kd.C_drewN ?_ _) | (with_reducible refine Kd.C_drew ?_) | exact HR113_1.1))) HC113_1.1 A30.out) ?_; rintro w' ⟨nd, rfl⟩; have p115 : 0 ≤ (x7_2 : Int) := oT; have q115 : x7_2 < (t104.length : Int) := oT; obtain ⟨ad115, A115_1, c115_1, A115_2, c115_2, e115, hx115_0, hx115_1, hx115_2, hl115_1, hi115_1, hl115_2, hi115_2⟩ := at_T56 (Kd.N_reads' HO_109001.1).2.2 x7_2 p115 q115; obtain rfl : ad113 = ad115 := (by injection e115); obtain ⟨ce115, hce115, hMe115, hcc115⟩ := Kd.N_get HO_109001.1 z56 x7_2 p115 (by first | exact q115 | exact oT | (have e_ := (Kd.N_reads' HO_109001.1).1; omega)); obtain ⟨ua115_1, uc115_1, ua115_2, uc115_2, rfl, ul115_1, ge115_1, ul115_2, ge115_2⟩ := k56_openF hMe115; have hv115_1 := hcc115 1 _ rfl; rw [add_field _ _ 1 (by omega)] at hv115_1; replace hv115_1 := Option.some.inj (hv115_1.symm.trans hx115_1); injection hv115_1 with hva_ hvn_ hvc_; rw [hva_] at ge115_1; rw [hvc_] at ul115_1; have HL115_1 := am (show Kd.V Kd.string 9 _ w.heap.size _ _ ((rd_T56 t104 x7_2).f1) from Kd.V_mk ul115_1 ge115_1); clear hva_ hvn_ hvc_ ge115_1 ul115_1; have hv115_2 := hcc115 2 _ rfl; rw [add_field _ _ 2 (by omega)] at hv115_2; replace hv115_2 := Option.some.inj (hv115_2.symm.trans hx115_2); injection hv115_2 with hva_ hvn_ hvc_; rw [hva_] at ge115_2; rw [hvc_] at ul115_2; have HL115_2 := am (show Kd.V Kd.string 9 _ w.heap.size _ _ ((rd_T56 t104 x7_2).f2) from Kd.V_mk ul115_2 ge115_2); clear hva_ hvn_ hvc_ ge115_2 ul115_2; clear hcc115 hce115; have HR115_1 := am hi115_1; have HC115_1 := am hl115_1; clear hi115_1 hl115_1; have HR115_2 := am hi115_2; have HC115_2 := am hl115_2; clear hi115_2 hl115_2; replace p115 := eq_true p115; replace q115 := eq_true q115; have ea_ := Option.some.inj (hx113_1.symm.trans hx115_1); injection ea_ with ea_ en_ ec_; subst ea_; subst ec_; clear en_; have ea_ := Option.some.inj (hx113_2.symm.trans hx115_2); injection ea_ with ea_ en_ ec_; subst ea_; subst ec_; clear en_; have p116 : 0 ≤ (x7_2 : Int) := oT; have q116 : x7_2 < (t104.length : Int) := oT; obtain ⟨ad116, A116_1, c116_1, A116_2, c116_2, e116, hx116_0, hx116_1, hx116_2, hl116_1, hi116_1, hl116_2, hi116_2⟩ := at_T56 (Kd.N_reads' HO_109001.1).2.2 x7_2 p116 q116; obtain rfl : ad113 = ad116 := (by injection e116); obtain ⟨ce116, hce116, hMe116, hcc116⟩ := Kd.N_get HO_109001.1 z56 x7_2 p116 (by first | exact q116 | exact oT | (have e_ := (Kd.N_reads' HO_109001.1).1; omega)); obtain ⟨ua116_1, uc116_1, ua116_2, uc116_2, rfl, ul116_1, ge116_1, ul116_2, ge116_2⟩ := k56_openF hMe116; have hv116_1 := hcc116 1 _ rfl; rw [add_field _ _ 1 (by omega)] at hv116_1; replace hv116_1 := Option.some.inj (hv116_1.symm.trans hx116_1); injection hv116_1 with hva_ hvn_ hvc_; rw [hva_] at ge116_1; rw [hvc_] at ul116_1; have HL116_1 := am (show Kd.V Kd.string 9 _ w.heap.size _ _ ((rd_T56 t104 x7_2).f1) from Kd.V_mk ul116_1 ge116_1); clear hva_ hvn_ hvc_ ge116_1 ul116_1; have hv116_2 := hcc116 2 _ rfl; rw [add_field _ _ 2 (by omega)] at hv116_2; replace hv116_2 := Option.some.inj (hv116_2.symm.trans hx116_2); injection hv116_2 with hva_ hvn_ hvc_; rw [hva_] at ge116_2; rw [hvc_] at ul116_2; have HL116_2 := am (show Kd.V Kd.string 9 _ w.heap.size _ _ ((rd_T56 t104 x7_2).f2) from Kd.V_mk ul116_2 ge116_2); clear hva_ hvn_ hvc_ ge116_2 ul116_2; clear hcc116 hce116; have HR116_1 := am hi116_1; have HC116_1 := am hl116_1; clear hi116_1 hl116_1; have HR116_2 := am hi116_2; have HC116_2 := am hl116_2; clear hi116_2 hl116_2; replace p116 := eq_true p116; replace q116 := eq_true q116; have ea_ := Option.some.inj (hx113_1.symm.trans hx116_1); injection ea_ with ea_ en_ ec_; subst ea_; subst ec_; clear en_; have ea_ := Option.some.inj (hx113_2.symm.trans hx116_2); injection ea_ with ea_ en_ ec_; subst ea_; subst ec_; clear en_) | (go_at_call 52; clear M83_; refine cM (laws_wHas.calls k2 _ _ ((rd_T56 t104 x7_2).f2) t107 true _ (pC (by repeat (first | (with_reducible exact HR116_2.1) | (with_reducible refine Kd.C_alloc ?_ _) | (with_reducible refine Kd.C_drewN ?_ _) | (with_reducible refine Kd.C_drew ?_) | exact HR116_2.1))) HC116_2.1 A33.out) ?_; rintro w' ⟨nd, rfl⟩) | (go_at_call 52; clear M84_; refine cM (laws_wHas.calls k2 _ _ ((rd_T56 t104 x7_2).f2) t107 false _ (pC (by repeat (first | (with_reducible exact HR116_2.1) | (with_reducible refine Kd.C_alloc ?_ _) | (with_reducible refine Kd.C_drewN ?_ _) | (with_reducible refine Kd.C_drew ?_) | exact HR116_2.1))) HC116_2.1 A33.out) ?_; rintro w' ⟨nd, rfl⟩) | ((with_reducible refine gC 52 ?_); clear M85_; refine cQ (some 52) Try.func52 (laws_wHas.calls k2 _ _ ((rd_T56 t104 x7_2).f1) t107 true _ (pC (by repeat (first | (with_reducible exact HR113_1.1) | (with_reducible refine Kd.C_alloc ?_ _) | (with_reducible refine Kd.C_drewN ?_ _) | (with_reducible refine Kd.C_drew ?_) | exact HR113_1.1))) HC113_1.1 A30.out) ?_; rintro w' ⟨nd, rfl⟩; have p115 : 0 ≤ (x7_2 : Int) := oT; have q115 : x7_2 < (t104.length : Int) := oT; obtain ⟨ad115, A115_1, c115_1, A115_2, c115_2, e115, hx115_0, hx115_1, hx115_2, hl115_1, hi115_1, hl115_2, hi115_2⟩ := at_T56 (Kd.N_reads' HO_109001.1).2.2 x7_2 p115 q115; obtain rfl : ad113 = ad115 := (by injection e115); obtain ⟨ce115, hce115, hMe115, hcc115⟩ := Kd.N_get HO_109001.1 z56 x7_2 p115 (by first | exact q115 | exact oT | (have e_ := (Kd.N_reads' HO_109001.1).1; omega)); obtain ⟨ua115_1, uc115_1, ua115_2, uc115_2, rfl, ul115_1, ge115_1, ul115_2, ge115_2⟩ := k56_openF hMe115; have hv115_1 := hcc115 1 _ rfl; rw [add_field _ _ 1 (by omega)] at hv115_1; replace hv115_1 := Option.some.inj (hv115_1.symm.trans hx115_1); injection hv115_1 with hva_ hvn_ hvc_; rw [hva_] at ge115_1; rw [hvc_] at ul115_1; have HL115_1 := am (show Kd.V Kd.string 9 _ w.heap.size _ _ ((rd_T56 t104 x7_2).f1) from Kd.V_mk ul115_1 ge115_1); clear hva_ hvn_ hvc_ ge115_1 ul115_1; have hv115_2 := hcc115 2 _ rfl; rw [add_field _ _ 2 (by omega)] at hv115_2; replace hv115_2 := Option.some.inj (hv115_2.symm.trans hx115_2); injection hv115_2 with hva_ hvn_ hvc_; rw [hva_] at ge115_2; rw [hvc_] at ul115_2; have HL115_2 := am (show Kd.V Kd.string 9 _ w.heap.size _ _ ((rd_T56 t104 x7_2).f2) from Kd.V_mk ul115_2 ge115_2); clear hva_ hvn_ hvc_ ge115_2 ul115_2; clear hcc115 hce115; have HR115_1 := am hi115_1; have HC115_1 := am hl115_1; clear hi115_1 hl115_1; have HR115_2 := am hi115_2; have HC115_2 := am hl115_2; clear hi115_2 hl115_2; replace p115 := eq_true p115; replace q115 := eq_true q115; have ea_ := Option.some.inj (hx113_1.symm.trans hx115_1); injection ea_ with ea_ en_ ec_; subst ea_; subst ec_; clear en_; have ea_ := Option.some.inj (hx113_2.symm.trans hx115_2); injection ea_ with ea_ en_ ec_; subst ea_; subst ec_; clear en_) | ((with_reducible refine gC 52 ?_); clear M86_; refine cQ (some 52) Try.func52 (laws_wHas.calls k2 _ _ ((rd_T56 t104 x7_2).f1) t107 false _ (pC (by repeat (first | (with_reducible exact HR113_1.1) | (with_reducible refine Kd.C_alloc ?_ _) | (with_reducible refine Kd.C_drewN ?_ _) | (with_reducible refine Kd.C_drew ?_) | exact HR113_1.1))) HC113_1.1 A30.out) ?_; rintro w' ⟨nd, rfl⟩))
       ·go_roundg k2
        case measure => have := HJ4.out; have := HK2.out; omega
        case rel => exact ⟨(wrap64 (x6_2 + 1)), (wrap64 (x7_2 + 1)), (pY136), (pY136), H', ⟨by have := HJ4.out; have := HK2.out; omega⟩, ⟨rR HO_109000.1⟩, ⟨rN HO_109001.1⟩, ⟨rB BK108.1⟩, ⟨pY91⟩⟩
       ·go_ret
        exact ⟨eR, pY91⟩
       ·go_ret
        exact ⟨eR, pY91⟩
       ·go_roundg k2
        case measure => have := HJ4.out; have := HK2.out; omega
        case rel => exact ⟨(x6_2), (wrap64 (x7_2 + 1)), (pY136), (pY136), H', ⟨by have := HJ4.out; have := HK2.out; omega⟩, ⟨rR HO_109000.1⟩, ⟨rN HO_109001.1⟩, ⟨rB BK108.1⟩, ⟨pY91⟩⟩
       ·go_ret
        exact ⟨eR, pY91⟩
       ·go_ret
        exact ⟨eR, pY91⟩
       ·go_ret
        exact ⟨eR, pY91⟩
def laws_FnWho.Pure : Prop := ∀ (l0 : List Int), l0.length ≤ maxLen → l0.length * 1 ≤ 140737488351232 → (∀ x ∈ l0, (Lit.int .u8 x).wf = true) → ∃ k, laws_FnWho.f k l0 = some true
theorem laws_FnWho.walk (P : laws_FnWho.Pure) (a0 : Option Addr) (len0 cap0 : Nat) (z0 : List Int) (w : World) (w0 : (a0 = none ∧ len0 = 0 ∧ cap0 = 0 ∧ z0 = []) ∨ ∃ x, a0 = some x ∧ len0 ≤ cap0 ∧ cap0 ≤ maxLen ∧ z0.length = cap0 ∧ (∀ i, i < z0.length → w.cell? (x.add i) = some (.int .u8 (z0.getD i 0))) ∧ ∀ n ∈ z0, (Lit.int .u8 n).wf = true) (y0 : len0 * 1 ≤ 140737488351232) :
  Calls Try.prog 14 #[.slice a0 len0 cap0] w fun e w' => e = .returned (.bool true) ∧ Below w.heap.size w w' := by
 obtain ⟨l0, rfl, hr0, hm0, hw0, hc0⟩ := ReadsInt.ofRowC w0
 obtain ⟨k, h⟩ := P l0 hm0 y0 hw0
 refine (laws_FnWho.calls k _ _ l0 true w (Kd.C_of_reads (d := (0 : Int)) (h1 := fun _ => rfl) hr0) hc0 h).mono ?_
 rintro e w' ⟨rfl, hd⟩
 exact ⟨rfl, hd⟩
end Go.Proofs.Ytaofjgnhapnndaa.Q
namespace Go.Proofs.Ytaofjgnhapnndaa.Q
open Go.RowKit Go.Proofs.YtaofjgnhapnndaaW.PrintWords Go.Proofs.YtaofjgnhapnndaaW.PrintLast Go.Proofs.YtaofjgnhapnndaaW.PrintMore
set_option linter.unusedVariables false
set_option linter.unusedSimpArgs false
theorem Ev.pos {α : Type} {c : Prop} [Decidable c] {a b : Nat → Option α} {r : α} (h : c) (H : Ev a r) : Ev (fun k => if c then a k else b k) r := by
  obtain ⟨K, hK⟩ := H
  exact ⟨K, fun k hk => by simp only [if_pos h]; exact hK k hk⟩
theorem Ev.neg {α : Type} {c : Prop} [Decidable c] {a b : Nat → Option α} {r : α} (h : ¬ c) (H : Ev b r) : Ev (fun k => if c then a k else b k) r := by
  obtain ⟨K, hK⟩ := H
  exact ⟨K, fun k hk => by simp only [if_neg h]; exact hK k hk⟩
theorem Ev.ret {α : Type} {r s : α} (h : r = s) : Ev (fun _ => some r) s := ⟨0, fun _ _ => by rw [h]⟩
theorem Ev.sub {α : Type} {g : Nat → Option α} {r s : α} (H : Ev g r) (h : r = s) : Ev g s := h ▸ H
theorem Ev.test {α : Type} {a b : Nat → Option α} {r : α} (t : Bool) (H1 : t = true → Ev a r) (H2 : t = false → Ev b r) : Ev (fun k => if t = true then a k else b k) r := by
  cases t with
  | true => exact Ev.pos rfl (H1 rfl)
  | false => exact Ev.neg (by simp) (H2 rfl)
theorem Ev.prop {α : Type} {c : Prop} [Decidable c] {a b : Nat → Option α} {r : α} (H1 : c → Ev a r) (H2 : ¬ c → Ev b r) : Ev (fun k => if c then a k else b k) r := by
  by_cases h : c
  · exact Ev.pos h (H1 h)
  · exact Ev.neg h (H2 h)
theorem Ev.loop {α : Type} {f : Nat → Nat → Option α} {val : Nat → α} (n : Nat) (hend : Ev (fun k => f k n) (val n))
    (hstep : ∀ i, i < n → Ev (fun k => f k (i + 1)) (val (i + 1)) → Ev (fun k => f k i) (val i)) : ∀ i, i ≤ n → Ev (fun k => f k i) (val i) := by
  intro i hi
  obtain ⟨d, hd⟩ : ∃ d, n - i = d := ⟨_, rfl⟩
  induction d generalizing i with
  | zero => have : i = n := by omega
            subst this; exact hend
  | succ d ih => exact hstep i (by omega) (ih (i + 1) (by omega) (by omega))
def allR (P : Nat → Bool) (n i : Nat) : Bool := (List.range' i (n - i)).all P
def anyR (P : Nat → Bool) (n i : Nat) : Bool := (List.range' i (n - i)).any P
theorem allR_end (P : Nat → Bool) (n : Nat) : allR P n n = true := by simp [allR]
theorem anyR_end (P : Nat → Bool) (n : Nat) : anyR P n n = false := by simp [anyR]
theorem allR_step (P : Nat → Bool) {n i : Nat} (h : i < n) : allR P n i = (P i && allR P n (i + 1)) := by
  unfold allR; rw [show n - i = (n - (i + 1)) + 1 by omega, List.range'_succ, List.all_cons]
theorem anyR_step (P : Nat → Bool) {n i : Nat} (h : i < n) : anyR P n i = (P i || anyR P n (i + 1)) := by
  unfold anyR; rw [show n - i = (n - (i + 1)) + 1 by omega, List.range'_succ, List.any_cons]
theorem allR_iff (P : Nat → Bool) (n i : Nat) : allR P n i = true ↔ ∀ j, i ≤ j → j < n → P j = true := by
  unfold allR; rw [List.all_eq_true]
  constructor
  · intro h j h1 h2; exact h j (by rw [List.mem_range'_1]; omega)
  · intro h j hj; rw [List.mem_range'_1] at hj; exact h j (by omega) (by omega)
theorem anyR_iff (P : Nat → Bool) (n i : Nat) : anyR P n i = true ↔ ∃ j, i ≤ j ∧ j < n ∧ P j = true := by
  unfold anyR; rw [List.any_eq_true]
  constructor
  · rintro ⟨j, hj, h⟩; rw [List.mem_range'_1] at hj; exact ⟨j, by omega, by omega, h⟩
  · rintro ⟨j, h1, h2, h⟩; exact ⟨j, by rw [List.mem_range'_1]; omega, h⟩
theorem Ev.loopAll {f : Nat → Nat → Option Bool} {P : Nat → Bool} (n : Nat) (hend : Ev (fun k => f k n) true)
    (hyes : ∀ i r, i < n → P i = true → Ev (fun k => f k (i + 1)) r → Ev (fun k => f k i) r) (hno : ∀ i, i < n → P i = false → Ev (fun k => f k i) false) : ∀ i, i ≤ n → Ev (fun k => f k i) (allR P n i) :=
  Ev.loop (val := allR P n) n (by rw [allR_end]; exact hend) fun i hi H => by
    rw [allR_step P hi]
    cases h : P i with
    | true => exact hyes i _ hi h H
    | false => exact hno i hi h
theorem Ev.loopAny {f : Nat → Nat → Option Bool} {P : Nat → Bool} (n : Nat) (hend : Ev (fun k => f k n) false)
    (hno : ∀ i r, i < n → P i = false → Ev (fun k => f k (i + 1)) r → Ev (fun k => f k i) r) (hyes : ∀ i, i < n → P i = true → Ev (fun k => f k i) true) : ∀ i, i ≤ n → Ev (fun k => f k i) (anyR P n i) :=
  Ev.loop (val := anyR P n) n (by rw [anyR_end]; exact hend) fun i hi H => by
    rw [anyR_step P hi]
    cases h : P i with
    | false => exact hno i _ hi h H
    | true => exact hyes i hi h
theorem anyR_list {α : Type} (p : α → Bool) (z : α) (l : List α) : anyR (fun j => p (l.getD j z)) l.length 0 = l.any p := by
  rw [Bool.eq_iff_iff, anyR_iff, List.any_eq_true]
  constructor
  · rintro ⟨j, _, h, hp⟩; exact ⟨l.getD j z, by rw [List.getD_eq_getElem?_getD, List.getElem?_eq_getElem h]; exact List.getElem_mem h, hp⟩
  · rintro ⟨x, hx, hp⟩; obtain ⟨j, h, rfl⟩ := List.getElem_of_mem hx; exact ⟨j, by omega, h, by rw [List.getD_eq_getElem?_getD, List.getElem?_eq_getElem h]; exact hp⟩
theorem rdOf_cast {α : Type} (d : α) (l : List α) (i : Nat) : rdOf d l (i : Int) = l.getD i d := by
  unfold rdOf; rw [Int.toNat_natCast]
theorem wrap_up {i n : Nat} (h : i < n) (hn : n ≤ 9223372036854775807) : wrap64 ((i : Int) + 1) = ((i + 1 : Nat) : Int) := by
  unfold wrap64; omega
theorem wrap_down {i : Nat} (h : 0 < i) (hn : i ≤ 9223372036854775807) : wrap64 ((i : Int) - 1) = ((i - 1 : Nat) : Int) := by
  unfold wrap64; omega
theorem toList_inj {a b : ByteArray} : a.toList = b.toList ↔ a = b := by
  constructor
  · intro h
    rw [ByteArray.toList_eq, ByteArray.toList_eq] at h
    cases a; cases b
    simpa using h
  · intro h; rw [h]
def gS (l : List ByteArray) (i : Nat) : ByteArray := l.getD i ByteArray.empty
def ltB (a b : ByteArray) : Bool := Op.bytesLess a.toList b.toList
theorem rdS_cast (l : List ByteArray) (i : Nat) : rdOf ByteArray.empty l (i : Int) = gS l i := rdOf_cast _ _ _
def namesP (l all : List ByteArray) (j : Nat) : Bool := hasS all (gS l j) && (decide (j = 0) || ltB (gS l (j - 1)) (gS l j))
def namesB (l all : List ByteArray) : Bool := allR (namesP l all) l.length 0
def shareB (a b : List ByteArray) : Bool := a.any (hasS b)
def thingsP (l : List ByteArray) (j : Nat) : Bool := nameB (gS l j) && (decide (j = 0) || ltB (gS l (j - 1)) (gS l j))
def thingsB (l : List ByteArray) : Bool := decide (l.length ≤ 8) && allR (thingsP l) l.length 0
theorem ahead_ev {α : Type} {l : List ByteArray} {i : Nat} (hi : i < l.length) (hl : l.length ≤ 9223372036854775807) {a b : Nat → Option α} {r : α}
    (H1 : (decide (i = 0) || ltB (gS l (i - 1)) (gS l i)) = true → Ev a r) (H2 : (decide (i = 0) || ltB (gS l (i - 1)) (gS l i)) = false → Ev b r) :
    Ev (fun k => if (i : Int) > 0 then (if 0 ≤ (wrap64 ((i : Int) - 1)) then (if (wrap64 ((i : Int) - 1)) < (l.length : Int) then (if ((Op.bytesLess ((rdOf ByteArray.empty l (wrap64 ((i : Int) - 1))).toList) ((rdOf ByteArray.empty l (i : Int)).toList)) = true) then a k else b k) else none) else none) else a k) r := by
  by_cases h0 : i = 0
  · exact Ev.neg (by omega) (H1 (by simp [h0]))
  · rw [wrap_down (by omega) (by omega), rdS_cast, rdS_cast]
    refine Ev.pos (by omega) (Ev.pos (by omega) (Ev.pos (by omega) (Ev.test _ (fun h => H1 ?_) (fun h => H2 ?_))))
    · simp only [ltB, h, Bool.or_true]
    · simp only [ltB, h, h0, decide_false, Bool.or_false]
theorem spec_l1In_at (n low high : Int) : spec_l1In.f n low high = some (decide (low ≤ n) && decide (n ≤ high)) := by
  unfold spec_l1In.f
  by_cases h : n ≥ low
  · rw [if_pos h, show decide (low ≤ n) = true from decide_eq_true h]; rfl
  · rw [if_neg h, show decide (low ≤ n) = false from decide_eq_false h]; rfl
theorem spec_l1NameOk_ev (s : ByteArray) : Ev (fun k => spec_l1NameOk.f k s) (nameB s) := by
  unfold spec_l1NameOk.f
  simp only [spec_l1In_at, Option.bind_some]
  refine Ev.test _ (fun h => ?_) (fun h => ?_)
  · simp only [Bool.and_eq_true, decide_eq_true_eq] at h
    have E := Ev.loopAll (f := fun k i => spec_l1NameOk.l0 k s (i : Int)) (P := fun j => okc (bt s (j : Int))) s.size
      (by refine Ev.step (fun k => spec_l1NameOk.l0.eq_2 s _ k) ?_
          exact Ev.neg (by omega) (Ev.ret rfl))
      (fun i r hi hp H => by
        refine Ev.step (fun k => spec_l1NameOk.l0.eq_2 s _ k) ?_
        refine Ev.pos (by omega) (Ev.pos (by omega) ?_)
        simp only [okc_ite]
        rw [wrap_up hi (by omega)]
        exact Ev.pos hp H)
      (fun i hi hp => by
        refine Ev.step (fun k => spec_l1NameOk.l0.eq_2 s _ k) ?_
        refine Ev.pos (by omega) (Ev.pos (by omega) ?_)
        simp only [okc_ite]
        exact Ev.neg (by simp [hp]) (Ev.ret rfl)) 0 (by omega)
    refine Ev.sub E ?_
    unfold nameB allR
    rw [show decide (1 ≤ s.size) = true from decide_eq_true (by omega), show decide (s.size ≤ 8) = true from decide_eq_true (by omega)]
    rfl
  · refine Ev.ret ?_
    unfold nameB
    by_cases h1 : 1 ≤ s.size
    · by_cases h2 : s.size ≤ 8
      · have : (decide ((1 : Int) ≤ (s.size : Int)) && decide ((s.size : Int) ≤ 8)) = true := by simp; omega
        rw [this] at h; cases h
      · simp [h2]
    · simp [h1]
theorem spec_l1Has_ev (l : List ByteArray) (s : ByteArray) (hl : l.length ≤ 9223372036854775807) : Ev (fun k => spec_l1Has.f k l s) (hasS l s) := by
  unfold spec_l1Has.f
  have E := Ev.loopAny (f := fun k i => spec_l1Has.l0 k l s (i : Int)) (P := fun j => (fun x : ByteArray => s.toList == x.toList) (l.getD j ByteArray.empty)) l.length
    (by refine Ev.step (fun k => spec_l1Has.l0.eq_2 l s _ k) ?_
        exact Ev.neg (by omega) (Ev.ret rfl))
    (fun i r hi hp H => by
      refine Ev.step (fun k => spec_l1Has.l0.eq_2 l s _ k) ?_
      refine Ev.pos (by omega) (Ev.pos (by omega) ?_)
      rw [wrap_up hi hl, rdS_cast]
      exact Ev.neg (fun e => by simp [← e, gS] at hp) H)
    (fun i hi hp => by
      refine Ev.step (fun k => spec_l1Has.l0.eq_2 l s _ k) ?_
      refine Ev.pos (by omega) (Ev.pos (by omega) ?_)
      rw [rdS_cast]
      exact Ev.pos (beq_iff_eq.mp (show (s.toList == (gS l i).toList) = true from hp)).symm (Ev.ret rfl)) 0 (by omega)
  exact Ev.sub E (anyR_list (fun x : ByteArray => s.toList == x.toList) ByteArray.empty l)
theorem contains_ev (l : List ByteArray) (s : ByteArray) (hl : l.length ≤ 9223372036854775807) : Ev (fun k => slices_Contains_string_string.f k l s) (hasS l s) :=
  Ev.of (slices_Contains_string_string.mono l s) (contains_at l s hl)
theorem name_ev (s : ByteArray) : Ev (fun k => impl_name.f k s) (nameB s) := Ev.of (impl_name.mono s) (name_at s)
theorem spec_l1NamesOk_ev (l all : List ByteArray) (hl : l.length ≤ 9223372036854775807) (ha : all.length ≤ 9223372036854775807) : Ev (fun k => spec_l1NamesOk.f k l all) (namesB l all) := by
  unfold spec_l1NamesOk.f
  refine Ev.loopAll (f := fun k i => spec_l1NamesOk.l0 k l all (i : Int)) (P := namesP l all) l.length
    (by refine Ev.step (fun k => spec_l1NamesOk.l0.eq_2 l all _ k) ?_
        exact Ev.neg (by omega) (Ev.ret rfl))
    (fun i r hi hp H => by
      simp only [namesP, Bool.and_eq_true] at hp
      refine Ev.step (fun k => spec_l1NamesOk.l0.eq_2 l all _ k) ?_
      refine Ev.pos (by omega) (Ev.pos (by omega) (Ev.bind (spec_l1Has_ev all _ ha) ?_))
      rw [rdS_cast, hp.1]
      refine Ev.pos rfl (ahead_ev hi hl (fun _ => ?_) (fun h => by rw [hp.2] at h; cases h))
      rw [wrap_up hi hl]
      exact H)
    (fun i hi hp => by
      refine Ev.step (fun k => spec_l1NamesOk.l0.eq_2 l all _ k) ?_
      refine Ev.pos (by omega) (Ev.pos (by omega) (Ev.bind (spec_l1Has_ev all _ ha) ?_))
      rw [rdS_cast]
      refine Ev.test _ (fun h1 => ahead_ev hi hl (fun h2 => ?_) (fun h => Ev.ret rfl)) (fun _ => Ev.ret rfl)
      simp only [namesP, h1, h2, Bool.and_true] at hp
      cases hp) 0 (by omega)
theorem impl_of_ev (l all : List ByteArray) (hl : l.length ≤ 9223372036854775807) (ha : all.length ≤ 9223372036854775807) : Ev (fun k => impl_of.f k l all) (namesB l all) := by
  unfold impl_of.f
  refine Ev.loopAll (f := fun k i => impl_of.l0 k l all l (l.length : Int) (i : Int)) (P := namesP l all) l.length
    (by refine Ev.step (fun k => impl_of.l0.eq_2 l all l _ _ k) ?_
        exact Ev.neg (by omega) (Ev.ret rfl))
    (fun i r hi hp H => by
      simp only [namesP, Bool.and_eq_true] at hp
      refine Ev.step (fun k => impl_of.l0.eq_2 l all l _ _ k) ?_
      refine Ev.pos (by omega) (Ev.pos (by omega) (Ev.pos (by omega) (Ev.bind (contains_ev all _ ha) ?_)))
      rw [rdS_cast, hp.1]
      refine Ev.pos rfl (ahead_ev hi hl (fun _ => ?_) (fun h => by rw [hp.2] at h; cases h))
      rw [wrap_up hi hl]
      exact H)
    (fun i hi hp => by
      refine Ev.step (fun k => impl_of.l0.eq_2 l all l _ _ k) ?_
      refine Ev.pos (by omega) (Ev.pos (by omega) (Ev.pos (by omega) (Ev.bind (contains_ev all _ ha) ?_)))
      rw [rdS_cast]
      refine Ev.test _ (fun h1 => ahead_ev hi hl (fun h2 => ?_) (fun h => Ev.ret rfl)) (fun _ => Ev.ret rfl)
      simp only [namesP, h1, h2, Bool.and_true] at hp
      cases hp) 0 (by omega)
theorem spec_l1ThingsOk_ev (l : List ByteArray) : Ev (fun k => spec_l1ThingsOk.f k l) (thingsB l) := by
  unfold spec_l1ThingsOk.f thingsB
  refine Ev.prop (fun h => Ev.ret (by rw [show decide (l.length ≤ 8) = false from decide_eq_false (by omega)]; rfl)) (fun h => ?_)
  rw [show decide (l.length ≤ 8) = true from decide_eq_true (by omega), Bool.true_and]
  have hl : l.length ≤ 9223372036854775807 := by omega
  refine Ev.loopAll (f := fun k i => spec_l1ThingsOk.l0 k l (i : Int)) (P := thingsP l) l.length
    (by refine Ev.step (fun k => spec_l1ThingsOk.l0.eq_2 l _ k) ?_
        exact Ev.neg (by omega) (Ev.ret rfl))
    (fun i r hi hp H => by
      simp only [thingsP, Bool.and_eq_true] at hp
      refine Ev.step (fun k => spec_l1ThingsOk.l0.eq_2 l _ k) ?_
      refine Ev.pos (by omega) (Ev.pos (by omega) (Ev.bind (spec_l1NameOk_ev _) ?_))
      rw [rdS_cast, hp.1]
      refine Ev.pos rfl (ahead_ev hi hl (fun _ => ?_) (fun h => by rw [hp.2] at h; cases h))
      rw [wrap_up hi hl]
      exact H)
    (fun i hi hp => by
      refine Ev.step (fun k => spec_l1ThingsOk.l0.eq_2 l _ k) ?_
      refine Ev.pos (by omega) (Ev.pos (by omega) (Ev.bind (spec_l1NameOk_ev _) ?_))
      rw [rdS_cast]
      refine Ev.test _ (fun h1 => ahead_ev hi hl (fun h2 => ?_) (fun h => Ev.ret rfl)) (fun _ => Ev.ret rfl)
      simp only [thingsP, h1, h2, Bool.and_true] at hp
      cases hp) 0 (by omega)
theorem spec_l1Share_ev (a b : List ByteArray) (ha : a.length ≤ 9223372036854775807) (hb : b.length ≤ 9223372036854775807) : Ev (fun k => spec_l1Share.f k a b) (shareB a b) := by
  unfold spec_l1Share.f
  have E := Ev.loopAny (f := fun k i => spec_l1Share.l0 k a b (i : Int)) (P := fun j => hasS b (a.getD j ByteArray.empty)) a.length
    (by refine Ev.step (fun k => spec_l1Share.l0.eq_2 a b _ k) ?_
        exact Ev.neg (by omega) (Ev.ret rfl))
    (fun i r hi hp H => by
      refine Ev.step (fun k => spec_l1Share.l0.eq_2 a b _ k) ?_
      refine Ev.pos (by omega) (Ev.pos (by omega) (Ev.bind (spec_l1Has_ev b _ hb) ?_))
      rw [rdS_cast, wrap_up hi ha]
      exact Ev.neg (by rw [show hasS b (gS a i) = false from hp]; simp) H)
    (fun i hi hp => by
      refine Ev.step (fun k => spec_l1Share.l0.eq_2 a b _ k) ?_
      refine Ev.pos (by omega) (Ev.pos (by omega) (Ev.bind (spec_l1Has_ev b _ hb) ?_))
      rw [rdS_cast]
      exact Ev.pos hp (Ev.ret rfl)) 0 (by omega)
  exact Ev.sub E (anyR_list (hasS b) ByteArray.empty a)
abbrev LB := S94
abbrev IB := S56
def toB (b : LB) : IB := ⟨b.f0, b.f1, b.f2⟩
def gB (l : List IB) (i : Nat) : IB := l.getD i z56
theorem rdB_cast (l : List IB) (i : Nat) : rd_T56 l (i : Int) = gB l i := by unfold rd_T56 gB; rw [Int.toNat_natCast]
theorem getD_lt {α : Type} (l : List α) (z : α) {i : Nat} (h : i < l.length) : l.getD i z = l[i] := by rw [List.getD_eq_getElem?_getD, List.getElem?_eq_getElem h]; rfl
def sumS (l : List ByteArray) : Nat := (l.map ByteArray.size).sum
def wS (l : List ByteArray) : Nat := l.length + sumS l
def wL (b : LB) : Nat := b.f0.size + wS b.f1 + wS b.f2
def sumL (l : List LB) : Nat := (l.map wL).sum
def wBook (ts : List ByteArray) (bs : List LB) : Nat := wS ts + (bs.length + sumL bs)
def Bok (bs : List IB) : Prop := ∀ b ∈ bs, b.f1.length ≤ 9223372036854775807 ∧ b.f2.length ≤ 9223372036854775807
theorem Bok.at_ {bs : List IB} (h : Bok bs) {i : Nat} (hi : i < bs.length) : (gB bs i).f1.length ≤ 9223372036854775807 ∧ (gB bs i).f2.length ≤ 9223372036854775807 := by
  rw [show gB bs i = bs[i] from getD_lt bs _ hi]; exact h _ (List.getElem_mem hi)
def batchP (ts : List ByteArray) (bs : List IB) (i : Nat) : Bool :=
  nameB (gB bs i).f0 && ((decide (i = 0) || ltB (gB bs (i - 1)).f0 (gB bs i).f0) && (namesB (gB bs i).f2 ts && namesB (gB bs i).f1 (gB bs i).f2))
def freeP (bs : List IB) (i : Nat) : Bool := allR (fun q => !shareB (gB bs i).f1 (gB bs q).f1) i 0
def bookB (ts : List ByteArray) (bs : List IB) : Bool := thingsB ts && (decide (bs.length ≤ 5) && allR (fun i => batchP ts bs i && freeP bs i) bs.length 0)
theorem aheadB_ev {α : Type} {bs : List IB} {i : Nat} (hi : i < bs.length) (hl : bs.length ≤ 9223372036854775807) {a b : Nat → Option α} {r s : α} (H1 : Ev a r) (H2 : Ev b s) :
    Ev (fun k => if (i : Int) > 0 then (if 0 ≤ (wrap64 ((i : Int) - 1)) then (if (wrap64 ((i : Int) - 1)) < (bs.length : Int) then (if ((Op.bytesLess (((rd_T56 bs (wrap64 ((i : Int) - 1))).f0).toList) (((rd_T56 bs (i : Int)).f0).toList)) = true) then a k else b k) else none) else none) else a k)
      (if (decide (i = 0) || ltB (gB bs (i - 1)).f0 (gB bs i).f0) = true then r else s) := by
  by_cases h0 : i = 0
  · rw [if_pos (by simp [h0])]; exact Ev.neg (by omega) H1
  · rw [wrap_down (by omega) (by omega), rdB_cast, rdB_cast, show (decide (i = 0) || ltB (gB bs (i - 1)).f0 (gB bs i).f0) = ltB (gB bs (i - 1)).f0 (gB bs i).f0 from by simp [h0]]
    refine Ev.pos (by omega) (Ev.pos (by omega) (Ev.pos (by omega) (Ev.test _ (fun h => ?_) (fun h => ?_))))
    · rw [if_pos (show ltB (gB bs (i - 1)).f0 (gB bs i).f0 = true from h)]; exact H1
    · rw [if_neg (by rw [show ltB (gB bs (i - 1)).f0 (gB bs i).f0 = false from h]; simp)]; exact H2
theorem spec_ShareBookOk_ev (ts : List ByteArray) (bs : List IB) (ht : ts.length ≤ 9223372036854775807) (hl : bs.length ≤ 9223372036854775807) (hb : Bok bs) : Ev (fun k => spec_ShareBookOk.f k ts bs) (bookB ts bs) := by
  unfold spec_ShareBookOk.f bookB
  have loop : Ev (fun k => spec_ShareBookOk.l0 k ((0 : Nat) : Int) ts bs) (allR (fun i => batchP ts bs i && freeP bs i) bs.length 0) := by
    refine Ev.loop (f := fun k i => spec_ShareBookOk.l0 k (i : Int) ts bs) (val := allR (fun i => batchP ts bs i && freeP bs i) bs.length) bs.length ?_ ?_ 0 (by omega)
    · rw [allR_end]
      refine Ev.step (fun k => spec_ShareBookOk.l0.eq_2 _ ts bs k) ?_
      exact Ev.neg (by omega) (Ev.ret rfl)
    · intro i hi H
      rw [allR_step _ hi]
      generalize allR (fun i => batchP ts bs i && freeP bs i) bs.length (i + 1) = r at H
      obtain ⟨b1, b2⟩ := hb.at_ hi
      have inner : Ev (fun k => spec_ShareBookOk.l1 k (i : Int) ((0 : Nat) : Int) ts bs (gB bs i).f0 (gB bs i).f1 (gB bs i).f2) (freeP bs i && r) := by
        refine Ev.loop (f := fun k j => spec_ShareBookOk.l1 k (i : Int) (j : Int) ts bs (gB bs i).f0 (gB bs i).f1 (gB bs i).f2) (val := fun j => allR (fun q => !shareB (gB bs i).f1 (gB bs q).f1) i j && r) i ?_ ?_ 0 (by omega)
        · simp only [allR_end, Bool.true_and]
          refine Ev.step (fun k => spec_ShareBookOk.l1.eq_2 _ _ ts bs _ _ _ k) ?_
          refine Ev.neg (by omega) ?_
          rw [wrap_up hi hl]; exact H
        · intro j hj H2
          simp only [allR_step (fun q => !shareB (gB bs i).f1 (gB bs q).f1) hj]
          refine Ev.step (fun k => spec_ShareBookOk.l1.eq_2 _ _ ts bs _ _ _ k) ?_
          refine Ev.pos (by omega) (Ev.pos (by omega) (Ev.pos (by omega) ?_))
          rw [rdB_cast, wrap_up hj (by omega)]
          refine Ev.bind (spec_l1Share_ev _ _ b1 (hb.at_ (show j < bs.length by omega)).1) ?_
          refine Ev.test _ (fun h => Ev.ret (by rw [h]; rfl)) (fun h => Ev.sub H2 (by rw [h]; rfl))
      have j2 : ∀ b, Ev (fun k => spec_ShareBookOk.j2 k (i : Int) b ts bs (gB bs i).f0 (gB bs i).f1 (gB bs i).f2) (!b && (freeP bs i && r)) := by
        intro b
        refine Ev.step (fun k => spec_ShareBookOk.j2.eq_2 _ _ ts bs _ _ _ k) ?_
        refine Ev.test _ (fun h => Ev.ret (by rw [h]; rfl)) (fun h => Ev.sub inner (by rw [h]; rfl))
      have X : Ev (fun k => (spec_l1NamesOk.f k (gB bs i).f2 ts).bind fun t => if t = true then ((spec_l1NamesOk.f k (gB bs i).f1 (gB bs i).f2).bind fun t2 => spec_ShareBookOk.j2 k (i : Int) (!t2) ts bs (gB bs i).f0 (gB bs i).f1 (gB bs i).f2) else spec_ShareBookOk.j2 k (i : Int) true ts bs (gB bs i).f0 (gB bs i).f1 (gB bs i).f2)
          (namesB (gB bs i).f2 ts && namesB (gB bs i).f1 (gB bs i).f2 && (freeP bs i && r)) := by
        refine Ev.bind (spec_l1NamesOk_ev _ _ b2 ht) ?_
        refine Ev.test _ (fun h => Ev.bind (spec_l1NamesOk_ev _ _ b1 b2) (Ev.sub (j2 _) (by rw [h]; simp))) (fun h => Ev.sub (j2 _) (by rw [h]; simp))
      refine Ev.step (fun k => spec_ShareBookOk.l0.eq_2 _ ts bs k) ?_
      refine Ev.pos (by omega) (Ev.pos (by omega) (Ev.bind (spec_l1NameOk_ev _) ?_))
      have A := aheadB_ev hi hl X (j2 true)
      rw [rdB_cast] at *
      refine Ev.test _ (fun h => Ev.sub A ?_) (fun h => Ev.sub (j2 true) ?_)
      · simp only [batchP, h, Bool.true_and]
        cases (decide (i = 0) || ltB (gB bs (i - 1)).f0 (gB bs i).f0) <;> simp [Bool.and_assoc]
      · simp [batchP, h]
  have j0 : ∀ b, Ev (fun k => spec_ShareBookOk.j0 k b ts bs) (!b && allR (fun i => batchP ts bs i && freeP bs i) bs.length 0) := by
    intro b
    refine Ev.step (fun k => spec_ShareBookOk.j0.eq_2 _ ts bs k) ?_
    refine Ev.test _ (fun h => Ev.ret (by rw [h]; rfl)) (fun h => Ev.sub loop (by rw [h]; rfl))
  refine Ev.bind (spec_l1ThingsOk_ev ts) ?_
  refine Ev.test _ (fun h => Ev.sub (j0 _) ?_) (fun h => Ev.sub (j0 _) (by rw [h]; simp))
  rw [h, show (!decide ((bs.length : Int) > 5)) = decide (bs.length ≤ 5) from by rw [Bool.eq_iff_iff]; simp; omega]
  rfl
theorem things_all (ts : List ByteArray) : (decide (ts.length ≤ 8) && (namesB ts ts && !(ts.any fun s => !nameB s))) = thingsB ts := by
  unfold thingsB
  congr 1
  rw [Bool.eq_iff_iff, Bool.and_eq_true, namesB, allR_iff, allR_iff]
  have hany : ((!(ts.any fun s => !nameB s)) = true) ↔ ∀ s ∈ ts, nameB s = true := by simp
  rw [hany]
  constructor
  · rintro ⟨h1, h2⟩ j h0 hj
    have := h1 j h0 hj
    simp only [namesP, Bool.and_eq_true] at this
    simp only [thingsP, Bool.and_eq_true]
    exact ⟨h2 _ (by rw [show gS ts j = ts[j] from getD_lt ts _ hj]; exact List.getElem_mem hj), this.2⟩
  · intro h
    refine ⟨fun j h0 hj => ?_, fun s hs => ?_⟩
    · have := h j h0 hj
      simp only [thingsP, Bool.and_eq_true] at this
      simp only [namesP, Bool.and_eq_true]
      refine ⟨?_, this.2⟩
      unfold hasS
      rw [List.any_eq_true]
      exact ⟨gS ts j, by rw [show gS ts j = ts[j] from getD_lt ts _ hj]; exact List.getElem_mem hj, by simp⟩
    · obtain ⟨j, hj, rfl⟩ := List.getElem_of_mem hs
      have := h j (by omega) hj
      simp only [thingsP, Bool.and_eq_true] at this
      rw [← show gS ts j = ts[j] from getD_lt ts _ hj]
      exact this.1
theorem impl_ShareBookOk_ev (ts : List ByteArray) (bs : List IB) (ht : ts.length ≤ 9223372036854775807) (hl : bs.length ≤ 9223372036854775807) (hb : Bok bs) : Ev (fun k => impl_ShareBookOk.f k ts bs) (bookB ts bs) := by
  unfold impl_ShareBookOk.f bookB
  have loop : Ev (fun k => impl_ShareBookOk.l0 k bs (bs.length : Int) ((0 : Nat) : Int) ts bs) (allR (fun i => batchP ts bs i && freeP bs i) bs.length 0) := by
    refine Ev.loop (f := fun k i => impl_ShareBookOk.l0 k bs (bs.length : Int) (i : Int) ts bs) (val := allR (fun i => batchP ts bs i && freeP bs i) bs.length) bs.length ?_ ?_ 0 (by omega)
    · rw [allR_end]
      refine Ev.step (fun k => impl_ShareBookOk.l0.eq_2 bs _ _ ts bs k) ?_
      exact Ev.neg (by omega) (Ev.ret rfl)
    · intro i hi H
      rw [allR_step _ hi]
      generalize allR (fun i => batchP ts bs i && freeP bs i) bs.length (i + 1) = r at H
      obtain ⟨b1, b2⟩ := hb.at_ hi
      have inner : Ev (fun k => impl_ShareBookOk.l1 k bs (bs.length : Int) (i : Int) (bs.take i) ((bs.take i).length : Int) ((0 : Nat) : Int) ts bs (gB bs i).f0 (gB bs i).f1 (gB bs i).f2) (freeP bs i && r) := by
        have hlen : (bs.take i).length = i := by rw [List.length_take]; omega
        refine Ev.loop (f := fun k j => impl_ShareBookOk.l1 k bs (bs.length : Int) (i : Int) (bs.take i) ((bs.take i).length : Int) (j : Int) ts bs (gB bs i).f0 (gB bs i).f1 (gB bs i).f2) (val := fun j => allR (fun q => !shareB (gB bs i).f1 (gB bs q).f1) i j && r) i ?_ ?_ 0 (by omega)
        · simp only [allR_end, Bool.true_and]
          refine Ev.step (fun k => impl_ShareBookOk.l1.eq_2 _ _ _ _ _ _ ts bs _ _ _ k) ?_
          refine Ev.neg (by rw [hlen]; omega) ?_
          rw [wrap_up hi hl]; exact H
        · intro j hj H2
          simp only [allR_step (fun q => !shareB (gB bs i).f1 (gB bs q).f1) hj]
          refine Ev.step (fun k => impl_ShareBookOk.l1.eq_2 _ _ _ _ _ _ ts bs _ _ _ k) ?_
          refine Ev.pos (by rw [hlen]; omega) (Ev.pos (by omega) (Ev.pos (by rw [hlen]; omega) ?_))
          rw [rdB_cast, wrap_up hj (by omega), show gB (bs.take i) j = gB bs j from by unfold gB; rw [List.getD_eq_getElem?_getD, List.getElem?_take_of_lt hj, List.getD_eq_getElem?_getD]]
          simp only [impl_common.f, Option.bind_some]
          refine Ev.test _ (fun h => Ev.ret (by rw [show shareB (gB bs i).f1 (gB bs j).f1 = true from h]; rfl)) (fun h => Ev.sub H2 (by rw [show shareB (gB bs i).f1 (gB bs j).f1 = false from h]; rfl))
      have j2 : ∀ b, Ev (fun k => impl_ShareBookOk.j2 k (i : Int) bs (bs.length : Int) (i : Int) b ts bs (gB bs i).f0 (gB bs i).f1 (gB bs i).f2) (!b && (freeP bs i && r)) := by
        intro b
        refine Ev.step (fun k => impl_ShareBookOk.j2.eq_2 _ _ _ _ _ ts bs _ _ _ k) ?_
        refine Ev.test _ (fun h => Ev.ret (by rw [h]; rfl)) (fun h => Ev.pos (by omega) (Ev.pos (by omega) ?_))
        rw [Int.toNat_natCast]
        simp only [Option.bind_some]
        exact Ev.sub inner (by rw [h]; rfl)
      have X : Ev (fun k => (impl_of.f k (gB bs i).f2 ts).bind fun t => if t = true then ((impl_of.f k (gB bs i).f1 (gB bs i).f2).bind fun t2 => impl_ShareBookOk.j2 k (i : Int) bs (bs.length : Int) (i : Int) (!t2) ts bs (gB bs i).f0 (gB bs i).f1 (gB bs i).f2) else impl_ShareBookOk.j2 k (i : Int) bs (bs.length : Int) (i : Int) true ts bs (gB bs i).f0 (gB bs i).f1 (gB bs i).f2)
          (namesB (gB bs i).f2 ts && namesB (gB bs i).f1 (gB bs i).f2 && (freeP bs i && r)) := by
        refine Ev.bind (impl_of_ev _ _ b2 ht) ?_
        refine Ev.test _ (fun h => Ev.bind (impl_of_ev _ _ b1 b2) (Ev.sub (j2 _) (by rw [h]; simp))) (fun h => Ev.sub (j2 _) (by rw [h]; simp))
      refine Ev.step (fun k => impl_ShareBookOk.l0.eq_2 _ _ _ ts bs k) ?_
      refine Ev.pos (by omega) (Ev.pos (by omega) (Ev.pos (by omega) (Ev.bind (name_ev _) ?_)))
      have A := aheadB_ev hi hl X (j2 true)
      rw [rdB_cast] at *
      refine Ev.test _ (fun h => Ev.sub A ?_) (fun h => Ev.sub (j2 true) ?_)
      · simp only [batchP, h, Bool.true_and]
        cases (decide (i = 0) || ltB (gB bs (i - 1)).f0 (gB bs i).f0) <;> simp [Bool.and_assoc]
      · simp [batchP, h]
  have j0 : ∀ b, Ev (fun k => impl_ShareBookOk.j0 k b ts bs) (!b && allR (fun i => batchP ts bs i && freeP bs i) bs.length 0) := by
    intro b
    refine Ev.step (fun k => impl_ShareBookOk.j0.eq_2 _ ts bs k) ?_
    refine Ev.test _ (fun h => Ev.ret (by rw [h]; rfl)) (fun h => Ev.sub loop (by rw [h]; rfl))
  rw [← things_all]
  refine Ev.prop (fun h => Ev.sub (j0 _) ?_) (fun h => Ev.prop (fun h2 => Ev.sub (j0 _) ?_) (fun h2 => Ev.bind (impl_of_ev ts ts ht ht) ?_))
  · rw [show decide (ts.length ≤ 8) = false from decide_eq_false (by omega)]; rfl
  · rw [show decide (bs.length ≤ 5) = false from decide_eq_false (by omega)]; simp
  · rw [show decide (bs.length ≤ 5) = true from decide_eq_true (by omega), show decide (ts.length ≤ 8) = true from decide_eq_true (by omega)]
    simp only [slices_ContainsFunc_string_string.f, Option.bind_some]
    refine Ev.test _ (fun h => Ev.sub (j0 _) (by rw [h]; simp)) (fun h => Ev.sub (j0 _) (by rw [h]; simp))
abbrev EC := ByteArray × (Option Addr × Nat × Nat) × (Option Addr × Nat × Nat)
end Go.Proofs.Ytaofjgnhapnndaa.Q
