/- Texts that the row needs: words on memory and rows, the contracts of the functions it reaches, and the plain lemmas on what they compute. -/
import Derived.Lib.SliceRun
import Derived.Test.YtaofjgnhapnndaaXkmag
set_option maxHeartbeats 8000000
set_option maxRecDepth 100000
open Go.Proofs.YtaofjgnhapnndaaFkm
namespace Go.Proofs.Ytaofjgnhapnndaa.Q
open Go.RowKit Go.Proofs.YtaofjgnhapnndaaW.PrintWords Go.Proofs.YtaofjgnhapnndaaW.PrintLast Go.Proofs.YtaofjgnhapnndaaW.PrintMore
set_option linter.unusedVariables false
set_option linter.unusedSimpArgs false
theorem C_none {α : Type} {d : Kd α} {w : World} {l : List α} (h : d.C w none l.length l) : l = [] := by
 cases l with
 | nil => rfl
 | cons a l =>
  obtain ⟨ad, he, _⟩ := h.2.2 (by simp)
  cases he
mutual
def spec_l5Wild.l0 : Nat → List ByteArray → List ByteArray → Int → List Int → Int → List ByteArray → List (S56) → Option (List ByteArray × (List (S56)) × Int)
 | 0, _, _, _, _, _, _, _ => none
 | k + 1, b, h, a, c, i, d, e => if a < (b.length : Int) then ((spec_l1Rd_pick.f k c i 4).bind fun g => (if g.1 = 0 then (spec_l5Wild.l0 k b h (wrap64 (a + 1)) c g.2 d e) else (if 0 ≤ a then ((spec_l5Some.f k c g.2 d 2).bind fun j => (spec_l5Wild.l1 k b h a 0 c j.2 d e (rdOf ByteArray.empty b a) ([] : List ByteArray) j.1)) else (none)))) else (some (d, e, i))
def spec_l5Wild.l1 : Nat → List ByteArray → List ByteArray → Int → Int → List Int → Int → List ByteArray → List (S56) → ByteArray → List ByteArray → List ByteArray → Option (List ByteArray × (List (S56)) × Int)
 | 0, _, _, _, _, _, _, _, _, _, _, _ => none
 | k + 1, h, c, i, a, d, m, j, e, l, g, b => if a < (b.length : Int) then (if 0 ≤ a then ((spec_l1Has.f k c (rdOf ByteArray.empty b a)).bind fun o => (if o = true then (spec_l5Wild.l1 k h c i (wrap64 (a + 1)) d m j e l g b) else ((spec_l1Rd_pick.f k d m 2).bind fun n => (if n.1 = 0 then (if c.length < 8796093022208 then (if g.length < 8796093022208 then (spec_l5Wild.l1 k h (c ++ [rdOf ByteArray.empty b a]) i (wrap64 (a + 1)) d n.2 j e l (g ++ [rdOf ByteArray.empty b a]) b) else (none)) else (none)) else (spec_l5Wild.l1 k h c i (wrap64 (a + 1)) d n.2 j e l g b))))) else (none)) else (if e.length < 2199023255552 then (spec_l5Wild.l0 k h c (wrap64 (i + 1)) d m j (e ++ [(⟨l, g, b⟩ : S56)])) else (none))
end
def spec_l5Wild.f (k : Nat) (aJ : List Int) (cV : Int) (cA : List ByteArray) (eI : List (S56)) : Option (List ByteArray × (List (S56)) × Int) := (spec_l5Names.f).bind fun a => (spec_l5Wild.l0 k a (([] : List ByteArray)) 0 aJ cV cA ([] : List (S56)))
def spec_l5Wild.T7 : Bool × List (List Nat × List Nat) := (true, [([], []), ([], []), ([0, 1], [0, 1]), ([2], [2]), ([], []), ([], []), ([5], [5]), ([4, 6], [4, 6]), ([3, 7], [3, 7]), ([], []), ([9, 8, 7, 0, 1, 2, 3, 4, 5, 6, 7, 8, 9], [8, 9])])
def spec_l5Wild.B7 : List Nat := [0, 0, 3, 7, 0, 0, 32, 112, 255, 0, 1023]
theorem spec_l5Wild.tab7 : rtab .any (opsOf Try.f129 7) = spec_l5Wild.T7 := by kernel_rfl
theorem spec_l5Wild.bits7 : waitsOk spec_l5Wild.T7.2 spec_l5Wild.B7 = true := by kernel_rfl
def spec_l5Wild.T13 : Bool × List (List Nat × List Nat) := (true, [([], []), ([0], [0]), ([], []), ([2], [2]), ([], []), ([3, 4], [3, 4]), ([5], [5]), ([6], [6]), ([1, 7], [1, 7]), ([0, 1, 2, 3, 4, 5, 6, 7, 8], []), ([9, 8, 8, 0, 1, 2, 3, 4, 5, 6, 7, 8], [8, 9])])
def spec_l5Wild.B13 : List Nat := [0, 1, 0, 4, 0, 28, 60, 124, 255, 511, 1023]
theorem spec_l5Wild.tab13 : rtab .any (opsOf Try.f129 13) = spec_l5Wild.T13 := by kernel_rfl
theorem spec_l5Wild.bits13 : waitsOk spec_l5Wild.T13.2 spec_l5Wild.B13 = true := by kernel_rfl
theorem spec_l5Wild.calls (k : Nat) (g : Nat) (aJ : List Int) (cV : Int) (P1_0_ : Nat → Prop) (u9000_ : Value) (cA : List ByteArray) (lQ : Option Addr) (lE : Nat) (eI : List (S56)) (r1 : List ByteArray) (r2 : List (S56)) (r3 : Int) (w0 w : World) (hI : IsS103 w0 w g aJ cV) (hB : Below w0.heap.size w0 w) (Cj : Kd.R Kd.string 9 w w0.heap.size P1_0_ u9000_ cA) (wM : ∀ W_, Kept w W_ (fun k_ => (P1_0_ k_) ∨ k_ = g) → Kd.C k56 W_ lQ eI.length eI) (yI : eI.length ≤ lE) (hn_ : lQ = none) (hz_ : lE = 0) (h : spec_l5Wild.f k aJ cV cA eI = some (r1, r2, r3)) :
  Calls Try.prog 129 #[.pointer (some ⟨g, 0, none⟩), .agg #[u9000_, .slice lQ eI.length lE]] w fun e w' => ∃ v0_ v1_ : Value, e = .returned (.agg #[v0_, v1_]) ∧ Kd.R Kd.string 9 w' w0.heap.size (fun k_ => (P1_0_ k_ ∨ w.heap.size ≤ k_)) v0_ r1 ∧ Kd.N k56 56 w' w.heap.size (fun k_ => (P1_0_ k_ ∨ w.heap.size ≤ k_) ∧ some k_ ≠ (v0_ : Value).ownBlock) v1_ r2 ∧ IsS103 w0 w' g aJ r3 ∧ Below w0.heap.size w0 w' ∧ Kept w w' (fun k_ => (P1_0_ k_) ∨ k_ = g) := by
 have hu31 := Try.underlying31
 have hu56 := Try.underlying56
 have qD := am (show Kd.R Kd.string 9 w w0.heap.size (fun k_ => (P1_0_ k_ ∨ w.heap.size ≤ k_)) u9000_ cA from Kd.R_mono Cj (fun k_ hk => (.inl hk)))
 subst hn_
 subst hz_
 obtain rfl := C_none (wM w (Kept.refl w _))
 clear wM yI
 simp only [List.length_nil]
 have cD := am hI
 have HL := am hB.size
 clear hI
 have HK := am (Kept.refl w (fun k_ => (P1_0_ k_) ∨ k_ = g))
 have HW0 := am hB.size
 have HB := am hB
 clear hB
 unfold spec_l5Wild.f at h
 have H := h
 clear h
 obtain ⟨bE, A3, H⟩ := bd H
 obtain ⟨FD, hy106⟩ : ∃ y_ : List ByteArray, y_ = (([] : List ByteArray)) := ⟨_, rfl⟩
 replace H : (spec_l5Wild.l0 k bE FD 0 aJ cV cA ([] : List (S56))) = some (r1, r2, r3) := by first | (rw [hy106]; with_reducible exact H) | (have H2_ := (Option.bind_some _ _).symm.trans H; rw [hy106]; with_reducible exact H2_) | (have H2_ := (Option.bind_some _ _).symm.trans H; with_reducible exact H2_) | with_reducible exact H | (rw [hy106]; exact H) | exact H
 have G4 := am hy106
 clear hy106
 have H' := am H
 repeat clear H
 obtain ⟨kC, kD, mw⟩ := Kd.R_slice qD.1
 subst mw
 go_enter Try.func129, Try.ntmps129
 go_wp2_with (first | ((with_reducible refine gD 3 ?_); refine bX 3 #[.slice kC cA.length kD, .slice none 0 0] 31 ?_; intro a6 hg w5 hbox hb; replace qD := am (Kd.R_below (rR qD.1) hb); have a3 := am hbox; have bR := am (by rw [hg]; exact (by first | exact HK.out.1 | exact (show Kept w _ (fun k_ => (P1_0_ k_) ∨ k_ = g) from by repeat (first | (with_reducible first | exact HK.out | apply Kept.alloc | apply Kept.drewN | apply Kept.drew | refine Kept.setCell ?_ (.inl (.inr rfl)) _) | exact HK.out)).1) : w.heap.size ≤ a6); replace HK := am (Kept.below (S := (fun k_ => (P1_0_ k_) ∨ k_ = g)) (by repeat (first | (with_reducible first | exact HK.out | apply Kept.alloc | apply Kept.drewN | apply Kept.drew | refine Kept.setCell ?_ (.inl (.inr rfl)) _) | exact HK.out)) hb); have cJ := am (by rw [hg]; exact (below_size nU) : w0.heap.size ≤ a6); replace HB := bS nU hb; have e5 := am (by rw [hg]; exact Nat.ne_of_lt (IsS103.lt (show IsS103 w0 _ g aJ cV from iY)) : g ≠ a6); have bP := am (by rw [hg]; exact Nat.ne_of_gt (IsS103.lt (show IsS103 w0 _ g aJ cV from iY)) : a6 ≠ g); replace cD := am (IsS103.below iY hb); clear hb hbox hg) | ((with_reducible refine gD 4 ?_); refine bX 4 #[.slice none 0 0, .slice none 0 0] 31 ?_; intro a8 hg w6 hbox hb; replace qD := am (Kd.R_below (rR qD.1) hb); have a5 := am hbox; have eO := am (by rw [hg]; exact (by first | exact HK.out.1 | exact (show Kept w _ (fun k_ => (P1_0_ k_) ∨ k_ = g) from by repeat (first | (with_reducible first | exact HK.out | apply Kept.alloc | apply Kept.drewN | apply Kept.drew | refine Kept.setCell ?_ (.inl (.inr rfl)) _ | refine Kept.setCell ?_ (.inr bR.out) _) | exact HK.out)).1) : w.heap.size ≤ a8); replace HK := am (Kept.below (S := (fun k_ => (P1_0_ k_) ∨ k_ = g)) (by repeat (first | (with_reducible first | exact HK.out | apply Kept.alloc | apply Kept.drewN | apply Kept.drew | refine Kept.setCell ?_ (.inl (.inr rfl)) _ | refine Kept.setCell ?_ (.inr bR.out) _) | exact HK.out)) hb); have eZ := am (by rw [hg]; exact (below_size CJ) : w0.heap.size ≤ a8); replace HB := bS CJ hb; have aU := nL aC hg; have aV := nG aC hg; replace a3 := bB aC hb; have eH := am (by rw [hg]; exact Nat.ne_of_lt (IsS103.lt (show IsS103 w0 _ g aJ cV from oG)) : g ≠ a8); have cW := am (by rw [hg]; exact Nat.ne_of_gt (IsS103.lt (show IsS103 w0 _ g aJ cV from oG)) : a8 ≠ g); replace cD := am (IsS103.below oG hb); clear hb hbox hg) | ((with_reducible refine gC 132 ?_); refine cE (some 10) Try.func132 (spec_l5Names.calls  bE _ A3.out) ?_; rintro e w7 ⟨nO, rfl, bQ, hb⟩; refine ⟨_, rfl, ?_⟩; have eE := am (Kd.R_lower (Kd.R_new' (Kd.R_newM (M := fun k_ => (P1_0_ k_ ∨ w.heap.size ≤ k_)) bQ K3 (fun k_ h_ => .inr h_)) (Kd.R_lt (rR qD.1))) (below_size lG)); replace qD := am (Kd.R_elder' (rR qD.1) (Kd.R_base bQ) hb); replace a3 := bB aC hb; replace a5 := bB aH hb; replace HK := am (Kept.below (S := (fun k_ => (P1_0_ k_) ∨ k_ = g)) yT hb); replace HB := bS lG hb; replace cD := am (IsS103.below gM hb); (try clear hb); (try clear bQ)) | ((with_reducible refine gate_dst (N := 11) rfl ?_); refine lS 9 11 G4 ?_; intro V8 w8 Kf hb; have iI := am (Kd.R_lower (Kd.R_new' (Kd.R_new' (Kd.R_newM (M := fun k_ => (P1_0_ k_ ∨ w.heap.size ≤ k_)) Kf K3 (fun k_ h_ => .inr h_)) (Kd.R_lt (rR qD.1))) (Kd.R_lt uO)) (below_size lG)); replace qD := am (Kd.R_elder' (rR qD.1) (Kd.R_base Kf) hb); replace eE := am (Kd.R_elder' uO (Kd.R_base Kf) hb); replace a3 := bB aC hb; replace a5 := bB aH hb; replace HK := am (Kept.below (S := (fun k_ => (P1_0_ k_) ∨ k_ = g)) yT hb); replace HB := bS lG hb; replace cD := am (IsS103.below gM hb); clear hb Kf))
 go_loopg [6, 7] k (fun kq v6 v7 w' => ∃ (FB : List ByteArray) (d7 : Int) (eT : Int) (fX : List (S56)) (eS : Value), v7 = .int .i64 d7 ∧ Aside0 (spec_l5Wild.l0 kq bE FB d7 aJ eT cA fX = some (r1, r2, r3)) ∧ Aside0 (kq ≤ k) ∧ Aside0 (Kd.R Kd.string 9 w' w0.heap.size (fun k_ => (P1_0_ k_ ∨ w.heap.size ≤ k_) ∧ some k_ ≠ (v6 : Value).ownBlock ∧ some k_ ≠ ((.slice kC cA.length kD) : Value).ownBlock) nO bE) ∧ Aside0 (Kd.R Kd.string 9 w' w0.heap.size (fun k_ => (P1_0_ k_ ∨ w.heap.size ≤ k_) ∧ some k_ ≠ (nO : Value).ownBlock ∧ some k_ ≠ ((.slice kC cA.length kD) : Value).ownBlock) v6 FB) ∧ Aside0 (Kd.R Kd.string 9 w' w0.heap.size (fun k_ => (P1_0_ k_ ∨ w.heap.size ≤ k_) ∧ some k_ ≠ (nO : Value).ownBlock ∧ some k_ ≠ (v6 : Value).ownBlock) (.slice kC cA.length kD) cA) ∧ Aside0 (Kd.N k56 56 w' w.heap.size (fun k_ => (P1_0_ k_ ∨ w.heap.size ≤ k_) ∧ some k_ ≠ (nO : Value).ownBlock ∧ some k_ ≠ (v6 : Value).ownBlock ∧ some k_ ≠ ((.slice kC cA.length kD) : Value).ownBlock ∧ k_ ≠ a6 ∧ k_ ≠ a8 ∧ k_ ≠ g) eS fX) ∧ Aside0 (w'.heap[a6]? = some (.cells #[(.slice kC cA.length kD), eS] 31 (0, 0))) ∧ Aside0 (w'.heap[a8]? = some (.cells #[(.slice none 0 0), (.slice none 0 0)] 31 (0, 0))) ∧ Aside0 (IsS103 w0 w' g aJ eT) ∧ Aside0 (Kept w w' (fun k_ => (P1_0_ k_) ∨ k_ = g)) ∧ Aside0 (Below w0.heap.size w0 w'))
 case atStart => exact ⟨(FD), (0), (cV), (([] : List (S56))), (.slice none 0 0), aQ, H', ⟨Nat.le_refl _⟩, ⟨by refine rR ?_; exact Kd.R_mono eE.1 (fun _ hk => ⟨hk.1.1.1, ⟨hk.2, hk.1.2⟩⟩)⟩, ⟨by refine rR ?_; exact Kd.R_mono iI.1 (fun _ hk => ⟨hk.1.1.1, ⟨hk.2, hk.1.2⟩⟩)⟩, ⟨by refine rR ?_; exact Kd.R_mono qD.1 (fun _ hk => ⟨hk.1.1, ⟨hk.1.2, hk.2⟩⟩)⟩, ⟨eN⟩, ⟨rB a3.1⟩, ⟨rB a5.1⟩, ⟨gM⟩, ⟨yT⟩, ⟨lG⟩⟩
 clear H'
 obtain ⟨FB, d7, eT, fX, eS, rfl, HA, HK1, eD, dE, bN, bI, a3, a5, cD, HK, HB⟩ := hrel
 cases gk with
 | zero => exact absurd HA.out (by simp [spec_l5Wild.l0])
 | succ k1 =>
  have H := HA.out
  clear HA
  simp only [spec_l5Wild.l0] at H
  refine ic H ?_ ?_ <;> clear H <;> intro n9 H
  ·obtain ⟨⟨m9, jQ⟩, Sx, H⟩ := bd H
   dsimp only at H
   refine iq H ?_ ?_ <;> clear H <;> intro Mw tD J5 H
   ·have H' := am H
    repeat clear H
    obtain ⟨mI, m5, JI⟩ := Kd.R_slice eD.1
    subst JI
    go_wp2_with (first | ((with_reducible refine gC 100 ?_); refine cQ (some 19) Try.func100 (spec_l1Rd_pick.calls k1 g aJ eT 4 m9 jQ w0 _ (gM) (lG) Sx.out) ?_; rintro GS ⟨hi, hb, hk⟩; replace eD := iR gM jO hk; replace dE := iR gM hD hk; replace bN := iR gM nI hk; replace bI := am (Kd.N_mono (Kd.N_keep (Kd.N_mono (ok := fun k_ => (((P1_0_ k_ ∨ w.heap.size ≤ k_)) ∧ (some k_ ≠ (.slice mI bE.length m5 : Value).ownBlock ∧ (some k_ ≠ (u6 : Value).ownBlock ∧ (some k_ ≠ (.slice kC cA.length kD : Value).ownBlock ∧ (k_ ≠ a6 ∧ (k_ ≠ a8 ∧ k_ ≠ g))))))) qJ (fun k_ hk_ => (⟨hk_, hk_.2.2.2.2.2.2⟩ : _ ∧ k_ ≠ g))) hk (fun _ h => h.2)) (fun _ h => h.1)); replace a3 := kb aC hk bP; replace a5 := kb aH hk cW; replace HK := am (Kept.of_keep (S := (fun k_ => (P1_0_ k_) ∨ k_ = g)) yT hk (.inl (.inr rfl))); replace HB := am hb; replace cD := am hi; (try clear hb); (try clear hk); (try clear hi)))
    go_roundg k1
    case measure => have := HK1.out; omega
    case rel => exact ⟨(FB), (wrap64 (d7 + 1)), (jQ), (fX), (eS), aQ, H', ⟨by have := HK1.out; omega⟩, ⟨rR eD.1⟩, ⟨rR dE.1⟩, ⟨rR bN.1⟩, ⟨rN bI.1⟩, ⟨rB a3.1⟩, ⟨rB a5.1⟩, ⟨gM⟩, ⟨yT⟩, ⟨lG⟩⟩
   ·obtain ⟨DB, H⟩ := cN H
    obtain ⟨⟨eA, eU⟩, CV, H⟩ := bd H
    dsimp only at H
    have H' := am H
    repeat clear H
    obtain ⟨yP, e6, JJ⟩ := Kd.R_slice eD.1
    subst JJ
    try go_wp2_with (first | ((with_reducible refine gC 100 ?_); refine cQ (some 19) Try.func100 (spec_l1Rd_pick.calls k1 g aJ eT 4 m9 jQ w0 _ (gM) (lG) Sx.out) ?_; rintro dj ⟨hi, hb, hk⟩; replace eD := iR gM jO hk; replace dE := iR gM hD hk; replace bN := iR gM nI hk; replace bI := am (Kd.N_mono (Kd.N_keep (Kd.N_mono (ok := fun k_ => (((P1_0_ k_ ∨ w.heap.size ≤ k_)) ∧ (some k_ ≠ (.slice yP bE.length e6 : Value).ownBlock ∧ (some k_ ≠ (u6 : Value).ownBlock ∧ (some k_ ≠ (.slice kC cA.length kD : Value).ownBlock ∧ (k_ ≠ a6 ∧ (k_ ≠ a8 ∧ k_ ≠ g))))))) qJ (fun k_ hk_ => (⟨hk_, hk_.2.2.2.2.2.2⟩ : _ ∧ k_ ≠ g))) hk (fun _ h => h.2)) (fun _ h => h.1)); replace a3 := kb aC hk bP; replace a5 := kb aH hk cW; replace HK := am (Kept.of_keep (S := (fun k_ => (P1_0_ k_) ∨ k_ = g)) yT hk (.inl (.inr rfl))); replace HB := am hb; replace cD := am hi; (try clear hb); (try clear hk); (try clear hi)))
    replace eD := RD eD
    replace dE := RD dE
    replace bN := RD bN
    replace bI := ND bI
    replace a3 := BD a3
    replace a5 := BD a5
    replace cD := am (IsS103.drew cD.out)
    replace HK := am (Kept.drew HK.out)
    replace HB := am (below_drew1 HB.1)
    obtain ⟨dW, JG, pS, US, UZ⟩ := aS (am (Kd.R_reads' eD.1).2.2) b0 d7
    cases JG
    refine sT (S := fun w' => w'.cell? ⟨a6, 0, none⟩ = some (.slice kC cA.length kD) ∧ w'.cell? ⟨a6, 1, none⟩ = some (eS) ∧ w'.cell? (dW.add (d7).toNat) = some (.string (rdOf ByteArray.empty bE d7))) [] 11 ⟨⟨(blk_cell a3.1 0).trans rfl, (blk_cell a3.1 1).trans rfl, pS⟩⟩ (fun hHeld => ?_)
    refine with_tabW spec_l5Wild.tab7 spec_l5Wild.bits7 (fun HT_ HW_ => ?_)
    generalize dj.drew = Sl at eD dE bN bI a3 a5 cD HK HB pS hHeld ⊢
    refine pU5 0 1 2 4 5 ?_
    refine tK3 3 (some 24) ?_
    refine tK3 6 (some 27) ?_
    refine join_ (σ := Value × Nat) 1 (bz 11 1023) (fun s_ => [(28, s_.1), (8, .pointer (some ⟨s_.2, 0, none⟩)), (29, .agg #[.string (rdOf ByteArray.empty bE d7), .slice none 0 0, s_.1])]) (fun s_ w' => (w'.cell? ⟨a6, 0, none⟩ = some (.slice kC cA.length kD) ∧ w'.cell? ⟨a6, 1, none⟩ = some (eS) ∧ w'.cell? (dW.add (d7).toNat) = some (.string (rdOf ByteArray.empty bE d7))) ∧ (Kd.R Kd.string 9 w' w0.heap.size (fun k_ => (P1_0_ k_ ∨ w.heap.size ≤ k_) ∧ some k_ ≠ (.slice kC cA.length kD : Value).ownBlock ∧ some k_ ≠ (.slice (some dW) bE.length e6 : Value).ownBlock ∧ some k_ ≠ (u6 : Value).ownBlock) s_.1 eA) ∧ (Kd.R Kd.string 9 w' w0.heap.size (fun k_ => (P1_0_ k_ ∨ w.heap.size ≤ k_) ∧ some k_ ≠ (s_.1 : Value).ownBlock ∧ some k_ ≠ (.slice (some dW) bE.length e6 : Value).ownBlock ∧ some k_ ≠ (u6 : Value).ownBlock) (.slice kC cA.length kD) cA) ∧ (Kd.N k56 56 w' w.heap.size (fun k_ => (P1_0_ k_ ∨ w.heap.size ≤ k_) ∧ some k_ ≠ (s_.1 : Value).ownBlock ∧ some k_ ≠ (.slice kC cA.length kD : Value).ownBlock ∧ some k_ ≠ (.slice (some dW) bE.length e6 : Value).ownBlock ∧ some k_ ≠ (u6 : Value).ownBlock ∧ k_ ≠ g ∧ k_ ≠ a6 ∧ k_ ≠ a8 ∧ k_ ≠ s_.2) eS fX) ∧ (Kd.R Kd.string 9 w' w0.heap.size (fun k_ => (P1_0_ k_ ∨ w.heap.size ≤ k_) ∧ some k_ ≠ (s_.1 : Value).ownBlock ∧ some k_ ≠ (.slice kC cA.length kD : Value).ownBlock ∧ some k_ ≠ (u6 : Value).ownBlock) (.slice (some dW) bE.length e6) bE) ∧ (Kd.R Kd.string 9 w' w0.heap.size (fun k_ => (P1_0_ k_ ∨ w.heap.size ≤ k_) ∧ some k_ ≠ (s_.1 : Value).ownBlock ∧ some k_ ≠ (.slice kC cA.length kD : Value).ownBlock ∧ some k_ ≠ (.slice (some dW) bE.length e6 : Value).ownBlock) u6 FB) ∧ (w'.heap[a6]? = some (.cells #[.slice kC cA.length kD, eS] 31 (0, 0))) ∧ (w'.heap[a8]? = some (.cells #[.slice none 0 0, .slice none 0 0] 31 (0, 0))) ∧ (w'.heap[s_.2]? = some (.cells #[.string (⟨#[]⟩ : ByteArray), .slice none 0 0, .slice none 0 0] 56 (0, 0))) ∧ (w.heap.size ≤ s_.2) ∧ (w0.heap.size ≤ s_.2) ∧ (g ≠ s_.2) ∧ (s_.2 ≠ g) ∧ (a6 ≠ s_.2) ∧ (s_.2 ≠ a6) ∧ (a8 ≠ s_.2) ∧ (s_.2 ≠ a8) ∧ (IsS103 w0 w' g aJ eU) ∧ (Kept w w' (fun k_ => (P1_0_ k_) ∨ k_ = g)) ∧ (Below w0.heap.size w0 w')) ?_ ?_
    rotate_left
    ·intro hCont
     refine two_ (i := 7) (j := 9) (Ni := some 28) (Nj := some 8) (bz 11 255) (bz 11 639) rfl rfl rfl rfl (two_of HT_.out (by kernel_rfl)) (by decide) (by decide) (fun K hK => ?_) (fun K hK => ?_)
     ·skip
      refine goes_ Try.func109 (by kernel_rfl) rfl #[.pointer (some ⟨g, 0, none⟩), .slice kC cA.length kD, .int .i64 2] (by rfl) rfl rfl sE ?_
      with_reducible refine (spec_l5Some.calls k1 g aJ jQ _ _ cA 2 eA eU w0 _ ?side1 ?side2 ?side3 ?side4 ?side5 CV.out).mono ?_
      (case side1 => exact gM)
      (case side2 => exact lG)
      (case side3 => exact pC (Kd.R_reads' bN.1).2.2)
      (case side4 => exact (Kd.R_reads' bN.1).2.1)
      (case side5 => exact far_slice (IsS103.own_ne cD.out bN.1 (by decide)))
      rintro e KE ⟨sH, rfl, bQ, hi, hb, hk⟩
      have HS2_ := keep_cell hk (hHeld.2.2) (by first | (rw [add_block]; exact Kd.own_blk (IsS103.own_ne cD.out eD.1 (by decide))) | (show (Addr.add _ _).block ≠ _; rw [add_block]; exact Kd.own_blk (IsS103.own_ne cD.out eD.1 (by decide))) | exact Kd.own_blk (IsS103.own_ne cD.out eD.1 (by decide)))
      refine ⟨_, rfl, ?_⟩
      replace bI := am (Kd.N_mono (Kd.N_told (Kd.N_oldK (Kd.N_mono (ok := fun k_ => (((P1_0_ k_ ∨ w.heap.size ≤ k_)) ∧ (some k_ ≠ (.slice (some dW) bE.length e6 : Value).ownBlock ∧ (some k_ ≠ (u6 : Value).ownBlock ∧ (some k_ ≠ (.slice kC cA.length kD : Value).ownBlock ∧ (k_ ≠ a6 ∧ (k_ ≠ a8 ∧ k_ ≠ g))))))) qJ (fun k_ hk_ => (⟨hk_, hk_.2.2.2.2.2.2⟩ : _ ∧ k_ ≠ g))) hk) (Kd.R_base bQ)) (fun _ h_ => h_.1))
      replace a3 := kb aC hk bP
      replace a5 := kb aH hk cW
      have f9 := am (Kd.R_lower (Kd.R_new' (Kd.R_new' (Kd.R_new' (Kd.R_newM (M := fun k_ => (P1_0_ k_ ∨ w.heap.size ≤ k_)) bQ K3 (fun k_ h_ => .inr h_)) (Kd.R_lt jO)) (Kd.R_lt hD)) (Kd.R_lt nI)) (below_size lG))
      replace eD := am (Kd.R_mono (Kd.R_told (Kd.R_oldK (IsS103.apart (show IsS103 w0 _ g aJ jQ from gM) jO (by decide)) hk) (Kd.R_base bQ)) (fun _ h_ => h_.1))
      replace dE := am (Kd.R_mono (Kd.R_told (Kd.R_oldK (IsS103.apart (show IsS103 w0 _ g aJ jQ from gM) hD (by decide)) hk) (Kd.R_base bQ)) (fun _ h_ => h_.1))
      replace bN := am (Kd.R_mono (Kd.R_told (Kd.R_oldK (IsS103.apart (show IsS103 w0 _ g aJ jQ from gM) nI (by decide)) hk) (Kd.R_base bQ)) (fun _ h_ => h_.1))
      replace HK := am (Kept.of_keep (S := (fun k_ => (P1_0_ k_) ∨ k_ = g)) yT hk (.inl (.inr rfl)))
      replace HB := am hb
      replace cD := am hi
      (try clear hb)
      (try clear hb2)
      (try clear hk)
      (try clear hi)
      (try clear bQ)
      obtain ⟨L1, LW, M1⟩ := Kd.R_slice f9.1
      (first | subst M1 | (obtain ⟨f4_, f5_⟩ := sj M1; subst f4_; subst f5_))
      refine hK.out _ _ ⟨(blk_cell a3.1 0).trans rfl, (blk_cell a3.1 1).trans rfl, HS2_⟩ (fun hHeld => ?_)
      clear hK K
      refine nM ?_
      refine pU1 8 ?_
      refine oN 9 (some 8) fun K hK => ?_
      refine box_step ?hg (N := 8) ?hd (cs := #[.string (⟨#[]⟩ : ByteArray), .slice none 0 0, .slice none 0 0]) (t := 56) ?hr ?_; (case hd => rfl); (case hg => rfl); (case hr => first | (go_simp; done) | (go_simp; rfl))
      intro dF hg KF hbox hb
      have HS2_ := (hb.cell (World.block_lt_of_cell? _ _ (hHeld.2.2))).trans (hHeld.2.2)
      replace eD := RB jO hb
      replace dE := RB hD hb
      replace bN := RB nI hb
      replace bI := am (Kd.N_below (Kd.N_elderB qJ dF (Nat.le_of_eq hg.symm)) hb)
      replace f9 := am (Kd.R_below (rR f9.1) hb)
      have dH := am hbox
      have zB := am (by rw [hg]; exact K3 : w.heap.size ≤ dF)
      replace HK := am (Kept.below (S := (fun k_ => (P1_0_ k_) ∨ k_ = g)) yT hb)
      have CY := am (by rw [hg]; exact (below_size lG) : w0.heap.size ≤ dF)
      replace HB := bS lG hb
      have dY := nL aC hg
      have fV := nG aC hg
      replace a3 := bB aC hb
      have f5 := nL aH hg
      have fW := nG aH hg
      replace a5 := bB aH hb
      have mL := am (by rw [hg]; exact Nat.ne_of_lt (IsS103.lt (show IsS103 w0 _ g aJ eU from gM)) : g ≠ dF)
      have kQ := am (by rw [hg]; exact Nat.ne_of_gt (IsS103.lt (show IsS103 w0 _ g aJ eU from gM)) : dF ≠ g)
      replace cD := am (IsS103.below gM hb)
      clear hb hbox hg
      refine hK.out _ _ ⟨(blk_cell a3.1 0).trans rfl, (blk_cell a3.1 1).trans rfl, HS2_⟩ (fun hHeld => ?_)
      clear hK K
      refine nM ?_
      exact norm_ wO (hCont (.slice L1 eA.length LW, dF) _ ⟨hHeld, (by refine rR ?_; exact Kd.R_mono f9.1 (fun _ hk => ⟨hk.1.1.1.1, ⟨hk.2, ⟨hk.1.1.2, hk.1.2⟩⟩⟩)), (by refine rR ?_; exact Kd.R_mono bN.1 (fun _ hk => ⟨hk.1.1, ⟨hk.2, ⟨hk.1.2.1, hk.1.2.2⟩⟩⟩)), (by refine rN ?_; exact Kd.N_mono bI.1 (fun _ hk => ⟨hk.1.1.1, ⟨hk.1.2, ⟨hk.1.1.2.2.2.1, ⟨hk.1.1.2.1, ⟨hk.1.1.2.2.1, ⟨hk.1.1.2.2.2.2.2.2, ⟨hk.1.1.2.2.2.2.1, ⟨hk.1.1.2.2.2.2.2.1, hk.2⟩⟩⟩⟩⟩⟩⟩⟩)), (by refine rR ?_; exact Kd.R_mono eD.1 (fun _ hk => ⟨hk.1.1, ⟨hk.2, ⟨hk.1.2.2, hk.1.2.1⟩⟩⟩)), (by refine rR ?_; exact Kd.R_mono dE.1 (fun _ hk => ⟨hk.1.1, ⟨hk.2, ⟨hk.1.2.2, hk.1.2.1⟩⟩⟩)), aC, aH, sN, zB.out, CY.1, mL.1, kQ.1, dY.1, fV.1, f5.1, fW.1, l8, uT, rD⟩)
     ·skip
      refine box_step ?hg (N := 8) ?hd (cs := #[.string (⟨#[]⟩ : ByteArray), .slice none 0 0, .slice none 0 0]) (t := 56) ?hr ?_; (case hd => rfl); (case hg => rfl); (case hr => first | (go_simp; done) | (go_simp; rfl))
      intro dF hg KE hbox hb
      have HS2_ := (hb.cell (World.block_lt_of_cell? _ _ (hHeld.2.2))).trans (hHeld.2.2)
      replace eD := RB jO hb
      replace dE := RB hD hb
      replace bN := RB nI hb
      replace bI := am (Kd.N_below (Kd.N_elderB qJ dF (Nat.le_of_eq hg.symm)) hb)
      have dH := am hbox
      have zB := am (by rw [hg]; exact K3 : w.heap.size ≤ dF)
      replace HK := am (Kept.below (S := (fun k_ => (P1_0_ k_) ∨ k_ = g)) yT hb)
      have CY := am (by rw [hg]; exact (below_size lG) : w0.heap.size ≤ dF)
      replace HB := bS lG hb
      have dY := nL aC hg
      have fV := nG aC hg
      replace a3 := bB aC hb
      have f5 := nL aH hg
      have fW := nG aH hg
      replace a5 := bB aH hb
      have mL := am (by rw [hg]; exact Nat.ne_of_lt (IsS103.lt (show IsS103 w0 _ g aJ jQ from gM)) : g ≠ dF)
      have kQ := am (by rw [hg]; exact Nat.ne_of_gt (IsS103.lt (show IsS103 w0 _ g aJ jQ from gM)) : dF ≠ g)
      replace cD := am (IsS103.below gM hb)
      clear hb hbox hg
      refine hK.out _ _ ⟨(blk_cell a3.1 0).trans rfl, (blk_cell a3.1 1).trans rfl, HS2_⟩ (fun hHeld => ?_)
      clear hK K
      refine nM ?_
      refine oN 7 (some 28) fun K hK => ?_
      refine goes_ Try.func109 (by kernel_rfl) rfl #[.pointer (some ⟨g, 0, none⟩), .slice kC cA.length kD, .int .i64 2] (by rfl) rfl rfl sE ?_
      with_reducible refine (spec_l5Some.calls k1 g aJ jQ _ _ cA 2 eA eU w0 _ ?side1 ?side2 ?side3 ?side4 ?side5 CV.out).mono ?_
      (case side1 => exact l8)
      (case side2 => exact rD)
      (case side3 => exact pC (Kd.R_reads' bN.1).2.2)
      (case side4 => exact (Kd.R_reads' bN.1).2.1)
      (case side5 => exact far_slice (IsS103.own_ne cD.out bN.1 (by decide)))
      rintro e HT ⟨sH, rfl, bQ, hi, hb, hk⟩
      have HS2_ := keep_cell hk (hHeld.2.2) (by first | (rw [add_block]; exact Kd.own_blk (IsS103.own_ne cD.out eD.1 (by decide))) | (show (Addr.add _ _).block ≠ _; rw [add_block]; exact Kd.own_blk (IsS103.own_ne cD.out eD.1 (by decide))) | exact Kd.own_blk (IsS103.own_ne cD.out eD.1 (by decide)))
      refine ⟨_, rfl, ?_⟩
      replace bI := am (Kd.N_mono (Kd.N_told (Kd.N_oldK (Kd.N_mono (ok := fun k_ => ((((P1_0_ k_ ∨ w.heap.size ≤ k_)) ∧ (some k_ ≠ (.slice (some dW) bE.length e6 : Value).ownBlock ∧ (some k_ ≠ (u6 : Value).ownBlock ∧ (some k_ ≠ (.slice kC cA.length kD : Value).ownBlock ∧ (k_ ≠ a6 ∧ (k_ ≠ a8 ∧ k_ ≠ g)))))) ∧ k_ ≠ dF)) qJ (fun k_ hk_ => (⟨hk_, hk_.1.2.2.2.2.2.2⟩ : _ ∧ k_ ≠ g))) hk) (Kd.R_base bQ)) (fun _ h_ => h_.1))
      replace a3 := kb aC hk bP
      replace a5 := kb aH hk cW
      replace dH := kb sN hk kQ
      have f9 := am (Kd.R_lower (Kd.R_new' (Kd.R_new' (Kd.R_new' (Kd.R_newM (M := fun k_ => (P1_0_ k_ ∨ w.heap.size ≤ k_)) bQ Cu (fun k_ h_ => .inr h_)) (Kd.R_lt jO)) (Kd.R_lt hD)) (Kd.R_lt nI)) (below_size rD))
      replace eD := am (Kd.R_mono (Kd.R_told (Kd.R_oldK (IsS103.apart (show IsS103 w0 _ g aJ jQ from l8) jO (by decide)) hk) (Kd.R_base bQ)) (fun _ h_ => h_.1))
      replace dE := am (Kd.R_mono (Kd.R_told (Kd.R_oldK (IsS103.apart (show IsS103 w0 _ g aJ jQ from l8) hD (by decide)) hk) (Kd.R_base bQ)) (fun _ h_ => h_.1))
      replace bN := am (Kd.R_mono (Kd.R_told (Kd.R_oldK (IsS103.apart (show IsS103 w0 _ g aJ jQ from l8) nI (by decide)) hk) (Kd.R_base bQ)) (fun _ h_ => h_.1))
      replace HK := am (Kept.of_keep (S := (fun k_ => (P1_0_ k_) ∨ k_ = g)) uT hk (.inl (.inr rfl)))
      replace HB := am hb
      replace cD := am hi
      (try clear hb)
      (try clear hb2)
      (try clear hk)
      (try clear hi)
      (try clear bQ)
      obtain ⟨WS, ZU, M2⟩ := Kd.R_slice f9.1
      (first | subst M2 | (obtain ⟨f4_, f5_⟩ := sj M2; subst f4_; subst f5_))
      refine hK.out _ _ ⟨(blk_cell a3.1 0).trans rfl, (blk_cell a3.1 1).trans rfl, HS2_⟩ (fun hHeld => ?_)
      clear hK K
      refine nM ?_
      refine pU1 8 ?_
      exact norm_ wO (hCont (.slice WS eA.length ZU, dF) _ ⟨hHeld, (by refine rR ?_; exact Kd.R_mono f9.1 (fun _ hk => ⟨hk.1.1.1.1, ⟨hk.2, ⟨hk.1.1.2, hk.1.2⟩⟩⟩)), (by refine rR ?_; exact Kd.R_mono bN.1 (fun _ hk => ⟨hk.1.1, ⟨hk.2, ⟨hk.1.2.1, hk.1.2.2⟩⟩⟩)), (by refine rN ?_; exact Kd.N_mono bI.1 (fun _ hk => ⟨hk.1.1.1, ⟨hk.2, ⟨hk.1.1.2.2.2.1, ⟨hk.1.1.2.1, ⟨hk.1.1.2.2.1, ⟨hk.1.1.2.2.2.2.2.2, ⟨hk.1.1.2.2.2.2.1, ⟨hk.1.1.2.2.2.2.2.1, hk.1.2⟩⟩⟩⟩⟩⟩⟩⟩)), (by refine rR ?_; exact Kd.R_mono eD.1 (fun _ hk => ⟨hk.1.1, ⟨hk.2, ⟨hk.1.2.2, hk.1.2.1⟩⟩⟩)), (by refine rR ?_; exact Kd.R_mono dE.1 (fun _ hk => ⟨hk.1.1, ⟨hk.2, ⟨hk.1.2.2, hk.1.2.1⟩⟩⟩)), aC, aH, sN, zB.out, CY.1, mL.1, kQ.1, dY.1, fV.1, f5.1, fW.1, l8, uT, rD⟩)
    rintro ⟨sH, dF⟩ z5 ⟨hS_, h0_, h1_, h2_, h3_, h4_, h5_, h6_, h7_, h8_, h9_, h10_, h11_, h12_, h13_, h14_, h15_, h16_, h17_, h18_⟩
    have f9 : Aside0 (Kd.R Kd.string 9 z5 w0.heap.size (fun k_ => (P1_0_ k_ ∨ w.heap.size ≤ k_) ∧ some k_ ≠ (.slice kC cA.length kD : Value).ownBlock ∧ some k_ ≠ (.slice (some dW) bE.length e6 : Value).ownBlock ∧ some k_ ≠ (u6 : Value).ownBlock) sH eA) := ⟨h0_⟩
    replace bN : Aside0 (Kd.R Kd.string 9 z5 w0.heap.size (fun k_ => (P1_0_ k_ ∨ w.heap.size ≤ k_) ∧ some k_ ≠ (sH : Value).ownBlock ∧ some k_ ≠ (.slice (some dW) bE.length e6 : Value).ownBlock ∧ some k_ ≠ (u6 : Value).ownBlock) (.slice kC cA.length kD) cA) := ⟨h1_⟩
    replace bI : Aside0 (Kd.N k56 56 z5 w.heap.size (fun k_ => (P1_0_ k_ ∨ w.heap.size ≤ k_) ∧ some k_ ≠ (sH : Value).ownBlock ∧ some k_ ≠ (.slice kC cA.length kD : Value).ownBlock ∧ some k_ ≠ (.slice (some dW) bE.length e6 : Value).ownBlock ∧ some k_ ≠ (u6 : Value).ownBlock ∧ k_ ≠ g ∧ k_ ≠ a6 ∧ k_ ≠ a8 ∧ k_ ≠ dF) eS fX) := ⟨h2_⟩
    replace eD : Aside0 (Kd.R Kd.string 9 z5 w0.heap.size (fun k_ => (P1_0_ k_ ∨ w.heap.size ≤ k_) ∧ some k_ ≠ (sH : Value).ownBlock ∧ some k_ ≠ (.slice kC cA.length kD : Value).ownBlock ∧ some k_ ≠ (u6 : Value).ownBlock) (.slice (some dW) bE.length e6) bE) := ⟨h3_⟩
    replace dE : Aside0 (Kd.R Kd.string 9 z5 w0.heap.size (fun k_ => (P1_0_ k_ ∨ w.heap.size ≤ k_) ∧ some k_ ≠ (sH : Value).ownBlock ∧ some k_ ≠ (.slice kC cA.length kD : Value).ownBlock ∧ some k_ ≠ (.slice (some dW) bE.length e6 : Value).ownBlock) u6 FB) := ⟨h4_⟩
    replace a3 : Aside0 (z5.heap[a6]? = some (.cells #[.slice kC cA.length kD, eS] 31 (0, 0))) := ⟨h5_⟩
    replace a5 : Aside0 (z5.heap[a8]? = some (.cells #[.slice none 0 0, .slice none 0 0] 31 (0, 0))) := ⟨h6_⟩
    have dH : Aside0 (z5.heap[dF]? = some (.cells #[.string (⟨#[]⟩ : ByteArray), .slice none 0 0, .slice none 0 0] 56 (0, 0))) := ⟨h7_⟩
    have zB : Aside0 (w.heap.size ≤ dF) := ⟨h8_⟩
    have CY : Aside0 (w0.heap.size ≤ dF) := ⟨h9_⟩
    have mL : Aside0 (g ≠ dF) := ⟨h10_⟩
    have kQ : Aside0 (dF ≠ g) := ⟨h11_⟩
    have dY : Aside0 (a6 ≠ dF) := ⟨h12_⟩
    have fV : Aside0 (dF ≠ a6) := ⟨h13_⟩
    have f5 : Aside0 (a8 ≠ dF) := ⟨h14_⟩
    have fW : Aside0 (dF ≠ a8) := ⟨h15_⟩
    replace cD : Aside0 (IsS103 w0 z5 g aJ eU) := ⟨h16_⟩
    replace HK : Aside0 (Kept w z5 (fun k_ => (P1_0_ k_) ∨ k_ = g)) := ⟨h17_⟩
    replace HB : Aside0 (Below w0.heap.size w0 z5) := ⟨h18_⟩
    clear h0_ h1_ h2_ h3_ h4_ h5_ h6_ h7_ h8_ h9_ h10_ h11_ h12_ h13_ h14_ h15_ h16_ h17_ h18_
    have hHeld : z5.cell? ⟨a6, 0, none⟩ = some (.slice kC cA.length kD) ∧ z5.cell? ⟨a6, 1, none⟩ = some (eS) ∧ z5.cell? (dW.add (d7).toNat) = some (.string (rdOf ByteArray.empty bE d7)) := hS_
    obtain ⟨sB, iD, yH⟩ := Kd.R_slice f9.1
    (first | subst yH | (obtain ⟨f4_, f5_⟩ := sj yH; subst f4_; subst f5_))
    refine norm_ (a' := ?_) ?_ ?_
    rotate_left
    ·simp only [putAll, Act.put, List.setIfInBounds_toArray, List.set_cons_zero, List.set_cons_succ]
     rfl
    refine oN 10 none fun K hK => ?_
    have nh : z5.cell? ⟨dF, 0, none⟩ = some (.string (⟨#[]⟩ : ByteArray)) := (blk_cell dH.1 0).trans rfl
    have Zq := blk_frozen dH.1 0
    have Jj := dY.1
    have Jk := f5.1
    have Hn := fV.1
    have Ho := fW.1
    have ni : z5.cell? ⟨dF, 1, none⟩ = some (.slice none 0 0) := (blk_cell dH.1 1).trans rfl
    have Zr := blk_frozen dH.1 1
    have Jl := dY.1
    have Jm := f5.1
    have Hp := fV.1
    have Hq := fW.1
    have nj : z5.cell? ⟨dF, 2, none⟩ = some (.slice none 0 0) := (blk_cell dH.1 2).trans rfl
    have Zs := blk_frozen dH.1 2
    have Jn := dY.1
    have Jo := f5.1
    have Hr := fV.1
    have Ht := fW.1
    refine skip_ (w1 := ?_) (by rfl) rfl ?_ ?_
    rotate_left
    ·go_simp
     rfl
    refine hK.out _ _ ⟨((cell_far (p := ⟨dF, _, none⟩) dY.1 _).trans (((cell_far (p := ⟨dF, _, none⟩) dY.1 _).trans (((cell_far (p := ⟨dF, _, none⟩) dY.1 _).trans (hHeld.1)))))), ((cell_far (p := ⟨dF, _, none⟩) dY.1 _).trans (((cell_far (p := ⟨dF, _, none⟩) dY.1 _).trans (((cell_far (p := ⟨dF, _, none⟩) dY.1 _).trans (hHeld.2.1)))))), ((cell_far (p := ⟨dF, _, none⟩) UV _).trans (((cell_far (p := ⟨dF, _, none⟩) UV _).trans (((cell_far (p := ⟨dF, _, none⟩) UV _).trans (hHeld.2.2))))))⟩ (fun hHeld => ?_)
    clear hK K
    refine dN ?_
    try go_wp2
    go_loopg [6, 9] k1 (fun kq v6 v9 w' => ∃ (jS : List ByteArray) (dT : Int) (oD : Int) (fI : List ByteArray) (e4 : Value), v9 = .int .i64 dT ∧ Aside0 (spec_l5Wild.l1 kq bE jS d7 dT aJ oD cA fX (rdOf ByteArray.empty bE d7) fI eA = some (r1, r2, r3)) ∧ Aside0 (kq ≤ k1) ∧ Aside0 (Kd.R Kd.string 9 w' w0.heap.size (fun k_ => (P1_0_ k_ ∨ w.heap.size ≤ k_) ∧ some k_ ≠ (v6 : Value).ownBlock ∧ some k_ ≠ ((.slice kC cA.length kD) : Value).ownBlock ∧ some k_ ≠ (e4 : Value).ownBlock ∧ some k_ ≠ ((.slice sB eA.length iD) : Value).ownBlock) (.slice (some dW) bE.length e6) bE) ∧ Aside0 (Kd.R Kd.string 9 w' w0.heap.size (fun k_ => (P1_0_ k_ ∨ w.heap.size ≤ k_) ∧ some k_ ≠ ((.slice (some dW) bE.length e6) : Value).ownBlock ∧ some k_ ≠ ((.slice kC cA.length kD) : Value).ownBlock ∧ some k_ ≠ (e4 : Value).ownBlock ∧ some k_ ≠ ((.slice sB eA.length iD) : Value).ownBlock) v6 jS) ∧ Aside0 (Kd.R Kd.string 9 w' w0.heap.size (fun k_ => (P1_0_ k_ ∨ w.heap.size ≤ k_) ∧ some k_ ≠ ((.slice (some dW) bE.length e6) : Value).ownBlock ∧ some k_ ≠ (v6 : Value).ownBlock ∧ some k_ ≠ (e4 : Value).ownBlock ∧ some k_ ≠ ((.slice sB eA.length iD) : Value).ownBlock) (.slice kC cA.length kD) cA) ∧ Aside0 (Kd.N k56 56 w' w.heap.size (fun k_ => (P1_0_ k_ ∨ w.heap.size ≤ k_) ∧ some k_ ≠ ((.slice (some dW) bE.length e6) : Value).ownBlock ∧ some k_ ≠ (v6 : Value).ownBlock ∧ some k_ ≠ ((.slice kC cA.length kD) : Value).ownBlock ∧ some k_ ≠ (e4 : Value).ownBlock ∧ some k_ ≠ ((.slice sB eA.length iD) : Value).ownBlock ∧ k_ ≠ a6 ∧ k_ ≠ a8 ∧ k_ ≠ dF ∧ k_ ≠ g) eS fX) ∧ Aside0 (Kd.R Kd.string 9 w' w0.heap.size (fun k_ => (P1_0_ k_ ∨ w.heap.size ≤ k_) ∧ some k_ ≠ ((.slice (some dW) bE.length e6) : Value).ownBlock ∧ some k_ ≠ (v6 : Value).ownBlock ∧ some k_ ≠ ((.slice kC cA.length kD) : Value).ownBlock ∧ some k_ ≠ ((.slice sB eA.length iD) : Value).ownBlock) e4 fI) ∧ Aside0 (Kd.R Kd.string 9 w' w0.heap.size (fun k_ => (P1_0_ k_ ∨ w.heap.size ≤ k_) ∧ some k_ ≠ ((.slice (some dW) bE.length e6) : Value).ownBlock ∧ some k_ ≠ (v6 : Value).ownBlock ∧ some k_ ≠ ((.slice kC cA.length kD) : Value).ownBlock ∧ some k_ ≠ (e4 : Value).ownBlock) (.slice sB eA.length iD) eA) ∧ Aside0 (w'.heap[a6]? = some (.cells #[(.slice kC cA.length kD), eS] 31 (0, 0))) ∧ Aside0 (w'.heap[a8]? = some (.cells #[(.slice none 0 0), (.slice none 0 0)] 31 (0, 0))) ∧ Aside0 (w'.heap[dF]? = some (.cells #[.string (rdOf ByteArray.empty bE d7), e4, (.slice sB eA.length iD)] 56 (0, 0))) ∧ Aside0 (IsS103 w0 w' g aJ oD) ∧ Aside0 (Kept w w' (fun k_ => (P1_0_ k_) ∨ k_ = g)) ∧ Aside0 (Below w0.heap.size w0 w'))
    case atStart => exact ⟨(FB), (0), (eU), (([] : List ByteArray)), (.slice none 0 0), aQ, H', ⟨Nat.le_refl _⟩, ⟨by refine rR ?_; exact Kd.R_mono (fR (fR (fR (tR eD dH)))) (fun _ hk => ⟨hk.1.1, ⟨hk.1.2.2.2, ⟨hk.1.2.2.1, ⟨(by simp [Value.ownBlock]), hk.1.2.1⟩⟩⟩⟩)⟩, ⟨by refine rR ?_; exact Kd.R_mono (fR (fR (fR (tR dE dH)))) (fun _ hk => ⟨hk.1.1, ⟨hk.1.2.2.2, ⟨hk.1.2.2.1, ⟨(by simp [Value.ownBlock]), hk.1.2.1⟩⟩⟩⟩)⟩, ⟨by refine rR ?_; exact Kd.R_mono (fR (fR (fR (tR bN dH)))) (fun _ hk => ⟨hk.1.1, ⟨hk.1.2.2.1, ⟨hk.1.2.2.2, ⟨(by simp [Value.ownBlock]), hk.1.2.1⟩⟩⟩⟩)⟩, ⟨by refine rN ?_; exact Kd.N_mono (fN (fN (fN (Kd.N_mono bI.1 (fun k_ hk => (⟨hk, hk.2.2.2.2.2.2.2.2⟩ : _ ∧ k_ ≠ dF)))))) (fun _ hk => ⟨hk.1.1, ⟨hk.1.2.2.2.1, ⟨hk.1.2.2.2.2.1, ⟨hk.1.2.2.1, ⟨(by simp [Value.ownBlock]), ⟨hk.1.2.1, ⟨hk.1.2.2.2.2.2.2.1, ⟨hk.1.2.2.2.2.2.2.2.1, ⟨hk.1.2.2.2.2.2.2.2.2, hk.1.2.2.2.2.2.1⟩⟩⟩⟩⟩⟩⟩⟩⟩)⟩, ⟨by first | exact Kd.R_nil _ _ _ _ _ | exact Kd.N_nil _ _ _ _ _ | exact Kd.V_nil _ _ _ _ _ | exact Kd.Q_nil _ _ _ _ _ | exact Kd.S_nil _ _ _ _ _⟩, ⟨by refine rR ?_; exact Kd.R_mono (fR (fR (fR (tR f9 dH)))) (fun _ hk => ⟨hk.1.1, ⟨hk.1.2.2.1, ⟨hk.1.2.2.2, ⟨hk.1.2.1, (by simp [Value.ownBlock])⟩⟩⟩⟩)⟩, ⟨qF a3 dY⟩, ⟨qF a5 f5⟩, ⟨by refine rB ?_; refine blk_put (cs := #[.string (rdOf ByteArray.empty bE d7), .slice none 0 0, .slice none 0 0]) ?_ 2 _ rfl; refine rB ?_; refine blk_put (cs := #[.string (rdOf ByteArray.empty bE d7), .slice none 0 0, .slice none 0 0]) ?_ 1 _ rfl; refine rB ?_; refine blk_put (cs := #[.string (⟨#[]⟩ : ByteArray), .slice none 0 0, .slice none 0 0]) ?_ 0 _ rfl; refine rB ?_; exact dH.1⟩, ⟨l8⟩, ⟨uT⟩, ⟨rD⟩⟩
    case round =>
     clear H'
     try clear n9
     try clear Mw
     try clear tD
     try clear J5
     try clear DB
     try clear pS
     try clear US UZ
     obtain ⟨jS, dT, oD, fI, e4, rfl, HA, HK2, eD, dE, bN, bI, dB, d8, a3, a5, dH, cD, HK, HB⟩ := hrel
     cases gk with
     | zero => exact absurd HA.out (by simp [spec_l5Wild.l1])
     | succ k2 =>
      have H := HA.out
      clear HA
      simp only [spec_l5Wild.l1] at H
      refine ic H ?_ ?_ <;> clear H <;> intro OT H
      ·obtain ⟨OU, H⟩ := cN H
       obtain ⟨lJ, I0, H⟩ := bd H
       refine tC H ?_ ?_ <;> clear H <;> intro VM H <;> subst VM
       ·have H' := am H
        repeat clear H
        have Mq := nZ3 fV dY fW f5 kQ mL
        have Es := cz3 dH
        obtain ⟨gK, BE, xV, wT, wU⟩ := aS (am (Kd.R_reads' d8.1).2.2) b0 dT
        cases BE
        obtain ⟨ji, mm, Ow⟩ := Kd.R_slice dE.1
        subst Ow
        go_wp2_with (first | ((with_reducible refine gC 80 ?_); refine cQ (some 43) Try.func80 (spec_l1Has.calls k2 _ _ jS (rdOf ByteArray.empty eA dT) true _ (pC (Kd.R_reads' dE.1).2.2) ((Kd.R_reads' dE.1).2.1) I0.out) ?_; rintro w' ⟨nd, rfl⟩))
        go_roundg k2
        case measure => have := HK1.out; have := HK2.out; omega
        case rel => exact ⟨(jS), (wrap64 (dT + 1)), (oD), (fI), (e4), aQ, H', ⟨by have := HK1.out; have := HK2.out; omega⟩, ⟨rR eD.1⟩, ⟨rR dE.1⟩, ⟨rR bN.1⟩, ⟨rN bI.1⟩, ⟨rR dB.1⟩, ⟨rR d8.1⟩, ⟨rB a3.1⟩, ⟨rB a5.1⟩, ⟨rB dH.1⟩, ⟨l8⟩, ⟨uT⟩, ⟨rD⟩⟩
       ·obtain ⟨⟨nX, nN⟩, Tc, H⟩ := bd H
        dsimp only at H
        refine iq H ?_ ?_ <;> clear H <;> intro rq Yd Ye H
        ·obtain ⟨XI, H⟩ := cL H
         obtain ⟨Su, IM⟩ := yv (jS ++ [rdOf ByteArray.empty eA dT]); first | replace H := bW IM H | rw [← IM.1] at H
         obtain ⟨XJ, H⟩ := cL H
         obtain ⟨p5, qZ⟩ := yv (fI ++ [rdOf ByteArray.empty eA dT]); first | replace H := bW qZ H | rw [← qZ.1] at H
         have H' := am H
         repeat clear H
         have Uu := nZ3 fV dY fW f5 kQ mL
         have Uv := cz3 dH
         obtain ⟨gK, BE, xV, wT, wU⟩ := aS (am (Kd.R_reads' d8.1).2.2) b0 dT
         cases BE
         obtain ⟨CX, DI, Ox⟩ := Kd.R_slice dE.1
         subst Ox
         try go_wp2_with (first | ((with_reducible refine gC 80 ?_); refine cQ (some 43) Try.func80 (spec_l1Has.calls k2 _ _ jS (rdOf ByteArray.empty eA dT) false _ (pC (Kd.R_reads' dE.1).2.2) ((Kd.R_reads' dE.1).2.1) I0.out) ?_; rintro w' ⟨nd, rfl⟩; (try (rw [drewN_self wr]; generalize hq_ : World.drewN wr _ = wr; have n0_ : Aside0 (Kd.R Kd.string 9 wr w0.heap.size (fun k_ => (((P1_0_ k_ ∨ w.heap.size ≤ k_)) ∧ (some k_ ≠ (.slice (some dW) bE.length e6 : Value).ownBlock ∧ (some k_ ≠ (.slice CX jS.length DI : Value).ownBlock ∧ (some k_ ≠ (e4 : Value).ownBlock ∧ some k_ ≠ (.slice (some gK) eA.length iD : Value).ownBlock))))) (.slice kC cA.length kD) cA) := ⟨by rw [← hq_]; exact nI⟩; have n1_ : Aside0 (Kd.N k56 56 wr w.heap.size (fun k_ => (((P1_0_ k_ ∨ w.heap.size ≤ k_)) ∧ (some k_ ≠ (.slice (some dW) bE.length e6 : Value).ownBlock ∧ (some k_ ≠ (.slice CX jS.length DI : Value).ownBlock ∧ (some k_ ≠ (.slice kC cA.length kD : Value).ownBlock ∧ (some k_ ≠ (e4 : Value).ownBlock ∧ (some k_ ≠ (.slice (some gK) eA.length iD : Value).ownBlock ∧ (k_ ≠ a6 ∧ (k_ ≠ a8 ∧ (k_ ≠ dF ∧ k_ ≠ g)))))))))) eS fX) := ⟨by rw [← hq_]; exact qJ⟩; have n2_ : Aside0 (Kd.R Kd.string 9 wr w0.heap.size (fun k_ => (((P1_0_ k_ ∨ w.heap.size ≤ k_)) ∧ (some k_ ≠ (.slice (some dW) bE.length e6 : Value).ownBlock ∧ (some k_ ≠ (.slice CX jS.length DI : Value).ownBlock ∧ (some k_ ≠ (.slice kC cA.length kD : Value).ownBlock ∧ some k_ ≠ (.slice (some gK) eA.length iD : Value).ownBlock))))) e4 fI) := ⟨by rw [← hq_]; exact (rR dB.1)⟩; have n3_ : Aside0 (Kd.R Kd.string 9 wr w0.heap.size (fun k_ => (((P1_0_ k_ ∨ w.heap.size ≤ k_)) ∧ (some k_ ≠ (.slice (some dW) bE.length e6 : Value).ownBlock ∧ (some k_ ≠ (.slice CX jS.length DI : Value).ownBlock ∧ (some k_ ≠ (.slice kC cA.length kD : Value).ownBlock ∧ some k_ ≠ (e4 : Value).ownBlock))))) (.slice (some gK) eA.length iD) eA) := ⟨by rw [← hq_]; exact (rR d8.1)⟩; have n4_ : Aside0 (Kd.R Kd.string 9 wr w0.heap.size (fun k_ => (((P1_0_ k_ ∨ w.heap.size ≤ k_)) ∧ (some k_ ≠ (.slice CX jS.length DI : Value).ownBlock ∧ (some k_ ≠ (.slice kC cA.length kD : Value).ownBlock ∧ (some k_ ≠ (e4 : Value).ownBlock ∧ some k_ ≠ (.slice (some gK) eA.length iD : Value).ownBlock))))) (.slice (some dW) bE.length e6) bE) := ⟨by rw [← hq_]; exact jO⟩; have n5_ : Aside0 (Kd.R Kd.string 9 wr w0.heap.size (fun k_ => (((P1_0_ k_ ∨ w.heap.size ≤ k_)) ∧ (some k_ ≠ (.slice (some dW) bE.length e6 : Value).ownBlock ∧ (some k_ ≠ (.slice kC cA.length kD : Value).ownBlock ∧ (some k_ ≠ (e4 : Value).ownBlock ∧ some k_ ≠ (.slice (some gK) eA.length iD : Value).ownBlock))))) (.slice CX jS.length DI) jS) := ⟨by rw [← hq_]; exact hD⟩; have n6_ : Aside0 (wr.heap[a6]? = some (.cells #[.slice kC cA.length kD, eS] 31 (0, 0))) := ⟨by rw [← hq_]; exact aC⟩; have n7_ : Aside0 (wr.heap[a8]? = some (.cells #[.slice none 0 0, .slice none 0 0] 31 (0, 0))) := ⟨by rw [← hq_]; exact aH⟩; have n8_ : Aside0 (wr.heap[dF]? = some (.cells #[.string (rdOf ByteArray.empty bE d7), e4, .slice (some gK) eA.length iD] 56 (0, 0))) := ⟨by rw [← hq_]; exact sN⟩; have n9_ : Aside0 (IsS103 w0 wr g aJ oD) := ⟨by rw [← hq_]; exact l8⟩; have n10_ : Aside0 (Kept w wr (fun k_ => (P1_0_ k_) ∨ k_ = g)) := ⟨by rw [← hq_]; exact uT⟩; have n11_ : Aside0 (Below w0.heap.size w0 wr) := ⟨by rw [← hq_]; exact rD⟩; clear bN bI dB d8 eD dE a3 a5 dH cD HK HB hq_; have bN := n0_; have bI := n1_; have dB := n2_; have d8 := n3_; have eD := n4_; have dE := n5_; have a3 := n6_; have a5 := n7_; have dH := n8_; have cD := n9_; have HK := n10_; have HB := n11_; clear n0_ n1_ n2_ n3_ n4_ n5_ n6_ n7_ n8_ n9_ n10_ n11_))) | (go_at_call 100; refine cM (spec_l1Rd_pick.calls k2 g aJ oD 2 nX nN w0 _ (l8) (rD) Tc.out) ?_; rintro Ku ⟨hi, hb, hk⟩; replace eD := iR l8 jO hk; replace dE := iR l8 hD hk; replace bN := iR l8 nI hk; replace bI := am (Kd.N_mono (Kd.N_keep (Kd.N_mono (ok := fun k_ => (((P1_0_ k_ ∨ w.heap.size ≤ k_)) ∧ (some k_ ≠ (.slice (some dW) bE.length e6 : Value).ownBlock ∧ (some k_ ≠ (.slice CX jS.length DI : Value).ownBlock ∧ (some k_ ≠ (.slice kC cA.length kD : Value).ownBlock ∧ (some k_ ≠ (e4 : Value).ownBlock ∧ (some k_ ≠ (.slice (some gK) eA.length iD : Value).ownBlock ∧ (k_ ≠ a6 ∧ (k_ ≠ a8 ∧ (k_ ≠ dF ∧ k_ ≠ g)))))))))) qJ (fun k_ hk_ => (⟨hk_, hk_.2.2.2.2.2.2.2.2.2⟩ : _ ∧ k_ ≠ g))) hk (fun _ h => h.2)) (fun _ h => h.1)); replace dB := iR l8 (rR dB.1) hk; replace d8 := iR l8 (rR d8.1) hk; replace a3 := kb aC hk bP; replace a5 := kb aH hk cW; replace dH := kb sN hk kQ; replace HK := am (Kept.of_keep (S := (fun k_ => (P1_0_ k_) ∨ k_ = g)) uT hk (.inl (.inr rfl))); replace HB := am hb; replace cD := am hi; (try clear hb); (try clear hk); (try clear hi); have Uw := cz3 dH; obtain ⟨YQ, Oj, Ko, nz, oe⟩ := aS (am (Kd.R_reads' d8.1).2.2) b0 dT; obtain rfl : gK = YQ := (by injection Oj)) | ((with_reducible refine gate_builtin (b := .append) (xs := #[.tmp 50, .tmp 56]) rfl ?_); at_builtin; refine Kd.R_append Kd.string (w0 := w0) w0.heap.size rfl (.tmp 50) (.tmp 56) 23 9 (.string ⟨#[]⟩) 16 rfl Try.underlying23 info9 rfl (by decide) (by omega) (.slice CX jS.length DI) jS (rdOf ByteArray.empty eA dT) [.string (rdOf ByteArray.empty eA dT)] (fun k_ => (P1_0_ k_ ∨ w.heap.size ≤ k_) ∧ some k_ ≠ (.slice (some dW) bE.length e6 : Value).ownBlock ∧ some k_ ≠ (.slice kC cA.length kD : Value).ownBlock ∧ some k_ ≠ (e4 : Value).ownBlock ∧ some k_ ≠ (.slice (some gK) eA.length iD : Value).ownBlock) (fun _ => False) rfl rfl ?aP (fun _ hk => hk.elim) ?aF ?aO ?aB ?aS ?aL ?_; (case aP => exact rfl); (case aB => exact rD); (case aF => exact (fun k_ hk => ⟨(.inr (Nat.le_trans Cu hk)), Kd.fresh' (Kd.R_lt jO) k_ hk, Kd.fresh' (Kd.R_lt nI) k_ hk, Kd.fresh' (Kd.R_lt (rR dB.1)) k_ hk, Kd.fresh' (Kd.R_lt (rR d8.1)) k_ hk⟩)); (case aO => exact hD); (case aS => exact (below_size rD)); (case aL => have := XI.out; omega); intro CR Sq ho hb hg hat; rw [← IM.out] at ho; replace eD := am (Kd.R_after (ok := (fun k_ => (P1_0_ k_ ∨ w.heap.size ≤ k_) ∧ some k_ ≠ (.slice kC cA.length kD : Value).ownBlock ∧ some k_ ≠ (e4 : Value).ownBlock ∧ some k_ ≠ (.slice (some gK) eA.length iD : Value).ownBlock)) (by refine rR ?_; exact Kd.R_mono eD.1 (fun _ hk => ⟨⟨hk.1, ⟨hk.2.2.1, ⟨hk.2.2.2.1, hk.2.2.2.2⟩⟩⟩, hk.2.1⟩)) hg hat); replace bN := am (Kd.R_after (ok := (fun k_ => (P1_0_ k_ ∨ w.heap.size ≤ k_) ∧ some k_ ≠ (.slice (some dW) bE.length e6 : Value).ownBlock ∧ some k_ ≠ (e4 : Value).ownBlock ∧ some k_ ≠ (.slice (some gK) eA.length iD : Value).ownBlock)) (by refine rR ?_; exact Kd.R_mono bN.1 (fun _ hk => ⟨⟨hk.1, ⟨hk.2.1, ⟨hk.2.2.2.1, hk.2.2.2.2⟩⟩⟩, hk.2.2.1⟩)) hg hat); replace bI := am (Kd.N_afterv (ok := (fun k_ => (P1_0_ k_ ∨ w.heap.size ≤ k_) ∧ some k_ ≠ (.slice (some dW) bE.length e6 : Value).ownBlock ∧ some k_ ≠ (.slice kC cA.length kD : Value).ownBlock ∧ some k_ ≠ (e4 : Value).ownBlock ∧ some k_ ≠ (.slice (some gK) eA.length iD : Value).ownBlock ∧ k_ ≠ a6 ∧ k_ ≠ a8 ∧ k_ ≠ dF ∧ k_ ≠ g)) (by refine rN ?_; exact Kd.N_mono bI.1 (fun _ hk => ⟨⟨hk.1, ⟨hk.2.1, ⟨hk.2.2.2.1, ⟨hk.2.2.2.2.1, ⟨hk.2.2.2.2.2.1, ⟨hk.2.2.2.2.2.2.1, ⟨hk.2.2.2.2.2.2.2.1, ⟨hk.2.2.2.2.2.2.2.2.1, hk.2.2.2.2.2.2.2.2.2⟩⟩⟩⟩⟩⟩⟩⟩, hk.2.2.1⟩)) hg hat); replace dB := am (Kd.R_after (ok := (fun k_ => (P1_0_ k_ ∨ w.heap.size ≤ k_) ∧ some k_ ≠ (.slice (some dW) bE.length e6 : Value).ownBlock ∧ some k_ ≠ (.slice kC cA.length kD : Value).ownBlock ∧ some k_ ≠ (.slice (some gK) eA.length iD : Value).ownBlock)) (by refine rR ?_; exact Kd.R_mono dB.1 (fun _ hk => ⟨⟨hk.1, ⟨hk.2.1, ⟨hk.2.2.2.1, hk.2.2.2.2⟩⟩⟩, hk.2.2.1⟩)) hg hat); replace d8 := am (Kd.R_after (ok := (fun k_ => (P1_0_ k_ ∨ w.heap.size ≤ k_) ∧ some k_ ≠ (.slice (some dW) bE.length e6 : Value).ownBlock ∧ some k_ ≠ (.slice kC cA.length kD : Value).ownBlock ∧ some k_ ≠ (e4 : Value).ownBlock)) (by refine rR ?_; exact Kd.R_mono d8.1 (fun _ hk => ⟨⟨hk.1, ⟨hk.2.1, ⟨hk.2.2.2.1, hk.2.2.2.2⟩⟩⟩, hk.2.2.1⟩)) hg hat); replace a3 := gkR aC hg dE a3; replace a5 := gkR aH hg dE a5; replace dH := gkR sN hg dE dH; replace cD := am (IsS103.grown l8 hg (IsS103.own_ne cD.out dE.1 (by decide))); replace HB := am hb; replace HK := am (Kept.of_grown (S := (fun k_ => (P1_0_ k_) ∨ k_ = g)) hg uT (fun k_ e_ => Or.imp_left Or.inl ((dE.1.1 k_ e_).1))); have g6 := am ho; clear dE; clear ho hb hg hat))
         replace eD := RD eD
         replace bN := RD bN
         replace bI := ND bI
         replace dB := RD dB
         replace d8 := RD d8
         replace g6 := RD g6
         replace a3 := BD a3
         replace a5 := BD a5
         replace dH := BD dH
         replace cD := am (IsS103.drew cD.out)
         replace HK := am (Kept.drew HK.out)
         replace HB := am (below_drew1 HB.1)
         obtain ⟨YR, Ol, GR, oa, og⟩ := aS (am (Kd.R_reads' d8.1).2.2) b0 dT
         obtain rfl : gK = YR := (by injection Ol)
         refine sT (S := fun w' => w'.cell? ⟨dF, 0, none⟩ = some (.string (rdOf ByteArray.empty bE d7)) ∧ w'.cell? ⟨dF, 1, none⟩ = some (e4) ∧ w'.cell? ⟨dF, 2, none⟩ = some (.slice (some gK) eA.length iD) ∧ w'.cell? (gK.add (dT).toNat) = some (.string (rdOf ByteArray.empty eA dT))) [8, 10] 11 ⟨⟨(blk_cell dH.1 0).trans rfl, (blk_cell dH.1 1).trans rfl, (blk_cell dH.1 2).trans rfl, GR⟩⟩ (fun hHeld => ?_)
         refine with_tabW spec_l5Wild.tab13 spec_l5Wild.bits13 (fun HT_ HW_ => ?_)
         generalize Sq.drew = sc at eD bN bI dB d8 g6 a3 a5 dH cD HK HB GR hHeld ⊢
         refine pU3 0 2 4 ?_
         refine tK4 1 (some 59) ?_
         refine tK4 3 (some 61) ?_
         refine pU1 5 ?_
         refine tK4 6 (some 64) ?_
         refine oN 7 (some 65) fun K hK => ?_
         refine value_ (w1 := ?_) (v := ?_) (by rfl) rfl ?_ ?_
         rotate_left 2
         ·go_simp
          constructor
          ·rfl
          ·rfl
         refine hK.out _ _ ⟨(blk_cell (blk_alloc dH.1 _) 0).trans rfl, (blk_cell (blk_alloc dH.1 _) 1).trans rfl, (blk_cell (blk_alloc dH.1 _) 2).trans rfl, (World.cell?_alloc_lt _ _ _ (World.block_lt_of_cell? _ _ (hHeld.2.2.2))).trans (hHeld.2.2.2)⟩ (fun hHeld => ?_)
         clear hK K
         refine nM ?_
         refine lN 8 (some 66) fun K hK => ?_
         refine Kd.R_append_step Kd.string (w0 := w0) w0.heap.size (by rfl) (.tmp 59) (.tmp 65) 23 9 (.string ⟨#[]⟩) 16 rfl Try.underlying23 info9 rfl (by decide) (by omega) e4 fI (rdOf ByteArray.empty eA dT) [.string (rdOf ByteArray.empty eA dT)] (fun k_ => (P1_0_ k_ ∨ w.heap.size ≤ k_) ∧ some k_ ≠ (.slice (some dW) bE.length e6 : Value).ownBlock ∧ some k_ ≠ (.slice kC cA.length kD : Value).ownBlock ∧ some k_ ≠ (.slice (some gK) eA.length iD : Value).ownBlock ∧ some k_ ≠ (CR : Value).ownBlock) (fun _ => False) rfl rfl ?aP (fun _ hk => hk.elim) ?aF ?aO ?aB ?aS ?aL ?_
         (case aP => exact rfl)
         (case aB => exact rD)
         (case aF => exact (fun k_ hk => ⟨(.inr (Nat.le_trans Cu hk)), Kd.fresh' (Kd.R_lt jO) k_ hk, Kd.fresh' (Kd.R_lt nI) k_ hk, Kd.fresh' (Kd.R_lt (rR d8.1)) k_ hk, Kd.fresh' (Kd.R_lt (rR g6.1)) k_ hk⟩))
         (case aO => exact (by refine rR ?_; exact Kd.R_mono dB.1 (fun _ hk => ⟨hk.1.1, ⟨hk.1.2.1, ⟨hk.1.2.2.1, ⟨hk.1.2.2.2, hk.2⟩⟩⟩⟩)))
         (case aS => exact (below_size rD))
         (case aL => have := XJ.out; omega)
         intro N6 em ho hb hg hat
         rw [← qZ.out] at ho
         replace eD := am (Kd.R_after (ok := (fun k_ => (P1_0_ k_ ∨ w.heap.size ≤ k_) ∧ some k_ ≠ (.slice kC cA.length kD : Value).ownBlock ∧ some k_ ≠ (.slice (some gK) eA.length iD : Value).ownBlock ∧ some k_ ≠ (CR : Value).ownBlock)) (by refine rR ?_; exact Kd.R_mono eD.1 (fun _ hk => ⟨⟨hk.1.1, ⟨hk.1.2.1, ⟨hk.1.2.2.2, hk.2⟩⟩⟩, hk.1.2.2.1⟩)) hg hat)
         replace bN := am (Kd.R_after (ok := (fun k_ => (P1_0_ k_ ∨ w.heap.size ≤ k_) ∧ some k_ ≠ (.slice (some dW) bE.length e6 : Value).ownBlock ∧ some k_ ≠ (.slice (some gK) eA.length iD : Value).ownBlock ∧ some k_ ≠ (CR : Value).ownBlock)) (by refine rR ?_; exact Kd.R_mono bN.1 (fun _ hk => ⟨⟨hk.1.1, ⟨hk.1.2.1, ⟨hk.1.2.2.2, hk.2⟩⟩⟩, hk.1.2.2.1⟩)) hg hat)
         replace bI := am (Kd.N_afterv (ok := (fun k_ => (P1_0_ k_ ∨ w.heap.size ≤ k_) ∧ some k_ ≠ (.slice (some dW) bE.length e6 : Value).ownBlock ∧ some k_ ≠ (.slice kC cA.length kD : Value).ownBlock ∧ some k_ ≠ (.slice (some gK) eA.length iD : Value).ownBlock ∧ some k_ ≠ (CR : Value).ownBlock ∧ k_ ≠ a6 ∧ k_ ≠ a8 ∧ k_ ≠ dF ∧ k_ ≠ g)) (by refine rN ?_; exact Kd.N_mono bI.1 (fun _ hk => ⟨⟨hk.1.1, ⟨hk.1.2.1, ⟨hk.1.2.2.1, ⟨hk.1.2.2.2.2.1, ⟨hk.2, ⟨hk.1.2.2.2.2.2.1, ⟨hk.1.2.2.2.2.2.2.1, ⟨hk.1.2.2.2.2.2.2.2.1, hk.1.2.2.2.2.2.2.2.2⟩⟩⟩⟩⟩⟩⟩⟩, hk.1.2.2.2.1⟩)) hg hat)
         replace d8 := am (Kd.R_after (ok := (fun k_ => (P1_0_ k_ ∨ w.heap.size ≤ k_) ∧ some k_ ≠ (.slice (some dW) bE.length e6 : Value).ownBlock ∧ some k_ ≠ (.slice kC cA.length kD : Value).ownBlock ∧ some k_ ≠ (CR : Value).ownBlock)) (by refine rR ?_; exact Kd.R_mono d8.1 (fun _ hk => ⟨⟨hk.1.1, ⟨hk.1.2.1, ⟨hk.1.2.2.1, hk.2⟩⟩⟩, hk.1.2.2.2⟩)) hg hat)
         replace a3 := gkR aC hg dB a3
         replace a5 := gkR aH hg dB a5
         replace dH := gkR sN hg dB dH
         replace cD := am (IsS103.grown l8 hg (IsS103.own_ne cD.out dB.1 (by decide)))
         replace g6 := am (Kd.R_after (ok := (fun k_ => (P1_0_ k_ ∨ w.heap.size ≤ k_) ∧ some k_ ≠ (.slice (some dW) bE.length e6 : Value).ownBlock ∧ some k_ ≠ (.slice kC cA.length kD : Value).ownBlock ∧ some k_ ≠ (.slice (some gK) eA.length iD : Value).ownBlock)) (by refine rR ?_; exact Kd.R_mono g6.1 (fun _ hk => ⟨⟨hk.1, ⟨hk.2.1, ⟨hk.2.2.1, hk.2.2.2.2⟩⟩⟩, hk.2.2.2.1⟩)) hg hat)
         replace HB := am hb
         replace HK := am (Kept.of_grown (S := (fun k_ => (P1_0_ k_) ∨ k_ = g)) hg uT (fun k_ e_ => Or.imp_left Or.inl ((dB.1.1 k_ e_).1.1)))
         have t5 := am ho
         clear dB
         clear ho hb hg hat
         obtain ⟨WX, ZY, M8⟩ := Kd.R_slice t5.1
         (first | subst M8 | (obtain ⟨f4_, f5_⟩ := sj M8; subst f4_; subst f5_))
         refine hK.out _ _ ?_
         clear hK K
         refine nM ?_
         refine pU1 9 ?_
         refine lN 10 none fun K hK => ?_
         have nr : em.cell? ⟨dF, 1, none⟩ = some (e4) := (blk_cell dH.1 1).trans rfl
         have Zy := blk_frozen dH.1 1
         have Jx := dY.1
         have Jy := f5.1
         have Ic := fV.1
         have Ie := fW.1
         refine skip_ (w1 := ?_) (by rfl) rfl ?_ ?_
         rotate_left
         ·go_simp
          rfl
         refine hK.out _ _ ?_
         clear hK K
         refine dN ?_
         try go_wp2
         go_roundg k2
         case measure => have := HK1.out; have := HK2.out; omega
         case rel => exact ⟨(Su), (wrap64 (dT + 1)), (nN), (p5), (.slice WX p5.length ZY), aQ, H', ⟨by have := HK1.out; have := HK2.out; omega⟩, ⟨by refine rR ?_; exact Kd.R_mono (fR (tR eD dH)) (fun _ hk => ⟨hk.1.1.1, ⟨hk.1.1.2.2.2, ⟨hk.1.1.2.1, ⟨hk.1.2, hk.1.1.2.2.1⟩⟩⟩⟩)⟩, ⟨by refine rR ?_; exact Kd.R_mono (fR (tR g6 dH)) (fun _ hk => ⟨hk.1.1.1, ⟨hk.1.1.2.1, ⟨hk.1.1.2.2.1, ⟨hk.1.2, hk.1.1.2.2.2⟩⟩⟩⟩)⟩, ⟨by refine rR ?_; exact Kd.R_mono (fR (tR bN dH)) (fun _ hk => ⟨hk.1.1.1, ⟨hk.1.1.2.1, ⟨hk.1.1.2.2.2, ⟨hk.1.2, hk.1.1.2.2.1⟩⟩⟩⟩)⟩, ⟨by refine rN ?_; exact Kd.N_mono (fN (Kd.N_mono bI.1 (fun k_ hk => (⟨hk, hk.1.2.2.2.2.2.2.2.1⟩ : _ ∧ k_ ≠ dF)))) (fun _ hk => ⟨hk.1.1.1, ⟨hk.1.1.2.1, ⟨hk.1.1.2.2.2.2.1, ⟨hk.1.1.2.2.1, ⟨hk.1.2, ⟨hk.1.1.2.2.2.1, ⟨hk.1.1.2.2.2.2.2.1, ⟨hk.1.1.2.2.2.2.2.2.1, ⟨hk.1.1.2.2.2.2.2.2.2.1, hk.1.1.2.2.2.2.2.2.2.2⟩⟩⟩⟩⟩⟩⟩⟩⟩)⟩, ⟨by refine rR ?_; exact Kd.R_mono (fR (tR t5 dH)) (fun _ hk => ⟨hk.1.1, ⟨hk.1.2.1, ⟨hk.1.2.2.2.2, ⟨hk.1.2.2.1, hk.1.2.2.2.1⟩⟩⟩⟩)⟩, ⟨by refine rR ?_; exact Kd.R_mono (fR (tR d8 dH)) (fun _ hk => ⟨hk.1.1.1, ⟨hk.1.1.2.1, ⟨hk.1.1.2.2.2, ⟨hk.1.1.2.2.1, hk.1.2⟩⟩⟩⟩)⟩, ⟨qF a3 dY⟩, ⟨qF a5 f5⟩, ⟨by refine rB ?_; refine blk_put (cs := #[.string (rdOf ByteArray.empty bE d7), e4, .slice (some gK) eA.length iD]) ?_ 1 _ rfl; refine rB ?_; exact dH.1⟩, ⟨l8⟩, ⟨uT⟩, ⟨rD⟩⟩
        ·have H' := am H
         repeat clear H
         have Ew := nZ3 fV dY fW f5 kQ mL
         have lg := cz3 dH
         obtain ⟨gK, BE, xV, wT, wU⟩ := aS (am (Kd.R_reads' d8.1).2.2) b0 dT
         cases BE
         obtain ⟨Lu, Nx, Pb⟩ := Kd.R_slice dE.1
         subst Pb
         go_wp2_with (first | ((with_reducible refine gC 80 ?_); refine cQ (some 43) Try.func80 (spec_l1Has.calls k2 _ _ jS (rdOf ByteArray.empty eA dT) false _ (pC (Kd.R_reads' dE.1).2.2) ((Kd.R_reads' dE.1).2.1) I0.out) ?_; rintro w' ⟨nd, rfl⟩) | (go_at_call 100; refine cM (spec_l1Rd_pick.calls k2 g aJ oD 2 nX nN w0 _ (l8) (rD) Tc.out) ?_; rintro qh ⟨hi, hb, hk⟩; replace eD := iR l8 jO hk; replace dE := iR l8 hD hk; replace bN := iR l8 nI hk; replace bI := am (Kd.N_mono (Kd.N_keep (Kd.N_mono (ok := fun k_ => (((P1_0_ k_ ∨ w.heap.size ≤ k_)) ∧ (some k_ ≠ (.slice (some dW) bE.length e6 : Value).ownBlock ∧ (some k_ ≠ (.slice Lu jS.length Nx : Value).ownBlock ∧ (some k_ ≠ (.slice kC cA.length kD : Value).ownBlock ∧ (some k_ ≠ (e4 : Value).ownBlock ∧ (some k_ ≠ (.slice (some gK) eA.length iD : Value).ownBlock ∧ (k_ ≠ a6 ∧ (k_ ≠ a8 ∧ (k_ ≠ dF ∧ k_ ≠ g)))))))))) qJ (fun k_ hk_ => (⟨hk_, hk_.2.2.2.2.2.2.2.2.2⟩ : _ ∧ k_ ≠ g))) hk (fun _ h => h.2)) (fun _ h => h.1)); replace dB := iR l8 (rR dB.1) hk; replace d8 := iR l8 (rR d8.1) hk; replace a3 := kb aC hk bP; replace a5 := kb aH hk cW; replace dH := kb sN hk kQ; replace HK := am (Kept.of_keep (S := (fun k_ => (P1_0_ k_) ∨ k_ = g)) uT hk (.inl (.inr rfl))); replace HB := am hb; replace cD := am hi; (try clear hb); (try clear hk); (try clear hi)))
         go_roundg k2
         case measure => have := HK1.out; have := HK2.out; omega
         case rel => exact ⟨(jS), (wrap64 (dT + 1)), (nN), (fI), (e4), aQ, H', ⟨by have := HK1.out; have := HK2.out; omega⟩, ⟨rR eD.1⟩, ⟨rR dE.1⟩, ⟨rR bN.1⟩, ⟨rN bI.1⟩, ⟨rR dB.1⟩, ⟨rR d8.1⟩, ⟨rB a3.1⟩, ⟨rB a5.1⟩, ⟨rB dH.1⟩, ⟨l8⟩, ⟨uT⟩, ⟨rD⟩⟩
      ·obtain ⟨XL, H⟩ := cL H
       obtain ⟨E0, qY⟩ := yv (fX ++ [(⟨(rdOf ByteArray.empty bE d7), fI, eA⟩ : S56)]); first | replace H := bW qY H | rw [← qY.1] at H
       have H' := am H
       repeat clear H
       have qv := nZ3 fV dY fW f5 kQ mL
       have qx := cz3 dH
       have qy := nZ2 aU aV bP e5
       have qz := cz2 a3
       obtain ⟨QB, S0, T9⟩ := Kd.R_slice dB.1
       subst T9
       go_wp2_with (first | ((with_reducible refine gate_builtin (b := .append) (xs := #[.tmp 69, .tmp 71]) rfl ?_); at_builtin; refine Kd.N_append k56 w.heap.size rfl (.tmp 69) (.tmp 71) 29 56 Ag0 64 rfl Try.underlying29 info56 rfl (by decide) (by omega) eS fX (⟨(rdOf ByteArray.empty bE d7), fI, eA⟩ : S56) [.string (rdOf ByteArray.empty bE d7), .slice QB fI.length S0, .slice sB eA.length iD] (fun k_ => (P1_0_ k_ ∨ w.heap.size ≤ k_) ∧ some k_ ≠ (.slice (some dW) bE.length e6 : Value).ownBlock ∧ some k_ ≠ (u6 : Value).ownBlock ∧ some k_ ≠ (.slice kC cA.length kD : Value).ownBlock ∧ k_ ≠ a6 ∧ k_ ≠ a8 ∧ k_ ≠ dF ∧ k_ ≠ g) (fun k_ => ((fun k_ => (P1_0_ k_ ∨ w.heap.size ≤ k_) ∧ some k_ ≠ (.slice (some dW) bE.length e6 : Value).ownBlock ∧ some k_ ≠ (u6 : Value).ownBlock ∧ some k_ ≠ (.slice kC cA.length kD : Value).ownBlock ∧ k_ ≠ a6 ∧ k_ ≠ a8 ∧ k_ ≠ dF ∧ k_ ≠ g)) k_ ∧ some k_ ≠ (eS : Value).ownBlock) rfl rfl ?aP (fun _ hk => hk) ?aF ?aO (Below.refl _ _) ?aS ?aL ?_; (case aP => exact (k56_mkF _ _ (⟨(rdOf ByteArray.empty bE d7), fI, eA⟩ : S56) (Kd.R_reads' (Kd.R_mono (ok' := (fun k_ => ((fun k_ => (P1_0_ k_ ∨ w.heap.size ≤ k_) ∧ some k_ ≠ (.slice (some dW) bE.length e6 : Value).ownBlock ∧ some k_ ≠ (u6 : Value).ownBlock ∧ some k_ ≠ (.slice kC cA.length kD : Value).ownBlock ∧ k_ ≠ a6 ∧ k_ ≠ a8 ∧ k_ ≠ dF ∧ k_ ≠ g)) k_ ∧ some k_ ≠ (eS : Value).ownBlock)) (IsS103.apart cD.out (Kd.R_types (Kd.R_types (Kd.R_types (Kd.R_apart' (dB.1) (Kd.N_typed bI.1) (by decide)) a3.1 (by decide)) a5.1 (by decide)) dH.1 (by decide)) (by decide)) (fun k_ hk => ⟨⟨hk.1.1.1.1.1.1, ⟨hk.1.1.1.1.1.2.1, ⟨hk.1.1.1.1.1.2.2.1, ⟨hk.1.1.1.1.1.2.2.2.1, ⟨hk.1.1.1.2, ⟨hk.1.1.2, ⟨hk.1.2, hk.2⟩⟩⟩⟩⟩⟩⟩, hk.1.1.1.1.2⟩))).2.1 (Kd.R_F (Kd.R_mono (ok' := (fun k_ => ((fun k_ => (P1_0_ k_ ∨ w.heap.size ≤ k_) ∧ some k_ ≠ (.slice (some dW) bE.length e6 : Value).ownBlock ∧ some k_ ≠ (u6 : Value).ownBlock ∧ some k_ ≠ (.slice kC cA.length kD : Value).ownBlock ∧ k_ ≠ a6 ∧ k_ ≠ a8 ∧ k_ ≠ dF ∧ k_ ≠ g)) k_ ∧ some k_ ≠ (eS : Value).ownBlock)) (IsS103.apart cD.out (Kd.R_types (Kd.R_types (Kd.R_types (Kd.R_apart' (dB.1) (Kd.N_typed bI.1) (by decide)) a3.1 (by decide)) a5.1 (by decide)) dH.1 (by decide)) (by decide)) (fun k_ hk => ⟨⟨hk.1.1.1.1.1.1, ⟨hk.1.1.1.1.1.2.1, ⟨hk.1.1.1.1.1.2.2.1, ⟨hk.1.1.1.1.1.2.2.2.1, ⟨hk.1.1.1.2, ⟨hk.1.1.2, ⟨hk.1.2, hk.2⟩⟩⟩⟩⟩⟩⟩, hk.1.1.1.1.2⟩))) (Kd.R_reads' (Kd.R_mono (ok' := (fun k_ => ((fun k_ => (P1_0_ k_ ∨ w.heap.size ≤ k_) ∧ some k_ ≠ (.slice (some dW) bE.length e6 : Value).ownBlock ∧ some k_ ≠ (u6 : Value).ownBlock ∧ some k_ ≠ (.slice kC cA.length kD : Value).ownBlock ∧ k_ ≠ a6 ∧ k_ ≠ a8 ∧ k_ ≠ dF ∧ k_ ≠ g)) k_ ∧ some k_ ≠ (eS : Value).ownBlock)) (IsS103.apart cD.out (Kd.R_types (Kd.R_types (Kd.R_types (Kd.R_apart' (d8.1) (Kd.N_typed bI.1) (by decide)) a3.1 (by decide)) a5.1 (by decide)) dH.1 (by decide)) (by decide)) (fun k_ hk => ⟨⟨hk.1.1.1.1.1.1, ⟨hk.1.1.1.1.1.2.1, ⟨hk.1.1.1.1.1.2.2.1, ⟨hk.1.1.1.1.1.2.2.2.1, ⟨hk.1.1.1.2, ⟨hk.1.1.2, ⟨hk.1.2, hk.2⟩⟩⟩⟩⟩⟩⟩, hk.1.1.1.1.2⟩))).2.1 (Kd.R_F (Kd.R_mono (ok' := (fun k_ => ((fun k_ => (P1_0_ k_ ∨ w.heap.size ≤ k_) ∧ some k_ ≠ (.slice (some dW) bE.length e6 : Value).ownBlock ∧ some k_ ≠ (u6 : Value).ownBlock ∧ some k_ ≠ (.slice kC cA.length kD : Value).ownBlock ∧ k_ ≠ a6 ∧ k_ ≠ a8 ∧ k_ ≠ dF ∧ k_ ≠ g)) k_ ∧ some k_ ≠ (eS : Value).ownBlock)) (IsS103.apart cD.out (Kd.R_types (Kd.R_types (Kd.R_types (Kd.R_apart' (d8.1) (Kd.N_typed bI.1) (by decide)) a3.1 (by decide)) a5.1 (by decide)) dH.1 (by decide)) (by decide)) (fun k_ hk => ⟨⟨hk.1.1.1.1.1.1, ⟨hk.1.1.1.1.1.2.1, ⟨hk.1.1.1.1.1.2.2.1, ⟨hk.1.1.1.1.1.2.2.2.1, ⟨hk.1.1.1.2, ⟨hk.1.1.2, ⟨hk.1.2, hk.2⟩⟩⟩⟩⟩⟩⟩, hk.1.1.1.1.2⟩))))); (case aF => exact (fun k_ hk => ⟨(.inr (Nat.le_trans Cu hk)), Kd.fresh' (Kd.R_lt jO) k_ hk, Kd.fresh' (Kd.R_lt hD) k_ hk, Kd.fresh' (Kd.R_lt nI) k_ hk, fB aC k_ hk, fB aH k_ hk, fB sN k_ hk, IsS103.fresh l8 k_ hk⟩)); (case aO => exact (by refine rN ?_; exact Kd.N_mono bI.1 (fun _ hk => ⟨hk.1, ⟨hk.2.1, ⟨hk.2.2.1, ⟨hk.2.2.2.1, ⟨hk.2.2.2.2.2.2.1, ⟨hk.2.2.2.2.2.2.2.1, ⟨hk.2.2.2.2.2.2.2.2.1, hk.2.2.2.2.2.2.2.2.2⟩⟩⟩⟩⟩⟩⟩))); (case aS => exact Cu); (case aL => have := XL.out; omega); intro Dg qi ho hb hg hat; rw [← qY.out] at ho; replace eD := am (Kd.R_over' jO (Kd.N_typed qJ) (by decide) hg); replace dE := am (Kd.R_over' hD (Kd.N_typed qJ) (by decide) hg); replace bN := am (Kd.R_over' nI (Kd.N_typed qJ) (by decide) hg); replace a3 := gkN aC hg bI a3; replace a5 := gkN aH hg bI a5; replace dH := am (blk_grown (g := dF) (o := .cells #[.string (rdOf ByteArray.empty bE d7), .slice QB fI.length S0, .slice sB eA.length iD] 56 (0, 0)) sN hg (Kd.N_away bI.1 (fun _ hk => hk.2.2.2.2.2.2.2.2.1))); replace HB := am (below_weaken rD HW0.out hb); replace cD := am (IsS103.grown l8 hg (IsS103.own_neN cD.out bI.1 (by decide))); replace HK := am (Kept.of_grown (S := (fun k_ => (P1_0_ k_) ∨ k_ = g)) hg uT (fun k_ e_ => Or.imp_left Or.inl (.inr (Kd.N_base bI.1 k_ e_)))); have mD := am ho; clear bI; clear dB; clear d8; clear ho hb hg hat; obtain ⟨WY, ZZ, M9⟩ := Kd.N_slice mD.1; subst M9; have lm := cz2 a3))
       go_roundg k2
       case measure => have := HK1.out; have := HK2.out; omega
       case rel => exact ⟨(jS), (wrap64 (d7 + 1)), (oD), (E0), (.slice WY E0.length ZZ), aQ, H', ⟨by have := HK1.out; have := HK2.out; omega⟩, ⟨by refine rR ?_; exact Kd.R_mono (fR (tR eD a3)) (fun _ hk => ⟨hk.1.1, ⟨hk.1.2.1, hk.1.2.2.1⟩⟩)⟩, ⟨by refine rR ?_; exact Kd.R_mono (fR (tR dE a3)) (fun _ hk => ⟨hk.1.1, ⟨hk.1.2.1, hk.1.2.2.1⟩⟩)⟩, ⟨by refine rR ?_; exact Kd.R_mono (fR (tR bN a3)) (fun _ hk => ⟨hk.1.1, ⟨hk.1.2.1, hk.1.2.2.1⟩⟩)⟩, ⟨by refine rN ?_; exact Kd.N_mono (fN (Kd.N_mono mD.1 (fun k_ hk => (⟨hk, hk.2.2.2.2.1⟩ : _ ∧ k_ ≠ a6)))) (fun _ hk => ⟨hk.1.1, ⟨hk.1.2.1, ⟨hk.1.2.2.1, ⟨hk.1.2.2.2.1, ⟨hk.1.2.2.2.2.1, ⟨hk.1.2.2.2.2.2.1, hk.1.2.2.2.2.2.2.2⟩⟩⟩⟩⟩⟩)⟩, ⟨by refine rB ?_; refine blk_put (cs := #[.slice kC cA.length kD, eS]) ?_ 1 _ rfl; refine rB ?_; exact a3.1⟩, ⟨qF a5 aV⟩, ⟨l8⟩, ⟨uT⟩, ⟨rD⟩⟩
  ·obtain ⟨rfl, rfl, rfl⟩ := sZ3 H
   repeat clear H
   obtain ⟨Lv, Nz, MA⟩ := Kd.R_slice eD.1
   subst MA
   have re := nZ2 aU aV bP e5
   have ln := cz2 a3
   have lp := nZ1 cW eH
   have rg := cz2 a5
   obtain ⟨Lx, Ob, Pd⟩ := Kd.N_slice bI.1
   subst Pd
   go_wp2
   refine cR a8 31 #[.slice kC cA.length kD, .slice Lx fX.length Ob] (qP a5) Try.underlying31 ?_
   exact ⟨_, _, eR, mR bN a5, by refine rN ?_; exact Kd.N_mono (fN (fN (Kd.N_mono bI.1 (fun k_ hk => (⟨hk, hk.2.2.2.2.2.1⟩ : _ ∧ k_ ≠ a8))))) (fun _ hk => ⟨hk.1.1, hk.1.2.2.2.1⟩), gM, lG, yT⟩
end Go.Proofs.Ytaofjgnhapnndaa.Q
namespace Go.Proofs.Ytaofjgnhapnndaa.Q
open Go.RowKit Go.Proofs.YtaofjgnhapnndaaW.PrintWords Go.Proofs.YtaofjgnhapnndaaW.PrintLast Go.Proofs.YtaofjgnhapnndaaW.PrintMore
set_option linter.unusedVariables false
set_option linter.unusedSimpArgs false
def spec_l1Names.f (l0 : List ByteArray) : Option (List ByteArray) := (some (([] : List ByteArray) : List ByteArray)).bind fun a => (if a.length + l0.length < 8796093022208 then (some (a ++ l0)) else (none))
theorem spec_l1Names.calls (A0 : Option Addr) (c0 : Nat) (l0 : List ByteArray) (r : List ByteArray) (w : World) (gL : Kd.C Kd.string w A0 l0.length l0) (l7 : l0.length ≤ c0) (h : spec_l1Names.f l0 = some r) :
  Calls Try.prog 93 #[.slice A0 l0.length c0] w fun e w' => ∃ v0_ : Value, e = .returned (v0_) ∧ Kd.R Kd.string 9 w' w.heap.size (fun _ => True) v0_ r ∧ Below w.heap.size w w' := by
 obtain ⟨hL, wE⟩ := mZ2 gL l7
 clear gL l7
 have HB := am (Below.refl w.heap.size w)
 unfold spec_l1Names.f at h
 have H := h
 clear h
 obtain ⟨CT, hy101⟩ : ∃ y_ : List ByteArray, y_ = (([] : List ByteArray)) := ⟨_, rfl⟩
 replace H : (if CT.length + l0.length < 8796093022208 then (some (CT ++ l0)) else (none)) = some r := by first | (rw [hy101]; with_reducible exact H) | (have H2_ := (Option.bind_some _ _).symm.trans H; rw [hy101]; with_reducible exact H2_) | (have H2_ := (Option.bind_some _ _).symm.trans H; with_reducible exact H2_) | with_reducible exact H | (rw [hy101]; exact H) | exact H
 have qE := am hy101
 clear hy101
 obtain ⟨Me, H⟩ := cL H
 obtain ⟨VC, D4⟩ := yv (CT ++ l0); first | replace H := bW D4 H | rw [← D4.1] at H
 obtain rfl := Option.some.inj H
 repeat clear H
 go_enter Try.func93, Try.ntmps93
 go_wp2_with (first | ((with_reducible refine gate_dst (N := 3) rfl ?_); refine lS 9 3 qE ?_; intro HQ w3 Cm hb; have cS := am (Kd.R_lower Cm (below_size cI)); replace HB := bS cI hb; clear hb Cm) | ((with_reducible refine gate_builtin (b := .append) (xs := #[.tmp 3, .tmp 4]) rfl ?_); at_builtin; refine Kd.R_append_rows Kd.string (w0 := w) w.heap.size rfl (.tmp 3) (.tmp 4) 23 9 (.string ⟨#[]⟩) 16 rfl Try.underlying23 info9 rfl (by decide) (by omega) HQ CT l0 _ _ _ (fun _ => True) (fun _ => False) rfl rfl ?aO ?aR (fun _ _ h => h) (fun _ h => h.elim) ?aF ?aB ?aS ?aL ?_; (case aR => repeat (first | exact (Kd.C_below hL.1 HB.1) | (with_reducible refine Kd.C_alloc ?_ _) | (with_reducible refine Kd.C_drewN ?_ _) | (with_reducible refine Kd.C_drew ?_))); (case aB => exact cI); (case aF => exact (fun _ _ => trivial)); (case aO => exact l3); (case aS => exact (below_size cI)); (case aL => have := Me.out; omega); intro sG w5 ho hb hg hat; rw [← D4.out] at ho; replace HB := am hb; have aX := am ho; clear cS; clear ho hb hg hat))
 go_ret
 exact ⟨_, eR, rR aX.1, cI⟩
def spec_l1Copy.l0 : Nat → Int → List ByteArray → List (S56) → List ByteArray → List (S56) → Option (List ByteArray × (List (S56)))
 | 0, _, _, _, _, _ => none
 | k + 1, a, e, b, d, c => if a < (b.length : Int) then (if 0 ≤ a then ((spec_l1Names.f ((rd_T56 b a).f1)).bind fun g => ((spec_l1Names.f ((rd_T56 b a).f2)).bind fun h => (if c.length < 2199023255552 then (spec_l1Copy.l0 k (wrap64 (a + 1)) e b d (c ++ [(⟨(rd_T56 b a).f0, g, h⟩ : S56)])) else (none)))) else (none)) else (some (d, c))
def spec_l1Copy.f (k : Nat) (a7 : List ByteArray) (a4 : List (S56)) : Option (List ByteArray × (List (S56))) := (spec_l1Names.f a7).bind fun a => (spec_l1Copy.l0 k 0 a7 a4 a ([] : List (S56)))
def spec_l1Copy.T5 : Bool × List (List Nat × List Nat) := (true, [([], []), ([0], [0]), ([], []), ([2], [2]), ([], []), ([3, 4], [3, 4]), ([5], [5]), ([6], [6]), ([], []), ([8], [8]), ([], []), ([9, 10], [9, 10]), ([11], [11]), ([12], [12]), ([13], [13]), ([], []), ([15], [15]), ([], []), ([16, 17], [16, 17]), ([18], [18]), ([19], [19]), ([20, 14], [20]), ([7, 14, 21], [7, 14, 21]), ([22], [22]), ([1, 23, 21], [1, 23]), ([0, 1, 2, 3, 4, 5, 6, 7, 8, 9, 10, 11, 12, 13, 14, 15, 16, 17, 18, 19, 20, 21, 22, 23, 24], []), ([25, 24, 24, 0, 1, 2, 3, 4, 5, 6, 7, 8, 9, 10, 11, 12, 13, 14, 15, 16, 17, 18, 19, 20, 21, 22, 23, 24], [24, 25])])
def spec_l1Copy.B5 : List Nat := [0, 1, 0, 4, 0, 28, 60, 124, 0, 256, 0, 1792, 3840, 7936, 16128, 0, 32768, 0, 229376, 491520, 1015808, 2096896, 4194300, 8388604, 16777215, 33554431, 67108863]
theorem spec_l1Copy.tab5 : rtab .any (opsOf Try.f89 5) = spec_l1Copy.T5 := by kernel_rfl
theorem spec_l1Copy.bits5 : waitsOk spec_l1Copy.T5.2 spec_l1Copy.B5 = true := by kernel_rfl
theorem spec_l1Copy.calls (k : Nat) (bG : Option Addr) (bH : Nat) (a7 : List ByteArray) (bL : Option Addr) (bD : Nat) (a4 : List (S56)) (r1 : List ByteArray) (r2 : List (S56)) (w : World) (cZ : Kd.C Kd.string w bG a7.length a7) (cX : a7.length ≤ bH) (cU : Kd.C k56 w bL a4.length a4) (cY : a4.length ≤ bD) (h : spec_l1Copy.f k a7 a4 = some (r1, r2)) :
  Calls Try.prog 89 #[.agg #[.slice bG a7.length bH, .slice bL a4.length bD]] w fun e w' => ∃ v0_ v1_ : Value, e = .returned (.agg #[v0_, v1_]) ∧ Kd.R Kd.string 9 w' w.heap.size (fun _ => True) v0_ r1 ∧ Kd.S k56 56 w' w.heap.size (fun k_ => some k_ ≠ (v0_ : Value).ownBlock) v1_ r2 ∧ Below w.heap.size w w' := by
 have hu31 := Try.underlying31
 have hu56 := Try.underlying56
 obtain ⟨bC, bA⟩ := mZ2 cZ cX
 obtain ⟨aK, bM⟩ := mZ2 cU cY
 clear cZ cX cU cY
 have HB := am (Below.refl w.heap.size w)
 unfold spec_l1Copy.f at h
 have H := h
 clear h
 obtain ⟨bE, A2, H⟩ := bd H
 have H' := am H
 repeat clear H
 go_enter Try.func89, Try.ntmps89
 go_wp2_with (first | ((with_reducible refine gD 1 ?_); refine bX 1 #[.slice bG a7.length bH, .slice bL a4.length bD] 31 ?_; intro a6 hg w3 hbox hb; have a3 := am hbox; have bR := am (hJ : w.heap.size ≤ a6); have cJ := bR; replace HB := bS cI hb; clear hb hbox hg) | ((with_reducible refine gD 2 ?_); refine bX 2 #[.slice none 0 0, .slice none 0 0] 31 ?_; intro a8 hg w4 hbox hb; have a5 := am hbox; have eO := am (p3 : w.heap.size ≤ a8); have eZ := eO; replace HB := bS aY hb; have aU := nL aC hg; have aV := nG aC hg; replace a3 := bB aC hb; clear hb hbox hg; have Z5 := nZ1 aU aV; have Z6 := cz2 a3) | ((with_reducible refine gC 93 ?_); refine cE (some 7) Try.func93 (spec_l1Names.calls _ _ a7 bE _ (pB bC) bA.1 A2.out) ?_; rintro e w7 ⟨nO, rfl, bQ, hb⟩; refine ⟨_, rfl, ?_⟩; have eE := am (Kd.R_lower bQ (below_size eX)); replace a3 := bB aC hb; replace a5 := bB aH hb; replace HB := bS eX hb; (try clear hb); (try clear bQ); obtain ⟨KW, KX, na⟩ := Kd.R_slice eE.1; subst na) | ((with_reducible refine gD 3 ?_); refine bX 3 #[.slice none 0 0, .slice none 0 0] 31 ?_; intro JM hg w9 hbox hb; replace eE := RB uO hb; have iG := am hbox; have X5 := am (DT : w.heap.size ≤ JM); have X0 := X5; replace HB := bS eX hb; have mX := nL aC hg; have rL := nG aC hg; replace a3 := bB aC hb; have oU := nL aH hg; have vJ := nG aH hg; replace a5 := bB aH hb; clear hb hbox hg; have Y8 := nZ2 rL mX vJ oU; have R7 := cz2 iG))
 go_loopg [4] k (fun kq v4 w' => ∃ (dP : Int) (mY : List (S56)) (lP : Value), v4 = .int .i64 dP ∧ Aside0 (spec_l1Copy.l0 kq dP a7 a4 bE mY = some (r1, r2)) ∧ Aside0 (kq ≤ k) ∧ Aside0 (Kd.R Kd.string 9 w' w.heap.size (fun _ => True) (.slice KW bE.length KX) bE) ∧ Aside0 (Kd.S k56 56 w' w.heap.size (fun k_ => some k_ ≠ ((.slice KW bE.length KX) : Value).ownBlock) lP mY) ∧ Aside0 (w'.heap[a6]? = some (.cells #[(.slice bG a7.length bH), (.slice bL a4.length bD)] 31 (0, 0))) ∧ Aside0 (w'.heap[a8]? = some (.cells #[(.slice none 0 0), (.slice none 0 0)] 31 (0, 0))) ∧ Aside0 (w'.heap[JM]? = some (.cells #[(.slice KW bE.length KX), lP] 31 (0, 0))) ∧ Aside0 (Below w.heap.size w w'))
 case atStart => exact ⟨(0), (([] : List (S56))), (.slice none 0 0), aQ, H', ⟨Nat.le_refl _⟩, ⟨mR eE iG⟩, ⟨eN⟩, ⟨qF a3 mX⟩, ⟨qF a5 oU⟩, ⟨qP iG⟩, ⟨CI⟩⟩
 clear H'
 try clear R7
 try clear Z6
 obtain ⟨dP, mY, lP, rfl, HA, HK1, j6, eF, a3, a5, iG, HB⟩ := hrel
 cases gk with
 | zero => exact absurd HA.out (by simp [spec_l1Copy.l0])
 | succ k1 =>
  have H := HA.out
  clear HA
  simp only [spec_l1Copy.l0] at H
  refine ic H ?_ ?_ <;> clear H <;> intro zP H
  ·obtain ⟨DA, H⟩ := cN H
   obtain ⟨m9, EB, H⟩ := bd H
   obtain ⟨qL, CV, H⟩ := bd H
   obtain ⟨XD, H⟩ := cL H
   obtain ⟨Dx, IL⟩ := yv (mY ++ [(⟨(rd_T56 a4 dP).f0, m9, qL⟩ : S56)]); first | replace H := bW IL H | rw [← IL.1] at H
   have H' := am H
   repeat clear H
   have Mm := nZ2 aU aV mX rL
   have ku := cz2 a3
   try go_wp2
   replace j6 := RD j6
   replace eF := SD eF
   replace a3 := BD a3
   replace a5 := BD a5
   replace iG := BD iG
   replace HB := am (below_drew1 HB.1)
   obtain ⟨k9, n0, n7, n3, n8, r9, fM, fO, fP, jV, gA, gF, f4, gN, jT, o2, DS, DW⟩ := aTw56 aK HB dP
   cases r9
   obtain ⟨wK, HU, IZ, HV, J2, EX, rP, rQ, rT, rY, xR, xS, xD, AL, mJ, o3, UR, UY⟩ := aTw56 aK HB dP
   obtain rfl : k9 = wK := (by injection EX)
   obtain ⟨ea_, ec_⟩ := eZ2 gA xR
   subst ea_
   subst ec_
   obtain ⟨ea_, ec_⟩ := eZ2 gF xS
   subst ea_
   subst ec_
   obtain ⟨mE, E7, EK, E8, EL, EY, rU, rW, rX, rZ, pT, pX, xG, AO, mK, o4, JY, K6⟩ := aTw56 aK HB dP
   obtain rfl : k9 = mE := (by injection EY)
   obtain ⟨ea_, ec_⟩ := eZ2 gA pT
   subst ea_
   subst ec_
   obtain ⟨ea_, ec_⟩ := eZ2 gF pX
   subst ea_
   subst ec_
   refine sT [26] 27 (uB2 iG (uB2 a3 (uBx HB fM (uBx HB fO (uBx HB fP (uBx HB rP (uBx HB rQ (uBx HB rT (uBx HB rU (uBx HB rW (uAx HB rX))))))))))) (fun hHeld => ?_)
   refine with_tabW spec_l1Copy.tab5 spec_l1Copy.bits5 (fun HT_ HW_ => ?_)
   generalize wr.drew = HT at j6 eF a3 a5 iG HB f4 jT xD mJ xG mK jV gA gF rY xR xS rZ pT pX hHeld ⊢
   refine pU7 0 2 4 8 10 15 17 ?_
   refine tK13 1 (some 17) ?_
   refine tK13 3 (some 19) ?_
   refine pU2 5 6 ?_
   refine tK13 7 (some 23) ?_
   refine tK13 9 (some 25) ?_
   refine pU2 11 12 ?_
   refine tK13 13 (some 29) ?_
   refine tK13 16 (some 32) ?_
   refine pU2 18 19 ?_
   refine tK13 20 (some 36) ?_
   refine oN 14 (some 30) fun K hK => ?_
   refine gE Try.func93 (spec_l1Names.calls _ _ ((rd_T56 a4 dP).f1) m9 _ (pB xD) AL.1 EB.out) ?_
   rintro e KF ⟨KB, rfl, bQ, hb⟩
   refine ⟨_, rfl, ?_⟩
   replace eF := am (Kd.S_elder' K2 (Kd.R_base bQ) hb)
   have mC := am (Kd.R_lower (Kd.R_new' bQ (Kd.R_lt zZ)) (below_size CI))
   replace j6 := am (Kd.R_elder' zZ (Kd.R_base bQ) hb)
   replace a3 := bB aC hb
   replace a5 := bB aH hb
   replace iG := bB K1 hb
   replace HB := bS CI hb
   (try clear hb)
   (try clear hb2)
   (try clear hk)
   (try clear hi)
   (try clear bQ)
   refine nK hK (uB2 iG (uB2 a3 (uBx HB fM (uBx HB fO (uBx HB fP (uBx HB rP (uBx HB rQ (uBx HB rT (uBx HB rU (uBx HB rW (uAx HB rX))))))))))).1 fun hHeld => ?_
   clear hK K
   refine oN 21 (some 37) fun K hK => ?_
   refine gE Try.func93 (spec_l1Names.calls _ _ ((rd_T56 a4 dP).f2) qL _ (pB mK) o4.1 CV.out) ?_
   rintro e z5 ⟨Df, rfl, bQ, hb⟩
   refine ⟨_, rfl, ?_⟩
   replace eF := am (Kd.S_elder' K2 (Kd.R_base bQ) hb)
   have wF := am (Kd.R_lower (Kd.R_new' (Kd.R_new' bQ (Kd.R_lt zZ)) (Kd.R_lt (rR mC.1))) (below_size CI))
   replace j6 := am (Kd.R_elder' zZ (Kd.R_base bQ) hb)
   replace mC := am (Kd.R_elder' (rR mC.1) (Kd.R_base bQ) hb)
   replace a3 := bB aC hb
   replace a5 := bB aH hb
   replace iG := bB K1 hb
   replace HB := bS CI hb
   (try clear hb)
   (try clear hb2)
   (try clear hk)
   (try clear hi)
   (try clear bQ)
   obtain ⟨sB, iD, yH⟩ := Kd.R_slice wF.1
   (first | subst yH | (obtain ⟨f4_, f5_⟩ := sj yH; subst f4_; subst f5_))
   obtain ⟨Q5, RV, M3⟩ := Kd.R_slice mC.1
   (first | subst M3 | (obtain ⟨f4_, f5_⟩ := sj M3; subst f4_; subst f5_))
   refine nK hK (uB2 iG (uB2 a3 (uBx HB fM (uBx HB fO (uBx HB fP (uBx HB rP (uBx HB rQ (uBx HB rT (uBx HB rU (uBx HB rW (uAx HB rX))))))))))).1 fun hHeld => ?_
   clear hK K
   refine pU1 22 ?_
   refine oN 23 (some 39) fun K hK => ?_
   refine value_ (w1 := ?_) (v := ?_) (by rfl) rfl ?_ ?_
   rotate_left 2
   ·go_simp
    constructor
    ·rfl
    ·rfl
   refine hK.out _ _ ⟨(blk_cell (blk_alloc iG.1 _) 0).trans rfl, (blk_cell (blk_alloc iG.1 _) 1).trans rfl, (blk_cell (blk_alloc a3.1 _) 0).trans rfl, (blk_cell (blk_alloc a3.1 _) 1).trans rfl, (World.cell?_alloc_lt _ _ _ (World.block_lt_of_cell? _ _ ((hX HB fM)))).trans ((hX HB fM)), (World.cell?_alloc_lt _ _ _ (World.block_lt_of_cell? _ _ ((hX HB fO)))).trans ((hX HB fO)), (World.cell?_alloc_lt _ _ _ (World.block_lt_of_cell? _ _ ((hX HB fP)))).trans ((hX HB fP)), (World.cell?_alloc_lt _ _ _ (World.block_lt_of_cell? _ _ ((hX HB rP)))).trans ((hX HB rP)), (World.cell?_alloc_lt _ _ _ (World.block_lt_of_cell? _ _ ((hX HB rQ)))).trans ((hX HB rQ)), (World.cell?_alloc_lt _ _ _ (World.block_lt_of_cell? _ _ ((hX HB rT)))).trans ((hX HB rT)), (World.cell?_alloc_lt _ _ _ (World.block_lt_of_cell? _ _ ((hX HB rU)))).trans ((hX HB rU)), (World.cell?_alloc_lt _ _ _ (World.block_lt_of_cell? _ _ ((hX HB rW)))).trans ((hX HB rW)), (World.cell?_alloc_lt _ _ _ (World.block_lt_of_cell? _ _ ((hX HB rX)))).trans ((hX HB rX))⟩ (fun hHeld => ?_)
   clear hK K
   refine nM ?_
   refine oN 24 (some 40) fun K hK => ?_
   refine Kd.S_append_step k56 (w0 := w) w.heap.size (by rfl) (.tmp 17) (.tmp 39) 29 56 Ag0 64 rfl Try.underlying29 info56 rfl (by decide) (by omega) lP mY (⟨(rd_T56 a4 dP).f0, m9, qL⟩ : S56) [.string ((rd_T56 a4 dP).f0), .slice Q5 m9.length RV, .slice sB qL.length iD] (fun k_ => some k_ ≠ (.slice KW bE.length KX : Value).ownBlock) (fun k_ => some k_ = (.slice Q5 m9.length RV : Value).ownBlock ∨ some k_ = (.slice sB qL.length iD : Value).ownBlock) rfl rfl ?aP (fun k_ hk_ => hk_.elim (fun h_ => ((Kd.R_mono (ok' := fun k_ => ((fun k_ => some k_ ≠ (.slice KW bE.length KX : Value).ownBlock)) k_ ∧ some k_ ≠ (lP : Value).ownBlock) (Kd.R_apart' (mC.1) (Kd.S_typed eF.1) (by decide)) (fun k_ hk => ⟨hk.1.1.2, hk.2⟩))).1 k_ h_.symm) (fun h_ => ((Kd.R_mono (ok' := fun k_ => ((fun k_ => some k_ ≠ (.slice KW bE.length KX : Value).ownBlock)) k_ ∧ some k_ ≠ (lP : Value).ownBlock) (Kd.R_apart' (wF.1) (Kd.S_typed eF.1) (by decide)) (fun k_ hk => ⟨hk.1.1.2, hk.2⟩))).1 k_ h_.symm)) ?aF ?aO ?aB ?aS ?aL ?_
   (case aP => exact k56_mkM _ _ _ (⟨(rd_T56 a4 dP).f0, m9, qL⟩ : S56) (Kd.R_mono (Kd.R_tight rfl (Kd.R_mono (ok' := fun k_ => ((fun k_ => some k_ ≠ (.slice KW bE.length KX : Value).ownBlock)) k_ ∧ some k_ ≠ (lP : Value).ownBlock) (Kd.R_apart' (mC.1) (Kd.S_typed eF.1) (by decide)) (fun k_ hk => ⟨hk.1.1.2, hk.2⟩))) (fun _ h_ => Or.inl h_)) (Kd.R_mono (Kd.R_tight rfl (Kd.R_mono (ok' := fun k_ => ((fun k_ => some k_ ≠ (.slice KW bE.length KX : Value).ownBlock)) k_ ∧ some k_ ≠ (lP : Value).ownBlock) (Kd.R_apart' (wF.1) (Kd.S_typed eF.1) (by decide)) (fun k_ hk => ⟨hk.1.1.2, hk.2⟩))) (fun _ h_ => Or.inr (h_))) (sep_of mC.1 wF.1))
   (case aB => exact CI)
   (case aF => exact (fun k_ hk => Kd.fresh' (Kd.R_lt zZ) k_ hk))
   (case aO => exact (by refine rS ?_; exact Kd.S_mono eF.1 (fun k_ hk => ⟨hk.1.1, fun e_ => e_.elim (fun h_ => hk.1.2 h_) (fun h_ => hk.2 h_)⟩)))
   (case aS => exact (below_size CI))
   (case aL => have := XD.out; omega)
   intro oo Dn ho hb hg hat
   rw [← IL.out] at ho
   replace j6 := am (Kd.R_over' zZ (Kd.S_typed K2) (by decide) hg)
   replace a3 := gkS aC hg eF a3
   replace a5 := gkS aH hg eF a5
   replace iG := gkS K1 hg eF iG
   replace HB := am hb
   have NL := am ho
   clear eF
   clear mC
   clear wF
   clear ho hb hg hat
   obtain ⟨WT, ZV, M4⟩ := Kd.S_slice NL.1
   (first | subst M4 | (obtain ⟨f4_, f5_⟩ := sj M4; subst f4_; subst f5_))
   refine nK hK (uB2 iG (uB2 a3 (uBx HB fM (uBx HB fO (uBx HB fP (uBx HB rP (uBx HB rQ (uBx HB rT (uBx HB rU (uBx HB rW (uAx HB rX))))))))))).1 fun hHeld => ?_
   clear hK K
   refine pU1 25 ?_
   refine lN 26 none fun K hK => ?_
   have nk : Dn.cell? ⟨JM, 1, none⟩ = some (lP) := (blk_cell iG.1 1).trans rfl
   have Zt := blk_frozen iG.1 1
   have Jp := mX.1
   have Jq := oU.1
   have Hu := rL.1
   have Hv := vJ.1
   refine skip_ (w1 := ?_) (by rfl) rfl ?_ ?_
   rotate_left
   ·go_simp
    rfl
   refine hK.out _ _ ?_
   clear hK K
   refine dN ?_
   try go_wp2
   go_roundg k1
   case measure => have := HK1.out; omega
   case rel => exact ⟨(wrap64 (dP + 1)), (Dx), (.slice WT Dx.length ZV), aQ, H', ⟨by have := HK1.out; omega⟩, ⟨mR j6 iG⟩, ⟨mS NL iG⟩, ⟨qF a3 mX⟩, ⟨qF a5 oU⟩, ⟨by refine rB ?_; refine blk_put (cs := #[.slice KW bE.length KX, lP]) ?_ 1 _ rfl; refine rB ?_; exact iG.1⟩, ⟨CI⟩⟩
  ·obtain ⟨rfl, rfl⟩ := sZ2 H
   repeat clear H
   have ky := nZ2 aU aV mX rL
   have Uq := cz2 a3
   have Mq := nZ1 vJ oU
   have Ut := cz2 iG
   have qm := cz2 a5
   obtain ⟨ED, ER, EZ⟩ := Kd.S_slice eF.1
   subst EZ
   go_wp2
   refine cR a8 31 #[.slice KW bE.length KX, .slice ED mY.length ER] (qP a5) Try.underlying31 ?_
   exact ⟨_, _, eR, mR j6 a5, mS eF a5, CI⟩
def spec_ShareLeave.f (k : Nat) (a7 : List ByteArray) (a4 : List (S56)) (a1 : ByteArray) : Option (List ByteArray × (List (S56)) × Int) := (spec_ShareBookOk.f k a7 a4).bind fun h => (if h = true then ((spec_l1Copy.f k a7 a4).bind fun a => ((spec_l1At.f k a7 a4 a1).bind fun b => (if b < 0 then (some (a.1, a.2, 3)) else ((some (([] : List (S56)) : List (S56))).bind fun c => (if 0 ≤ b then (if b ≤ (a.2.length : Int) then ((some (a.2.take (b : Int).toNat : List (S56))).bind fun d => (if c.length + d.length < 2199023255552 then ((some (c ++ d : List (S56))).bind fun e => (if 0 ≤ (wrap64 (b + 1)) then (if (wrap64 (b + 1)) ≤ (a.2.length : Int) then ((some (a.2.drop ((wrap64 (b + 1)) : Int).toNat : List (S56))).bind fun g => (if e.length + g.length < 2199023255552 then (some (a.1, (e ++ g), 0)) else (none))) else (none)) else (none))) else (none))) else (none)) else (none)))))) else (some (([] : List ByteArray), ([] : List (S56)), 1)))
def spec_ShareLeave.T7 : Bool × List (List Nat × List Nat) := (true, [([], []), ([], []), ([1], [1]), ([], []), ([2, 3], [2, 3]), ([0, 4], [0, 4]), ([], []), ([6], [6]), ([], []), ([8], [8]), ([7, 9], [7, 9]), ([5, 10, 5], [5, 10]), ([0, 1, 2, 3, 4, 5, 6, 7, 8, 9, 10, 11], []), ([12, 11, 11, 0, 1, 2, 3, 4, 5, 6, 7, 8, 9, 10, 11], [11, 12])])
def spec_ShareLeave.B7 : List Nat := [0, 0, 2, 0, 14, 31, 0, 64, 0, 256, 960, 2047, 4095, 8191]
theorem spec_ShareLeave.tab7 : rtab .any (opsOf Try.f46 7) = spec_ShareLeave.T7 := by kernel_rfl
theorem spec_ShareLeave.bits7 : waitsOk spec_ShareLeave.T7.2 spec_ShareLeave.B7 = true := by kernel_rfl
theorem spec_ShareLeave.calls (k : Nat) (bG : Option Addr) (bH : Nat) (a7 : List ByteArray) (bL : Option Addr) (bD : Nat) (a4 : List (S56)) (a1 : ByteArray) (r1 : List ByteArray) (r2 : List (S56)) (r3 : Int) (w : World) (cZ : Kd.C Kd.string w bG a7.length a7) (cX : a7.length ≤ bH) (cU : Kd.C k56 w bL a4.length a4) (cY : a4.length ≤ bD) (h : spec_ShareLeave.f k a7 a4 a1 = some (r1, r2, r3)) :
  Calls Try.prog 46 #[.agg #[.slice bG a7.length bH, .slice bL a4.length bD], .string a1] w fun e w' => ∃ v0_ v1_ : Value, e = .returned (.tuple #[.agg #[v0_, v1_], .int .i64 r3]) ∧ Kd.R Kd.string 9 w' w.heap.size (fun k_ => (w.heap.size ≤ k_)) v0_ r1 ∧ Kd.N k56 56 w' w.heap.size (F10 w v0_) v1_ r2 ∧ Below w.heap.size w w' := by
 have hu31 := Try.underlying31
 obtain ⟨bC, bA⟩ := mZ2 cZ cX
 obtain ⟨aK, bM⟩ := mZ2 cU cY
 clear cZ cX cU cY
 have HB := am (Below.refl w.heap.size w)
 unfold spec_ShareLeave.f at h
 have H := h
 clear h
 obtain ⟨bE, A3, H⟩ := bd H
 refine tC H ?_ ?_ <;> clear H <;> intro c4 H <;> subst c4
 obtain ⟨⟨aN, b9⟩, A5, H⟩ := bd H
 dsimp only at H
 obtain ⟨aT, A6, H⟩ := bd H
 refine ic H ?_ ?_ <;> clear H <;> intro AZ H
 obtain ⟨rfl, rfl, rfl⟩ := sZ3 H
 repeat clear H
 have y7 := trivial
 have NW := trivial
 rotate_left
 obtain ⟨nQ, hy112⟩ : ∃ y_ : List (S56), y_ = (([] : List (S56))) := ⟨_, rfl⟩
 replace H : (if 0 ≤ aT then (if aT ≤ (b9.length : Int) then ((some (b9.take (aT : Int).toNat : List (S56))).bind fun wX => (if nQ.length + wX.length < 2199023255552 then ((some (nQ ++ wX : List (S56))).bind fun vY => (if 0 ≤ (wrap64 (aT + 1)) then (if (wrap64 (aT + 1)) ≤ (b9.length : Int) then ((some (b9.drop ((wrap64 (aT + 1)) : Int).toNat : List (S56))).bind fun nZ => (if vY.length + nZ.length < 2199023255552 then (some (aN, (vY ++ nZ), 0)) else (none))) else (none)) else (none))) else (none))) else (none)) else (none)) = some (r1, r2, r3) := by first | (rw [hy112]; with_reducible exact H) | (have H2_ := (Option.bind_some _ _).symm.trans H; rw [hy112]; with_reducible exact H2_) | (have H2_ := (Option.bind_some _ _).symm.trans H; with_reducible exact H2_) | with_reducible exact H | (rw [hy112]; exact H) | exact H
 have tB := am hy112
 clear hy112
 obtain ⟨zQ, Xv, H⟩ := cP H
 obtain ⟨DE, Z0, H⟩ := cP H
 obtain ⟨wX, D5, H⟩ := bY H
 obtain ⟨XF, H⟩ := cL H
 obtain ⟨vY, G5, H⟩ := bY H
 obtain ⟨ji28, hji28⟩ : ∃ j_ : Int, (wrap64 (aT + 1)) = j_ := ⟨_, rfl⟩
 replace H : (if 0 ≤ (ji28) then (if (ji28) ≤ (b9.length : Int) then ((some (b9.drop ((ji28) : Int).toNat : List (S56))).bind fun nZ => (if vY.length + nZ.length < 2199023255552 then (some (aN, (vY ++ nZ), 0)) else (none))) else (none)) else (none)) = some (r1, r2, r3) := by first | (rw [hji28] at H; exact H) | (simp only [hji28] at H ⊢; exact H)
 (try rw [hji28] at A3)
 (try rw [hji28] at A5)
 (try rw [hji28] at A6)
 have hji28w : (IntKind.i64.wrap (aT + 1)) = ji28 := (i64_w _).trans hji28
 obtain ⟨OU, Xy, H⟩ := cP H
 obtain ⟨zS, Xz, H⟩ := cP H
 obtain ⟨nZ, wI, H⟩ := bY H
 obtain ⟨D3, H⟩ := cL H
 obtain ⟨VD, IN⟩ := yv (vY ++ nZ); first | replace H := bW IN H | rw [← IN.1] at H
 obtain ⟨rfl, rfl, rfl⟩ := sZ3 H
 repeat clear H
 have y7 := trivial
 have NX := trivial
 rotate_left
 obtain ⟨rfl, rfl, rfl⟩ := sZ3 H
 repeat clear H
 have NY := trivial
 rotate_left
 all_goals
  go_enter Try.func46, Try.ntmps46
  try go_wp2_with (first | ((with_reducible refine gD 2 ?_); refine bX 2 #[.slice bG a7.length bH, .slice bL a4.length bD] 31 ?_; intro a6 hg eq hbox hb; have a3 := am hbox; have bR := am (hJ : w.heap.size ≤ a6); have cJ := bR; replace HB := bS cI hb; clear hb hbox hg) | ((with_reducible refine gD 4 ?_); refine bX 4 #[.slice none 0 0, .slice none 0 0] 31 ?_; intro a8 hg er hbox hb; have a5 := am hbox; have eO := am (p3 : w.heap.size ≤ a8); have eZ := eO; replace HB := bS aY hb; have aU := nL aC hg; have aV := nG aC hg; replace a3 := bB aC hb; clear hb hbox hg; have Va := nZ1 aU aV; have Vb := cz2 a3) | ((with_reducible refine gC 22 ?_); revert y7; intro y7; refine cQ (some 9) Try.func22 (spec_ShareBookOk.calls k _ _ a7 _ _ a4 true _ (pB bC) bA.1 (pB aK) bM.1 A3.out) ?_; rintro es hb; replace a3 := bB aC hb; replace a5 := bB aH hb; replace HB := bS eX hb; (try clear hb); have Vc := cz2 a3) | ((with_reducible refine gC 89 ?_); revert y7; intro y7; refine cE (some 13) Try.func89 (spec_l1Copy.calls k _ _ a7 _ _ a4 aN b9 _ (pB bC) bA.1 (pB aK) bM.1 A5.out) ?_; rintro e et ⟨sG, qN, rfl, bQ, gY, hb⟩; refine ⟨_, rfl, ?_⟩; have aX := am (Kd.R_lower (Kd.R_newM (M := fun k_ => (w.heap.size ≤ k_)) bQ (below_size eX) (fun k_ h_ => h_)) (below_size eX)); have bV := am (Kd.N_lower (Kd.N_mono (ok' := F12 w sG a6 a8) (Kd.S_N (Kd.S_bound gY)) (fun k_ hk_ => ⟨(Nat.le_trans (below_size eX) hk_.2.1), hk_.1, (fB aC k_ hk_.2.1), (fB aH k_ hk_.2.1)⟩)) (below_size eX)); replace a3 := bB aC hb; replace a5 := bB aH hb; replace HB := bS eX hb; (try clear hb); (try clear bQ); (try clear gY)) | ((with_reducible refine gD 6 ?_); revert y7; intro y7; refine bX 6 #[.slice none 0 0, .slice none 0 0] 31 ?_; intro aI hg eu hbox hb; replace aX := RB iX hb; replace bV := am (Kd.N_below (Kd.N_elderB lA aI (Nat.le_of_eq hg.symm)) hb); have aE := am hbox; have qV := am (DT : w.heap.size ≤ aI); have sK := qV; replace HB := bS eX hb; have cC := nL aC hg; have d6 := nG aC hg; replace a3 := bB aC hb; have cO := nL aH hg; have dG := nG aH hg; replace a5 := bB aH hb; clear hb hbox hg; obtain ⟨gT, gX, SX⟩ := Kd.R_slice aX.1; subst SX; have Ve := nZ2 d6 cC dG cO; have Vf := cz2 aE; obtain ⟨kG, jL, SY⟩ := Kd.N_slice bV.1; subst SY; have Vg := cz2 a3) | ((with_reducible refine gC 82 ?_); revert NW; intro NW; refine cQ (some 16) Try.func82 (spec_l1At.calls k _ _ a7 _ _ a4 a1 aT _ (Kd.C_below bC.1 cB) bA.1 (Kd.C_below aK.1 cB) bM.1 A6.out) ?_; rintro ev hb; replace aX := am (Kd.R_below (by refine rR ?_; exact (Kd.R_mono (fR (fR (tR aX aE))) (fun _ h_ => h_.1))) hb); replace bV := am (Kd.N_below (by refine rN ?_; exact (Kd.N_mono (fN (fN (Kd.N_mono bV.1 (fun k_ hk => (⟨hk, hk.2⟩ : _ ∧ k_ ≠ aI))))) (fun _ h_ => h_.1))) hb); replace a3 := am (blk_below (g := a6) (o := .cells #[.slice bG a7.length bH, .slice bL a4.length bD] 31 (0, 0)) UW hb); replace a5 := am (blk_below (g := a8) (o := .cells #[.slice none 0 0, .slice none 0 0] 31 (0, 0)) UX hb); replace aE := am (blk_below (g := aI) (o := .cells #[.slice gT aN.length gX, .slice kG b9.length jL] 31 (0, 0)) (qP aE) hb); replace HB := bS cB hb; (try clear hb); (try clear hk); have Vh := cz2 aE; have Vi := cz2 a5) | ((with_reducible refine gC 82 ?_); revert NX; intro NX; refine cQ (some 16) Try.func82 (spec_l1At.calls k _ _ a7 _ _ a4 a1 aT _ (Kd.C_below bC.1 cB) bA.1 (Kd.C_below aK.1 cB) bM.1 A6.out) ?_; rintro Dt hb; replace aX := am (Kd.R_below (by refine rR ?_; exact (Kd.R_mono (fR (fR (tR aX aE))) (fun _ h_ => h_.1))) hb); replace bV := am (Kd.N_below (by refine rN ?_; exact (Kd.N_mono (fN (fN (Kd.N_mono bV.1 (fun k_ hk => (⟨hk, hk.2⟩ : _ ∧ k_ ≠ aI))))) (fun _ h_ => h_.1))) hb); replace a3 := am (blk_below (g := a6) (o := .cells #[.slice bG a7.length bH, .slice bL a4.length bD] 31 (0, 0)) UW hb); replace a5 := am (blk_below (g := a8) (o := .cells #[.slice none 0 0, .slice none 0 0] 31 (0, 0)) UX hb); replace aE := am (blk_below (g := aI) (o := .cells #[.slice gT aN.length gX, .slice kG b9.length jL] 31 (0, 0)) (qP aE) hb); replace HB := bS cB hb; (try clear hb); (try clear hk)) | ((with_reducible refine gC 22 ?_); revert NY; intro NY; refine cQ (some 9) Try.func22 (spec_ShareBookOk.calls k _ _ a7 _ _ a4 false _ (pB bC) bA.1 (pB aK) bM.1 A3.out) ?_; rintro ew hb; replace a3 := bB aC hb; replace a5 := bB aH hb; replace HB := bS eX hb; (try clear hb); have Vj := cz2 a5))
 ·refine cT a8 31 #[.slice gT aN.length gX, .slice kG b9.length jL] (qP a5) Try.underlying31 ?_
  exact ⟨_, _, eR, mR aX a5, by refine rN ?_; exact Kd.N_mono (fN (fN (Kd.N_mono bV.1 (fun k_ hk => (⟨hk, hk.1.2.2.2⟩ : _ ∧ k_ ≠ a8))))) (fun _ hk => ⟨hk.1.1.1, hk.1.1.2.1⟩), cB⟩
 ·replace aX := RD aX
  replace bV := ND bV
  replace a3 := BD a3
  replace a5 := BD a5
  replace aE := BD aE
  replace HB := am (below_drew1 HB.1)
  have Rg : (aT : Int) ≤ ((b9.length : Int) : Int) := oT
  obtain ⟨i048, PH, _, hsz48, _⟩ := info_parts info56
  have hroom48 : b9.length ≤ jL := (Kd.N_reads' bV.1).2.1
  have hC48 : Kd.F k56 _ _ kG b9.length b9 := (Kd.V_at (base := w.heap.size) (Kd.N_V bV.1)).2.2
  have hcut48 := cut_to (P := Try.prog) 29 56 .i64 Try.underlying29 PH kG b9.length jL aT (oT) Rg hroom48
  have UI := Kd.F_take (m := (aT : Int).toNat) hC48 (by omega)
  have hy48 : wX.length = (aT : Int).toNat := (by rw [D5.out, List.length_take]; omega)
  rw [← D5.out] at UI
  rw [← hy48] at hcut48
  have mD := am (show Kd.V k56 56 _ w.heap.size _ (.slice kG wX.length jL) wX from Kd.V_mk (by omega) UI)
  have Tq := am (show wX.length ≤ jL from by omega)
  clear UI hC48 hroom48 PH hsz48
  have KY48 := am hy48
  clear hy48
  replace Rg := eq_true Rg
  have Rh : ((ji28) : Int) ≤ ((b9.length : Int) : Int) := oT
  obtain ⟨i049, PI, _, hsz49, _⟩ := info_parts info56
  have hroom49 : b9.length ≤ jL := (Kd.N_reads' bV.1).2.1
  have hC49 : Kd.F k56 _ _ kG b9.length b9 := (Kd.V_at (base := w.heap.size) (Kd.N_V bV.1)).2.2
  have Qz : (0 : Int) ≤ ((ji28) : Int) := oT
  have hcut49 := cut_from (P := Try.prog) 29 56 .i64 Try.underlying29 PI 3 hsz49 kG b9.length jL (ji28) Qz Rh
  have JV := Kd.F_cut (m := ((ji28) : Int).toNat) (c := jL) hC49 (by omega) hroom49
  obtain ⟨Tf, hA49⟩ : ∃ A1, A1 = (if jL = ((ji28) : Int).toNat then kG else (kG : Option Addr).map (·.add (((ji28) : Int).toNat * 3))) := ⟨_, rfl⟩
  obtain ⟨zT, MD⟩ : ∃ c1, c1 = jL - ((ji28) : Int).toNat := ⟨_, rfl⟩
  have hy49 : nZ.length = b9.length - ((ji28) : Int).toNat := (by rw [wI.out, List.length_drop] <;> omega)
  rw [show (b9).drop ((ji28) : Int).toNat = nZ from wI.out.symm] at JV
  replace JV : Kd.F k56 _ _ Tf nZ.length nZ := (by rw [hA49]; exact JV)
  rw [← hy49, ← hA49, ← MD] at hcut49
  have g6 := am (show Kd.V k56 56 _ w.heap.size _ (.slice Tf nZ.length zT) nZ from Kd.V_mk (by rw [hy49, MD]; exact Nat.sub_le_sub_right hroom49 _) JV)
  have Tt := am (show nZ.length ≤ zT from by rw [hy49, MD]; exact Nat.sub_le_sub_right hroom49 _)
  clear JV hC49 hroom49 PI hsz49 MD
  have KY49 := am hy49
  have KA49 := am hA49
  clear hy49 hA49
  replace Rh := eq_true Rh
  refine sT [13] 14 (uA2 aE) (fun hHeld => ?_)
  refine with_tabW spec_ShareLeave.tab7 spec_ShareLeave.bits7 (fun HT_ HW_ => ?_)
  generalize Dt.drew = So at aX bV a3 a5 aE HB mD g6 hHeld ⊢
  refine pU5 1 3 6 8 9 ?_
  refine tK2 2 (some 22) ?_
  refine pU1 4 ?_
  refine tK2 7 (some 27) ?_
  refine pU1 10 ?_
  refine oN 0 (some 20) fun K hK => ?_
  refine Kd.N_lit_step k56 _ 56 ?hg (N' := 20) ?hd (xs := ([] : List (S56))) (inner := []) (ok := (F23 w (.slice gT aN.length gX) (.slice kG b9.length jL) a6 a8 aI)) (okp := (F23 w (.slice gT aN.length gX) (.slice kG b9.length jL) a6 a8 aI)) ?hr ?hp (fun _ hk => hk) ((show ∀ k_, So.heap.size ≤ k_ → (F23 w (.slice gT aN.length gX) (.slice kG b9.length jL) a6 a8 aI) k_ from fun k_ hk => ⟨(Nat.le_trans (below_size cB) hk), Kd.fresh' (Kd.R_lt iX) k_ hk, Kd.fresh' (Kd.N_lt lA) k_ hk, fB aC k_ hk, fB aH k_ hk, fB dL k_ hk⟩) _ (Nat.le_refl _)) (Below.refl _ _) (Nat.le_refl _) (by simp) ?_; (case hd => rfl); (case hg => rfl); (case hr => first | (go_simp; done) | (go_simp; rfl)); (case hp => exact (Reps.none _ _))
  intro sH em DN hb hg_ hnew_
  clear hg_ hnew_
  (first | rw [← tB.out] at DN | (simp only [Int.reduceToNat] at DN; rw [← tB.out] at DN))
  replace aX := RB iX hb
  replace bV := am (Kd.N_elder' lA (Kd.N_base DN) hb)
  replace mD := am (Kd.V_elder' (rV mD.1) (Kd.N_base DN) hb)
  replace g6 := am (Kd.V_elder' (rV g6.1) (Kd.N_base DN) hb)
  have f9 := am (Kd.N_lower DN (below_size cB))
  replace a3 := bB aC hb
  replace a5 := bB aH hb
  replace aE := bB dL hb
  replace HB := bS cB hb
  clear hb DN
  refine nK hK (uA2 aE).1 fun hHeld => ?_
  clear hK K
  refine oN 5 (some 25) fun K hK => ?_
  refine Kd.N_append_rows_step k56 (w0 := w) w.heap.size (by rfl) (.tmp 20) (.tmp 24) 29 56 Ag0 64 rfl Try.underlying29 info56 rfl (by decide) (by omega) sH nQ wX _ _ _ (F13 w (.slice gT aN.length gX) a6 a8 aI) (FA (F13 w (.slice gT aN.length gX) a6 a8 aI) sH) rfl rfl ?aO ?aR (fun _ hk => hk) ?aF ?aB ?aS ?aL ?_
  (case aR => exact (by skip; exact Kd.V_F (Kd.V_mono (ok' := (FA (F13 w (.slice gT aN.length gX) a6 a8 aI) sH)) (mD.1) (fun k_ hk => ⟨⟨hk.1.1.1, ⟨hk.1.1.2.1, ⟨hk.1.1.2.2.1, ⟨hk.1.1.2.2.2, hk.1.2⟩⟩⟩⟩, hk.2⟩))))
  (case aB => exact cB)
  (case aF => exact (fun k_ hk => ⟨(Nat.le_trans (below_size cB) hk), Kd.fresh' (Kd.R_lt iX) k_ hk, fB aC k_ hk, fB aH k_ hk, fB dL k_ hk⟩))
  (case aO => exact (by refine rN ?_; exact Kd.N_mono f9.1 (fun _ hk => ⟨hk.1, ⟨hk.2.1, ⟨hk.2.2.2.1, ⟨hk.2.2.2.2.1, hk.2.2.2.2.2⟩⟩⟩⟩)))
  (case aS => exact (below_size cB))
  (case aL => have := XF.out; omega)
  intro wW sd ho hb hg hat
  rw [← G5.out] at ho
  replace a3 := gkN aC hg f9 a3
  replace a5 := gkN aH hg f9 a5
  replace aX := am (Kd.R_over' iX (Kd.N_typed (rN f9.1)) (by decide) hg)
  replace bV := am (Kd.N_afterv (ok := (F13 w (.slice gT aN.length gX) a6 a8 aI)) (by refine rN ?_; exact Kd.N_mono bV.1 (fun _ hk => ⟨⟨hk.1.1.1, ⟨hk.1.1.2.1, ⟨hk.1.1.2.2.1, ⟨hk.1.1.2.2.2, hk.1.2⟩⟩⟩⟩, hk.2⟩)) hg hat)
  replace aE := gkN dL hg f9 aE
  replace mD := am (Kd.V_afterv (ok := (F13 w (.slice gT aN.length gX) a6 a8 aI)) (by refine rV ?_; exact Kd.V_mono mD.1 (fun _ hk => ⟨⟨hk.1.1.1, ⟨hk.1.1.2.1, ⟨hk.1.1.2.2.1, ⟨hk.1.1.2.2.2, hk.1.2⟩⟩⟩⟩, hk.2⟩)) hg hat)
  replace g6 := am (Kd.V_afterv (ok := (F13 w (.slice gT aN.length gX) a6 a8 aI)) (by refine rV ?_; exact Kd.V_mono g6.1 (fun _ hk => ⟨⟨hk.1.1.1, ⟨hk.1.1.2.1, ⟨hk.1.1.2.2.1, ⟨hk.1.1.2.2.2, hk.1.2⟩⟩⟩⟩, hk.2⟩)) hg hat)
  replace HB := am hb
  have fE := am ho
  clear f9
  clear ho hb hg hat
  refine nK hK (uA2 aE).1 fun hHeld => ?_
  clear hK K
  refine oN 11 (some 31) fun K hK => ?_
  refine Kd.N_append_rows_step k56 (w0 := w) w.heap.size (by rfl) (.tmp 25) (.tmp 30) 29 56 Ag0 64 rfl Try.underlying29 info56 rfl (by decide) (by omega) wW vY nZ _ _ _ (F13 w (.slice gT aN.length gX) a6 a8 aI) (FA (F13 w (.slice gT aN.length gX) a6 a8 aI) wW) rfl rfl ?aO ?aR (fun _ hk => hk) ?aF ?aB ?aS ?aL ?_
  (case aR => exact (by skip; exact Kd.V_F (Kd.V_mono (ok' := (FA (F13 w (.slice gT aN.length gX) a6 a8 aI) wW)) (g6.1) (fun k_ hk => ⟨⟨hk.1.1, ⟨hk.1.2.1, ⟨hk.1.2.2.1, ⟨hk.1.2.2.2.1, hk.1.2.2.2.2⟩⟩⟩⟩, hk.2⟩))))
  (case aB => exact cB)
  (case aF => exact (fun k_ hk => ⟨(Nat.le_trans (below_size cB) hk), Kd.fresh' (Kd.R_lt iX) k_ hk, fB aC k_ hk, fB aH k_ hk, fB dL k_ hk⟩))
  (case aO => exact (rN fE.1))
  (case aS => exact (below_size cB))
  (case aL => have := D3.out; omega)
  intro Di qf ho hb hg hat
  rw [← IN.out] at ho
  replace a3 := gkN aC hg fE a3
  replace a5 := gkN aH hg fE a5
  replace aX := am (Kd.R_over' iX (Kd.N_typed (rN fE.1)) (by decide) hg)
  replace bV := am (Kd.N_afterv (ok := (F13 w (.slice gT aN.length gX) a6 a8 aI)) lA hg hat)
  replace aE := gkN dL hg fE aE
  replace mD := am (Kd.V_afterv (ok := (F13 w (.slice gT aN.length gX) a6 a8 aI)) (rV mD.1) hg hat)
  replace g6 := am (Kd.V_afterv (ok := (F13 w (.slice gT aN.length gX) a6 a8 aI)) (rV g6.1) hg hat)
  replace HB := am hb
  have o5 := am ho
  clear fE
  clear ho hb hg hat
  obtain ⟨Q9, RY, Aq⟩ := Kd.N_slice o5.1
  (first | subst Aq | (obtain ⟨f4_, f5_⟩ := sj Aq; subst f4_; subst f5_))
  refine nK hK (uA2 aE).1 fun hHeld => ?_
  clear hK K
  refine pU1 12 ?_
  refine lN 13 none fun K hK => ?_
  have nt : qf.cell? ⟨aI, 1, none⟩ = some (.slice kG b9.length jL) := (blk_cell aE.1 1).trans rfl
  have Zz := blk_frozen aE.1 1
  have Jz := cC.1
  have Ka := cO.1
  have If := d6.1
  have Ig := dG.1
  refine skip_ (w1 := ?_) (by rfl) rfl ?_ ?_
  rotate_left
  ·go_simp
   rfl
  refine hK.out _ _ ?_
  clear hK K
  refine dN ?_
  have lg := cz2 aE
  have Vd := cz2 a5
  try go_wp2
  refine cT a8 31 #[.slice gT aN.length gX, .slice Q9 VD.length RY] (by refine rB ?_; refine blk_put (cs := #[.slice gT aN.length gX, .slice none 0 0]) ?_ 1 _ rfl; refine rB ?_; refine blk_put (cs := #[.slice none 0 0, .slice none 0 0]) ?_ 0 _ rfl; refine rB ?_; refine blk_far ?_ cO.1 _; refine rB ?_; exact a5.1) Try.underlying31 ?_
  exact ⟨_, _, by first | rfl | (simp [errW_none, errW_some] <;> rfl) | (simp only [← hji28]; first | rfl | (simp [errW_none, errW_some] <;> rfl)) | (simp [*, errW_none, errW_some] <;> rfl), by refine rR ?_; exact Kd.R_mono (fR (fR (Kd.R_far (p := ⟨aI, 1, none⟩) (Kd.R_types (tR aX aE) a5.1 (by decide)) (fun _ hk => hk.1.2) (.slice Q9 VD.length RY)))) (fun _ hk => hk.1.1.1), by refine rN ?_; exact Kd.N_mono (fN (fN (Kd.N_far (p := ⟨aI, 1, none⟩) (Kd.N_mono (Kd.N_mono o5.1 (fun k_ hk => (⟨hk, hk.2.2.2.2⟩ : _ ∧ k_ ≠ aI))) (fun k_ hk => (⟨hk, hk.1.2.2.2.1⟩ : _ ∧ k_ ≠ a8))) (fun _ hk => hk.1.2) (.slice Q9 VD.length RY)))) (fun _ hk => ⟨hk.1.1.1, hk.1.1.2.1⟩), cB⟩
 refine cT a8 31 #[.slice none 0 0, .slice none 0 0] Ct Try.underlying31 ?_
 exact ⟨_, _, eR, by first | exact Kd.R_nil _ _ _ _ _ | exact Kd.N_nil _ _ _ _ _ | exact Kd.V_nil _ _ _ _ _ | exact Kd.Q_nil _ _ _ _ _ | exact Kd.S_nil _ _ _ _ _, by first | exact Kd.S_nil _ _ _ _ _ | exact Kd.N_nil _ _ _ _ _ | exact Kd.V_nil _ _ _ _ _ | exact Kd.Q_nil _ _ _ _ _ | exact Kd.R_nil _ _ _ _ _, eX⟩
theorem k56_mkF2 (W : World) (ok : Nat → Prop) (x : S56) {A1 : Option Addr} {c1 e base : Nat} {v2 : Value} (l1 : x.f1.length ≤ c1) (g1 : Kd.F Kd.string W ok A1 x.f1.length x.f1) (h : Kd.R Kd.string e W base ok v2 x.f2) : Kd.FK k56 W ok x [.string x.f0, .slice A1 x.f1.length c1, v2] := by
 obtain ⟨A, c, rfl⟩ := Kd.R_slice h
 exact k56_mkF W ok x l1 g1 (Kd.R_reads' h).2.1 (Kd.R_F h)
theorem k56_mkF1 (W : World) (ok : Nat → Prop) (x : S56) {A2 : Option Addr} {c2 e base : Nat} {v1 : Value} (h : Kd.R Kd.string e W base ok v1 x.f1) (l2 : x.f2.length ≤ c2) (g2 : Kd.F Kd.string W ok A2 x.f2.length x.f2) : Kd.FK k56 W ok x [.string x.f0, v1, .slice A2 x.f2.length c2] := by
 obtain ⟨A, c, rfl⟩ := Kd.R_slice h
 exact k56_mkF W ok x (Kd.R_reads' h).2.1 (Kd.R_F h) l2 g2
def spec_ShareLess.l0 : Nat → List ByteArray → Int → List ByteArray → Int → List ByteArray → List (S56) → List ByteArray → List (S56) → Option (List ByteArray × (List (S56)) × Int)
 | 0, _, _, _, _, _, _, _, _ => none
 | k + 1, e, a, g, b, j, c, h, d => if 0 ≤ a then (if a < (c.length : Int) then (if b < (((rd_T56 c a).f1).length : Int) then (if 0 ≤ b then ((spec_l1Has.f k e (rdOf ByteArray.empty ((rd_T56 c a).f1) b)).bind fun m => (if m = true then (if g.length < 8796093022208 then (spec_ShareLess.l0 k e a (g ++ [rdOf ByteArray.empty ((rd_T56 c a).f1) b]) (wrap64 (b + 1)) j c h d) else (none)) else (spec_ShareLess.l0 k e a g (wrap64 (b + 1)) j c h d))) else (none)) else ((spec_l1Names.f e).bind fun n => (if a < (d.length : Int) then ((some (d.set (a : Int).toNat (⟨(rd_T56 d a).f0, (rd_T56 d a).f1, n⟩ : S56) : List (S56))).bind fun i => ((spec_l1Copy.f k h (i.set (a : Int).toNat (⟨(rd_T56 i a).f0, g, (rd_T56 i a).f2⟩ : S56))).bind fun l => (some (l.1, l.2, 0)))) else (none)))) else (none)) else (none)
def spec_ShareLess.f (k : Nat) (a7 : List ByteArray) (a4 : List (S56)) (a1 : ByteArray) (l2 : List ByteArray) : Option (List ByteArray × (List (S56)) × Int) := (spec_ShareBookOk.f k a7 a4).bind fun c => (if c = true then ((spec_l1Copy.f k a7 a4).bind fun a => ((spec_l1At.f k a7 a4 a1).bind fun b => (if b < 0 then (some (a.1, a.2, 3)) else (if 0 ≤ b then (if b < (a4.length : Int) then ((spec_l1NamesOk.f k l2 ((rd_T56 a4 b).f2)).bind fun d => (if d = true then (spec_ShareLess.l0 k l2 b (([] : List ByteArray)) 0 a7 a4 a.1 a.2) else (some (a.1, a.2, 2)))) else (none)) else (none))))) else (some (([] : List ByteArray), ([] : List (S56)), 1)))
def spec_ShareLess.T15 : Bool × List (List Nat × List Nat) := (true, [([], []), ([0], [0]), ([], []), ([], []), ([3], [3]), ([1, 2, 0, 1, 2, 3, 4], [1, 2]), ([5, 0, 1, 2, 3, 4], [5]), ([6, 4, 4, 0, 1, 2, 3, 4], [4, 6])])
def spec_ShareLess.B15 : List Nat := [0, 1, 0, 0, 8, 31, 63, 127]
theorem spec_ShareLess.tab15 : rtab .any (opsOf Try.f49 15) = spec_ShareLess.T15 := by kernel_rfl
theorem spec_ShareLess.bits15 : waitsOk spec_ShareLess.T15.2 spec_ShareLess.B15 = true := by kernel_rfl
theorem spec_ShareLess.calls (k : Nat) (bG : Option Addr) (bH : Nat) (a7 : List ByteArray) (bL : Option Addr) (bD : Nat) (a4 : List (S56)) (a1 : ByteArray) (A2 : Option Addr) (c2 : Nat) (l2 : List ByteArray) (r1 : List ByteArray) (r2 : List (S56)) (r3 : Int) (w : World) (cZ : Kd.C Kd.string w bG a7.length a7) (cX : a7.length ≤ bH) (cU : Kd.C k56 w bL a4.length a4) (cY : a4.length ≤ bD) (DR : Kd.C Kd.string w A2 l2.length l2) (DM : l2.length ≤ c2) (h : spec_ShareLess.f k a7 a4 a1 l2 = some (r1, r2, r3)) :
  Calls Try.prog 49 #[.agg #[.slice bG a7.length bH, .slice bL a4.length bD], .string a1, .slice A2 l2.length c2] w fun e w' => ∃ v0_ v1_ : Value, e = .returned (.tuple #[.agg #[v0_, v1_], .int .i64 r3]) ∧ Kd.R Kd.string 9 w' w.heap.size (fun k_ => (w.heap.size ≤ k_)) v0_ r1 ∧ Kd.N k56 56 w' w.heap.size (F10 w v0_) v1_ r2 ∧ Below w.heap.size w w' := by
 have hu31 := Try.underlying31
 obtain ⟨bC, bA⟩ := mZ2 cZ cX
 obtain ⟨aK, bM⟩ := mZ2 cU cY
 obtain ⟨sU, oL⟩ := mZ2 DR DM
 clear cZ cX cU cY DR DM
 have HB := am (Below.refl w.heap.size w)
 unfold spec_ShareLess.f at h
 have H := h
 clear h
 obtain ⟨bE, A4, H⟩ := bd H
 refine tC H ?_ ?_ <;> clear H <;> intro c5 H <;> subst c5
 ·obtain ⟨⟨aN, b9⟩, A6, H⟩ := bd H
  dsimp only at H
  obtain ⟨aT, A7, H⟩ := bd H
  refine ic H ?_ ?_ <;> clear H <;> intro sD H
  ·obtain ⟨rfl, rfl, rfl⟩ := sZ3 H
   repeat clear H
   go_enter Try.func49, Try.ntmps49
   go_wp2_with (first | ((with_reducible refine gate_dst (N := 3) rfl ?_); refine box_event ?hg (N := 3) ?hd (cs := #[.slice bG a7.length bH, .slice bL a4.length bD]) (t := 31) ?hr ?_; (case hd => rfl); (case hg => rfl); (case hr => (try (obtain ⟨Az_, cz_, ez_⟩ := Kd.R_slice fU.1; subst ez_)); first | (go_simp; done) | (go_simp; rfl)); intro a6 hg w9 hbox hb; have a3 := am hbox; have bR := am (hJ : w.heap.size ≤ a6); have cJ := bR; replace HB := bS cI hb; clear hb hbox hg) | ((with_reducible refine gate_dst (N := 6) rfl ?_); refine box_event ?hg (N := 6) ?hd (cs := #[.slice none 0 0, .slice none 0 0]) (t := 31) ?hr ?_; (case hd => rfl); (case hg => rfl); (case hr => (try (obtain ⟨Az_, cz_, ez_⟩ := Kd.R_slice fU.1; subst ez_)); first | (go_simp; done) | (go_simp; rfl)); intro a8 hg Sc hbox hb; have a5 := am hbox; have eO := am (p3 : w.heap.size ≤ a8); have eZ := eO; replace HB := bS aY hb; have aU := nL aC hg; have aV := nG aC hg; replace a3 := bB aC hb; clear hb hbox hg; have LT := nZ1 aU aV; have R7 := cz2 a3) | ((with_reducible refine gC 22 ?_); refine cQ (some 13) Try.func22 (spec_ShareBookOk.calls k _ _ a7 _ _ a4 true _ (pB bC) bA.1 (pB aK) bM.1 A4.out) ?_; rintro KD hb; replace a3 := bB aC hb; replace a5 := bB aH hb; replace HB := bS eX hb; (try clear hb); have km := cz2 a3) | ((with_reducible refine gC 89 ?_); refine cE (some 17) Try.func89 (spec_l1Copy.calls k _ _ a7 _ _ a4 aN b9 _ (pB bC) bA.1 (pB aK) bM.1 A6.out) ?_; rintro e Dm ⟨sG, qN, rfl, bQ, gY, hb⟩; refine ⟨_, rfl, ?_⟩; have aX := am (Kd.R_lower (Kd.R_newM (M := fun k_ => (w.heap.size ≤ k_)) bQ (below_size eX) (fun k_ h_ => h_)) (below_size eX)); have bV := am (Kd.N_lower (Kd.N_mono (ok' := F12 w sG a6 a8) (Kd.S_N (Kd.S_bound gY)) (fun k_ hk_ => ⟨(Nat.le_trans (below_size eX) hk_.2.1), hk_.1, (fB aC k_ hk_.2.1), (fB aH k_ hk_.2.1)⟩)) (below_size eX)); replace a3 := bB aC hb; replace a5 := bB aH hb; replace HB := bS eX hb; (try clear hb); (try clear bQ); (try clear gY)) | ((with_reducible refine gate_dst (N := 8) rfl ?_); refine box_event ?hg (N := 8) ?hd (cs := #[.slice none 0 0, .slice none 0 0]) (t := 31) ?hr ?_; (case hd => rfl); (case hg => rfl); (case hr => (try (obtain ⟨Az_, cz_, ez_⟩ := Kd.R_slice fU.1; subst ez_)); first | (go_simp; done) | (go_simp; rfl)); intro aI hg qe hbox hb; replace aX := RB iX hb; replace bV := am (Kd.N_below (Kd.N_elderB lA aI (Nat.le_of_eq hg.symm)) hb); have aE := am hbox; have qV := am (DT : w.heap.size ≤ aI); have sK := qV; replace HB := bS eX hb; have cC := nL aC hg; have d6 := nG aC hg; replace a3 := bB aC hb; have cO := nL aH hg; have dG := nG aH hg; replace a5 := bB aH hb; clear hb hbox hg; obtain ⟨yP, e6, JJ⟩ := Kd.R_slice aX.1; subst JJ; have Mm := nZ2 d6 cC dG cO; have ku := cz2 aE; obtain ⟨L1, LW, M1⟩ := Kd.N_slice bV.1; subst M1; have Mn := cz2 a3) | ((with_reducible refine gC 82 ?_); refine cQ (some 20) Try.func82 (spec_l1At.calls k _ _ a7 _ _ a4 a1 aT _ (Kd.C_below bC.1 cB) bA.1 (Kd.C_below aK.1 cB) bM.1 A7.out) ?_; rintro z5 hb; replace aX := am (Kd.R_below (by refine rR ?_; exact (Kd.R_mono (fR (fR (tR aX aE))) (fun _ h_ => h_.1))) hb); replace bV := am (Kd.N_below (by refine rN ?_; exact (Kd.N_mono (fN (fN (Kd.N_mono bV.1 (fun k_ hk => (⟨hk, hk.2⟩ : _ ∧ k_ ≠ aI))))) (fun _ h_ => h_.1))) hb); replace a3 := am (blk_below (g := a6) (o := .cells #[.slice bG a7.length bH, .slice bL a4.length bD] 31 (0, 0)) UW hb); replace a5 := am (blk_below (g := a8) (o := .cells #[.slice none 0 0, .slice none 0 0] 31 (0, 0)) UX hb); replace aE := am (blk_below (g := aI) (o := .cells #[.slice yP aN.length e6, .slice L1 b9.length LW] 31 (0, 0)) (qP aE) hb); replace HB := bS cB hb; (try clear hb); (try clear hk); have Mo := cz2 aE; have kx := cz2 a5))
   refine cT a8 31 #[.slice yP aN.length e6, .slice L1 b9.length LW] (qP a5) Try.underlying31 ?_
   exact ⟨_, _, eR, mR aX a5, by refine rN ?_; exact Kd.N_mono (fN (fN (Kd.N_mono bV.1 (fun k_ hk => (⟨hk, hk.1.2.2.2⟩ : _ ∧ k_ ≠ a8))))) (fun _ hk => ⟨hk.1.1.1, hk.1.1.2.1⟩), cB⟩
  obtain ⟨DE, H⟩ := cN H
  obtain ⟨zR, H⟩ := cN H
  obtain ⟨qL, WL, H⟩ := bd H
  refine tC H ?_ ?_ <;> clear H <;> intro RS H <;> subst RS
  ·obtain ⟨Dw, hy114⟩ : ∃ y_ : List ByteArray, y_ = (([] : List ByteArray)) := ⟨_, rfl⟩
   replace H : (spec_ShareLess.l0 k l2 aT Dw 0 a7 a4 aN b9) = some (r1, r2, r3) := by first | (rw [hy114]; with_reducible exact H) | (have H2_ := (Option.bind_some _ _).symm.trans H; rw [hy114]; with_reducible exact H2_) | (have H2_ := (Option.bind_some _ _).symm.trans H; with_reducible exact H2_) | with_reducible exact H | (rw [hy114]; exact H) | exact H
   have OD := am hy114
   clear hy114
   have H' := am H
   repeat clear H
   go_enter Try.func49, Try.ntmps49
   go_wp2_with (first | ((with_reducible refine gate_dst (N := 3) rfl ?_); refine box_event ?hg (N := 3) ?hd (cs := #[.slice bG a7.length bH, .slice bL a4.length bD]) (t := 31) ?hr ?_; (case hd => rfl); (case hg => rfl); (case hr => (try (obtain ⟨Az_, cz_, ez_⟩ := Kd.R_slice fU.1; subst ez_)); first | (go_simp; done) | (go_simp; rfl)); intro a6 hg Do hbox hb; have a3 := am hbox; have bR := am (hJ : w.heap.size ≤ a6); have cJ := bR; replace HB := bS cI hb; clear hb hbox hg) | ((with_reducible refine gate_dst (N := 6) rfl ?_); refine box_event ?hg (N := 6) ?hd (cs := #[.slice none 0 0, .slice none 0 0]) (t := 31) ?hr ?_; (case hd => rfl); (case hg => rfl); (case hr => (try (obtain ⟨Az_, cz_, ez_⟩ := Kd.R_slice fU.1; subst ez_)); first | (go_simp; done) | (go_simp; rfl)); intro a8 hg Ks hbox hb; have a5 := am hbox; have eO := am (p3 : w.heap.size ≤ a8); have eZ := eO; replace HB := bS aY hb; have aU := nL aC hg; have aV := nG aC hg; replace a3 := bB aC hb; clear hb hbox hg; have Mq := nZ1 aU aV; have Ut := cz2 a3) | ((with_reducible refine gC 22 ?_); refine cQ (some 13) Try.func22 (spec_ShareBookOk.calls k _ _ a7 _ _ a4 true _ (pB bC) bA.1 (pB aK) bM.1 A4.out) ?_; rintro Sm hb; replace a3 := bB aC hb; replace a5 := bB aH hb; replace HB := bS eX hb; (try clear hb); have Es := cz2 a3) | ((with_reducible refine gC 89 ?_); refine cE (some 17) Try.func89 (spec_l1Copy.calls k _ _ a7 _ _ a4 aN b9 _ (pB bC) bA.1 (pB aK) bM.1 A6.out) ?_; rintro e NA ⟨sG, qN, rfl, bQ, gY, hb⟩; refine ⟨_, rfl, ?_⟩; have aX := am (Kd.R_lower (Kd.R_newM (M := fun k_ => (w.heap.size ≤ k_)) bQ (below_size eX) (fun k_ h_ => h_)) (below_size eX)); have bV := am (Kd.N_lower (Kd.N_mono (ok' := F12 w sG a6 a8) (Kd.S_N (Kd.S_bound gY)) (fun k_ hk_ => ⟨(Nat.le_trans (below_size eX) hk_.2.1), hk_.1, (fB aC k_ hk_.2.1), (fB aH k_ hk_.2.1)⟩)) (below_size eX)); replace a3 := bB aC hb; replace a5 := bB aH hb; replace HB := bS eX hb; (try clear hb); (try clear bQ); (try clear gY)) | ((with_reducible refine gate_dst (N := 8) rfl ?_); refine box_event ?hg (N := 8) ?hd (cs := #[.slice none 0 0, .slice none 0 0]) (t := 31) ?hr ?_; (case hd => rfl); (case hg => rfl); (case hr => (try (obtain ⟨Az_, cz_, ez_⟩ := Kd.R_slice fU.1; subst ez_)); first | (go_simp; done) | (go_simp; rfl)); intro aI hg NB hbox hb; replace aX := RB iX hb; replace bV := am (Kd.N_below (Kd.N_elderB lA aI (Nat.le_of_eq hg.symm)) hb); have aE := am hbox; have qV := am (DT : w.heap.size ≤ aI); have sK := qV; replace HB := bS eX hb; have cC := nL aC hg; have d6 := nG aC hg; replace a3 := bB aC hb; have cO := nL aH hg; have dG := nG aH hg; replace a5 := bB aH hb; clear hb hbox hg; obtain ⟨m3, m6, M7⟩ := Kd.R_slice aX.1; subst M7; have qp := nZ2 d6 cC dG cO; have Uu := cz2 aE; obtain ⟨I2, tG, SS⟩ := Kd.N_slice bV.1; subst SS; have Et := cz2 a3) | ((with_reducible refine gC 82 ?_); refine cQ (some 20) Try.func82 (spec_l1At.calls k _ _ a7 _ _ a4 a1 aT _ (Kd.C_below bC.1 cB) bA.1 (Kd.C_below aK.1 cB) bM.1 A7.out) ?_; rintro WI hb; replace aX := am (Kd.R_below (by refine rR ?_; exact (Kd.R_mono (fR (fR (tR aX aE))) (fun _ h_ => h_.1))) hb); replace bV := am (Kd.N_below (by refine rN ?_; exact (Kd.N_mono (fN (fN (Kd.N_mono bV.1 (fun k_ hk => (⟨hk, hk.2⟩ : _ ∧ k_ ≠ aI))))) (fun _ h_ => h_.1))) hb); replace a3 := am (blk_below (g := a6) (o := .cells #[.slice bG a7.length bH, .slice bL a4.length bD] 31 (0, 0)) UW hb); replace a5 := am (blk_below (g := a8) (o := .cells #[.slice none 0 0, .slice none 0 0] 31 (0, 0)) UX hb); replace aE := am (blk_below (g := aI) (o := .cells #[.slice m3 aN.length m6, .slice I2 b9.length tG] 31 (0, 0)) (qP aE) hb); replace HB := bS cB hb; (try clear hb); (try clear hk); have Eu := cz2 a3; obtain ⟨mE, E7, EK, E8, EL, EY, rZ, pT, pX, xG, AO, mK, o4, JY, K6⟩ := aT56 aK HB aT; cases EY) | ((with_reducible refine gC 71 ?_); refine cQ (some 31) Try.func71 (spec_l1NamesOk.calls k _ _ l2 _ _ ((rd_T56 a4 aT).f2) true _ (pB sU) oL.1 (pB mK) o4.1 WL.out) ?_; rintro w' ⟨nd, rfl⟩) | ((with_reducible refine gate_dst (N := 34) rfl ?_); refine Kd.R_lit Kd.string _ 9 ?hg (N := 34) ?hd (xs := ([] : List ByteArray)) (inner := []) (ok := fun _ => True) (okp := fun _ => True) ?hr ?hp (fun _ hk => hk) trivial (Below.refl _ _) (Nat.le_refl _) (by simp) ?_; (case hd => rfl); (case hg => rfl); (case hr => (try (obtain ⟨Az_, cz_, ez_⟩ := Kd.R_slice fU.1; subst ez_)); first | (go_simp; done) | (go_simp; rfl)); (case hp => exact (Reps.none _ _)); intro Ru Ku F3 hb hg_ hnew_; clear hg_ hnew_; (first | rw [← OD.out] at F3 | (simp only [Int.reduceToNat] at F3; rw [← OD.out] at F3)); replace bV := am (Kd.N_elder' lA (Kd.R_base F3) hb); have FP := am (Kd.R_lower (Kd.R_new' (Kd.R_newM (M := fun k_ => (w.heap.size ≤ k_)) F3 (below_size cB) (fun k_ h_ => h_)) (Kd.R_lt iX)) (below_size cB)); replace aX := am (Kd.R_elder' iX (Kd.R_base F3) hb); replace a3 := bB aC hb; replace a5 := bB aH hb; replace aE := bB dL hb; replace HB := bS cB hb; clear hb F3))
   go_loopg [10, 11] k (fun kq Rs Rt w' => ∃ (sQ : List ByteArray) (gH : Int), Rt = .int .i64 gH ∧ Aside0 (spec_ShareLess.l0 kq l2 aT sQ gH a7 a4 aN b9 = some (r1, r2, r3)) ∧ Aside0 (kq ≤ k) ∧ Aside0 (Kd.R Kd.string 9 w' w.heap.size (F10 w (.slice m3 aN.length m6)) Rs sQ) ∧ Aside0 (Kd.R Kd.string 9 w' w.heap.size (F10 w Rs) (.slice m3 aN.length m6) aN) ∧ Aside0 (Kd.N k56 56 w' w.heap.size (F23 w Rs (.slice m3 aN.length m6) a6 a8 aI) (.slice I2 b9.length tG) b9) ∧ Aside0 (w'.heap[a6]? = some (.cells #[(.slice bG a7.length bH), (.slice (some mE) a4.length bD)] 31 (0, 0))) ∧ Aside0 (w'.heap[a8]? = some (.cells #[(.slice none 0 0), (.slice none 0 0)] 31 (0, 0))) ∧ Aside0 (w'.heap[aI]? = some (.cells #[(.slice m3 aN.length m6), (.slice I2 b9.length tG)] 31 (0, 0))) ∧ Aside0 (Below w.heap.size w w'))
   case atStart => exact ⟨(Dw), (0), aQ, H', ⟨Nat.le_refl _⟩, ⟨by refine rR ?_; exact Kd.R_mono FP.1 (fun _ hk => ⟨hk.1.1, hk.2⟩)⟩, ⟨by refine rR ?_; exact Kd.R_mono aX.1 (fun _ hk => ⟨hk.1.1, hk.2⟩)⟩, ⟨by refine rN ?_; exact Kd.N_mono bV.1 (fun _ hk => ⟨hk.1.1.1, ⟨hk.2, ⟨hk.1.1.2.1, ⟨hk.1.1.2.2.1, ⟨hk.1.1.2.2.2, hk.1.2⟩⟩⟩⟩⟩)⟩, ⟨rB a3.1⟩, ⟨rB a5.1⟩, ⟨rB aE.1⟩, ⟨cB⟩⟩
   clear H'
   try clear c2
   try clear c5
   try clear sD
   try clear DE
   try clear zR
   try clear RS
   try clear Ut
   try clear Es
   try clear Uu
   try clear Et
   try clear Eu
   try clear rZ pT pX
   try clear JY K6
   obtain ⟨sQ, gH, rfl, HA, HK1, fU, aM, aA, a3, a5, aE, HB⟩ := hrel
   cases gk with
   | zero => exact absurd HA.out (by simp [spec_ShareLess.l0])
   | succ k1 =>
    have H := HA.out
    clear HA
    simp only [spec_ShareLess.l0] at H
    obtain ⟨Z3, H⟩ := cN H
    obtain ⟨DG, H⟩ := cN H
    refine ic H ?_ ?_ <;> clear H <;> intro OZ H
    ·obtain ⟨zU, H⟩ := cN H
     obtain ⟨bK, VK, H⟩ := bd H
     refine tC H ?_ ?_ <;> clear H <;> intro mb H <;> subst mb
     ·obtain ⟨XK, H⟩ := cL H
      obtain ⟨nZ, wI⟩ := yv (sQ ++ [rdOf ByteArray.empty ((rd_T56 a4 aT).f1) gH]); first | replace H := bW wI H | rw [← wI.1] at H
      have H' := am H
      repeat clear H
      have Uz := nZ2 aU aV cC d6
      have Vd := cz2 a3
      obtain ⟨D8, HX, J3, HY, J4, JH, xU, uH, uI, FT, FM, FU, FN, Cr, Cx⟩ := aT56 aK HB aT
      obtain rfl : mE = D8 := (by injection JH)
      obtain ⟨IY, PY, RI, PZ, RJ, SJ, MP, CB, CC, AU, LD, LP, LE, Qr, Rd⟩ := aT56 aK HB aT
      obtain rfl : mE = IY := (by injection SJ)
      obtain ⟨ea_, ec_⟩ := eZ2 uH CB
      subst ea_
      subst ec_
      obtain ⟨ea_, ec_⟩ := eZ2 uI CC
      subst ea_
      subst ec_
      obtain ⟨YN, SK, MQ, Qs, Re⟩ := aS AU HB gH
      cases SK
      go_wp2_with (first | ((with_reducible refine gC 80 ?_); refine cQ (some 56) Try.func80 (spec_l1Has.calls k1 _ _ l2 (rdOf ByteArray.empty ((rd_T56 a4 aT).f1) gH) true _ (pB sU) oL.1 VK.out) ?_; rintro w' ⟨nd, rfl⟩; obtain ⟨YO, Lb, Mx, Lc, My, Oh, Kn, MR, MS, LQ, Ee, En, Ef, nx, oc⟩ := aT56 aK HB aT; obtain rfl : mE = YO := (by injection Oh); obtain ⟨ea_, ec_⟩ := eZ2 uH MR; subst ea_; subst ec_; obtain ⟨ea_, ec_⟩ := eZ2 uI MS; subst ea_; subst ec_; obtain ⟨yC, SL, uJ, JZ, K7⟩ := aS LQ HB gH; cases SL) | ((with_reducible refine gate_builtin (b := .append) (xs := #[.tmp 57, .tmp 67]) rfl ?_); at_builtin; refine Kd.R_append Kd.string (w0 := w) w.heap.size rfl (.tmp 57) (.tmp 67) 23 9 (.string ⟨#[]⟩) 16 rfl Try.underlying23 info9 rfl (by decide) (by omega) u10 sQ (rdOf ByteArray.empty ((rd_T56 a4 aT).f1) gH) [.string (rdOf ByteArray.empty ((rd_T56 a4 aT).f1) gH)] (F10 w (.slice m3 aN.length m6)) (fun _ => False) rfl rfl ?aP (fun _ hk => hk.elim) ?aF ?aO ?aB ?aS ?aL ?_; (case aP => exact rfl); (case aB => exact cB); (case aF => exact (fun k_ hk => ⟨(Nat.le_trans (below_size cB) hk), Kd.fresh' (Kd.R_lt e8) k_ hk⟩)); (case aO => exact (rR fU.1)); (case aS => exact (below_size cB)); (case aL => have := XK.out; omega); intro F7 qh ho hb hg hat; rw [← wI.out] at ho; replace aM := am (Kd.R_after (ok := (fun k_ => (w.heap.size ≤ k_))) e8 hg hat); replace aA := am (Kd.N_afterv (ok := (F13 w (.slice m3 aN.length m6) a6 a8 aI)) (by refine rN ?_; exact Kd.N_mono aA.1 (fun _ hk => ⟨⟨hk.1, ⟨hk.2.2.1, ⟨hk.2.2.2.1, ⟨hk.2.2.2.2.1, hk.2.2.2.2.2⟩⟩⟩⟩, hk.2.1⟩)) hg hat); replace a3 := gkR aC hg fU a3; replace a5 := gkR aH hg fU a5; replace aE := gkR dL hg fU aE; replace HB := am hb; have iQ := am ho; clear fU; clear ho hb hg hat))
      go_roundg k1
      case measure => have := HK1.out; omega
      case rel => exact ⟨(nZ), (wrap64 (gH + 1)), aQ, H', ⟨by have := HK1.out; omega⟩, ⟨rR iQ.1⟩, ⟨rR aM.1⟩, ⟨by refine rN ?_; exact Kd.N_mono aA.1 (fun _ hk => ⟨hk.1.1, ⟨hk.2, ⟨hk.1.2.1, ⟨hk.1.2.2.1, ⟨hk.1.2.2.2.1, hk.1.2.2.2.2⟩⟩⟩⟩⟩)⟩, ⟨rB a3.1⟩, ⟨rB a5.1⟩, ⟨rB aE.1⟩, ⟨cB⟩⟩
     ·have H' := am H
      repeat clear H
      have lh := nZ2 aU aV cC d6
      have ll := cz2 a3
      obtain ⟨D8, HX, J3, HY, J4, JH, xU, uH, uI, FT, FM, FU, FN, Cr, Cx⟩ := aT56 aK HB aT
      obtain rfl : mE = D8 := (by injection JH)
      obtain ⟨IY, PY, RI, PZ, RJ, SJ, MP, CB, CC, AU, LD, LP, LE, Qr, Rd⟩ := aT56 aK HB aT
      obtain rfl : mE = IY := (by injection SJ)
      obtain ⟨ea_, ec_⟩ := eZ2 uH CB
      subst ea_
      subst ec_
      obtain ⟨ea_, ec_⟩ := eZ2 uI CC
      subst ea_
      subst ec_
      obtain ⟨YN, SK, MQ, Qs, Re⟩ := aS AU HB gH
      cases SK
      go_wp2_with (first | ((with_reducible refine gC 80 ?_); refine cQ (some 56) Try.func80 (spec_l1Has.calls k1 _ _ l2 (rdOf ByteArray.empty ((rd_T56 a4 aT).f1) gH) false _ (pB sU) oL.1 VK.out) ?_; rintro w' ⟨nd, rfl⟩))
      go_roundg k1
      case measure => have := HK1.out; omega
      case rel => exact ⟨(sQ), (wrap64 (gH + 1)), aQ, H', ⟨by have := HK1.out; omega⟩, ⟨rR fU.1⟩, ⟨rR aM.1⟩, ⟨rN aA.1⟩, ⟨rB a3.1⟩, ⟨rB a5.1⟩, ⟨rB aE.1⟩, ⟨cB⟩⟩
    ·obtain ⟨oI, Lk, H⟩ := bd H
     obtain ⟨ZG, H⟩ := cN H
     obtain ⟨p5, qZ, H⟩ := bY H
     obtain ⟨yM, D6⟩ := yv (p5.set (aT : Int).toNat (⟨(rd_T56 p5 aT).f0, sQ, (rd_T56 p5 aT).f2⟩ : S56)); first | replace H := bW D6 H | rw [← D6.1] at H
     obtain ⟨⟨uW, yZ⟩, iu, H⟩ := bd H
     dsimp only at H
     obtain ⟨rfl, rfl, rfl⟩ := sZ3 H
     repeat clear H
     have Vx := nZ2 aU aV cC d6
     have rb := cz2 a3
     obtain ⟨D8, HX, J3, HY, J4, JH, xU, uH, uI, FT, FM, FU, FN, Cr, Cx⟩ := aT56 aK HB aT
     obtain rfl : mE = D8 := (by injection JH)
     try go_wp2
     replace fU := RD fU
     replace aM := RD aM
     replace aA := ND aA
     replace a3 := BD a3
     replace a5 := BD a5
     replace aE := BD aE
     replace HB := am (below_drew1 HB.1)
     refine sT (S := fun w' => w'.cell? ⟨aI, 0, none⟩ = some (.slice m3 aN.length m6) ∧ w'.cell? ⟨aI, 1, none⟩ = some (.slice I2 b9.length tG)) [7] 8 ⟨⟨(blk_cell aE.1 0).trans rfl, (blk_cell aE.1 1).trans rfl⟩⟩ (fun hHeld => ?_)
     refine with_tabW spec_ShareLess.tab15 spec_ShareLess.bits15 (fun HT_ HW_ => ?_)
     generalize wr.drew = qj at fU aM aA a3 a5 aE HB hHeld ⊢
     refine pU3 0 2 3 ?_
     refine tK2 1 (some 70) ?_
     refine oN 4 (some 73) fun K hK => ?_
     refine gE Try.func93 (spec_l1Names.calls _ _ l2 oI _ (pB sU) oL.1 Lk.out) ?_
     rintro e NC ⟨uZ, rfl, bQ, hb⟩
     refine ⟨_, rfl, ?_⟩
     replace aA := am (Kd.N_elder' iN (Kd.R_base bQ) hb)
     have y6 := am (Kd.R_lower (Kd.R_new' (Kd.R_new' (Kd.R_newM (M := fun k_ => (w.heap.size ≤ k_)) bQ (below_size cB) (fun k_ h_ => h_)) (Kd.R_lt (rR fU.1))) (Kd.R_lt e8)) (below_size cB))
     replace fU := am (Kd.R_elder' (rR fU.1) (Kd.R_base bQ) hb)
     replace aM := am (Kd.R_elder' e8 (Kd.R_base bQ) hb)
     replace a3 := bB aC hb
     replace a5 := bB aH hb
     replace aE := bB dL hb
     replace HB := bS cB hb
     (try clear hb)
     (try clear hb2)
     (try clear hk)
     (try clear hi)
     (try clear bQ)
     have Qv : 0 ≤ (aT : Int) := oT
     have Ri : (aT : Int) < ((b9.length : Int) : Int) := oT
     obtain ⟨kE, Ny, JL, Ay, gl64, cl64, HG64⟩ := Kd.N_form aA.1 (by omega)
     (first | cases JL | (injection JL with ea_ en_ ec_; (first | subst ea_ | (injection ea_ with ea_; subst ea_)); subst ec_; clear en_))
     have GB64 := am Ay
     have GG64 := am HG64
     clear Ay gl64 HG64
     obtain ⟨ce64, hcl64, hM64, hcc64, hfr64⟩ := Kd.N_elem aA.1 z56 (aT : Int) Qv Ri
     obtain ⟨ua64_1, uc64_1, ua64_2, uc64_2, rfl, Rm, Pk, Rn, Pl⟩ := k56_openF hM64
     have Qm : World.cell? _ ⟨kE, (aT : Int).toNat * 3, none⟩ = some (.string ((rd_T56 b9 aT).f0)) := hcc64 0 _ rfl
     have Qn : World.cell? _ ⟨kE, (aT : Int).toNat * 3 + 1, none⟩ = some (.slice ua64_1 ((rd_T56 b9 aT).f1).length uc64_1) := hcc64 1 _ rfl
     have Qo : World.cell? _ ⟨kE, (aT : Int).toNat * 3 + 2, none⟩ = some (.slice ua64_2 ((rd_T56 b9 aT).f2).length uc64_2) := hcc64 2 _ rfl
     have hf64_0 : World.frozen? _ ⟨kE, (aT : Int).toNat * 3, none⟩ = false := hfr64 0
     have hf64_1 : World.frozen? _ ⟨kE, (aT : Int).toNat * 3 + 1, none⟩ = false := hfr64 1
     have hf64_2 : World.frozen? _ ⟨kE, (aT : Int).toNat * 3 + 2, none⟩ = false := hfr64 2
     clear hcl64 hcc64 hfr64 hM64
     replace Qv := eq_true Qv
     replace Ri := eq_true Ri
     have HX72 := am (show Kd.N k56 56 _ w.heap.size (F33 w u10 (.slice m3 aN.length m6) uZ a6 a8 aI) (.slice (some ⟨kE, 0, none⟩) b9.length tG) b9 from (Kd.N_mono (aA.1) (fun k_ hk => ⟨hk.1.1, ⟨hk.1.2.1, ⟨hk.1.2.2.1, ⟨hk.2, ⟨hk.1.2.2.2.1, ⟨hk.1.2.2.2.2.1, hk.1.2.2.2.2.2⟩⟩⟩⟩⟩⟩)))
     replace HX72 := am (show Kd.N k56 56 _ w.heap.size (F23 w u10 (.slice m3 aN.length m6) a6 a8 aI) (.slice (some ⟨kE, 0, none⟩) b9.length tG) b9 from Kd.N_mono HX72.out (fun k_ hk => ⟨hk.1, ⟨hk.2.1, ⟨hk.2.2.1, ⟨hk.2.2.2.2.1, ⟨hk.2.2.2.2.2.1, hk.2.2.2.2.2.2⟩⟩⟩⟩⟩))
     obtain ⟨ce72, hcl72, hM72, hcc72, hfr72⟩ := Kd.N_elem HX72.out z56 (aT : Int) (oT) (by have h_ : (aT : Int) < ((b9.length : Int) : Int) := oT; first | exact h_ | (have e_ := (Kd.N_reads' aA.1).1; omega) | simpa using h_)
     obtain ⟨ua72_1, uc72_1, ua72_2, uc72_2, rfl, V3, U1, Ro, Pm⟩ := k56_openF hM72
     have HP72 := (Kd.N_seg HX72.out (aT : Int) (oT) (by have h_ : (aT : Int) < ((b9.length : Int) : Int) := oT; first | exact h_ | (have e_ := (Kd.N_reads' aA.1).1; omega) | simpa using h_) (seg := [uZ]) (j := 2) hcl72 hcc72 (show 3 ≤ 3 from by decide) (x' := (⟨(rd_T56 b9 aT).f0, (rd_T56 b9 aT).f1, oI⟩ : S56)) (k56_mkF2 _ _ (⟨(rd_T56 b9 aT).f0, (rd_T56 b9 aT).f1, oI⟩ : S56) V3 U1 (Kd.R_mono (ok' := (fun k_ => ((F23 w u10 (.slice m3 aN.length m6) a6 a8 aI)) k_ ∧ k_ ≠ kE)) (Kd.R_types (Kd.R_types (Kd.R_types (Kd.R_apart' (y6.1) (Kd.N_typed aA.1) (by decide)) a3.1 (by decide)) a5.1 (by decide)) aE.1 (by decide)) (fun k_ hk => ⟨⟨hk.1.1.1.1.1.1.1, ⟨hk.1.1.1.1.1.2, ⟨hk.1.1.1.1.2, ⟨hk.1.1.2, ⟨hk.1.2, hk.2⟩⟩⟩⟩⟩, fun e_ => (hk.1.1.1.2) (by rw [e_]; rfl)⟩))) (fun _ hk => hk)).1
     rw [← qZ.out] at HP72
     have HQ72 := am HP72
     clear hcl72 hcc72 hfr72 hM72 HP72
     refine hK.out _ _ ⟨(blk_cell aE.1 0).trans rfl, (blk_cell aE.1 1).trans rfl⟩ (fun hHeld => ?_)
     clear hK K
     refine nM ?_
     refine pU2 5 6 ?_
     refine lN 7 none fun K hK => ?_
     refine skip_ (w1 := (NC.setCell ⟨kE, (aT : Int).toNat * 3 + 2, none⟩ (uZ))) (by rfl) rfl ?_ ?_
     skip
     ·obtain ⟨Az_, cz_, ez_⟩ := Kd.R_slice y6.1
      subst ez_
      go_simp
      (try rfl)
     refine hK.out _ _ ?_
     clear hK K
     refine dN ?_
     have n0_ : Aside0 (Kd.R Kd.string 9 (NC.setCell ⟨kE, (aT : Int).toNat * 3 + 2, none⟩ (uZ)) w.heap.size (F10 w (.slice m3 aN.length m6)) u10 sQ) := ⟨by refine rR ?_; exact Kd.R_mono (Kd.R_far (p := ⟨kE, (aT : Int).toNat * 3 + 2, none⟩) (tR fU GG64) (fun _ hk => hk.2) (uZ)) (fun _ hk => ⟨hk.1.1.1, hk.1.1.2⟩)⟩
     have n1_ : Aside0 (Kd.R Kd.string 9 (NC.setCell ⟨kE, (aT : Int).toNat * 3 + 2, none⟩ (uZ)) w.heap.size (F10 w u10) (.slice m3 aN.length m6) aN) := ⟨by refine rR ?_; exact Kd.R_mono (Kd.R_far (p := ⟨kE, (aT : Int).toNat * 3 + 2, none⟩) (tR aM GG64) (fun _ hk => hk.2) (uZ)) (fun _ hk => ⟨hk.1.1.1, hk.1.1.2⟩)⟩
     have n2_ : Aside0 (Kd.N k56 56 (NC.setCell ⟨kE, (aT : Int).toNat * 3 + 2, none⟩ (uZ)) w.heap.size (F23 w u10 (.slice m3 aN.length m6) a6 a8 aI) (.slice (some ⟨kE, 0, none⟩) b9.length tG) p5) := ⟨rN HQ72.out⟩
     have n3_ : Aside0 ((NC.setCell ⟨kE, (aT : Int).toNat * 3 + 2, none⟩ (uZ)).heap[a6]? = some (.cells #[.slice bG a7.length bH, .slice (some mE) a4.length bD] 31 (0, 0))) := ⟨by refine rB ?_; refine blk_far ?_ (by have h_ := Kd.N_away aA.1 (fun _ hk => by first | exact hk.2.2.2.1 | exact hk.2.2.2.1.1 | exact hk.1.2.2.2.1); intro e_; exact h_ (by rw [e_]; rfl)) _; refine rB ?_; exact a3.1⟩
     have n4_ : Aside0 ((NC.setCell ⟨kE, (aT : Int).toNat * 3 + 2, none⟩ (uZ)).heap[a8]? = some (.cells #[.slice none 0 0, .slice none 0 0] 31 (0, 0))) := ⟨by refine rB ?_; refine blk_far ?_ (by have h_ := Kd.N_away aA.1 (fun _ hk => by first | exact hk.2.2.2.2.1 | exact hk.2.2.2.2.1.1 | exact hk.1.2.2.2.2.1); intro e_; exact h_ (by rw [e_]; rfl)) _; refine rB ?_; exact a5.1⟩
     have n5_ : Aside0 ((NC.setCell ⟨kE, (aT : Int).toNat * 3 + 2, none⟩ (uZ)).heap[aI]? = some (.cells #[.slice m3 aN.length m6, .slice (some ⟨kE, 0, none⟩) b9.length tG] 31 (0, 0))) := ⟨by refine rB ?_; refine blk_far ?_ (by have h_ := Kd.N_away aA.1 (fun _ hk => by first | exact hk.2.2.2.2.2 | exact hk.2.2.2.2.2.1 | exact hk.1.2.2.2.2.2); intro e_; exact h_ (by rw [e_]; rfl)) _; refine rB ?_; exact aE.1⟩
     have n6_ : Aside0 (Below w.heap.size w (NC.setCell ⟨kE, (aT : Int).toNat * 3 + 2, none⟩ (uZ))) := ⟨by repeat (first | (with_reducible first | exact HB.1 | apply below_alloc | apply pw_below_drewN | apply below_drew1 | refine below_set ?_ GB64.out | refine below_set ?_ cJ.1 | refine below_set ?_ eZ.1 | refine below_set ?_ sK.1) | exact HB.1)⟩
     (try clear fU)
     (try clear aM)
     (try clear aA)
     (try clear a3)
     (try clear a5)
     (try clear aE)
     (try clear HB)
     generalize (NC.setCell ⟨kE, (aT : Int).toNat * 3 + 2, none⟩ (uZ)) = Sr at n0_ n1_ n2_ n3_ n4_ n5_ n6_ ⊢
     have fU := n0_
     have aM := n1_
     have aA := n2_
     have a3 := n3_
     have a5 := n4_
     have aE := n5_
     have HB := n6_
     clear n0_ n1_ n2_ n3_ n4_ n5_ n6_
     have ln := nZ1 dG cO
     have lp := cz2 aE
     have de : 0 ≤ (aT : Int) := oT
     have di : (aT : Int) < ((b9.length : Int) : Int) := oT
     replace de := eq_true de
     replace di := eq_true di
     have HX76 := am (show Kd.N k56 56 Sr w.heap.size (F13 w (.slice m3 aN.length m6) a6 a8 aI) (.slice (some ⟨kE, 0, none⟩) b9.length tG) p5 from (by refine rN ?_; exact Kd.N_mono aA.1 (fun _ hk => ⟨hk.1, ⟨hk.2.2.1, ⟨hk.2.2.2.1, ⟨hk.2.2.2.2.1, hk.2.2.2.2.2⟩⟩⟩⟩)))
     obtain ⟨ce76, hcl76, hM76, hcc76, hfr76⟩ := Kd.N_elem HX76.out z56 (aT : Int) (oT) (by have h_ : (aT : Int) < ((b9.length : Int) : Int) := oT; first | exact h_ | (have e_ := (Kd.N_reads' aA.1).1; omega) | simpa using h_)
     obtain ⟨ua76_1, uc76_1, ua76_2, uc76_2, rfl, Rp, Pn, V4, U2⟩ := k56_openF hM76
     have HP76 := Kd.N_seg HX76.out (aT : Int) (oT) (by have h_ : (aT : Int) < ((b9.length : Int) : Int) := oT; first | exact h_ | (have e_ := (Kd.N_reads' aA.1).1; omega) | simpa using h_) (seg := [u10]) (j := 1) hcl76 hcc76 (show 2 ≤ 3 from by decide) (x' := (⟨(rd_T56 p5 aT).f0, sQ, (rd_T56 p5 aT).f2⟩ : S56)) (k56_mkF1 _ _ (⟨(rd_T56 p5 aT).f0, sQ, (rd_T56 p5 aT).f2⟩ : S56) (Kd.R_mono (ok' := (fun k_ => ((F13 w (.slice m3 aN.length m6) a6 a8 aI)) k_ ∧ k_ ≠ kE)) (Kd.R_types (Kd.R_types (Kd.R_types (Kd.R_apart' (fU.1) (Kd.N_typed aA.1) (by decide)) a3.1 (by decide)) a5.1 (by decide)) aE.1 (by decide)) (fun k_ hk => ⟨⟨hk.1.1.1.1.1, ⟨hk.1.1.1.1.2, ⟨hk.1.1.2, ⟨hk.1.2, hk.2⟩⟩⟩⟩, fun e_ => (hk.1.1.1.2) (by rw [e_]; rfl)⟩)) V4 U2) (fun _ hk => hk)
     have UM := hcc76 1 _ rfl
     (try simp only [show (k56).sz = 3 from rfl, Nat.mul_one, Nat.add_zero] at UM)
     have hf76_1 := hfr76 1
     (try simp only [show (k56).sz = 3 from rfl, Nat.mul_one, Nat.add_zero] at hf76_1)
     clear hcl76 hcc76 hfr76 hM76
     try go_wp2_with (first | ((with_reducible refine gate_store (t := 23) (p := 81) rfl ?_); refine store_event (t := 23) (p := 81) (v := ?vo_w77) (w1 := (Sr.setCell ⟨kE, (aT : Int).toNat * 3 + 1, none⟩ (u10))) ?hg ?ho ?hn ?hr ?_; (case ho => rfl); (case hg => rfl); (case hn => rfl); (case hr => (try (obtain ⟨Az_, cz_, ez_⟩ := Kd.R_slice fU.1; subst ez_)); first | (go_simp; done) | (go_simp; rfl)); intro Kv hw; have hg : Sr.grownBy Kv (some kE) := (by rw [hw]; exact HP76.2); have hp_ : Kd.N k56 56 Kv w.heap.size (F13 w (.slice m3 aN.length m6) a6 a8 aI) (.slice (some ⟨kE, 0, none⟩) b9.length tG) yM := (by rw [hw, D6.out]; exact HP76.1); clear HP76; replace aM := am (Kd.R_over' (v := (.slice (some ⟨kE, 0, none⟩) b9.length tG)) e8 (Kd.N_typed aA.1) (by decide) hg); replace a3 := gkN aC hg aA a3; replace a5 := gkN aH hg aA a5; replace aE := gkN dL hg aA aE; replace aA := am hp_; replace HB := am (by rw [hw]; exact below_set (HB.1) GB64.out : Below w.heap.size w Kv); clear fU; clear hg hw hp_; have rh := cz2 aE) | ((with_reducible refine gate_callee (f := 89) rfl ?_); refine goesL_ (some 83) rfl rfl Try.func89 (by kernel_rfl) rfl #[.agg #[.slice m3 aN.length m6, .slice (some ⟨kE, 0, none⟩) yM.length tG]] rfl (by (try simp only [List.map_toArray, List.map_cons, List.map_nil]); first | done | (rw [show yM.length = b9.length from (Kd.N_reads' aA.1).1.symm] <;> rfl) | rfl | (simp only [List.length_drop, List.length_take]; rfl)) ?_; (with_reducible refine (spec_l1Copy.calls k1 _ _ aN _ _ yM uW yZ _ ?side1 ?side2 ?side3 ?side4 iu.out).mono ?_); (case side1 => exact pC (Kd.R_reads' aM.1).2.2); (case side2 => exact (Kd.R_reads' aM.1).2.1); (case side3 => exact pC (Kd.N_reads' aA.1).2.2); (case side4 => rw [show yM.length = b9.length from (Kd.N_reads' aA.1).1.symm]; exact (Kd.N_reads' aA.1).2.1); rintro e qk ⟨VA, Rw, rfl, bQ, gY, hb⟩; refine ⟨_, rfl, ?_⟩; have kL := am (Kd.R_lower (Kd.R_new' (Kd.R_newM (M := fun k_ => (w.heap.size ≤ k_)) bQ (below_size cB) (fun k_ h_ => h_)) (Kd.R_lt e8)) (below_size cB)); have kM := am (Kd.N_lower (Kd.N_mono (ok' := F33 w VA (.slice m3 aN.length m6) (.slice (some ⟨kE, 0, none⟩) b9.length tG) a6 a8 aI) (Kd.S_N (Kd.S_bound gY)) (fun k_ hk_ => ⟨(Nat.le_trans (below_size cB) hk_.2.1), hk_.1, (Kd.fresh' (Kd.R_lt e8) k_ hk_.2.1), (Kd.fresh' (Kd.N_lt iN) k_ hk_.2.1), (fB aC k_ hk_.2.1), (fB aH k_ hk_.2.1), (fB dL k_ hk_.2.1)⟩)) (below_size cB)); replace aM := am (Kd.R_elder' e8 (Kd.R_base bQ) hb); replace aA := am (Kd.N_mono (Kd.N_told (Kd.N_told (Kd.N_old iN hb) (Kd.R_base bQ)) mH) (fun _ h_ => h_.1)); replace a3 := bB aC hb; replace a5 := bB aH hb; replace aE := bB dL hb; replace HB := bS cB hb; (try clear hb); (try clear bQ); (try clear gY); obtain ⟨Ly, Oc, Pe⟩ := Kd.R_slice kL.1; subst Pe; have ri := cz2 a5; obtain ⟨Lz, Od, Pf⟩ := Kd.N_slice kM.1; subst Pf))
     refine cT a8 31 #[.slice Ly uW.length Oc, .slice Lz yZ.length Od] (qP a5) Try.underlying31 ?_
     exact ⟨_, _, eR, mR kL a5, by refine rN ?_; exact Kd.N_mono (fN (fN (Kd.N_mono kM.1 (fun k_ hk => (⟨hk, hk.2.2.2.2.2.1⟩ : _ ∧ k_ ≠ a8))))) (fun _ hk => ⟨hk.1.1, hk.1.2.1⟩), cB⟩
  obtain ⟨rfl, rfl, rfl⟩ := sZ3 H
  repeat clear H
  go_enter Try.func49, Try.ntmps49
  go_wp2_with (first | ((with_reducible refine gate_dst (N := 3) rfl ?_); refine box_event ?hg (N := 3) ?hd (cs := #[.slice bG a7.length bH, .slice bL a4.length bD]) (t := 31) ?hr ?_; (case hd => rfl); (case hg => rfl); (case hr => (try (obtain ⟨Az_, cz_, ez_⟩ := Kd.R_slice fU.1; subst ez_)); first | (go_simp; done) | (go_simp; rfl)); intro a6 hg Du hbox hb; have a3 := am hbox; have bR := am (hJ : w.heap.size ≤ a6); have cJ := bR; replace HB := bS cI hb; clear hb hbox hg) | ((with_reducible refine gate_dst (N := 6) rfl ?_); refine box_event ?hg (N := 6) ?hd (cs := #[.slice none 0 0, .slice none 0 0]) (t := 31) ?hr ?_; (case hd => rfl); (case hg => rfl); (case hr => (try (obtain ⟨Az_, cz_, ez_⟩ := Kd.R_slice fU.1; subst ez_)); first | (go_simp; done) | (go_simp; rfl)); intro a8 hg NF hbox hb; have a5 := am hbox; have eO := am (p3 : w.heap.size ≤ a8); have eZ := eO; replace HB := bS aY hb; have aU := nL aC hg; have aV := nG aC hg; replace a3 := bB aC hb; clear hb hbox hg; have rj := nZ1 aU aV; have ls := cz2 a3) | ((with_reducible refine gC 22 ?_); refine cQ (some 13) Try.func22 (spec_ShareBookOk.calls k _ _ a7 _ _ a4 true _ (pB bC) bA.1 (pB aK) bM.1 A4.out) ?_; rintro Ss hb; replace a3 := bB aC hb; replace a5 := bB aH hb; replace HB := bS eX hb; (try clear hb); have rk := cz2 a3) | ((with_reducible refine gC 89 ?_); refine cE (some 17) Try.func89 (spec_l1Copy.calls k _ _ a7 _ _ a4 aN b9 _ (pB bC) bA.1 (pB aK) bM.1 A6.out) ?_; rintro e KI ⟨sG, qN, rfl, bQ, gY, hb⟩; refine ⟨_, rfl, ?_⟩; have aX := am (Kd.R_lower (Kd.R_newM (M := fun k_ => (w.heap.size ≤ k_)) bQ (below_size eX) (fun k_ h_ => h_)) (below_size eX)); have bV := am (Kd.N_lower (Kd.N_mono (ok' := F12 w sG a6 a8) (Kd.S_N (Kd.S_bound gY)) (fun k_ hk_ => ⟨(Nat.le_trans (below_size eX) hk_.2.1), hk_.1, (fB aC k_ hk_.2.1), (fB aH k_ hk_.2.1)⟩)) (below_size eX)); replace a3 := bB aC hb; replace a5 := bB aH hb; replace HB := bS eX hb; (try clear hb); (try clear bQ); (try clear gY)) | ((with_reducible refine gate_dst (N := 8) rfl ?_); refine box_event ?hg (N := 8) ?hd (cs := #[.slice none 0 0, .slice none 0 0]) (t := 31) ?hr ?_; (case hd => rfl); (case hg => rfl); (case hr => (try (obtain ⟨Az_, cz_, ez_⟩ := Kd.R_slice fU.1; subst ez_)); first | (go_simp; done) | (go_simp; rfl)); intro aI hg ss hbox hb; replace aX := RB iX hb; replace bV := am (Kd.N_below (Kd.N_elderB lA aI (Nat.le_of_eq hg.symm)) hb); have aE := am hbox; have qV := am (DT : w.heap.size ≤ aI); have sK := qV; replace HB := bS eX hb; have cC := nL aC hg; have d6 := nG aC hg; replace a3 := bB aC hb; have cO := nL aH hg; have dG := nG aH hg; replace a5 := bB aH hb; clear hb hbox hg; obtain ⟨EI, EW, TY⟩ := Kd.R_slice aX.1; subst TY; have rl := nZ2 d6 cC dG cO; have lw := cz2 aE; obtain ⟨L5, M0, Ph⟩ := Kd.N_slice bV.1; subst Ph; have rm := cz2 a3) | ((with_reducible refine gC 82 ?_); refine cQ (some 20) Try.func82 (spec_l1At.calls k _ _ a7 _ _ a4 a1 aT _ (Kd.C_below bC.1 cB) bA.1 (Kd.C_below aK.1 cB) bM.1 A7.out) ?_; rintro NG hb; replace aX := am (Kd.R_below (by refine rR ?_; exact (Kd.R_mono (fR (fR (tR aX aE))) (fun _ h_ => h_.1))) hb); replace bV := am (Kd.N_below (by refine rN ?_; exact (Kd.N_mono (fN (fN (Kd.N_mono bV.1 (fun k_ hk => (⟨hk, hk.2⟩ : _ ∧ k_ ≠ aI))))) (fun _ h_ => h_.1))) hb); replace a3 := am (blk_below (g := a6) (o := .cells #[.slice bG a7.length bH, .slice bL a4.length bD] 31 (0, 0)) UW hb); replace a5 := am (blk_below (g := a8) (o := .cells #[.slice none 0 0, .slice none 0 0] 31 (0, 0)) UX hb); replace aE := am (blk_below (g := aI) (o := .cells #[.slice EI aN.length EW, .slice L5 b9.length M0] 31 (0, 0)) (qP aE) hb); replace HB := bS cB hb; (try clear hb); (try clear hk); have ly := cz2 a3; obtain ⟨mE, E7, EK, E8, EL, EY, rZ, pT, pX, xG, AO, mK, o4, JY, K6⟩ := aT56 aK HB aT; cases EY) | ((with_reducible refine gC 71 ?_); refine cQ (some 31) Try.func71 (spec_l1NamesOk.calls k _ _ l2 _ _ ((rd_T56 a4 aT).f2) false _ (pB sU) oL.1 (pB mK) o4.1 WL.out) ?_; rintro w' ⟨nd, rfl⟩; (try (rw [drewN_self NG]; generalize hq_ : World.drewN NG _ = NG; have n0_ : Aside0 (Kd.R Kd.string 9 NG w.heap.size (fun k_ => (((w.heap.size ≤ k_)) ∧ True)) (.slice EI aN.length EW) aN) := ⟨by rw [← hq_]; exact iX⟩; have n1_ : Aside0 (Kd.N k56 56 NG w.heap.size (fun k_ => ((((w.heap.size ≤ k_)) ∧ (some k_ ≠ (.slice EI aN.length EW : Value).ownBlock ∧ (k_ ≠ a6 ∧ k_ ≠ a8))) ∧ k_ ≠ aI)) (.slice L5 b9.length M0) b9) := ⟨by rw [← hq_]; exact lA⟩; have n2_ : Aside0 (NG.heap[a6]? = some (.cells #[.slice bG a7.length bH, .slice (some mE) a4.length bD] 31 (0, 0))) := ⟨by rw [← hq_]; exact aC⟩; have n3_ : Aside0 (NG.heap[a8]? = some (.cells #[.slice none 0 0, .slice none 0 0] 31 (0, 0))) := ⟨by rw [← hq_]; exact aH⟩; have n4_ : Aside0 (NG.heap[aI]? = some (.cells #[.slice EI aN.length EW, .slice L5 b9.length M0] 31 (0, 0))) := ⟨by rw [← hq_]; exact dL⟩; have n5_ : Aside0 (Below w.heap.size w NG) := ⟨by rw [← hq_]; exact cB⟩; clear aX bV a3 a5 aE HB hq_; have aX := n0_; have bV := n1_; have a3 := n2_; have a5 := n3_; have aE := n4_; have HB := n5_; clear n0_ n1_ n2_ n3_ n4_ n5_)); have ro := cz2 aE; have ju := cz2 a5))
  refine cT a8 31 #[.slice EI aN.length EW, .slice L5 b9.length M0] (qP a5) Try.underlying31 ?_
  exact ⟨_, _, eR, mR aX a5, by refine rN ?_; exact Kd.N_mono (fN (fN (Kd.N_mono bV.1 (fun k_ hk => (⟨hk, hk.1.2.2.2⟩ : _ ∧ k_ ≠ a8))))) (fun _ hk => ⟨hk.1.1.1, hk.1.1.2.1⟩), cB⟩
 obtain ⟨rfl, rfl, rfl⟩ := sZ3 H
 repeat clear H
 go_enter Try.func49, Try.ntmps49
 go_wp2_with (first | ((with_reducible refine gate_dst (N := 3) rfl ?_); refine box_event ?hg (N := 3) ?hd (cs := #[.slice bG a7.length bH, .slice bL a4.length bD]) (t := 31) ?hr ?_; (case hd => rfl); (case hg => rfl); (case hr => (try (obtain ⟨Az_, cz_, ez_⟩ := Kd.R_slice fU.1; subst ez_)); first | (go_simp; done) | (go_simp; rfl)); intro a6 hg pp hbox hb; have a3 := am hbox; have bR := am (hJ : w.heap.size ≤ a6); have cJ := bR; replace HB := bS cI hb; clear hb hbox hg) | ((with_reducible refine gate_dst (N := 6) rfl ?_); refine box_event ?hg (N := 6) ?hd (cs := #[.slice none 0 0, .slice none 0 0]) (t := 31) ?hr ?_; (case hd => rfl); (case hg => rfl); (case hr => (try (obtain ⟨Az_, cz_, ez_⟩ := Kd.R_slice fU.1; subst ez_)); first | (go_simp; done) | (go_simp; rfl)); intro a8 hg pq hbox hb; have a5 := am hbox; have eO := am (p3 : w.heap.size ≤ a8); have eZ := eO; replace HB := bS aY hb; have aU := nL aC hg; have aV := nG aC hg; replace a3 := bB aC hb; clear hb hbox hg; have Mh := nZ1 aU aV; have Mi := cz2 a3) | ((with_reducible refine gC 22 ?_); refine cQ (some 13) Try.func22 (spec_ShareBookOk.calls k _ _ a7 _ _ a4 false _ (pB bC) bA.1 (pB aK) bM.1 A4.out) ?_; rintro pt hb; replace a3 := bB aC hb; replace a5 := bB aH hb; replace HB := bS eX hb; (try clear hb); have jw := cz2 a5))
 refine cT a8 31 #[.slice none 0 0, .slice none 0 0] Ct Try.underlying31 ?_
 exact ⟨_, _, eR, by first | exact Kd.R_nil _ _ _ _ _ | exact Kd.N_nil _ _ _ _ _ | exact Kd.V_nil _ _ _ _ _ | exact Kd.Q_nil _ _ _ _ _ | exact Kd.S_nil _ _ _ _ _, by first | exact Kd.S_nil _ _ _ _ _ | exact Kd.N_nil _ _ _ _ _ | exact Kd.V_nil _ _ _ _ _ | exact Kd.Q_nil _ _ _ _ _ | exact Kd.R_nil _ _ _ _ _, eX⟩
mutual
def spec_ShareEnter.j0 : Nat → ByteArray → List ByteArray → Bool → List ByteArray → List (S56) → List ByteArray → List (S56) → Option (List ByteArray × (List (S56)) × Int)
 | 0, _, _, _, _, _, _, _ => none
 | k + 1, c, e, g, h, d, a, b => if g = true then (some (a, b, 2)) else ((spec_l1At.f k h d c).bind fun i => (if i ≥ 0 then (some (a, b, 3)) else (if (d.length : Int) ≥ 5 then (some (a, b, 4)) else (spec_ShareEnter.l0 k c e 0 a b))))
def spec_ShareEnter.l0 : Nat → ByteArray → List ByteArray → Int → List ByteArray → List (S56) → Option (List ByteArray × (List (S56)) × Int)
 | 0, _, _, _, _, _ => none
 | k + 1, c, d, a, e, b => if a < (b.length : Int) then (if 0 ≤ a then (if (Op.bytesLess (((rd_T56 b a).f0).toList) c.toList) = true then (spec_ShareEnter.l0 k c d (wrap64 (a + 1)) e b) else ((some (([] : List (S56)) : List (S56))).bind fun g => (if a ≤ (b.length : Int) then ((some (b.take (a : Int).toNat : List (S56))).bind fun h => (if g.length + h.length < 2199023255552 then ((some (g ++ h : List (S56))).bind fun i => ((spec_l1Names.f d).bind fun u => (if i.length < 2199023255552 then ((some (i ++ [(⟨c, ([] : List ByteArray), u⟩ : S56)] : List (S56))).bind fun j => ((some (b.drop (a : Int).toNat : List (S56))).bind fun l => (if j.length + l.length < 2199023255552 then ((spec_l1Copy.f k e (j ++ l)).bind fun m => (some (m.1, m.2, 0))) else (none)))) else (none)))) else (none))) else (none)))) else (none)) else ((some (([] : List (S56)) : List (S56))).bind fun n => (if 0 ≤ a then (if a ≤ (b.length : Int) then ((some (b.take (a : Int).toNat : List (S56))).bind fun o => (if n.length + o.length < 2199023255552 then ((some (n ++ o : List (S56))).bind fun p => ((spec_l1Names.f d).bind fun v => (if p.length < 2199023255552 then ((some (p ++ [(⟨c, ([] : List ByteArray), v⟩ : S56)] : List (S56))).bind fun q => ((some (b.drop (a : Int).toNat : List (S56))).bind fun r => (if q.length + r.length < 2199023255552 then ((spec_l1Copy.f k e (q ++ r)).bind fun s => (some (s.1, s.2, 0))) else (none)))) else (none)))) else (none))) else (none)) else (none)))
end
def spec_ShareEnter.f (k : Nat) (a7 : List ByteArray) (a4 : List (S56)) (a1 : ByteArray) (l2 : List ByteArray) : Option (List ByteArray × (List (S56)) × Int) := (spec_ShareBookOk.f k a7 a4).bind fun b => (if b = true then ((spec_l1Copy.f k a7 a4).bind fun a => ((spec_l1NameOk.f k a1).bind fun c => (if c = true then ((spec_l1NamesOk.f k l2 a7).bind fun d => (spec_ShareEnter.j0 k a1 l2 (!d) a7 a4 a.1 a.2)) else (spec_ShareEnter.j0 k a1 l2 true a7 a4 a.1 a.2)))) else (some (([] : List ByteArray), ([] : List (S56)), 1)))
def spec_ShareEnter.T13 : Bool × List (List Nat × List Nat) := (true, [([], []), ([], []), ([1], [1]), ([], []), ([2, 3], [2, 3]), ([0, 4], [0, 4]), ([], []), ([], []), ([7, 5], [7]), ([6, 8], [6, 8]), ([9], [9]), ([5, 10, 8], [5, 10]), ([], []), ([12], [12]), ([], []), ([13, 14], [13, 14]), ([11, 15, 11], [11, 15]), ([0, 1, 2, 3, 4, 5, 6, 7, 8, 9, 10, 11, 12, 13, 14, 15, 16], []), ([17, 16, 16, 0, 1, 2, 3, 4, 5, 6, 7, 8, 9, 10, 11, 12, 13, 14, 15, 16], [16, 17])])
def spec_ShareEnter.B13 : List Nat := [0, 0, 2, 0, 14, 31, 0, 0, 191, 511, 1023, 2047, 0, 4096, 0, 28672, 65535, 131071, 262143]
theorem spec_ShareEnter.tab13 : rtab .any (opsOf Try.f59 13) = spec_ShareEnter.T13 := by kernel_rfl
theorem spec_ShareEnter.bits13 : waitsOk spec_ShareEnter.T13.2 spec_ShareEnter.B13 = true := by kernel_rfl
theorem spec_ShareEnter.calls (k : Nat) (bG : Option Addr) (bH : Nat) (a7 : List ByteArray) (bL : Option Addr) (bD : Nat) (a4 : List (S56)) (a1 : ByteArray) (A2 : Option Addr) (c2 : Nat) (l2 : List ByteArray) (r1 : List ByteArray) (r2 : List (S56)) (r3 : Int) (w : World) (cZ : Kd.C Kd.string w bG a7.length a7) (cX : a7.length ≤ bH) (cU : Kd.C k56 w bL a4.length a4) (cY : a4.length ≤ bD) (DR : Kd.C Kd.string w A2 l2.length l2) (DM : l2.length ≤ c2) (h : spec_ShareEnter.f k a7 a4 a1 l2 = some (r1, r2, r3)) :
  Calls Try.prog 59 #[.agg #[.slice bG a7.length bH, .slice bL a4.length bD], .string a1, .slice A2 l2.length c2] w fun e w' => ∃ v0_ v1_ : Value, e = .returned (.tuple #[.agg #[v0_, v1_], .int .i64 r3]) ∧ Kd.R Kd.string 9 w' w.heap.size (fun k_ => (w.heap.size ≤ k_)) v0_ r1 ∧ Kd.N k56 56 w' w.heap.size (F10 w v0_) v1_ r2 ∧ Below w.heap.size w w' := by
 have hu31 := Try.underlying31
 have hu56 := Try.underlying56
 obtain ⟨bC, bA⟩ := mZ2 cZ cX
 obtain ⟨aK, bM⟩ := mZ2 cU cY
 obtain ⟨sU, oL⟩ := mZ2 DR DM
 clear cZ cX cU cY DR DM
 have HB := am (Below.refl w.heap.size w)
 unfold spec_ShareEnter.f at h
 have H := h
 clear h
 obtain ⟨bE, A4, H⟩ := bd H
 refine tC H ?_ ?_ <;> clear H <;> intro c5 H <;> subst c5
 ·obtain ⟨⟨aN, b9⟩, A6, H⟩ := bd H
  dsimp only at H
  have Mb := am H
  clear H
  go_enter Try.func59, Try.ntmps59
  go_upto_region 4 with (first | ((with_reducible refine gD 3 ?_); refine bX 3 #[.slice bG a7.length bH, .slice bL a4.length bD] 31 ?_; intro a6 hg w8 hbox hb; have a3 := am hbox; have bR := am (hJ : w.heap.size ≤ a6); have cJ := bR; replace HB := bS cI hb; clear hb hbox hg) | ((with_reducible refine gD 6 ?_); refine bX 6 #[.slice none 0 0, .slice none 0 0] 31 ?_; intro a8 hg w9 hbox hb; have a5 := am hbox; have eO := am (p3 : w.heap.size ≤ a8); have eZ := eO; replace HB := bS aY hb; have aU := nL aC hg; have aV := nG aC hg; replace a3 := bB aC hb; clear hb hbox hg; have Y8 := nZ1 aU aV; have LT := cz2 a3) | ((with_reducible refine gC 22 ?_); refine cQ (some 11) Try.func22 (spec_ShareBookOk.calls k _ _ a7 _ _ a4 true _ (pB bC) bA.1 (pB aK) bM.1 A4.out) ?_; rintro Sj hb; replace a3 := bB aC hb; replace a5 := bB aH hb; replace HB := bS eX hb; (try clear hb); have OH := cz2 a3) | ((with_reducible refine gC 89 ?_); refine cE (some 15) Try.func89 (spec_l1Copy.calls k _ _ a7 _ _ a4 aN b9 _ (pB bC) bA.1 (pB aK) bM.1 A6.out) ?_; rintro e GS ⟨sG, qN, rfl, bQ, gY, hb⟩; refine ⟨_, rfl, ?_⟩; have aX := am (Kd.R_lower (Kd.R_newM (M := fun k_ => (w.heap.size ≤ k_)) bQ (below_size eX) (fun k_ h_ => h_)) (below_size eX)); have bV := am (Kd.N_lower (Kd.N_mono (ok' := F12 w sG a6 a8) (Kd.S_N (Kd.S_bound gY)) (fun k_ hk_ => ⟨(Nat.le_trans (below_size eX) hk_.2.1), hk_.1, (fB aC k_ hk_.2.1), (fB aH k_ hk_.2.1)⟩)) (below_size eX)); replace a3 := bB aC hb; replace a5 := bB aH hb; replace HB := bS eX hb; (try clear hb); (try clear bQ); (try clear gY)) | ((with_reducible refine gD 8 ?_); refine bX 8 #[.slice none 0 0, .slice none 0 0] 31 ?_; intro aI hg Dm hbox hb; replace aX := RB iX hb; replace bV := am (Kd.N_below (Kd.N_elderB lA aI (Nat.le_of_eq hg.symm)) hb); have aE := am hbox; have qV := am (DT : w.heap.size ≤ aI); have sK := qV; replace HB := bS eX hb; have cC := nL aC hg; have d6 := nG aC hg; replace a3 := bB aC hb; have cO := nL aH hg; have dG := nG aH hg; replace a5 := bB aH hb; clear hb hbox hg; obtain ⟨dX, dV, Ot⟩ := Kd.R_slice aX.1; subst Ot; have Er := nZ2 d6 cC dG cO; have Y9 := cz2 aE; obtain ⟨jJ, eM, yG⟩ := Kd.N_slice bV.1; subst yG))
  (try simp only [Act.put, List.setIfInBounds_toArray, List.set_cons_zero, List.set_cons_succ])
  go_cut [25] (fun pg wc => ∃ (kq : Nat) (KQ : Bool), pg = .bool KQ ∧ Aside0 (spec_ShareEnter.j0 kq a1 l2 KQ a7 a4 aN b9 = some (r1, r2, r3)) ∧ Aside0 (kq ≤ k) ∧ Aside0 (Kd.R Kd.string 9 wc w.heap.size (fun k_ => (w.heap.size ≤ k_)) (.slice dX aN.length dV) aN) ∧ Aside0 (Kd.N k56 56 wc w.heap.size (F13 w (.slice dX aN.length dV) a6 a8 aI) (.slice jJ b9.length eM) b9) ∧ Aside0 (wc.heap[a6]? = some (.cells #[(.slice bG a7.length bH), (.slice bL a4.length bD)] 31 (0, 0))) ∧ Aside0 (wc.heap[a8]? = some (.cells #[(.slice none 0 0), (.slice none 0 0)] 31 (0, 0))) ∧ Aside0 (wc.heap[aI]? = some (.cells #[(.slice dX aN.length dV), (.slice jJ b9.length eM)] 31 (0, 0))) ∧ Aside0 (Below w.heap.size w wc))
  case first =>
   have H := Mb.1
   clear Mb
   obtain ⟨aT, VH, H⟩ := bd H
   refine tC H ?_ ?_ <;> clear H <;> intro Nh H <;> subst Nh
   ·obtain ⟨eA, yO, H⟩ := bd H
    have H' := am H
    repeat clear H
    go_wp2_with (first | ((with_reducible refine gC 70 ?_); refine cQ (some 17) Try.func70 (spec_l1NameOk.calls k a1 true _ VH.out) ?_; rintro w' ⟨nd, rfl⟩; have Mo := nZ2 aU aV cC d6; have Mp := cz2 a3) | (go_at_call 71; refine cM (spec_l1NamesOk.calls k _ _ l2 _ _ a7 eA _ (Kd.C_below sU.1 cB) oL.1 (Kd.C_below bC.1 cB) bA.1 yO.out) ?_; rintro w' ⟨nd, rfl⟩))
    go_meet
    exact ⟨_, (!eA), aQ, H', ⟨by first | omega | exact Nat.le_refl _⟩, ⟨mR aX aE⟩, ⟨by refine rN ?_; exact Kd.N_mono (fN (fN (Kd.N_mono bV.1 (fun k_ hk => (⟨hk, hk.2⟩ : _ ∧ k_ ≠ aI))))) (fun _ hk => ⟨hk.1.1.1, ⟨hk.1.1.2.1, ⟨hk.1.1.2.2.1, ⟨hk.1.1.2.2.2, hk.1.2⟩⟩⟩⟩)⟩, ⟨qF a3 cC⟩, ⟨qF a5 cO⟩, ⟨qP aE⟩, ⟨cB⟩⟩
   have H' := am H
   repeat clear H
   go_wp2_with (first | ((with_reducible refine gC 70 ?_); refine cQ (some 17) Try.func70 (spec_l1NameOk.calls k a1 false _ VH.out) ?_; rintro w' ⟨nd, rfl⟩))
   go_meet
   exact ⟨_, (true), aQ, H', ⟨by first | omega | exact Nat.le_refl _⟩, ⟨mR aX aE⟩, ⟨by refine rN ?_; exact Kd.N_mono (fN (fN (Kd.N_mono bV.1 (fun k_ hk => (⟨hk, hk.2⟩ : _ ∧ k_ ≠ aI))))) (fun _ hk => ⟨hk.1.1.1, ⟨hk.1.1.2.1, ⟨hk.1.1.2.2.1, ⟨hk.1.1.2.2.2, hk.1.2⟩⟩⟩⟩)⟩, ⟨qF a3 cC⟩, ⟨qF a5 cO⟩, ⟨qP aE⟩, ⟨cB⟩⟩
  clear Mb
  try clear c2
  try clear c5
  try clear LT
  try clear OH
  try clear Y9
  obtain ⟨kq, KQ, rfl, HA, HJ6, aM, aA, a3, a5, aE, HB⟩ := hcut
  cases kq with
  | zero => exact absurd HA.out (by simp [spec_ShareEnter.j0])
  | succ kj6 =>
   have H := HA.out
   clear HA
   simp only [spec_ShareEnter.j0] at H
   refine tC H ?_ ?_ <;> clear H <;> intro Xw H <;> subst Xw
   obtain ⟨rfl, rfl, rfl⟩ := sZ3 H
   repeat clear H
   have Ul := nZ2 d6 cC dG cO
   have la := cz2 aE
   have Uq := nZ1 aV aU
   have Mq := cz2 a5
   rotate_left
   obtain ⟨qL, Lh, H⟩ := bd H
   by_cases RT : qL ≥ 0
   rw [if_pos RT] at H
   have OW : decide (0 ≤ qL) = true := decide_eq_true RT
   clear RT
   obtain ⟨rfl, rfl, rfl⟩ := sZ3 H
   repeat clear H
   have Es := nZ2 aU aV cC d6
   have qo := cz2 a3
   have NZ := trivial
   rotate_left
   rw [if_neg RT] at H
   have OW : decide (0 ≤ qL) = false := decide_eq_false RT
   clear RT
   by_cases RU : (a4.length : Int) ≥ 5
   rw [if_pos RU] at H
   have J9 : decide (5 ≤ (a4.length : Int)) = true := decide_eq_true RU
   have OX : decide (5 ≤ a4.length) = true := decide_eq_true (by omega)
   clear RU
   obtain ⟨rfl, rfl, rfl⟩ := sZ3 H
   repeat clear H
   have Et := nZ2 aU aV cC d6
   have Eu := cz2 a3
   have O0 := trivial
   rotate_left
   rw [if_neg RU] at H
   have J9 : decide (5 ≤ (a4.length : Int)) = false := decide_eq_false RU
   have OX : decide (5 ≤ a4.length) = false := decide_eq_false (by omega)
   clear RU
   have H' := am H
   repeat clear H
   have le := nZ2 aU aV cC d6
   have Ew := cz2 a3
   have O1 := trivial
   rotate_left
   all_goals
    go_wp2_with (first | ((with_reducible refine gC 82 ?_); revert NZ; intro NZ; refine cQ (some 29) Try.func82 (spec_l1At.calls kj6 _ _ a7 _ _ a4 a1 qL _ (pB bC) bA.1 (pB aK) bM.1 Lh.out) ?_; rintro ex hb; replace aM := RB e8 hb; replace aA := NE iN hb; replace a3 := bB aC hb; replace a5 := bB aH hb; replace aE := bB dL hb; replace HB := bS cB hb; (try clear hb); have Vk := nZ1 dG cO; have Vl := cz2 aE; have Vm := cz2 a5) | ((with_reducible refine gC 82 ?_); revert O0; intro O0; refine cQ (some 29) Try.func82 (spec_l1At.calls kj6 _ _ a7 _ _ a4 a1 qL _ (pB bC) bA.1 (pB aK) bM.1 Lh.out) ?_; rintro ey hb; replace aM := RB e8 hb; replace aA := NE iN hb; replace a3 := bB aC hb; replace a5 := bB aH hb; replace aE := bB dL hb; replace HB := bS cB hb; (try clear hb); have Vn := cz2 a3; have Vo := nZ1 dG cO; have Vp := cz2 aE; have Vq := cz2 a5) | ((with_reducible refine gC 82 ?_); revert O1; intro O1; refine cQ (some 29) Try.func82 (spec_l1At.calls kj6 _ _ a7 _ _ a4 a1 qL _ (pB bC) bA.1 (pB aK) bM.1 Lh.out) ?_; rintro ez hb; replace aM := RB e8 hb; replace aA := NE iN hb; replace a3 := bB aC hb; replace a5 := bB aH hb; replace aE := bB dL hb; replace HB := bS cB hb; (try clear hb); have YC := cz2 a3))
   ·refine cT a8 31 #[.slice dX aN.length dV, .slice jJ b9.length eM] (qP a5) Try.underlying31 ?_
    exact ⟨_, _, eR, mR aM a5, by refine rN ?_; exact Kd.N_mono (fN (fN (Kd.N_mono aA.1 (fun k_ hk => (⟨hk, hk.2.2.2.1⟩ : _ ∧ k_ ≠ a8))))) (fun _ hk => ⟨hk.1.1, hk.1.2.1⟩), cB⟩
   ·refine cT a8 31 #[.slice dX aN.length dV, .slice jJ b9.length eM] (qP a5) Try.underlying31 ?_
    exact ⟨_, _, eR, mR aM a5, by refine rN ?_; exact Kd.N_mono (fN (fN (Kd.N_mono aA.1 (fun k_ hk => (⟨hk, hk.2.2.2.1⟩ : _ ∧ k_ ≠ a8))))) (fun _ hk => ⟨hk.1.1, hk.1.2.1⟩), cB⟩
   ·refine cT a8 31 #[.slice dX aN.length dV, .slice jJ b9.length eM] (qP a5) Try.underlying31 ?_
    exact ⟨_, _, eR, mR aM a5, by refine rN ?_; exact Kd.N_mono (fN (fN (Kd.N_mono aA.1 (fun k_ hk => (⟨hk, hk.2.2.2.1⟩ : _ ∧ k_ ≠ a8))))) (fun _ hk => ⟨hk.1.1, hk.1.2.1⟩), cB⟩
   ·go_loopg [9] kj6 (fun kq v9 w' => ∃ (dT : Int), v9 = .int .i64 dT ∧ Aside0 (spec_ShareEnter.l0 kq a1 l2 dT aN b9 = some (r1, r2, r3)) ∧ Aside0 (kq ≤ kj6) ∧ Aside0 (Kd.R Kd.string 9 w' w.heap.size (fun k_ => (w.heap.size ≤ k_)) (.slice dX aN.length dV) aN) ∧ Aside0 (Kd.N k56 56 w' w.heap.size (F13 w (.slice dX aN.length dV) a6 a8 aI) (.slice jJ b9.length eM) b9) ∧ Aside0 (w'.heap[a6]? = some (.cells #[(.slice bG a7.length bH), (.slice bL a4.length bD)] 31 (0, 0))) ∧ Aside0 (w'.heap[a8]? = some (.cells #[(.slice none 0 0), (.slice none 0 0)] 31 (0, 0))) ∧ Aside0 (w'.heap[aI]? = some (.cells #[(.slice dX aN.length dV), (.slice jJ b9.length eM)] 31 (0, 0))) ∧ Aside0 (Below w.heap.size w w'))
    case atStart => exact ⟨(0), aQ, H', ⟨Nat.le_refl _⟩, ⟨rR aM.1⟩, ⟨rN aA.1⟩, ⟨rB a3.1⟩, ⟨rB a5.1⟩, ⟨rB aE.1⟩, ⟨cB⟩⟩
    case round =>
     clear H'
     try clear c2
     try clear c5
     try clear Xw
     try clear RT
     try clear OW
     try clear RU
     try clear J9
     try clear OX
     try clear LT
     try clear OH
     try clear Y9
     try clear Ew
     try clear YC
     obtain ⟨dT, rfl, HA, HK2, aM, aA, a3, a5, aE, HB⟩ := hrel
     cases gk with
     | zero => exact absurd HA.out (by simp [spec_ShareEnter.l0])
     | succ k2 =>
      have H := HA.out
      clear HA
      simp only [spec_ShareEnter.l0] at H
      refine ic H ?_ ?_ <;> clear H <;> intro ZC H
      ·obtain ⟨zV, H⟩ := cN H
       refine tC H ?_ ?_ <;> clear H <;> intro P0 H
       ·have H' := am H
        repeat clear H
        have lh := nZ2 d6 cC dG cO
        have ll := cz2 aE
        have CG : 0 ≤ (dT : Int) := oT
        have CK : dT < (b9.length : Int) := oT
        obtain ⟨jN, PW, RG, PX, RH, SH, ML, C9, CA, tW, tQ, tX, tT⟩ := at_T56 (Kd.N_reads' aA.1).2.2 dT CG CK
        cases SH
        obtain ⟨ce114, hce114, hMe114, hcc114⟩ := Kd.N_get aA.1 z56 dT CG (by first | exact CK | exact oT | (have e_ := (Kd.N_reads' aA.1).1; omega))
        obtain ⟨ua114_1, uc114_1, ua114_2, uc114_2, rfl, q5, pJ, q8, pK⟩ := k56_openF hMe114
        have mM := hcc114 1 _ rfl
        rw [add_field _ _ 1 (by omega)] at mM
        replace mM := Option.some.inj (mM.symm.trans C9)
        injection mM with hva_ hvn_ hvc_
        rw [hva_] at pJ
        rw [hvc_] at q5
        have gO := am (show Kd.V Kd.string 9 _ w.heap.size _ _ ((rd_T56 b9 dT).f1) from Kd.V_mk q5 pJ)
        clear hva_ hvn_ hvc_ pJ q5
        have mN := hcc114 2 _ rfl
        rw [add_field _ _ 2 (by omega)] at mN
        replace mN := Option.some.inj (mN.symm.trans CA)
        injection mN with hva_ hvn_ hvc_
        rw [hva_] at pK
        rw [hvc_] at q8
        have gP := am (show Kd.V Kd.string 9 _ w.heap.size _ _ ((rd_T56 b9 dT).f2) from Kd.V_mk q8 pK)
        clear hva_ hvn_ hvc_ pK q8
        clear hcc114 hce114
        have pD := am tQ
        have L8 := am tW
        clear tQ tW
        have pE := am tT
        have L9 := am tX
        clear tT tX
        replace CG := eq_true CG
        replace CK := eq_true CK
        go_wp2
        go_roundg k2
        case measure => have := HJ6.out; have := HK2.out; omega
        case rel => exact ⟨(wrap64 (dT + 1)), aQ, H', ⟨by have := HJ6.out; have := HK2.out; omega⟩, ⟨rR aM.1⟩, ⟨rN aA.1⟩, ⟨rB a3.1⟩, ⟨rB a5.1⟩, ⟨rB aE.1⟩, ⟨cB⟩⟩
       ·obtain ⟨wX, hy115⟩ : ∃ y_ : List (S56), y_ = (([] : List (S56))) := ⟨_, rfl⟩
        replace H : (if dT ≤ (b9.length : Int) then ((some (b9.take (dT : Int).toNat : List (S56))).bind fun E3 => (if wX.length + E3.length < 2199023255552 then ((some (wX ++ E3 : List (S56))).bind fun nZ => ((spec_l1Names.f l2).bind fun oI => (if nZ.length < 2199023255552 then ((some (nZ ++ [(⟨a1, ([] : List ByteArray), oI⟩ : S56)] : List (S56))).bind fun p5 => ((some (b9.drop (dT : Int).toNat : List (S56))).bind fun wY => (if p5.length + wY.length < 2199023255552 then ((spec_l1Copy.f k2 aN (p5 ++ wY)).bind fun OK => (some (OK.1, OK.2, 0))) else (none)))) else (none)))) else (none))) else (none)) = some (r1, r2, r3) := by first | (rw [hy115]; with_reducible exact H) | (have H2_ := (Option.bind_some _ _).symm.trans H; rw [hy115]; with_reducible exact H2_) | (have H2_ := (Option.bind_some _ _).symm.trans H; with_reducible exact H2_) | with_reducible exact H | (rw [hy115]; exact H) | exact H
        have D5 := am hy115
        clear hy115
        have Yt := eq_true (oT : 0 ≤ dT)
        obtain ⟨ZG, Yu, H⟩ := cP H
        obtain ⟨E3, OE, H⟩ := bY H
        obtain ⟨XM, H⟩ := cL H
        obtain ⟨nZ, wI, H⟩ := bY H
        obtain ⟨oI, ir, H⟩ := bd H
        obtain ⟨XN, H⟩ := cL H
        obtain ⟨p5, qZ, H⟩ := bY H
        have Yv := eq_true (oT : 0 ≤ dT)
        have Yw := eq_true (oT : dT ≤ (b9.length : Int))
        obtain ⟨wY, OF, H⟩ := bY H
        obtain ⟨XO, H⟩ := cL H
        obtain ⟨wA, wJ⟩ := yv (p5 ++ wY); first | replace H := bW wJ H | rw [← wJ.1] at H
        obtain ⟨⟨CN, Da⟩, iv, H⟩ := bd H
        dsimp only at H
        obtain ⟨rfl, rfl, rfl⟩ := sZ3 H
        repeat clear H
        have rc := nZ2 d6 cC dG cO
        have rf := cz2 aE
        have CG : 0 ≤ (dT : Int) := oT
        have CK : dT < (b9.length : Int) := oT
        obtain ⟨jN, PW, RG, PX, RH, SH, ML, C9, CA, tW, tQ, tX, tT⟩ := at_T56 (Kd.N_reads' aA.1).2.2 dT CG CK
        cases SH
        obtain ⟨ce114, hce114, hMe114, hcc114⟩ := Kd.N_get aA.1 z56 dT CG (by first | exact CK | exact oT | (have e_ := (Kd.N_reads' aA.1).1; omega))
        obtain ⟨ua114_1, uc114_1, ua114_2, uc114_2, rfl, q5, pJ, q8, pK⟩ := k56_openF hMe114
        have mM := hcc114 1 _ rfl
        rw [add_field _ _ 1 (by omega)] at mM
        replace mM := Option.some.inj (mM.symm.trans C9)
        injection mM with hva_ hvn_ hvc_
        rw [hva_] at pJ
        rw [hvc_] at q5
        have gO := am (show Kd.V Kd.string 9 _ w.heap.size _ _ ((rd_T56 b9 dT).f1) from Kd.V_mk q5 pJ)
        clear hva_ hvn_ hvc_ pJ q5
        have mN := hcc114 2 _ rfl
        rw [add_field _ _ 2 (by omega)] at mN
        replace mN := Option.some.inj (mN.symm.trans CA)
        injection mN with hva_ hvn_ hvc_
        rw [hva_] at pK
        rw [hvc_] at q8
        have gP := am (show Kd.V Kd.string 9 _ w.heap.size _ _ ((rd_T56 b9 dT).f2) from Kd.V_mk q8 pK)
        clear hva_ hvn_ hvc_ pK q8
        clear hcc114 hce114
        have pD := am tQ
        have L8 := am tW
        clear tQ tW
        have pE := am tT
        have L9 := am tX
        clear tT tX
        replace CG := eq_true CG
        replace CK := eq_true CK
        try go_wp2
        replace aM := RD aM
        replace aA := ND aA
        replace gO := am (Kd.V_drew gO.out)
        replace gP := am (Kd.V_drew gP.out)
        replace a3 := BD a3
        replace a5 := BD a5
        replace aE := BD aE
        replace pD := am (Kd.C_drew pD.1)
        replace pE := am (Kd.C_drew pE.1)
        replace HB := am (below_drew1 HB.1)
        have Rj : (dT : Int) ≤ ((b9.length : Int) : Int) := oT
        obtain ⟨i075, PK, _, hsz75, _⟩ := info_parts info56
        have hroom75 : b9.length ≤ eM := (Kd.N_reads' aA.1).2.1
        have hC75 : Kd.F k56 _ _ (some jN) b9.length b9 := (Kd.V_at (base := w.heap.size) (Kd.N_V aA.1)).2.2
        have hcut75 := cut_to (P := Try.prog) 29 56 .i64 Try.underlying29 PK (some jN) b9.length eM dT (oT) Rj hroom75
        have UK := Kd.F_take (m := (dT : Int).toNat) hC75 (by omega)
        have hy75 : E3.length = (dT : Int).toNat := (by rw [OE.out, List.length_take]; omega)
        rw [← OE.out] at UK
        rw [← hy75] at hcut75
        have fE := am (show Kd.V k56 56 _ w.heap.size _ (.slice (some jN) E3.length eM) E3 from Kd.V_mk (by omega) UK)
        have Tr := am (show E3.length ≤ eM from by omega)
        clear UK hC75 hroom75 PK hsz75
        have KY75 := am hy75
        clear hy75
        replace Rj := eq_true Rj
        have WF : (dT : Int) ≤ ((b9.length : Int) : Int) := oT
        obtain ⟨i076, PL, _, hsz76, _⟩ := info_parts info56
        have hroom76 : b9.length ≤ eM := (Kd.N_reads' aA.1).2.1
        have hC76 : Kd.F k56 _ _ (some jN) b9.length b9 := (Kd.V_at (base := w.heap.size) (Kd.N_V aA.1)).2.2
        have Ra : (0 : Int) ≤ (dT : Int) := oT
        have hcut76 := cut_from (P := Try.prog) 29 56 .i64 Try.underlying29 PL 3 hsz76 (some jN) b9.length eM dT Ra WF
        have JW := Kd.F_cut (m := (dT : Int).toNat) (c := eM) hC76 (by omega) hroom76
        obtain ⟨Ti, hA76⟩ : ∃ A1, A1 = (if eM = (dT : Int).toNat then (some jN) else ((some jN) : Option Addr).map (·.add ((dT : Int).toNat * 3))) := ⟨_, rfl⟩
        obtain ⟨Yz, ME⟩ : ∃ c1, c1 = eM - (dT : Int).toNat := ⟨_, rfl⟩
        have hy76 : wY.length = b9.length - (dT : Int).toNat := (by rw [OF.out, List.length_drop] <;> omega)
        rw [show (b9).drop (dT : Int).toNat = wY from OF.out.symm] at JW
        replace JW : Kd.F k56 _ _ Ti wY.length wY := (by rw [hA76]; exact JW)
        rw [← hy76, ← hA76, ← ME] at hcut76
        have kM := am (show Kd.V k56 56 _ w.heap.size _ (.slice Ti wY.length Yz) wY from Kd.V_mk (by rw [hy76, ME]; exact Nat.sub_le_sub_right hroom76 _) JW)
        have Tv := am (show wY.length ≤ Yz from by rw [hy76, ME]; exact Nat.sub_le_sub_right hroom76 _)
        clear JW hC76 hroom76 PL hsz76 ME
        have KY76 := am hy76
        have KA76 := am hA76
        clear hy76 hA76
        replace WF := eq_true WF
        refine sT [18] 19 (uA2 aE) (fun hHeld => ?_)
        refine with_tabW spec_ShareEnter.tab13 spec_ShareEnter.bits13 (fun HT_ HW_ => ?_)
        generalize wr.drew = fu at aM aA gO gP a3 a5 aE pD pE HB fE kM hHeld ⊢
        refine pU6 1 3 6 7 12 14 ?_
        refine tK2 2 (some 56) ?_
        refine pU1 4 ?_
        refine tK2 13 (some 67) ?_
        refine pU1 15 ?_
        refine oN 0 (some 54) fun K hK => ?_
        refine Kd.N_lit_step k56 _ 56 ?hg (N' := 54) ?hd (xs := ([] : List (S56))) (inner := []) (ok := (F23 w (.slice dX aN.length dV) (.slice (some jN) b9.length eM) a6 a8 aI)) (okp := (F23 w (.slice dX aN.length dV) (.slice (some jN) b9.length eM) a6 a8 aI)) ?hr ?hp (fun _ hk => hk) ((show ∀ k_, fu.heap.size ≤ k_ → (F23 w (.slice dX aN.length dV) (.slice (some jN) b9.length eM) a6 a8 aI) k_ from fun k_ hk => ⟨(Nat.le_trans (below_size cB) hk), Kd.fresh' (Kd.R_lt e8) k_ hk, Kd.fresh' (Kd.N_lt iN) k_ hk, fB aC k_ hk, fB aH k_ hk, fB dL k_ hk⟩) _ (Nat.le_refl _)) (Below.refl _ _) (Nat.le_refl _) (by simp) ?_; (case hd => rfl); (case hg => rfl); (case hr => first | (go_simp; done) | (go_simp; rfl)); (case hp => exact (Reps.none _ _))
        intro DY Kv sX hb hg_ hnew_
        clear hg_ hnew_
        (first | rw [← D5.out] at sX | (simp only [Int.reduceToNat] at sX; rw [← D5.out] at sX))
        replace aM := RB e8 hb
        replace aA := am (Kd.N_elder' iN (by first | exact Kd.N_base sX | exact Kd.S_base sX) hb)
        replace gO := am (Kd.V_elder' (rV gO.out) (by first | exact Kd.N_base sX | exact Kd.S_base sX) hb)
        replace gP := am (Kd.V_elder' (rV gP.out) (by first | exact Kd.N_base sX | exact Kd.S_base sX) hb)
        replace fE := am (Kd.V_elder' (rV fE.1) (by first | exact Kd.N_base sX | exact Kd.S_base sX) hb)
        replace kM := am (Kd.V_elder' (rV kM.1) (by first | exact Kd.N_base sX | exact Kd.S_base sX) hb)
        have gU := am (Kd.N_lower sX (below_size cB))
        replace a3 := bB aC hb
        replace a5 := bB aH hb
        replace aE := bB dL hb
        replace pD := am (Kd.C_below (by repeat (first | (with_reducible exact pD.1) | (with_reducible refine Kd.C_alloc ?_ _) | (with_reducible refine Kd.C_drewN ?_ _) | (with_reducible refine Kd.C_drew ?_) | exact pD.1)) hb)
        replace pE := am (Kd.C_below (by repeat (first | (with_reducible exact pE.1) | (with_reducible refine Kd.C_alloc ?_ _) | (with_reducible refine Kd.C_drewN ?_ _) | (with_reducible refine Kd.C_drew ?_) | exact pE.1)) hb)
        replace HB := bS cB hb
        clear hb sX
        refine nK hK (uA2 aE).1 fun hHeld => ?_
        clear hK K
        refine oN 5 (some 59) fun K hK => ?_
        refine Kd.N_append_rows_step k56 (w0 := w) w.heap.size (by rfl) (.tmp 54) (.tmp 58) 29 56 Ag0 64 rfl Try.underlying29 info56 rfl (by decide) (by omega) DY wX E3 _ _ _ (F13 w (.slice dX aN.length dV) a6 a8 aI) (FA (F13 w (.slice dX aN.length dV) a6 a8 aI) DY) rfl rfl ?aO ?aR (fun _ hk => hk) ?aF ?aB ?aS ?aL ?_
        (case aR => exact (by skip; exact Kd.V_F (Kd.V_mono (ok' := (FA (F13 w (.slice dX aN.length dV) a6 a8 aI) DY)) (fE.1) (fun k_ hk => ⟨⟨hk.1.1, ⟨hk.1.2.1, ⟨hk.1.2.2.1, ⟨hk.1.2.2.2.1, hk.1.2.2.2.2⟩⟩⟩⟩, hk.2⟩))))
        (case aB => exact cB)
        (case aF => exact (fun k_ hk => ⟨(Nat.le_trans (below_size cB) hk), Kd.fresh' (Kd.R_lt e8) k_ hk, fB aC k_ hk, fB aH k_ hk, fB dL k_ hk⟩))
        (case aO => exact (by refine rN ?_; exact Kd.N_mono gU.1 (fun _ hk => ⟨hk.1, ⟨hk.2.1, ⟨hk.2.2.2.1, ⟨hk.2.2.2.2.1, hk.2.2.2.2.2⟩⟩⟩⟩)))
        (case aS => exact (below_size cB))
        (case aL => have := XM.out; omega)
        intro F7 qk ho hb hg hat
        rw [← wI.out] at ho
        replace aM := am (Kd.R_over' e8 (Kd.N_typed (rN gU.1)) (by decide) hg)
        replace aA := am (Kd.N_afterv (ok := (F13 w (.slice dX aN.length dV) a6 a8 aI)) iN hg hat)
        replace a3 := gkN aC hg gU a3
        replace a5 := gkN aH hg gU a5
        replace aE := gkN dL hg gU aE
        replace gO := am (Kd.V_afterv (ok := (F23 w (.slice dX aN.length dV) (.slice (some jN) b9.length eM) a6 a8 aI)) (by refine rV ?_; exact Kd.V_mono gO.out (fun _ hk => ⟨⟨hk.1.1.1, ⟨hk.1.1.2.1, ⟨hk.1.2, ⟨hk.1.1.2.2.1, ⟨hk.1.1.2.2.2.1, hk.1.1.2.2.2.2⟩⟩⟩⟩⟩, hk.2⟩)) hg hat)
        replace gP := am (Kd.V_afterv (ok := (F23 w (.slice dX aN.length dV) (.slice (some jN) b9.length eM) a6 a8 aI)) (by refine rV ?_; exact Kd.V_mono gP.out (fun _ hk => ⟨⟨hk.1.1.1, ⟨hk.1.1.2.1, ⟨hk.1.2, ⟨hk.1.1.2.2.1, ⟨hk.1.1.2.2.2.1, hk.1.1.2.2.2.2⟩⟩⟩⟩⟩, hk.2⟩)) hg hat)
        replace fE := am (Kd.V_afterv (ok := (F13 w (.slice dX aN.length dV) a6 a8 aI)) (rV fE.1) hg hat)
        replace kM := am (Kd.V_afterv (ok := (F13 w (.slice dX aN.length dV) a6 a8 aI)) (rV kM.1) hg hat)
        replace HB := am hb
        have iQ := am ho
        clear gU
        clear ho hb hg hat
        refine nK hK (uA2 aE).1 fun hHeld => ?_
        clear hK K
        refine oN 8 (some 62) fun K hK => ?_
        refine gE Try.func93 (spec_l1Names.calls _ _ l2 oI _ (pB sU) oL.1 ir.out) ?_
        rintro e sp ⟨uZ, rfl, bQ, hb⟩
        refine ⟨_, rfl, ?_⟩
        replace aA := am (Kd.N_elder' iN (Kd.R_base bQ) hb)
        replace gO := am (Kd.V_elder' (rV gO.out) (Kd.R_base bQ) hb)
        replace gP := am (Kd.V_elder' (rV gP.out) (Kd.R_base bQ) hb)
        replace fE := am (Kd.V_elder' (rV fE.1) (Kd.R_base bQ) hb)
        replace kM := am (Kd.V_elder' (rV kM.1) (Kd.R_base bQ) hb)
        replace iQ := am (Kd.N_elder' (rN iQ.1) (Kd.R_base bQ) hb)
        have y6 := am (Kd.R_lower (Kd.R_new' (Kd.R_newM (M := fun k_ => (w.heap.size ≤ k_)) bQ (below_size cB) (fun k_ h_ => h_)) (Kd.R_lt e8)) (below_size cB))
        replace aM := am (Kd.R_elder' e8 (Kd.R_base bQ) hb)
        replace a3 := bB aC hb
        replace a5 := bB aH hb
        replace aE := bB dL hb
        replace HB := bS cB hb
        (try clear hb)
        (try clear hb2)
        (try clear hk)
        (try clear hi)
        (try clear bQ)
        obtain ⟨GV, H6, At⟩ := Kd.R_slice y6.1
        (first | subst At | (obtain ⟨f4_, f5_⟩ := sj At; subst f4_; subst f5_))
        refine nK hK (uA2 aE).1 fun hHeld => ?_
        clear hK K
        refine pU1 9 ?_
        refine oN 10 (some 64) fun K hK => ?_
        refine value_ (w1 := ?_) (v := ?_) (by rfl) rfl ?_ ?_
        rotate_left 2
        ·go_simp
         constructor
         ·rfl
         ·rfl
        refine hK.out _ _ ⟨(blk_cell (blk_alloc aE.1 _) 0).trans rfl, (blk_cell (blk_alloc aE.1 _) 1).trans rfl⟩ (fun hHeld => ?_)
        clear hK K
        refine nM ?_
        refine oN 11 (some 65) fun K hK => ?_
        refine Kd.N_append_step k56 (w0 := w) w.heap.size (by rfl) (.tmp 59) (.tmp 64) 29 56 Ag0 64 rfl Try.underlying29 info56 rfl (by decide) (by omega) F7 nZ (⟨a1, ([] : List ByteArray), oI⟩ : S56) [.string a1, .slice none 0 0, .slice GV oI.length H6] (F13 w (.slice dX aN.length dV) a6 a8 aI) (FA (F13 w (.slice dX aN.length dV) a6 a8 aI) F7) rfl rfl ?aP (fun _ hk => hk) ?aF ?aO ?aB ?aS ?aL ?_
        (case aP => exact (k56_mkF _ _ (⟨a1, ([] : List ByteArray), oI⟩ : S56) (Nat.le_refl _) (Kd.F_nil _ _ _) (Kd.R_reads' (Kd.R_mono (ok' := (FA (F13 w (.slice dX aN.length dV) a6 a8 aI) F7)) (Kd.R_types (Kd.R_types (Kd.R_types (Kd.R_apart' (y6.1) (Kd.N_typed iQ.1) (by decide)) a3.1 (by decide)) a5.1 (by decide)) aE.1 (by decide)) (fun k_ hk => ⟨⟨hk.1.1.1.1.1.1, ⟨hk.1.1.1.1.2, ⟨hk.1.1.2, ⟨hk.1.2, hk.2⟩⟩⟩⟩, hk.1.1.1.2⟩))).2.1 (Kd.R_F (Kd.R_mono (ok' := (FA (F13 w (.slice dX aN.length dV) a6 a8 aI) F7)) (Kd.R_types (Kd.R_types (Kd.R_types (Kd.R_apart' (y6.1) (Kd.N_typed iQ.1) (by decide)) a3.1 (by decide)) a5.1 (by decide)) aE.1 (by decide)) (fun k_ hk => ⟨⟨hk.1.1.1.1.1.1, ⟨hk.1.1.1.1.2, ⟨hk.1.1.2, ⟨hk.1.2, hk.2⟩⟩⟩⟩, hk.1.1.1.2⟩)))))
        (case aB => exact cB)
        (case aF => exact (fun k_ hk => ⟨(Nat.le_trans (below_size cB) hk), Kd.fresh' (Kd.R_lt e8) k_ hk, fB aC k_ hk, fB aH k_ hk, fB dL k_ hk⟩))
        (case aO => exact (by refine rN ?_; exact Kd.N_mono iQ.1 (fun _ hk => ⟨hk.1.1, ⟨hk.1.2.1, ⟨hk.1.2.2.1, ⟨hk.1.2.2.2.1, hk.1.2.2.2.2⟩⟩⟩⟩)))
        (case aS => exact (below_size cB))
        (case aL => have := XN.out; omega)
        intro N6 sq ho hb hg hat
        rw [← qZ.out] at ho
        replace aM := am (Kd.R_over' e8 (Kd.N_typed (rN iQ.1)) (by decide) hg)
        replace aA := am (Kd.N_afterv (ok := (F23 w (.slice dX aN.length dV) (.slice GV oI.length H6) a6 a8 aI)) (by refine rN ?_; exact Kd.N_mono aA.1 (fun _ hk => ⟨⟨hk.1.1.1, ⟨hk.1.1.2.1, ⟨hk.2, ⟨hk.1.1.2.2.1, ⟨hk.1.1.2.2.2.1, hk.1.1.2.2.2.2⟩⟩⟩⟩⟩, hk.1.2⟩)) hg hat)
        replace a3 := gkN aC hg iQ a3
        replace a5 := gkN aH hg iQ a5
        replace aE := gkN dL hg iQ aE
        replace gO := am (Kd.V_afterv (ok := (F33 w (.slice dX aN.length dV) (.slice (some jN) b9.length eM) (.slice GV oI.length H6) a6 a8 aI)) (by refine rV ?_; exact Kd.V_mono gO.out (fun _ hk => ⟨⟨hk.1.1.1, ⟨hk.1.1.2.1, ⟨hk.1.1.2.2.1, ⟨hk.2, ⟨hk.1.1.2.2.2.1, ⟨hk.1.1.2.2.2.2.1, hk.1.1.2.2.2.2.2⟩⟩⟩⟩⟩⟩, hk.1.2⟩)) hg hat)
        replace gP := am (Kd.V_afterv (ok := (F33 w (.slice dX aN.length dV) (.slice (some jN) b9.length eM) (.slice GV oI.length H6) a6 a8 aI)) (by refine rV ?_; exact Kd.V_mono gP.out (fun _ hk => ⟨⟨hk.1.1.1, ⟨hk.1.1.2.1, ⟨hk.1.1.2.2.1, ⟨hk.2, ⟨hk.1.1.2.2.2.1, ⟨hk.1.1.2.2.2.2.1, hk.1.1.2.2.2.2.2⟩⟩⟩⟩⟩⟩, hk.1.2⟩)) hg hat)
        replace fE := am (Kd.V_afterv (ok := (F23 w (.slice dX aN.length dV) (.slice GV oI.length H6) a6 a8 aI)) (by refine rV ?_; exact Kd.V_mono fE.1 (fun _ hk => ⟨⟨hk.1.1.1, ⟨hk.1.1.2.1, ⟨hk.2, ⟨hk.1.1.2.2.1, ⟨hk.1.1.2.2.2.1, hk.1.1.2.2.2.2⟩⟩⟩⟩⟩, hk.1.2⟩)) hg hat)
        replace kM := am (Kd.V_afterv (ok := (F23 w (.slice dX aN.length dV) (.slice GV oI.length H6) a6 a8 aI)) (by refine rV ?_; exact Kd.V_mono kM.1 (fun _ hk => ⟨⟨hk.1.1.1, ⟨hk.1.1.2.1, ⟨hk.2, ⟨hk.1.1.2.2.1, ⟨hk.1.1.2.2.2.1, hk.1.1.2.2.2.2⟩⟩⟩⟩⟩, hk.1.2⟩)) hg hat)
        replace HB := am hb
        have t5 := am ho
        clear iQ
        clear y6
        clear ho hb hg hat
        refine nK hK (uA2 aE).1 fun hHeld => ?_
        clear hK K
        refine oN 16 (some 70) fun K hK => ?_
        refine Kd.N_append_rows_step k56 (w0 := w) w.heap.size (by rfl) (.tmp 65) (.tmp 69) 29 56 Ag0 64 rfl Try.underlying29 info56 rfl (by decide) (by omega) N6 p5 wY _ _ _ (F13 w (.slice dX aN.length dV) a6 a8 aI) (FA (F13 w (.slice dX aN.length dV) a6 a8 aI) N6) rfl rfl ?aO ?aR (fun _ hk => hk) ?aF ?aB ?aS ?aL ?_
        (case aR => exact (by skip; exact Kd.V_F (Kd.V_mono (ok' := (FA (F13 w (.slice dX aN.length dV) a6 a8 aI) N6)) (kM.1) (fun k_ hk => ⟨⟨hk.1.1, ⟨hk.1.2.1, ⟨hk.1.2.2.2.1, ⟨hk.1.2.2.2.2.1, hk.1.2.2.2.2.2⟩⟩⟩⟩, hk.2⟩))))
        (case aB => exact cB)
        (case aF => exact (fun k_ hk => ⟨(Nat.le_trans (below_size cB) hk), Kd.fresh' (Kd.R_lt e8) k_ hk, fB aC k_ hk, fB aH k_ hk, fB dL k_ hk⟩))
        (case aO => exact (rN t5.1))
        (case aS => exact (below_size cB))
        (case aL => have := XO.out; omega)
        intro Dk Du ho hb hg hat
        rw [← wJ.out] at ho
        replace aM := am (Kd.R_over' e8 (Kd.N_typed (rN t5.1)) (by decide) hg)
        replace aA := am (Kd.N_afterv (ok := (F13 w (.slice dX aN.length dV) a6 a8 aI)) (by refine rN ?_; exact Kd.N_mono aA.1 (fun _ hk => ⟨⟨hk.1.1, ⟨hk.1.2.1, ⟨hk.1.2.2.2.1, ⟨hk.1.2.2.2.2.1, hk.1.2.2.2.2.2⟩⟩⟩⟩, hk.2⟩)) hg hat)
        replace a3 := gkN aC hg t5 a3
        replace a5 := gkN aH hg t5 a5
        replace aE := gkN dL hg t5 aE
        replace gO := am (Kd.V_afterv (ok := (F23 w (.slice dX aN.length dV) (.slice (some jN) b9.length eM) a6 a8 aI)) (by refine rV ?_; exact Kd.V_mono gO.out (fun _ hk => ⟨⟨hk.1.1, ⟨hk.1.2.1, ⟨hk.1.2.2.1, ⟨hk.1.2.2.2.2.1, ⟨hk.1.2.2.2.2.2.1, hk.1.2.2.2.2.2.2⟩⟩⟩⟩⟩, hk.2⟩)) hg hat)
        replace gP := am (Kd.V_afterv (ok := (F23 w (.slice dX aN.length dV) (.slice (some jN) b9.length eM) a6 a8 aI)) (by refine rV ?_; exact Kd.V_mono gP.out (fun _ hk => ⟨⟨hk.1.1, ⟨hk.1.2.1, ⟨hk.1.2.2.1, ⟨hk.1.2.2.2.2.1, ⟨hk.1.2.2.2.2.2.1, hk.1.2.2.2.2.2.2⟩⟩⟩⟩⟩, hk.2⟩)) hg hat)
        replace fE := am (Kd.V_afterv (ok := (F13 w (.slice dX aN.length dV) a6 a8 aI)) (by refine rV ?_; exact Kd.V_mono fE.1 (fun _ hk => ⟨⟨hk.1.1, ⟨hk.1.2.1, ⟨hk.1.2.2.2.1, ⟨hk.1.2.2.2.2.1, hk.1.2.2.2.2.2⟩⟩⟩⟩, hk.2⟩)) hg hat)
        replace kM := am (Kd.V_afterv (ok := (F13 w (.slice dX aN.length dV) a6 a8 aI)) (by refine rV ?_; exact Kd.V_mono kM.1 (fun _ hk => ⟨⟨hk.1.1, ⟨hk.1.2.1, ⟨hk.1.2.2.2.1, ⟨hk.1.2.2.2.2.1, hk.1.2.2.2.2.2⟩⟩⟩⟩, hk.2⟩)) hg hat)
        replace HB := am hb
        have k7 := am ho
        clear t5
        clear ho hb hg hat
        obtain ⟨y4, wP, H7⟩ := Kd.N_slice k7.1
        (first | subst H7 | (obtain ⟨f4_, f5_⟩ := sj H7; subst f4_; subst f5_))
        refine nK hK (uA2 aE).1 fun hHeld => ?_
        clear hK K
        refine pU1 17 ?_
        refine lN 18 none fun K hK => ?_
        have nv : Du.cell? ⟨aI, 1, none⟩ = some (.slice (some jN) b9.length eM) := (blk_cell aE.1 1).trans rfl
        have aa := blk_frozen aE.1 1
        have Kb := cC.1
        have Ke := cO.1
        have Ih := d6.1
        have Ii := dG.1
        refine skip_ (w1 := ?_) (by rfl) rfl ?_ ?_
        rotate_left
        ·go_simp
         rfl
        refine hK.out _ _ ?_
        clear hK K
        refine dN ?_
        have ls := cz2 aE
        try go_wp2_with (first | ((with_reducible refine gate_callee (f := 89) rfl ?_); refine goesL_ (some 73) rfl rfl Try.func89 (by kernel_rfl) rfl #[.agg #[.slice dX aN.length dV, .slice y4 wA.length wP]] rfl sE ?_; (with_reducible refine (spec_l1Copy.calls k2 _ _ aN _ _ wA CN Da _ ?side1 ?side2 ?side3 ?side4 iv.out).mono ?_); (case side1 => refine (Kd.R_reads' (e := 9) (base := w.heap.size) (ok := fun k_ => (w.heap.size ≤ k_)) (n := aN.length) (c := dV) ?_).2.2; exact (by refine rR ?_; exact Kd.R_mono (fR (tR aM aE)) (fun _ hk => hk.1.1))); (case side2 => exact (Kd.R_reads' aM.1).2.1); (case side3 => refine (Kd.N_reads' (e := 56) (base := w.heap.size) (ok := fun k_ => ((w.heap.size ≤ k_) ∧ (some k_ ≠ (.slice dX aN.length dV : Value).ownBlock ∧ (k_ ≠ a6 ∧ (k_ ≠ a8 ∧ k_ ≠ aI))))) (n := wA.length) (c := wP) ?_).2.2; exact (by refine rN ?_; exact (Kd.N_mono (fN (Kd.N_mono k7.1 (fun k_ hk => (⟨hk, hk.2.2.2.2⟩ : _ ∧ k_ ≠ aI)))) (fun _ h_ => h_.1)))); (case side4 => exact (Kd.N_reads' k7.1).2.1); rintro e Ss ⟨Rx, oy, rfl, bQ, gY, hb⟩; refine ⟨_, rfl, ?_⟩; replace gO := am (Kd.V_mono (Kd.V_told (Kd.V_told (Kd.V_old (by refine rV ?_; exact (Kd.V_mono (Kd.V_far (p := ⟨aI, 1, none⟩) (Kd.V_mono gO.out (fun k_ hk => (⟨hk, hk.1.2.2.2.2.2⟩ : _ ∧ k_ ≠ aI))) (fun _ hk => hk.2) (.slice y4 wA.length wP)) (fun _ h_ => h_.1))) hb) (Kd.R_base bQ)) mH) (fun _ h_ => h_.1)); replace gP := am (Kd.V_mono (Kd.V_told (Kd.V_told (Kd.V_old (by refine rV ?_; exact (Kd.V_mono (Kd.V_far (p := ⟨aI, 1, none⟩) (Kd.V_mono gP.out (fun k_ hk => (⟨hk, hk.1.2.2.2.2.2⟩ : _ ∧ k_ ≠ aI))) (fun _ hk => hk.2) (.slice y4 wA.length wP)) (fun _ h_ => h_.1))) hb) (Kd.R_base bQ)) mH) (fun _ h_ => h_.1)); replace fE := am (Kd.V_mono (Kd.V_told (Kd.V_told (Kd.V_old (by refine rV ?_; exact (Kd.V_mono (Kd.V_far (p := ⟨aI, 1, none⟩) (Kd.V_mono fE.1 (fun k_ hk => (⟨hk, hk.1.2.2.2.2⟩ : _ ∧ k_ ≠ aI))) (fun _ hk => hk.2) (.slice y4 wA.length wP)) (fun _ h_ => h_.1))) hb) (Kd.R_base bQ)) mH) (fun _ h_ => h_.1)); replace kM := am (Kd.V_mono (Kd.V_told (Kd.V_told (Kd.V_old (by refine rV ?_; exact (Kd.V_mono (Kd.V_far (p := ⟨aI, 1, none⟩) (Kd.V_mono kM.1 (fun k_ hk => (⟨hk, hk.1.2.2.2.2⟩ : _ ∧ k_ ≠ aI))) (fun _ hk => hk.2) (.slice y4 wA.length wP)) (fun _ h_ => h_.1))) hb) (Kd.R_base bQ)) mH) (fun _ h_ => h_.1)); have NO := am (Kd.R_lower (Kd.R_new' (Kd.R_newM (M := fun k_ => (w.heap.size ≤ k_)) bQ (below_size cB) (fun k_ h_ => h_)) (Kd.R_lt (by refine rR ?_; exact (Kd.R_mono (fR (tR aM aE)) (fun _ h_ => h_.1))))) (below_size cB)); have NQ := am (Kd.N_lower (Kd.N_mono (ok' := F43 w Rx (.slice dX aN.length dV) (.slice (some jN) b9.length eM) (.slice y4 wA.length wP) a6 a8 aI) (Kd.S_N (Kd.S_bound gY)) (fun k_ hk_ => ⟨(Nat.le_trans (below_size cB) hk_.2.1), hk_.1, (Kd.fresh' (Kd.R_lt (by refine rR ?_; exact (Kd.R_mono (fR (tR aM aE)) (fun _ h_ => h_.1)))) k_ hk_.2.1), (Kd.fresh' (Kd.N_lt (by refine rN ?_; exact (Kd.N_mono (fN (Kd.N_mono aA.1 (fun k_ hk => (⟨hk, hk.1.2.2.2.2⟩ : _ ∧ k_ ≠ aI)))) (fun _ h_ => h_.1)))) k_ hk_.2.1), (Kd.fresh' (Kd.N_lt (by refine rN ?_; exact (Kd.N_mono (fN (Kd.N_mono k7.1 (fun k_ hk => (⟨hk, hk.2.2.2.2⟩ : _ ∧ k_ ≠ aI)))) (fun _ h_ => h_.1)))) k_ hk_.2.1), (Kd.freshB (g := a6) (o := .cells #[.slice bG a7.length bH, .slice bL a4.length bD] 31 (0, 0)) MZ k_ hk_.2.1), (Kd.freshB (g := a8) (o := .cells #[.slice none 0 0, .slice none 0 0] 31 (0, 0)) N0 k_ hk_.2.1), (Kd.freshB (g := aI) (o := .cells #[.slice dX aN.length dV, .slice y4 wA.length wP] 31 (0, 0)) (by refine rB ?_; refine blk_put (cs := #[.slice dX aN.length dV, .slice (some jN) b9.length eM]) ?_ 1 _ rfl; refine rB ?_; exact aE.1) k_ hk_.2.1)⟩)) (below_size cB)); replace aM := am (Kd.R_elder' (by refine rR ?_; exact (Kd.R_mono (fR (tR aM aE)) (fun _ h_ => h_.1))) (Kd.R_base bQ) hb); replace aA := am (Kd.N_mono (Kd.N_told (Kd.N_told (Kd.N_old (by refine rN ?_; exact (Kd.N_mono (fN (Kd.N_mono aA.1 (fun k_ hk => (⟨hk, hk.1.2.2.2.2⟩ : _ ∧ k_ ≠ aI)))) (fun _ h_ => h_.1))) hb) (Kd.R_base bQ)) mH) (fun _ h_ => h_.1)); replace k7 := am (Kd.N_mono (Kd.N_told (Kd.N_told (Kd.N_old (by refine rN ?_; exact (Kd.N_mono (fN (Kd.N_mono k7.1 (fun k_ hk => (⟨hk, hk.2.2.2.2⟩ : _ ∧ k_ ≠ aI)))) (fun _ h_ => h_.1))) hb) (Kd.R_base bQ)) mH) (fun _ h_ => h_.1)); replace a3 := am (blk_below (g := a6) (o := .cells #[.slice bG a7.length bH, .slice bL a4.length bD] 31 (0, 0)) MZ hb); replace a5 := am (blk_below (g := a8) (o := .cells #[.slice none 0 0, .slice none 0 0] 31 (0, 0)) N0 hb); replace aE := am (blk_below (g := aI) (o := .cells #[.slice dX aN.length dV, .slice y4 wA.length wP] 31 (0, 0)) (by refine rB ?_; refine blk_put (cs := #[.slice dX aN.length dV, .slice (some jN) b9.length eM]) ?_ 1 _ rfl; refine rB ?_; exact aE.1) hb); replace HB := bS cB hb; (try clear hb); (try clear hk); (try clear bQ); (try clear gY); obtain ⟨WZ, SF, H8⟩ := Kd.R_slice NO.1; subst H8; have lu := nZ1 aV aU; have lv := cz2 a5; obtain ⟨EI, EW, TY⟩ := Kd.N_slice NQ.1; subst TY))
        refine cT a8 31 #[.slice WZ CN.length SF, .slice EI Da.length EW] (qP a5) Try.underlying31 ?_
        exact ⟨_, _, eR, mR NO a5, by refine rN ?_; exact Kd.N_mono (fN (fN (Kd.N_mono NQ.1 (fun k_ hk => (⟨hk, hk.2.2.2.2.2.2.1⟩ : _ ∧ k_ ≠ a8))))) (fun _ hk => ⟨hk.1.1, hk.1.2.1⟩), cB⟩
      ·obtain ⟨p8, hy146⟩ : ∃ y_ : List (S56), y_ = (([] : List (S56))) := ⟨_, rfl⟩
       replace H : (if 0 ≤ dT then (if dT ≤ (b9.length : Int) then ((some (b9.take (dT : Int).toNat : List (S56))).bind fun z8 => (if p8.length + z8.length < 2199023255552 then ((some (p8 ++ z8 : List (S56))).bind fun FH => ((spec_l1Names.f l2).bind fun CO => (if FH.length < 2199023255552 then ((some (FH ++ [(⟨a1, ([] : List ByteArray), CO⟩ : S56)] : List (S56))).bind fun KV => ((some (b9.drop (dT : Int).toNat : List (S56))).bind fun wZ => (if KV.length + wZ.length < 2199023255552 then ((spec_l1Copy.f k2 aN (KV ++ wZ)).bind fun OL => (some (OL.1, OL.2, 0))) else (none)))) else (none)))) else (none))) else (none)) else (none)) = some (r1, r2, r3) := by first | (rw [hy146]; with_reducible exact H) | (have H2_ := (Option.bind_some _ _).symm.trans H; rw [hy146]; with_reducible exact H2_) | (have H2_ := (Option.bind_some _ _).symm.trans H; with_reducible exact H2_) | with_reducible exact H | (rw [hy146]; exact H) | exact H
       have zM := am hy146
       clear hy146
       obtain ⟨Zg, Zh, H⟩ := cP H
       obtain ⟨Zi, Zj, H⟩ := cP H
       obtain ⟨z8, zN, H⟩ := bY H
       obtain ⟨XQ, H⟩ := cL H
       obtain ⟨FH, D7, H⟩ := bY H
       obtain ⟨CO, je, H⟩ := bd H
       obtain ⟨XR, H⟩ := cL H
       obtain ⟨KV, Y7, H⟩ := bY H
       have Zk := eq_true (oT : 0 ≤ dT)
       have P1 := eq_true (oT : dT ≤ (b9.length : Int))
       obtain ⟨wZ, OG, H⟩ := bY H
       obtain ⟨XS, H⟩ := cL H
       obtain ⟨E4, IV⟩ := yv (KV ++ wZ); first | replace H := bW IV H | rw [← IV.1] at H
       obtain ⟨⟨Dd, De⟩, PP, H⟩ := bd H
       dsimp only at H
       obtain ⟨rfl, rfl, rfl⟩ := sZ3 H
       repeat clear H
       have jv := nZ2 d6 cC dG cO
       have Mh := cz2 aE
       try go_wp2
       replace aM := RD aM
       replace aA := ND aA
       replace a3 := BD a3
       replace a5 := BD a5
       replace aE := BD aE
       replace HB := am (below_drew1 HB.1)
       have yY : (dT : Int) ≤ ((b9.length : Int) : Int) := oT
       obtain ⟨i0105, JQ, _, hsz105, _⟩ := info_parts info56
       have hroom105 : b9.length ≤ eM := (Kd.N_reads' aA.1).2.1
       have hC105 : Kd.F k56 _ _ jJ b9.length b9 := (Kd.V_at (base := w.heap.size) (Kd.N_V aA.1)).2.2
       have hcut105 := cut_to (P := Try.prog) 29 56 .i64 Try.underlying29 JQ jJ b9.length eM dT (oT) yY hroom105
       have JU := Kd.F_take (m := (dT : Int).toNat) hC105 (by omega)
       have hy105 : z8.length = (dT : Int).toNat := (by rw [zN.out, List.length_take]; omega)
       rw [← zN.out] at JU
       rw [← hy105] at hcut105
       have o6 := am (show Kd.V k56 56 _ w.heap.size _ (.slice jJ z8.length eM) z8 from Kd.V_mk (by omega) JU)
       have Tw := am (show z8.length ≤ eM from by omega)
       clear JU hC105 hroom105 JQ hsz105
       have KY105 := am hy105
       clear hy105
       replace yY := eq_true yY
       have sF : (dT : Int) ≤ ((b9.length : Int) : Int) := oT
       obtain ⟨i0106, JR, _, hsz106, _⟩ := info_parts info56
       have hroom106 : b9.length ≤ eM := (Kd.N_reads' aA.1).2.1
       have hC106 : Kd.F k56 _ _ jJ b9.length b9 := (Kd.V_at (base := w.heap.size) (Kd.N_V aA.1)).2.2
       have Cv : (0 : Int) ≤ (dT : Int) := oT
       have hcut106 := cut_from (P := Try.prog) 29 56 .i64 Try.underlying29 JR 3 hsz106 jJ b9.length eM dT Cv sF
       have DP := Kd.F_cut (m := (dT : Int).toNat) (c := eM) hC106 (by omega) hroom106
       obtain ⟨WJ, hA106⟩ : ∃ A1, A1 = (if eM = (dT : Int).toNat then jJ else (jJ : Option Addr).map (·.add ((dT : Int).toNat * 3))) := ⟨_, rfl⟩
       obtain ⟨YT, GC⟩ : ∃ c1, c1 = eM - (dT : Int).toNat := ⟨_, rfl⟩
       have hy106 : wZ.length = b9.length - (dT : Int).toNat := (by rw [OG.out, List.length_drop] <;> omega)
       rw [show (b9).drop (dT : Int).toNat = wZ from OG.out.symm] at DP
       replace DP : Kd.F k56 _ _ WJ wZ.length wZ := (by rw [hA106]; exact DP)
       rw [← hy106, ← hA106, ← GC] at hcut106
       have o7 := am (show Kd.V k56 56 _ w.heap.size _ (.slice WJ wZ.length YT) wZ from Kd.V_mk (by rw [hy106, GC]; exact Nat.sub_le_sub_right hroom106 _) DP)
       have Tx := am (show wZ.length ≤ YT from by rw [hy106, GC]; exact Nat.sub_le_sub_right hroom106 _)
       clear DP hC106 hroom106 JR hsz106 GC
       have KY106 := am hy106
       have KA106 := am hA106
       clear hy106 hA106
       replace sF := eq_true sF
       refine sT [18] 19 (uA2 aE) (fun hHeld => ?_)
       refine with_tabW spec_ShareEnter.tab13 spec_ShareEnter.bits13 (fun HT_ HW_ => ?_)
       generalize wr.drew = Dl at aM aA a3 a5 aE HB o6 o7 hHeld ⊢
       refine pU6 1 3 6 7 12 14 ?_
       refine tK2 2 (some 56) ?_
       refine pU1 4 ?_
       refine tK2 13 (some 67) ?_
       refine pU1 15 ?_
       refine oN 0 (some 54) fun K hK => ?_
       refine Kd.N_lit_step k56 _ 56 ?hg (N' := 54) ?hd (xs := ([] : List (S56))) (inner := []) (ok := (F23 w (.slice dX aN.length dV) (.slice jJ b9.length eM) a6 a8 aI)) (okp := (F23 w (.slice dX aN.length dV) (.slice jJ b9.length eM) a6 a8 aI)) ?hr ?hp (fun _ hk => hk) ((show ∀ k_, Dl.heap.size ≤ k_ → (F23 w (.slice dX aN.length dV) (.slice jJ b9.length eM) a6 a8 aI) k_ from fun k_ hk => ⟨(Nat.le_trans (below_size cB) hk), Kd.fresh' (Kd.R_lt e8) k_ hk, Kd.fresh' (Kd.N_lt iN) k_ hk, fB aC k_ hk, fB aH k_ hk, fB dL k_ hk⟩) _ (Nat.le_refl _)) (Below.refl _ _) (Nat.le_refl _) (by simp) ?_; (case hd => rfl); (case hg => rfl); (case hr => first | (go_simp; done) | (go_simp; rfl)); (case hp => exact (Reps.none _ _))
       intro N8 Sd rA hb hg_ hnew_
       clear hg_ hnew_
       (first | rw [← zM.out] at rA | (simp only [Int.reduceToNat] at rA; rw [← zM.out] at rA))
       replace aM := RB e8 hb
       replace aA := am (Kd.N_elder' iN (by first | exact Kd.N_base rA | exact Kd.S_base rA) hb)
       replace o6 := am (Kd.V_elder' (rV o6.1) (by first | exact Kd.N_base rA | exact Kd.S_base rA) hb)
       replace o7 := am (Kd.V_elder' (rV o7.1) (by first | exact Kd.N_base rA | exact Kd.S_base rA) hb)
       have t6 := am (Kd.N_lower rA (below_size cB))
       replace a3 := bB aC hb
       replace a5 := bB aH hb
       replace aE := bB dL hb
       replace HB := bS cB hb
       clear hb rA
       refine nK hK (uA2 aE).1 fun hHeld => ?_
       clear hK K
       refine oN 5 (some 59) fun K hK => ?_
       refine Kd.N_append_rows_step k56 (w0 := w) w.heap.size (by rfl) (.tmp 54) (.tmp 58) 29 56 Ag0 64 rfl Try.underlying29 info56 rfl (by decide) (by omega) N8 p8 z8 _ _ _ (F13 w (.slice dX aN.length dV) a6 a8 aI) (FA (F13 w (.slice dX aN.length dV) a6 a8 aI) N8) rfl rfl ?aO ?aR (fun _ hk => hk) ?aF ?aB ?aS ?aL ?_
       (case aR => exact (by skip; exact Kd.V_F (Kd.V_mono (ok' := (FA (F13 w (.slice dX aN.length dV) a6 a8 aI) N8)) (o6.1) (fun k_ hk => ⟨⟨hk.1.1, ⟨hk.1.2.1, ⟨hk.1.2.2.1, ⟨hk.1.2.2.2.1, hk.1.2.2.2.2⟩⟩⟩⟩, hk.2⟩))))
       (case aB => exact cB)
       (case aF => exact (fun k_ hk => ⟨(Nat.le_trans (below_size cB) hk), Kd.fresh' (Kd.R_lt e8) k_ hk, fB aC k_ hk, fB aH k_ hk, fB dL k_ hk⟩))
       (case aO => exact (by refine rN ?_; exact Kd.N_mono t6.1 (fun _ hk => ⟨hk.1, ⟨hk.2.1, ⟨hk.2.2.2.1, ⟨hk.2.2.2.2.1, hk.2.2.2.2.2⟩⟩⟩⟩)))
       (case aS => exact (below_size cB))
       (case aL => have := XQ.out; omega)
       intro KC pu ho hb hg hat
       rw [← D7.out] at ho
       replace aM := am (Kd.R_over' e8 (Kd.N_typed (rN t6.1)) (by decide) hg)
       replace aA := am (Kd.N_afterv (ok := (F13 w (.slice dX aN.length dV) a6 a8 aI)) iN hg hat)
       replace a3 := gkN aC hg t6 a3
       replace a5 := gkN aH hg t6 a5
       replace aE := gkN dL hg t6 aE
       replace o6 := am (Kd.V_afterv (ok := (F13 w (.slice dX aN.length dV) a6 a8 aI)) (rV o6.1) hg hat)
       replace o7 := am (Kd.V_afterv (ok := (F13 w (.slice dX aN.length dV) a6 a8 aI)) (rV o7.1) hg hat)
       replace HB := am hb
       have oQ := am ho
       clear t6
       clear ho hb hg hat
       refine nK hK (uA2 aE).1 fun hHeld => ?_
       clear hK K
       refine oN 8 (some 62) fun K hK => ?_
       refine gE Try.func93 (spec_l1Names.calls _ _ l2 CO _ (pB sU) oL.1 je.out) ?_
       rintro e Sg ⟨pb, rfl, bQ, hb⟩
       refine ⟨_, rfl, ?_⟩
       replace aA := am (Kd.N_elder' iN (Kd.R_base bQ) hb)
       replace o6 := am (Kd.V_elder' (rV o6.1) (Kd.R_base bQ) hb)
       replace o7 := am (Kd.V_elder' (rV o7.1) (Kd.R_base bQ) hb)
       replace oQ := am (Kd.N_elder' (rN oQ.1) (Kd.R_base bQ) hb)
       have FR := am (Kd.R_lower (Kd.R_new' (Kd.R_newM (M := fun k_ => (w.heap.size ≤ k_)) bQ (below_size cB) (fun k_ h_ => h_)) (Kd.R_lt e8)) (below_size cB))
       replace aM := am (Kd.R_elder' e8 (Kd.R_base bQ) hb)
       replace a3 := bB aC hb
       replace a5 := bB aH hb
       replace aE := bB dL hb
       replace HB := bS cB hb
       (try clear hb)
       (try clear hb2)
       (try clear hk)
       (try clear hi)
       (try clear bQ)
       obtain ⟨FI, G9, P5⟩ := Kd.R_slice FR.1
       (first | subst P5 | (obtain ⟨f4_, f5_⟩ := sj P5; subst f4_; subst f5_))
       refine nK hK (uA2 aE).1 fun hHeld => ?_
       clear hK K
       refine pU1 9 ?_
       refine oN 10 (some 64) fun K hK => ?_
       refine value_ (w1 := ?_) (v := ?_) (by rfl) rfl ?_ ?_
       rotate_left 2
       ·go_simp
        constructor
        ·rfl
        ·rfl
       refine hK.out _ _ ⟨(blk_cell (blk_alloc aE.1 _) 0).trans rfl, (blk_cell (blk_alloc aE.1 _) 1).trans rfl⟩ (fun hHeld => ?_)
       clear hK K
       refine nM ?_
       refine oN 11 (some 65) fun K hK => ?_
       refine Kd.N_append_step k56 (w0 := w) w.heap.size (by rfl) (.tmp 59) (.tmp 64) 29 56 Ag0 64 rfl Try.underlying29 info56 rfl (by decide) (by omega) KC FH (⟨a1, ([] : List ByteArray), CO⟩ : S56) [.string a1, .slice none 0 0, .slice FI CO.length G9] (F13 w (.slice dX aN.length dV) a6 a8 aI) (FA (F13 w (.slice dX aN.length dV) a6 a8 aI) KC) rfl rfl ?aP (fun _ hk => hk) ?aF ?aO ?aB ?aS ?aL ?_
       (case aP => exact (k56_mkF _ _ (⟨a1, ([] : List ByteArray), CO⟩ : S56) (Nat.le_refl _) (Kd.F_nil _ _ _) (Kd.R_reads' (Kd.R_mono (ok' := (FA (F13 w (.slice dX aN.length dV) a6 a8 aI) KC)) (Kd.R_types (Kd.R_types (Kd.R_types (Kd.R_apart' (FR.1) (Kd.N_typed oQ.1) (by decide)) a3.1 (by decide)) a5.1 (by decide)) aE.1 (by decide)) (fun k_ hk => ⟨⟨hk.1.1.1.1.1.1, ⟨hk.1.1.1.1.2, ⟨hk.1.1.2, ⟨hk.1.2, hk.2⟩⟩⟩⟩, hk.1.1.1.2⟩))).2.1 (Kd.R_F (Kd.R_mono (ok' := (FA (F13 w (.slice dX aN.length dV) a6 a8 aI) KC)) (Kd.R_types (Kd.R_types (Kd.R_types (Kd.R_apart' (FR.1) (Kd.N_typed oQ.1) (by decide)) a3.1 (by decide)) a5.1 (by decide)) aE.1 (by decide)) (fun k_ hk => ⟨⟨hk.1.1.1.1.1.1, ⟨hk.1.1.1.1.2, ⟨hk.1.1.2, ⟨hk.1.2, hk.2⟩⟩⟩⟩, hk.1.1.1.2⟩)))))
       (case aB => exact cB)
       (case aF => exact (fun k_ hk => ⟨(Nat.le_trans (below_size cB) hk), Kd.fresh' (Kd.R_lt e8) k_ hk, fB aC k_ hk, fB aH k_ hk, fB dL k_ hk⟩))
       (case aO => exact (by refine rN ?_; exact Kd.N_mono oQ.1 (fun _ hk => ⟨hk.1.1, ⟨hk.1.2.1, ⟨hk.1.2.2.1, ⟨hk.1.2.2.2.1, hk.1.2.2.2.2⟩⟩⟩⟩)))
       (case aS => exact (below_size cB))
       (case aL => have := XR.out; omega)
       intro VB pw ho hb hg hat
       rw [← Y7.out] at ho
       replace aM := am (Kd.R_over' e8 (Kd.N_typed (rN oQ.1)) (by decide) hg)
       replace aA := am (Kd.N_afterv (ok := (F23 w (.slice dX aN.length dV) (.slice FI CO.length G9) a6 a8 aI)) (by refine rN ?_; exact Kd.N_mono aA.1 (fun _ hk => ⟨⟨hk.1.1.1, ⟨hk.1.1.2.1, ⟨hk.2, ⟨hk.1.1.2.2.1, ⟨hk.1.1.2.2.2.1, hk.1.1.2.2.2.2⟩⟩⟩⟩⟩, hk.1.2⟩)) hg hat)
       replace a3 := gkN aC hg oQ a3
       replace a5 := gkN aH hg oQ a5
       replace aE := gkN dL hg oQ aE
       replace o6 := am (Kd.V_afterv (ok := (F23 w (.slice dX aN.length dV) (.slice FI CO.length G9) a6 a8 aI)) (by refine rV ?_; exact Kd.V_mono o6.1 (fun _ hk => ⟨⟨hk.1.1.1, ⟨hk.1.1.2.1, ⟨hk.2, ⟨hk.1.1.2.2.1, ⟨hk.1.1.2.2.2.1, hk.1.1.2.2.2.2⟩⟩⟩⟩⟩, hk.1.2⟩)) hg hat)
       replace o7 := am (Kd.V_afterv (ok := (F23 w (.slice dX aN.length dV) (.slice FI CO.length G9) a6 a8 aI)) (by refine rV ?_; exact Kd.V_mono o7.1 (fun _ hk => ⟨⟨hk.1.1.1, ⟨hk.1.1.2.1, ⟨hk.2, ⟨hk.1.1.2.2.1, ⟨hk.1.1.2.2.2.1, hk.1.1.2.2.2.2⟩⟩⟩⟩⟩, hk.1.2⟩)) hg hat)
       replace HB := am hb
       have zD := am ho
       clear oQ
       clear FR
       clear ho hb hg hat
       refine nK hK (uA2 aE).1 fun hHeld => ?_
       clear hK K
       refine oN 16 (some 70) fun K hK => ?_
       refine Kd.N_append_rows_step k56 (w0 := w) w.heap.size (by rfl) (.tmp 65) (.tmp 69) 29 56 Ag0 64 rfl Try.underlying29 info56 rfl (by decide) (by omega) VB KV wZ _ _ _ (F13 w (.slice dX aN.length dV) a6 a8 aI) (FA (F13 w (.slice dX aN.length dV) a6 a8 aI) VB) rfl rfl ?aO ?aR (fun _ hk => hk) ?aF ?aB ?aS ?aL ?_
       (case aR => exact (by skip; exact Kd.V_F (Kd.V_mono (ok' := (FA (F13 w (.slice dX aN.length dV) a6 a8 aI) VB)) (o7.1) (fun k_ hk => ⟨⟨hk.1.1, ⟨hk.1.2.1, ⟨hk.1.2.2.2.1, ⟨hk.1.2.2.2.2.1, hk.1.2.2.2.2.2⟩⟩⟩⟩, hk.2⟩))))
       (case aB => exact cB)
       (case aF => exact (fun k_ hk => ⟨(Nat.le_trans (below_size cB) hk), Kd.fresh' (Kd.R_lt e8) k_ hk, fB aC k_ hk, fB aH k_ hk, fB dL k_ hk⟩))
       (case aO => exact (rN zD.1))
       (case aS => exact (below_size cB))
       (case aL => have := XS.out; omega)
       intro pc Sh ho hb hg hat
       rw [← IV.out] at ho
       replace aM := am (Kd.R_over' e8 (Kd.N_typed (rN zD.1)) (by decide) hg)
       replace aA := am (Kd.N_afterv (ok := (F13 w (.slice dX aN.length dV) a6 a8 aI)) (by refine rN ?_; exact Kd.N_mono aA.1 (fun _ hk => ⟨⟨hk.1.1, ⟨hk.1.2.1, ⟨hk.1.2.2.2.1, ⟨hk.1.2.2.2.2.1, hk.1.2.2.2.2.2⟩⟩⟩⟩, hk.2⟩)) hg hat)
       replace a3 := gkN aC hg zD a3
       replace a5 := gkN aH hg zD a5
       replace aE := gkN dL hg zD aE
       replace o6 := am (Kd.V_afterv (ok := (F13 w (.slice dX aN.length dV) a6 a8 aI)) (by refine rV ?_; exact Kd.V_mono o6.1 (fun _ hk => ⟨⟨hk.1.1, ⟨hk.1.2.1, ⟨hk.1.2.2.2.1, ⟨hk.1.2.2.2.2.1, hk.1.2.2.2.2.2⟩⟩⟩⟩, hk.2⟩)) hg hat)
       replace o7 := am (Kd.V_afterv (ok := (F13 w (.slice dX aN.length dV) a6 a8 aI)) (by refine rV ?_; exact Kd.V_mono o7.1 (fun _ hk => ⟨⟨hk.1.1, ⟨hk.1.2.1, ⟨hk.1.2.2.2.1, ⟨hk.1.2.2.2.2.1, hk.1.2.2.2.2.2⟩⟩⟩⟩, hk.2⟩)) hg hat)
       replace HB := am hb
       have zE := am ho
       clear zD
       clear ho hb hg hat
       obtain ⟨z9, yE, P7⟩ := Kd.N_slice zE.1
       (first | subst P7 | (obtain ⟨f4_, f5_⟩ := sj P7; subst f4_; subst f5_))
       refine nK hK (uA2 aE).1 fun hHeld => ?_
       clear hK K
       refine pU1 17 ?_
       refine lN 18 none fun K hK => ?_
       have JX : Sh.cell? ⟨aI, 1, none⟩ = some (.slice jJ b9.length eM) := (blk_cell aE.1 1).trans rfl
       have Ps := blk_frozen aE.1 1
       have Cf := cC.1
       have Cg := cO.1
       have By := d6.1
       have Ca := dG.1
       refine skip_ (w1 := ?_) (by rfl) rfl ?_ ?_
       rotate_left
       ·go_simp
        rfl
       refine hK.out _ _ ?_
       clear hK K
       refine dN ?_
       have ka := cz2 aE
       try go_wp2_with (first | ((with_reducible refine gate_callee (f := 89) rfl ?_); refine goesL_ (some 73) rfl rfl Try.func89 (by kernel_rfl) rfl #[.agg #[.slice dX aN.length dV, .slice z9 E4.length yE]] rfl sE ?_; (with_reducible refine (spec_l1Copy.calls k2 _ _ aN _ _ E4 Dd De _ ?side1 ?side2 ?side3 ?side4 PP.out).mono ?_); (case side1 => refine (Kd.R_reads' (e := 9) (base := w.heap.size) (ok := fun k_ => (w.heap.size ≤ k_)) (n := aN.length) (c := dV) ?_).2.2; exact (by refine rR ?_; exact Kd.R_mono (fR (tR aM aE)) (fun _ hk => hk.1.1))); (case side2 => exact (Kd.R_reads' aM.1).2.1); (case side3 => refine (Kd.N_reads' (e := 56) (base := w.heap.size) (ok := fun k_ => ((w.heap.size ≤ k_) ∧ (some k_ ≠ (.slice dX aN.length dV : Value).ownBlock ∧ (k_ ≠ a6 ∧ (k_ ≠ a8 ∧ k_ ≠ aI))))) (n := E4.length) (c := yE) ?_).2.2; exact (by refine rN ?_; exact (Kd.N_mono (fN (Kd.N_mono zE.1 (fun k_ hk => (⟨hk, hk.2.2.2.2⟩ : _ ∧ k_ ≠ aI)))) (fun _ h_ => h_.1)))); (case side4 => exact (Kd.N_reads' zE.1).2.1); rintro e px ⟨Ry, pd, rfl, bQ, gY, hb⟩; refine ⟨_, rfl, ?_⟩; replace o6 := am (Kd.V_mono (Kd.V_told (Kd.V_told (Kd.V_old (by refine rV ?_; exact (Kd.V_mono (Kd.V_far (p := ⟨aI, 1, none⟩) (Kd.V_mono o6.1 (fun k_ hk => (⟨hk, hk.1.2.2.2.2⟩ : _ ∧ k_ ≠ aI))) (fun _ hk => hk.2) (.slice z9 E4.length yE)) (fun _ h_ => h_.1))) hb) (Kd.R_base bQ)) mH) (fun _ h_ => h_.1)); replace o7 := am (Kd.V_mono (Kd.V_told (Kd.V_told (Kd.V_old (by refine rV ?_; exact (Kd.V_mono (Kd.V_far (p := ⟨aI, 1, none⟩) (Kd.V_mono o7.1 (fun k_ hk => (⟨hk, hk.1.2.2.2.2⟩ : _ ∧ k_ ≠ aI))) (fun _ hk => hk.2) (.slice z9 E4.length yE)) (fun _ h_ => h_.1))) hb) (Kd.R_base bQ)) mH) (fun _ h_ => h_.1)); have NR := am (Kd.R_lower (Kd.R_new' (Kd.R_newM (M := fun k_ => (w.heap.size ≤ k_)) bQ (below_size cB) (fun k_ h_ => h_)) (Kd.R_lt (by refine rR ?_; exact (Kd.R_mono (fR (tR aM aE)) (fun _ h_ => h_.1))))) (below_size cB)); have NS := am (Kd.N_lower (Kd.N_mono (ok' := F43 w Ry (.slice dX aN.length dV) (.slice jJ b9.length eM) (.slice z9 E4.length yE) a6 a8 aI) (Kd.S_N (Kd.S_bound gY)) (fun k_ hk_ => ⟨(Nat.le_trans (below_size cB) hk_.2.1), hk_.1, (Kd.fresh' (Kd.R_lt (by refine rR ?_; exact (Kd.R_mono (fR (tR aM aE)) (fun _ h_ => h_.1)))) k_ hk_.2.1), (Kd.fresh' (Kd.N_lt (by refine rN ?_; exact (Kd.N_mono (fN (Kd.N_mono aA.1 (fun k_ hk => (⟨hk, hk.1.2.2.2.2⟩ : _ ∧ k_ ≠ aI)))) (fun _ h_ => h_.1)))) k_ hk_.2.1), (Kd.fresh' (Kd.N_lt (by refine rN ?_; exact (Kd.N_mono (fN (Kd.N_mono zE.1 (fun k_ hk => (⟨hk, hk.2.2.2.2⟩ : _ ∧ k_ ≠ aI)))) (fun _ h_ => h_.1)))) k_ hk_.2.1), (Kd.freshB (g := a6) (o := .cells #[.slice bG a7.length bH, .slice bL a4.length bD] 31 (0, 0)) MZ k_ hk_.2.1), (Kd.freshB (g := a8) (o := .cells #[.slice none 0 0, .slice none 0 0] 31 (0, 0)) N0 k_ hk_.2.1), (Kd.freshB (g := aI) (o := .cells #[.slice dX aN.length dV, .slice z9 E4.length yE] 31 (0, 0)) (by refine rB ?_; refine blk_put (cs := #[.slice dX aN.length dV, .slice jJ b9.length eM]) ?_ 1 _ rfl; refine rB ?_; exact aE.1) k_ hk_.2.1)⟩)) (below_size cB)); replace aM := am (Kd.R_elder' (by refine rR ?_; exact (Kd.R_mono (fR (tR aM aE)) (fun _ h_ => h_.1))) (Kd.R_base bQ) hb); replace aA := am (Kd.N_mono (Kd.N_told (Kd.N_told (Kd.N_old (by refine rN ?_; exact (Kd.N_mono (fN (Kd.N_mono aA.1 (fun k_ hk => (⟨hk, hk.1.2.2.2.2⟩ : _ ∧ k_ ≠ aI)))) (fun _ h_ => h_.1))) hb) (Kd.R_base bQ)) mH) (fun _ h_ => h_.1)); replace zE := am (Kd.N_mono (Kd.N_told (Kd.N_told (Kd.N_old (by refine rN ?_; exact (Kd.N_mono (fN (Kd.N_mono zE.1 (fun k_ hk => (⟨hk, hk.2.2.2.2⟩ : _ ∧ k_ ≠ aI)))) (fun _ h_ => h_.1))) hb) (Kd.R_base bQ)) mH) (fun _ h_ => h_.1)); replace a3 := am (blk_below (g := a6) (o := .cells #[.slice bG a7.length bH, .slice bL a4.length bD] 31 (0, 0)) MZ hb); replace a5 := am (blk_below (g := a8) (o := .cells #[.slice none 0 0, .slice none 0 0] 31 (0, 0)) N0 hb); replace aE := am (blk_below (g := aI) (o := .cells #[.slice dX aN.length dV, .slice z9 E4.length yE] 31 (0, 0)) (by refine rB ?_; refine blk_put (cs := #[.slice dX aN.length dV, .slice jJ b9.length eM]) ?_ 1 _ rfl; refine rB ?_; exact aE.1) hb); replace HB := bS cB hb; (try clear hb); (try clear hk); (try clear bQ); (try clear gY); obtain ⟨WO, ZQ, Ab⟩ := Kd.R_slice NR.1; subst Ab; have kc := nZ1 aV aU; have kd := cz2 a5; obtain ⟨WP, ZR, Ac⟩ := Kd.N_slice NS.1; subst Ac))
       refine cT a8 31 #[.slice WO Dd.length ZQ, .slice WP De.length ZR] (qP a5) Try.underlying31 ?_
       exact ⟨_, _, eR, mR NR a5, by refine rN ?_; exact Kd.N_mono (fN (fN (Kd.N_mono NS.1 (fun k_ hk => (⟨hk, hk.2.2.2.2.2.2.1⟩ : _ ∧ k_ ≠ a8))))) (fun _ hk => ⟨hk.1.1, hk.1.2.1⟩), cB⟩
 obtain ⟨rfl, rfl, rfl⟩ := sZ3 H
 repeat clear H
 go_enter Try.func59, Try.ntmps59
 go_wp2_with (first | ((with_reducible refine gD 3 ?_); refine bX 3 #[.slice bG a7.length bH, .slice bL a4.length bD] 31 ?_; intro a6 hg pz hbox hb; have a3 := am hbox; have bR := am (hJ : w.heap.size ≤ a6); have cJ := bR; replace HB := bS cI hb; clear hb hbox hg) | ((with_reducible refine gD 6 ?_); refine bX 6 #[.slice none 0 0, .slice none 0 0] 31 ?_; intro a8 hg qa hbox hb; have a5 := am hbox; have eO := am (p3 : w.heap.size ≤ a8); have eZ := eO; replace HB := bS aY hb; have aU := nL aC hg; have aV := nG aC hg; replace a3 := bB aC hb; clear hb hbox hg; have Mj := nZ1 aU aV; have kg := cz2 a3) | ((with_reducible refine gC 22 ?_); refine cQ (some 11) Try.func22 (spec_ShareBookOk.calls k _ _ a7 _ _ a4 false _ (pB bC) bA.1 (pB aK) bM.1 A4.out) ?_; rintro qb hb; replace a3 := bB aC hb; replace a5 := bB aH hb; replace HB := bS eX hb; (try clear hb); have kj := cz2 a5))
 refine cT a8 31 #[.slice none 0 0, .slice none 0 0] Ct Try.underlying31 ?_
 exact ⟨_, _, eR, by first | exact Kd.R_nil _ _ _ _ _ | exact Kd.N_nil _ _ _ _ _ | exact Kd.V_nil _ _ _ _ _ | exact Kd.Q_nil _ _ _ _ _ | exact Kd.S_nil _ _ _ _ _, by first | exact Kd.S_nil _ _ _ _ _ | exact Kd.N_nil _ _ _ _ _ | exact Kd.V_nil _ _ _ _ _ | exact Kd.Q_nil _ _ _ _ _ | exact Kd.R_nil _ _ _ _ _, eX⟩
end Go.Proofs.Ytaofjgnhapnndaa.Q
namespace Go.Proofs.Ytaofjgnhapnndaa.Q
open Go.RowKit Go.Proofs.YtaofjgnhapnndaaW.PrintWords Go.Proofs.YtaofjgnhapnndaaW.PrintLast Go.Proofs.YtaofjgnhapnndaaW.PrintMore
set_option linter.unusedVariables false
set_option linter.unusedSimpArgs false
def spec_l3Taken.l0 : Nat → Int → List ByteArray → Int → List ByteArray → List (S56) → Option (Bool)
 | 0, _, _, _, _, _ => none
 | k + 1, c, d, a, e, b => if a < (b.length : Int) then (if a = c then (spec_l3Taken.l0 k c d (wrap64 (a + 1)) e b) else (if 0 ≤ a then ((spec_l1Share.f k ((rd_T56 b a).f1) d).bind fun g => (if g = true then (some true) else (spec_l3Taken.l0 k c d (wrap64 (a + 1)) e b))) else (none))) else (some false)
def spec_l3Taken.f (k : Nat) (a7 : List ByteArray) (a4 : List (S56)) (a1 : Int) (l2 : List ByteArray) : Option (Bool) := spec_l3Taken.l0 k a1 l2 0 a7 a4
theorem spec_l3Taken.calls (k : Nat) (bG : Option Addr) (bH : Nat) (a7 : List ByteArray) (bL : Option Addr) (bD : Nat) (a4 : List (S56)) (a1 : Int) (A2 : Option Addr) (c2 : Nat) (l2 : List ByteArray) (r : Bool) (w : World) (cZ : Kd.C Kd.string w bG a7.length a7) (cX : a7.length ≤ bH) (cU : Kd.C k56 w bL a4.length a4) (cY : a4.length ≤ bD) (DR : Kd.C Kd.string w A2 l2.length l2) (DM : l2.length ≤ c2) (h : spec_l3Taken.f k a7 a4 a1 l2 = some r) :
  Calls Try.prog 105 #[.agg #[.slice bG a7.length bH, .slice bL a4.length bD], .int .i64 a1, .slice A2 l2.length c2] w fun e w' => e = .returned (.bool r) ∧ Below w.heap.size w w' := by
 have hu31 := Try.underlying31
 obtain ⟨bC, bA⟩ := mZ2 cZ cX
 obtain ⟨aK, bM⟩ := mZ2 cU cY
 obtain ⟨sU, oL⟩ := mZ2 DR DM
 clear cZ cX cU cY DR DM
 have HB := am (Below.refl w.heap.size w)
 unfold spec_l3Taken.f at h
 have H := h
 clear h
 have H' := am H
 repeat clear H
 go_enter Try.func105, Try.ntmps105
 go_wp2_with (first | ((with_reducible refine gD 3 ?_); refine bX 3 #[.slice bG a7.length bH, .slice bL a4.length bD] 31 ?_; intro a6 hg w4 hbox hb; have a3 := am hbox; have bR := am (hJ : w.heap.size ≤ a6); have cJ := bR; replace HB := bS cI hb; clear hb hbox hg))
 go_loopg [7] k (fun kq v7 w' => ∃ (d7 : Int), v7 = .int .i64 d7 ∧ Aside0 (spec_l3Taken.l0 kq a1 l2 d7 a7 a4 = some r) ∧ Aside0 (kq ≤ k) ∧ Aside0 (w'.heap[a6]? = some (.cells #[(.slice bG a7.length bH), (.slice bL a4.length bD)] 31 (0, 0))) ∧ Aside0 (Below w.heap.size w w'))
 case atStart => exact ⟨(0), aQ, H', ⟨Nat.le_refl _⟩, ⟨rB a3.1⟩, ⟨aY⟩⟩
 clear H'
 try clear c2
 obtain ⟨d7, rfl, HA, HK1, a3, HB⟩ := hrel
 cases gk with
 | zero => exact absurd HA.out (by simp [spec_l3Taken.l0])
 | succ k1 =>
  have H := HA.out
  clear HA
  simp only [spec_l3Taken.l0] at H
  refine ic H ?_ ?_ <;> clear H <;> intro pH H
  ·refine iq H ?_ ?_ <;> clear H <;> intro c6 sC EQ H
   ·have H' := am H
    repeat clear H
    have Z7 := cz2 a3
    go_wp2
    go_roundg k1
    case measure => have := HK1.out; omega
    case rel => exact ⟨(wrap64 (d7 + 1)), aQ, H', ⟨by have := HK1.out; omega⟩, ⟨rB a3.1⟩, ⟨aY⟩⟩
   ·obtain ⟨sD, H⟩ := cN H
    obtain ⟨bE, A9, H⟩ := bd H
    refine tC H ?_ ?_ <;> clear H <;> intro D9 H <;> subst D9
    ·obtain rfl := Option.some.inj H
     repeat clear H
     have LT := cz2 a3
     obtain ⟨fA, iO, iU, iP, iV, iE, f7, fQ, fT, g7, fZ, j7, j5, oF, oH⟩ := aT56 aK HB d7
     cases iE
     go_wp2_with (first | (go_at_call 72; refine cM (spec_l1Share.calls k1 _ _ ((rd_T56 a4 d7).f1) _ _ l2 true _ (pB g7) fZ.1 (pB sU) oL.1 A9.out) ?_; rintro w' ⟨nd, rfl⟩))
     go_ret
     exact ⟨eR, aY⟩
    ·have H' := am H
     repeat clear H
     have R7 := cz2 a3
     obtain ⟨fA, iO, iU, iP, iV, iE, f7, fQ, fT, g7, fZ, j7, j5, oF, oH⟩ := aT56 aK HB d7
     cases iE
     go_wp2_with (first | (go_at_call 72; refine cM (spec_l1Share.calls k1 _ _ ((rd_T56 a4 d7).f1) _ _ l2 false _ (pB g7) fZ.1 (pB sU) oL.1 A9.out) ?_; rintro w' ⟨nd, rfl⟩))
     go_roundg k1
     case measure => have := HK1.out; omega
     case rel => exact ⟨(wrap64 (d7 + 1)), aQ, H', ⟨by have := HK1.out; omega⟩, ⟨rB a3.1⟩, ⟨aY⟩⟩
  ·obtain rfl := Option.some.inj H
   repeat clear H
   have OH := cz2 a3
   go_wp2
   go_ret
   exact ⟨eR, aY⟩
def spec_l3Insert.l0 : Nat → List ByteArray → ByteArray → Int → Option (List ByteArray)
 | 0, _, _, _ => none
 | k + 1, b, c, a => if a < (b.length : Int) then (if 0 ≤ a then (if (Op.bytesLess ((rdOf ByteArray.empty b a).toList) c.toList) = true then (spec_l3Insert.l0 k b c (wrap64 (a + 1))) else (if (rdOf ByteArray.empty b a).toList = c.toList then (none) else ((some (([] : List ByteArray) : List ByteArray)).bind fun d => (if a ≤ (b.length : Int) then (if d.length + (b.take (a : Int).toNat).length < 8796093022208 then ((some (d ++ (b.take (a : Int).toNat) : List ByteArray)).bind fun e => ((some (([c] : List ByteArray) : List ByteArray)).bind fun f => (if e.length + f.length < 8796093022208 then ((some (e ++ f : List ByteArray)).bind fun g => (if g.length + (b.drop (a : Int).toNat).length < 8796093022208 then (some (g ++ (b.drop (a : Int).toNat))) else (none))) else (none)))) else (none)) else (none))))) else (none)) else ((some (([] : List ByteArray) : List ByteArray)).bind fun h => (if 0 ≤ a then (if a ≤ (b.length : Int) then (if h.length + (b.take (a : Int).toNat).length < 8796093022208 then ((some (h ++ (b.take (a : Int).toNat) : List ByteArray)).bind fun i => ((some (([c] : List ByteArray) : List ByteArray)).bind fun j => (if i.length + j.length < 8796093022208 then ((some (i ++ j : List ByteArray)).bind fun l => (if l.length + (b.drop (a : Int).toNat).length < 8796093022208 then (some (l ++ (b.drop (a : Int).toNat))) else (none))) else (none)))) else (none)) else (none)) else (none)))
def spec_l3Insert.f (k : Nat) (l0 : List ByteArray) (a1 : ByteArray) : Option (List ByteArray) := spec_l3Insert.l0 k l0 a1 0
def spec_l3Insert.T6 : Bool × List (List Nat × List Nat) := (true, [([], []), ([], []), ([], []), ([1, 2], [1, 2]), ([0, 3], [0, 3]), ([], []), ([5], [5]), ([4, 6, 4], [4, 6]), ([], []), ([], []), ([8, 9], [8, 9]), ([7, 10, 7], [7, 10]), ([11, 11, 0, 1, 2, 3, 4, 5, 6, 7, 8, 9, 10, 11], [11])])
def spec_l3Insert.B6 : List Nat := [0, 0, 0, 6, 15, 0, 32, 127, 0, 0, 768, 2047, 4095]
theorem spec_l3Insert.tab6 : rtab .any (opsOf Try.f106 6) = spec_l3Insert.T6 := by kernel_rfl
theorem spec_l3Insert.bits6 : waitsOk spec_l3Insert.T6.2 spec_l3Insert.B6 = true := by kernel_rfl
theorem spec_l3Insert.calls (k : Nat) (A0 : Option Addr) (c0 : Nat) (l0 : List ByteArray) (a1 : ByteArray) (r : List ByteArray) (w : World) (gL : Kd.C Kd.string w A0 l0.length l0) (l7 : l0.length ≤ c0) (h : spec_l3Insert.f k l0 a1 = some r) :
  Calls Try.prog 106 #[.slice A0 l0.length c0, .string a1] w fun e w' => ∃ v0_ : Value, e = .returned (v0_) ∧ Kd.R Kd.string 9 w' w.heap.size (fun _ => True) v0_ r ∧ Below w.heap.size w w' := by
 obtain ⟨hL, wE⟩ := mZ2 gL l7
 clear gL l7
 have HB := am (Below.refl w.heap.size w)
 unfold spec_l3Insert.f at h
 have H := h
 clear h
 have H' := am H
 repeat clear H
 go_enter Try.func106, Try.ntmps106
 go_wp2
 go_loopg [5] k (fun kq v5 w' => ∃ (aW : Int), v5 = .int .i64 aW ∧ Aside0 (spec_l3Insert.l0 kq l0 a1 aW = some r) ∧ Aside0 (kq ≤ k) ∧ Aside0 (Below w.heap.size w w'))
 case atStart => exact ⟨(0), aQ, H', ⟨Nat.le_refl _⟩, ⟨cI⟩⟩
 clear H'
 obtain ⟨aW, rfl, HA, HK1, HB⟩ := hrel
 cases gk with
 | zero => exact absurd HA.out (by simp [spec_l3Insert.l0])
 | succ k1 =>
  have H := HA.out
  clear HA
  simp only [spec_l3Insert.l0] at H
  refine ic H ?_ ?_ <;> clear H <;> intro pG H
  ·obtain ⟨jE, H⟩ := cN H
   refine tC H ?_ ?_ <;> clear H <;> intro pH H
   ·have H' := am H
    repeat clear H
    obtain ⟨dS, eY, e0, kZ, l5⟩ := aS hL HB aW
    cases eY
    go_wp2
    go_roundg k1
    case measure => have := HK1.out; omega
    case rel => exact ⟨(wrap64 (aW + 1)), aQ, H', ⟨by have := HK1.out; omega⟩, ⟨cI⟩⟩
   ·refine iq H ?_ ?_ <;> clear H <;> intro c6 sC EQ H
    ·cases H
    ·obtain ⟨qC, hy103⟩ : ∃ y_ : List ByteArray, y_ = (([] : List ByteArray)) := ⟨_, rfl⟩
     replace H : (if aW ≤ (l0.length : Int) then (if qC.length + (l0.take (aW : Int).toNat).length < 8796093022208 then ((some (qC ++ (l0.take (aW : Int).toNat) : List ByteArray)).bind fun z6 => ((some (([a1] : List ByteArray) : List ByteArray)).bind fun rF => (if z6.length + rF.length < 8796093022208 then ((some (z6 ++ rF : List ByteArray)).bind fun KU => (if KU.length + (l0.drop (aW : Int).toNat).length < 8796093022208 then (some (KU ++ (l0.drop (aW : Int).toNat))) else (none))) else (none)))) else (none)) else (none)) = some r := by first | (rw [hy103]; with_reducible exact H) | (have H2_ := (Option.bind_some _ _).symm.trans H; rw [hy103]; with_reducible exact H2_) | (have H2_ := (Option.bind_some _ _).symm.trans H; with_reducible exact H2_) | with_reducible exact H | (rw [hy103]; exact H) | exact H
     have sM := am hy103
     clear hy103
     have AZ := eq_true (oT : 0 ≤ aW)
     obtain ⟨sD, Nm, H⟩ := cP H
     obtain ⟨R0, H⟩ := cL H
     obtain ⟨z6, tA, H⟩ := bY H
     obtain ⟨rF, zL, H⟩ := bY H
     obtain ⟨IC, H⟩ := cL H
     obtain ⟨KU, Y6, H⟩ := bY H
     have qH := eq_true (oT : 0 ≤ aW)
     have tD := eq_true (oT : aW ≤ (l0.length : Int))
     obtain ⟨ID, H⟩ := cL H
     obtain ⟨E0, qY⟩ := yv (KU ++ (l0.drop (aW : Int).toNat)); first | replace H := bW qY H | rw [← qY.1] at H
     obtain rfl := Option.some.inj H
     repeat clear H
     obtain ⟨dS, eY, e0, kZ, l5⟩ := aS hL HB aW
     cases eY
     obtain ⟨fA, iE, f7, oF, oH⟩ := aS hL HB aW
     obtain rfl : dS = fA := (by injection iE)
     try go_wp2
     replace HB := am (below_drew1 HB.1)
     obtain ⟨i015, PD, _, hsz15, _⟩ := info_parts info9
     obtain ⟨hcut15, hA15, hC15⟩ := print_take_of (P := Try.prog) Value.string (⟨#[]⟩ : ByteArray) 23 9 .i64 Try.underlying23 PD hsz15 (some dS) c0 l0 aW (oT) (oT) wE.1
     have FS := am (Kd.C_of_reads (h1 := fun _ => rfl) (hA15 _ (Kd.reads_of_C hL.1)))
     have Tn := am hC15
     clear hA15 hC15 PD hsz15
     obtain ⟨i016, PE, _, hsz16, _⟩ := info_parts info9
     obtain ⟨CV, hcut16, hA16, hC16⟩ := print_drop_of (P := Try.prog) Value.string (⟨#[]⟩ : ByteArray) 23 9 .i64 Try.underlying23 PE hsz16 (some dS) c0 l0 aW (oT) (oT) wE.1
     have I8 := am (Kd.C_of_reads (h1 := fun _ => rfl) (hA16 _ (Kd.reads_of_C hL.1)))
     have Tp := am hC16
     clear hA16 hC16 PE hsz16
     refine sT (S := fun w' => True) [] 13 ⟨trivial⟩ (fun hHeld => ?_)
     refine with_tabW spec_l3Insert.tab6 spec_l3Insert.bits6 (fun HT_ HW_ => ?_)
     generalize wr.drew = GS at HB FS I8 hHeld ⊢
     refine pU7 1 2 3 5 8 9 10 ?_
     refine join_ (σ := Value × Value × Value) 3 (bz 13 1919) (fun s_ => [(33, s_.1), (37, s_.2.1), (39, s_.2.2)]) (fun s_ w' => (Kd.R Kd.string 9 w' w.heap.size (fun k_ => some k_ ≠ (s_.2.2 : Value).ownBlock) s_.2.1 z6) ∧ (Kd.R Kd.string 9 w' w.heap.size (fun k_ => some k_ ≠ (s_.2.1 : Value).ownBlock) s_.2.2 rF) ∧ (Below w.heap.size w w')) ?_ ?_
     rotate_left
     ·intro hCont
      refine two_ (i := 0) (j := 6) (Ni := some 33) (Nj := some 39) (bz 13 1839) (bz 13 1902) rfl rfl rfl rfl (two_of HT_.out (by kernel_rfl)) (by decide) (by decide) (fun K hK => ?_) (fun K hK => ?_)
      ·skip
       refine lT 9 33 sM ?_
       intro nO Kp JS hb
       have eE := am (Kd.R_lower JS (below_size cI))
       replace HB := bS cI hb
       clear hb JS
       refine hK.out _ _ trivial (fun hHeld => ?_)
       clear hK K
       refine nM ?_
       refine two_ (i := 4) (j := 6) (Ni := some 37) (Nj := some 39) (bz 13 1855) (bz 13 1903) rfl rfl rfl rfl (two_of HT_.out (by kernel_rfl)) (by decide) (by decide) (fun K hK => ?_) (fun K hK => ?_)
       ·skip
        refine Kd.R_append_rows_step Kd.string (w0 := w) w.heap.size (by rfl) (.tmp 33) (.tmp 36) 23 9 (.string ⟨#[]⟩) 16 rfl Try.underlying23 info9 rfl (by decide) (by omega) nO qC (l0.take (aW : Int).toNat) _ _ _ (fun _ => True) (fun _ => False) rfl rfl ?aO ?aR (fun _ _ h => h) (fun _ h => h.elim) ?aF ?aB ?aS ?aL ?_
        (case aR => (have e_ : (l0.take (aW : Int).toNat).length = aW.toNat := (by rw [List.length_take]; have h_ : (aW : Int) ≤ (l0.length : Int) := oT; omega); have q_ := Kd.C_below FS.1 HB.1; rw [e_] at q_; exact q_))
        (case aB => exact cI)
        (case aF => exact (fun _ _ => trivial))
        (case aO => exact uO)
        (case aS => exact (below_size cI))
        (case aL => have := R0.out; have hlx_ := (show (l0.take (aW : Int).toNat).length = aW.toNat from (by rw [List.length_take]; have h_ : (aW : Int) ≤ (l0.length : Int) := oT; omega)); omega)
        intro qN Sl ho hb hg hat
        rw [← tA.out] at ho
        replace HB := am hb
        have bV := am ho
        clear eE
        clear ho hb hg hat
        refine hK.out _ _ trivial (fun hHeld => ?_)
        clear hK K
        refine nM ?_
        refine oN 6 (some 39) fun K hK => ?_
        refine lT 9 39 zL ?_
        intro wV KE UF hb
        have k6 := am (Kd.R_lower (Kd.R_new' UF (Kd.R_lt (rR bV.1))) (below_size cI))
        replace bV := am (Kd.R_elder' (rR bV.1) (Kd.R_base UF) hb)
        replace HB := bS cI hb
        clear hb UF
        refine hK.out _ _ trivial (fun hHeld => ?_)
        clear hK K
        refine nM ?_
        exact norm_ wO (hCont (nO, qN, wV) _ ⟨(by refine rR ?_; exact Kd.R_mono bV.1 (fun _ hk => hk.2)), (by refine rR ?_; exact Kd.R_mono k6.1 (fun _ hk => hk.2)), cI⟩)
       ·skip
        refine lT 9 39 zL ?_
        intro wV Sl F1 hb
        have k6 := am (Kd.R_lower (Kd.R_new' F1 (Kd.R_lt uO)) (below_size cI))
        replace eE := am (Kd.R_elder' uO (Kd.R_base F1) hb)
        replace HB := bS cI hb
        clear hb F1
        refine hK.out _ _ trivial (fun hHeld => ?_)
        clear hK K
        refine nM ?_
        refine oN 4 (some 37) fun K hK => ?_
        refine Kd.R_append_rows_step Kd.string (w0 := w) w.heap.size (by rfl) (.tmp 33) (.tmp 36) 23 9 (.string ⟨#[]⟩) 16 rfl Try.underlying23 info9 rfl (by decide) (by omega) nO qC (l0.take (aW : Int).toNat) _ _ _ (fun k_ => some k_ ≠ (wV : Value).ownBlock) (fun _ => False) rfl rfl ?aO ?aR (fun _ _ h => h) (fun _ h => h.elim) ?aF ?aB ?aS ?aL ?_
        (case aR => (have e_ : (l0.take (aW : Int).toNat).length = aW.toNat := (by rw [List.length_take]; have h_ : (aW : Int) ≤ (l0.length : Int) := oT; omega); have q_ := Kd.C_below FS.1 HB.1; rw [e_] at q_; exact q_))
        (case aB => exact cI)
        (case aF => exact (fun k_ hk => Kd.fresh' (Kd.R_lt uP) k_ hk))
        (case aO => exact (by refine rR ?_; exact Kd.R_mono eE.1 (fun _ hk => hk.2)))
        (case aS => exact (below_size cI))
        (case aL => have := R0.out; have hlx_ := (show (l0.take (aW : Int).toNat).length = aW.toNat from (by rw [List.length_take]; have h_ : (aW : Int) ≤ (l0.length : Int) := oT; omega)); omega)
        intro qN HT ho hb hg hat
        rw [← tA.out] at ho
        replace k6 := am (Kd.R_after (ok := (fun _ => True)) uP hg hat)
        replace HB := am hb
        have bV := am ho
        clear eE
        clear ho hb hg hat
        refine hK.out _ _ trivial (fun hHeld => ?_)
        clear hK K
        refine nM ?_
        exact norm_ wO (hCont (nO, qN, wV) _ ⟨(rR bV.1), (by refine rR ?_; exact Kd.R_mono k6.1 (fun _ hk => hk.2)), cI⟩)
      ·skip
       refine lT 9 39 zL ?_
       intro wV Kp JS hb
       have k6 := am (Kd.R_lower JS (below_size cI))
       replace HB := bS cI hb
       clear hb JS
       refine hK.out _ _ trivial (fun hHeld => ?_)
       clear hK K
       refine nM ?_
       refine oN 0 (some 33) fun K hK => ?_
       refine lT 9 33 sM ?_
       intro nO Sl F1 hb
       have eE := am (Kd.R_lower (Kd.R_new' F1 (Kd.R_lt uP)) (below_size cI))
       replace k6 := am (Kd.R_elder' uP (Kd.R_base F1) hb)
       replace HB := bS cI hb
       clear hb F1
       refine hK.out _ _ trivial (fun hHeld => ?_)
       clear hK K
       refine nM ?_
       refine oN 4 (some 37) fun K hK => ?_
       refine Kd.R_append_rows_step Kd.string (w0 := w) w.heap.size (by rfl) (.tmp 33) (.tmp 36) 23 9 (.string ⟨#[]⟩) 16 rfl Try.underlying23 info9 rfl (by decide) (by omega) nO qC (l0.take (aW : Int).toNat) _ _ _ (fun k_ => some k_ ≠ (wV : Value).ownBlock) (fun _ => False) rfl rfl ?aO ?aR (fun _ _ h => h) (fun _ h => h.elim) ?aF ?aB ?aS ?aL ?_
       (case aR => (have e_ : (l0.take (aW : Int).toNat).length = aW.toNat := (by rw [List.length_take]; have h_ : (aW : Int) ≤ (l0.length : Int) := oT; omega); have q_ := Kd.C_below FS.1 HB.1; rw [e_] at q_; exact q_))
       (case aB => exact cI)
       (case aF => exact (fun k_ hk => Kd.fresh' (Kd.R_lt uP) k_ hk))
       (case aO => exact (by refine rR ?_; exact Kd.R_mono eE.1 (fun _ hk => hk.2)))
       (case aS => exact (below_size cI))
       (case aL => have := R0.out; have hlx_ := (show (l0.take (aW : Int).toNat).length = aW.toNat from (by rw [List.length_take]; have h_ : (aW : Int) ≤ (l0.length : Int) := oT; omega)); omega)
       intro qN HT ho hb hg hat
       rw [← tA.out] at ho
       replace k6 := am (Kd.R_after (ok := (fun _ => True)) uP hg hat)
       replace HB := am hb
       have bV := am ho
       clear eE
       clear ho hb hg hat
       refine hK.out _ _ trivial (fun hHeld => ?_)
       clear hK K
       refine nM ?_
       exact norm_ wO (hCont (nO, qN, wV) _ ⟨(rR bV.1), (by refine rR ?_; exact Kd.R_mono k6.1 (fun _ hk => hk.2)), cI⟩)
     rintro ⟨nO, qN, wV⟩ KF ⟨h0_, h1_, h2_⟩
     have bV : Aside0 (Kd.R Kd.string 9 KF w.heap.size (fun k_ => some k_ ≠ (wV : Value).ownBlock) qN z6) := ⟨h0_⟩
     have k6 : Aside0 (Kd.R Kd.string 9 KF w.heap.size (fun k_ => some k_ ≠ (qN : Value).ownBlock) wV rF) := ⟨h1_⟩
     replace HB : Aside0 (Below w.heap.size w KF) := ⟨h2_⟩
     clear h0_ h1_ h2_
     have hHeld := trivial
     obtain ⟨sB, iD, yH⟩ := Kd.R_slice k6.1
     (first | subst yH | (obtain ⟨f4_, f5_⟩ := sj yH; subst f4_; subst f5_))
     refine norm_ (a' := ?_) ?_ ?_
     rotate_left
     ·simp only [putAll, Act.put, List.setIfInBounds_toArray, List.set_cons_zero, List.set_cons_succ]
      rfl
     refine oN 7 (some 40) fun K hK => ?_
     refine Kd.R_append_rows_step Kd.string (w0 := w) w.heap.size (by rfl) (.tmp 37) (.tmp 39) 23 9 (.string ⟨#[]⟩) 16 rfl Try.underlying23 info9 rfl (by decide) (by omega) qN z6 rF _ _ _ (fun k_ => some k_ ≠ (.slice sB rF.length iD : Value).ownBlock) (fun _ => False) rfl rfl ?aO ?aR (fun _ _ h => h) (fun _ h => h.elim) ?aF ?aB ?aS ?aL ?_
     (case aR => repeat (first | exact (Kd.R_reads' k6.1).2.2 | (with_reducible refine Kd.C_alloc ?_ _) | (with_reducible refine Kd.C_drewN ?_ _) | (with_reducible refine Kd.C_drew ?_)))
     (case aB => exact cI)
     (case aF => exact (fun k_ hk => Kd.fresh' (Kd.R_lt uP) k_ hk))
     (case aO => exact (rR bV.1))
     (case aS => exact (below_size cI))
     (case aL => have := IC.out; omega)
     intro Df z5 ho hb hg hat
     rw [← Y6.out] at ho
     replace k6 := am (Kd.R_after (ok := (fun _ => True)) (by refine rR ?_; exact Kd.R_mono k6.1 (fun _ hk => ⟨trivial, hk⟩)) hg hat)
     replace HB := am hb
     have wF := am ho
     clear bV
     clear ho hb hg hat
     refine hK.out _ _ trivial (fun hHeld => ?_)
     clear hK K
     refine nM ?_
     refine oN 11 (some 44) fun K hK => ?_
     refine Kd.R_append_rows_step Kd.string (w0 := w) w.heap.size (by rfl) (.tmp 40) (.tmp 43) 23 9 (.string ⟨#[]⟩) 16 rfl Try.underlying23 info9 rfl (by decide) (by omega) Df KU (l0.drop (aW : Int).toNat) _ _ _ (fun k_ => some k_ ≠ (.slice sB rF.length iD : Value).ownBlock) (fun _ => False) rfl rfl ?aO ?aR (fun _ _ h => h) (fun _ h => h.elim) ?aF ?aB ?aS ?aL ?_
     (case aR => first | (rw [← show (l0.drop (aW : Int).toNat).length = (l0.length - aW.toNat) from List.length_drop]; repeat (first | exact (Kd.C_below I8.1 HB.1) | (with_reducible refine Kd.C_alloc ?_ _) | (with_reducible refine Kd.C_drewN ?_ _) | (with_reducible refine Kd.C_drew ?_))) | (repeat (first | exact (Kd.C_below I8.1 HB.1) | (with_reducible refine Kd.C_alloc ?_ _) | (with_reducible refine Kd.C_drewN ?_ _) | (with_reducible refine Kd.C_drew ?_))))
     (case aB => exact cI)
     (case aF => exact (fun k_ hk => Kd.fresh' (Kd.R_lt uP) k_ hk))
     (case aO => exact (rR wF.1))
     (case aS => exact (below_size cI))
     (case aL => have := ID.out; have hlx_ := (show (l0.drop (aW : Int).toNat).length = (l0.length - aW.toNat) from List.length_drop); omega)
     intro Dg WG ho hb hg hat
     rw [← qY.out] at ho
     replace k6 := am (Kd.R_after (ok := (fun _ => True)) uP hg hat)
     replace HB := am hb
     have mD := am ho
     clear wF
     clear ho hb hg hat
     refine hK.out _ _ trivial (fun hHeld => ?_)
     clear hK K
     refine nM ?_
     refine pU1 12 ?_
     refine dN ?_
     try go_wp2
     go_ret
     exact ⟨_, eR, by refine rR ?_; exact Kd.R_mono mD.1 (fun _ hk => trivial), cI⟩
  ·obtain ⟨vY, hy120⟩ : ∃ y_ : List ByteArray, y_ = (([] : List ByteArray)) := ⟨_, rfl⟩
   replace H : (if 0 ≤ aW then (if aW ≤ (l0.length : Int) then (if vY.length + (l0.take (aW : Int).toNat).length < 8796093022208 then ((some (vY ++ (l0.take (aW : Int).toNat) : List ByteArray)).bind fun vZ => ((some (([a1] : List ByteArray) : List ByteArray)).bind fun z7 => (if vZ.length + z7.length < 8796093022208 then ((some (vZ ++ z7 : List ByteArray)).bind fun yM => (if yM.length + (l0.drop (aW : Int).toNat).length < 8796093022208 then (some (yM ++ (l0.drop (aW : Int).toNat))) else (none))) else (none)))) else (none)) else (none)) else (none)) = some r := by first | (rw [hy120]; with_reducible exact H) | (have H2_ := (Option.bind_some _ _).symm.trans H; rw [hy120]; with_reducible exact H2_) | (have H2_ := (Option.bind_some _ _).symm.trans H; with_reducible exact H2_) | with_reducible exact H | (rw [hy120]; exact H) | exact H
   have G5 := am hy120
   clear hy120
   obtain ⟨DE, Z0, H⟩ := cP H
   obtain ⟨zR, Xx, H⟩ := cP H
   obtain ⟨IF, H⟩ := cL H
   obtain ⟨vZ, y9, H⟩ := bY H
   obtain ⟨z7, yA, H⟩ := bY H
   obtain ⟨XG, H⟩ := cL H
   obtain ⟨yM, D6, H⟩ := bY H
   have zS := eq_true (oT : 0 ≤ aW)
   have Z1 := eq_true (oT : aW ≤ (l0.length : Int))
   obtain ⟨XH, H⟩ := cL H
   obtain ⟨ql, IQ⟩ := yv (yM ++ (l0.drop (aW : Int).toNat)); first | replace H := bW IQ H | rw [← IQ.1] at H
   obtain rfl := Option.some.inj H
   repeat clear H
   try go_wp2
   replace HB := am (below_drew1 HB.1)
   obtain ⟨i034, PF, _, hsz34, _⟩ := info_parts info9
   obtain ⟨hcut34, hA34, hC34⟩ := print_take_of (P := Try.prog) Value.string (⟨#[]⟩ : ByteArray) 23 9 .i64 Try.underlying23 PF hsz34 A0 c0 l0 aW (oT) (oT) wE.1
   have FV := am (Kd.C_of_reads (h1 := fun _ => rfl) (hA34 _ (Kd.reads_of_C hL.1)))
   have Ts := am hC34
   clear hA34 hC34 PF hsz34
   obtain ⟨i035, PG, _, hsz35, _⟩ := info_parts info9
   obtain ⟨Tb, hcut35, hA35, hC35⟩ := print_drop_of (P := Try.prog) Value.string (⟨#[]⟩ : ByteArray) 23 9 .i64 Try.underlying23 PG hsz35 A0 c0 l0 aW (oT) (oT) wE.1
   have I9 := am (Kd.C_of_reads (h1 := fun _ => rfl) (hA35 _ (Kd.reads_of_C hL.1)))
   have Tu := am hC35
   clear hA35 hC35 PG hsz35
   refine sT (S := fun w' => True) [] 13 ⟨trivial⟩ (fun hHeld => ?_)
   refine with_tabW spec_l3Insert.tab6 spec_l3Insert.bits6 (fun HT_ HW_ => ?_)
   generalize wr.drew = WH at HB FV I9 hHeld ⊢
   refine pU7 1 2 3 5 8 9 10 ?_
   refine join_ (σ := Value × Value × Value) 3 (bz 13 1919) (fun s_ => [(33, s_.1), (37, s_.2.1), (39, s_.2.2)]) (fun s_ w' => (Kd.R Kd.string 9 w' w.heap.size (fun k_ => some k_ ≠ (s_.2.2 : Value).ownBlock) s_.2.1 vZ) ∧ (Kd.R Kd.string 9 w' w.heap.size (fun k_ => some k_ ≠ (s_.2.1 : Value).ownBlock) s_.2.2 z7) ∧ (Below w.heap.size w w')) ?_ ?_
   rotate_left
   ·intro hCont
    refine two_ (i := 0) (j := 6) (Ni := some 33) (Nj := some 39) (bz 13 1839) (bz 13 1902) rfl rfl rfl rfl (two_of HT_.out (by kernel_rfl)) (by decide) (by decide) (fun K hK => ?_) (fun K hK => ?_)
    ·skip
     refine lT 9 33 G5 ?_
     intro wW NA JT hb
     have fE := am (Kd.R_lower JT (below_size cI))
     replace HB := bS cI hb
     clear hb JT
     refine hK.out _ _ trivial (fun hHeld => ?_)
     clear hK K
     refine nM ?_
     refine two_ (i := 4) (j := 6) (Ni := some 37) (Nj := some 39) (bz 13 1855) (bz 13 1903) rfl rfl rfl rfl (two_of HT_.out (by kernel_rfl)) (by decide) (by decide) (fun K hK => ?_) (fun K hK => ?_)
     ·skip
      refine Kd.R_append_rows_step Kd.string (w0 := w) w.heap.size (by rfl) (.tmp 33) (.tmp 36) 23 9 (.string ⟨#[]⟩) 16 rfl Try.underlying23 info9 rfl (by decide) (by omega) wW vY (l0.take (aW : Int).toNat) _ _ _ (fun _ => True) (fun _ => False) rfl rfl ?aO ?aR (fun _ _ h => h) (fun _ h => h.elim) ?aF ?aB ?aS ?aL ?_
      (case aR => (have e_ : (l0.take (aW : Int).toNat).length = aW.toNat := (by rw [List.length_take]; have h_ : (aW : Int) ≤ (l0.length : Int) := oT; omega); have q_ := Kd.C_below FV.1 HB.1; rw [e_] at q_; exact q_))
      (case aB => exact cI)
      (case aF => exact (fun _ _ => trivial))
      (case aO => exact (rR fE.1))
      (case aS => exact (below_size cI))
      (case aL => have := IF.out; have hlx_ := (show (l0.take (aW : Int).toNat).length = aW.toNat from (by rw [List.length_take]; have h_ : (aW : Int) ≤ (l0.length : Int) := oT; omega)); omega)
      intro rE PO ho hb hg hat
      rw [← y9.out] at ho
      replace HB := am hb
      have iJ := am ho
      clear fE
      clear ho hb hg hat
      refine hK.out _ _ trivial (fun hHeld => ?_)
      clear hK K
      refine nM ?_
      refine oN 6 (some 39) fun K hK => ?_
      refine lT 9 39 yA ?_
      intro vX Dp UH hb
      have jM := am (Kd.R_lower (Kd.R_new' UH (Kd.R_lt (rR iJ.1))) (below_size cI))
      replace iJ := am (Kd.R_elder' (rR iJ.1) (Kd.R_base UH) hb)
      replace HB := bS cI hb
      clear hb UH
      refine hK.out _ _ trivial (fun hHeld => ?_)
      clear hK K
      refine nM ?_
      exact norm_ wO (hCont (wW, rE, vX) _ ⟨(by refine rR ?_; exact Kd.R_mono iJ.1 (fun _ hk => hk.2)), (by refine rR ?_; exact Kd.R_mono jM.1 (fun _ hk => hk.2)), cI⟩)
     ·skip
      refine lT 9 39 yA ?_
      intro vX PO F2 hb
      have jM := am (Kd.R_lower (Kd.R_new' F2 (Kd.R_lt (rR fE.1))) (below_size cI))
      replace fE := am (Kd.R_elder' (rR fE.1) (Kd.R_base F2) hb)
      replace HB := bS cI hb
      clear hb F2
      refine hK.out _ _ trivial (fun hHeld => ?_)
      clear hK K
      refine nM ?_
      refine oN 4 (some 37) fun K hK => ?_
      refine Kd.R_append_rows_step Kd.string (w0 := w) w.heap.size (by rfl) (.tmp 33) (.tmp 36) 23 9 (.string ⟨#[]⟩) 16 rfl Try.underlying23 info9 rfl (by decide) (by omega) wW vY (l0.take (aW : Int).toNat) _ _ _ (fun k_ => some k_ ≠ (vX : Value).ownBlock) (fun _ => False) rfl rfl ?aO ?aR (fun _ _ h => h) (fun _ h => h.elim) ?aF ?aB ?aS ?aL ?_
      (case aR => (have e_ : (l0.take (aW : Int).toNat).length = aW.toNat := (by rw [List.length_take]; have h_ : (aW : Int) ≤ (l0.length : Int) := oT; omega); have q_ := Kd.C_below FV.1 HB.1; rw [e_] at q_; exact q_))
      (case aB => exact cI)
      (case aF => exact (fun k_ hk => Kd.fresh' (Kd.R_lt uQ) k_ hk))
      (case aO => exact (by refine rR ?_; exact Kd.R_mono fE.1 (fun _ hk => hk.2)))
      (case aS => exact (below_size cI))
      (case aL => have := IF.out; have hlx_ := (show (l0.take (aW : Int).toNat).length = aW.toNat from (by rw [List.length_take]; have h_ : (aW : Int) ≤ (l0.length : Int) := oT; omega)); omega)
      intro rE ej ho hb hg hat
      rw [← y9.out] at ho
      replace jM := am (Kd.R_after (ok := (fun _ => True)) uQ hg hat)
      replace HB := am hb
      have iJ := am ho
      clear fE
      clear ho hb hg hat
      refine hK.out _ _ trivial (fun hHeld => ?_)
      clear hK K
      refine nM ?_
      exact norm_ wO (hCont (wW, rE, vX) _ ⟨(rR iJ.1), (by refine rR ?_; exact Kd.R_mono jM.1 (fun _ hk => hk.2)), cI⟩)
    ·skip
     refine lT 9 39 yA ?_
     intro vX NA JT hb
     have jM := am (Kd.R_lower JT (below_size cI))
     replace HB := bS cI hb
     clear hb JT
     refine hK.out _ _ trivial (fun hHeld => ?_)
     clear hK K
     refine nM ?_
     refine oN 0 (some 33) fun K hK => ?_
     refine lT 9 33 G5 ?_
     intro wW PO F2 hb
     have fE := am (Kd.R_lower (Kd.R_new' F2 (Kd.R_lt uQ)) (below_size cI))
     replace jM := am (Kd.R_elder' uQ (Kd.R_base F2) hb)
     replace HB := bS cI hb
     clear hb F2
     refine hK.out _ _ trivial (fun hHeld => ?_)
     clear hK K
     refine nM ?_
     refine oN 4 (some 37) fun K hK => ?_
     refine Kd.R_append_rows_step Kd.string (w0 := w) w.heap.size (by rfl) (.tmp 33) (.tmp 36) 23 9 (.string ⟨#[]⟩) 16 rfl Try.underlying23 info9 rfl (by decide) (by omega) wW vY (l0.take (aW : Int).toNat) _ _ _ (fun k_ => some k_ ≠ (vX : Value).ownBlock) (fun _ => False) rfl rfl ?aO ?aR (fun _ _ h => h) (fun _ h => h.elim) ?aF ?aB ?aS ?aL ?_
     (case aR => (have e_ : (l0.take (aW : Int).toNat).length = aW.toNat := (by rw [List.length_take]; have h_ : (aW : Int) ≤ (l0.length : Int) := oT; omega); have q_ := Kd.C_below FV.1 HB.1; rw [e_] at q_; exact q_))
     (case aB => exact cI)
     (case aF => exact (fun k_ hk => Kd.fresh' (Kd.R_lt uQ) k_ hk))
     (case aO => exact (by refine rR ?_; exact Kd.R_mono fE.1 (fun _ hk => hk.2)))
     (case aS => exact (below_size cI))
     (case aL => have := IF.out; have hlx_ := (show (l0.take (aW : Int).toNat).length = aW.toNat from (by rw [List.length_take]; have h_ : (aW : Int) ≤ (l0.length : Int) := oT; omega)); omega)
     intro rE ej ho hb hg hat
     rw [← y9.out] at ho
     replace jM := am (Kd.R_after (ok := (fun _ => True)) uQ hg hat)
     replace HB := am hb
     have iJ := am ho
     clear fE
     clear ho hb hg hat
     refine hK.out _ _ trivial (fun hHeld => ?_)
     clear hK K
     refine nM ?_
     exact norm_ wO (hCont (wW, rE, vX) _ ⟨(rR iJ.1), (by refine rR ?_; exact Kd.R_mono jM.1 (fun _ hk => hk.2)), cI⟩)
   rintro ⟨wW, rE, vX⟩ Kt ⟨h0_, h1_, h2_⟩
   have iJ : Aside0 (Kd.R Kd.string 9 Kt w.heap.size (fun k_ => some k_ ≠ (vX : Value).ownBlock) rE vZ) := ⟨h0_⟩
   have jM : Aside0 (Kd.R Kd.string 9 Kt w.heap.size (fun k_ => some k_ ≠ (rE : Value).ownBlock) vX z7) := ⟨h1_⟩
   replace HB : Aside0 (Below w.heap.size w Kt) := ⟨h2_⟩
   clear h0_ h1_ h2_
   have hHeld := trivial
   obtain ⟨WW, ZX, Am⟩ := Kd.R_slice jM.1
   (first | subst Am | (obtain ⟨f4_, f5_⟩ := sj Am; subst f4_; subst f5_))
   refine norm_ (a' := ?_) ?_ ?_
   rotate_left
   ·simp only [putAll, Act.put, List.setIfInBounds_toArray, List.set_cons_zero, List.set_cons_succ]
    rfl
   refine oN 7 (some 40) fun K hK => ?_
   refine Kd.R_append_rows_step Kd.string (w0 := w) w.heap.size (by rfl) (.tmp 37) (.tmp 39) 23 9 (.string ⟨#[]⟩) 16 rfl Try.underlying23 info9 rfl (by decide) (by omega) rE vZ z7 _ _ _ (fun k_ => some k_ ≠ (.slice WW z7.length ZX : Value).ownBlock) (fun _ => False) rfl rfl ?aO ?aR (fun _ _ h => h) (fun _ h => h.elim) ?aF ?aB ?aS ?aL ?_
   (case aR => repeat (first | exact (Kd.R_reads' jM.1).2.2 | (with_reducible refine Kd.C_alloc ?_ _) | (with_reducible refine Kd.C_drewN ?_ _) | (with_reducible refine Kd.C_drew ?_)))
   (case aB => exact cI)
   (case aF => exact (fun k_ hk => Kd.fresh' (Kd.R_lt uQ) k_ hk))
   (case aO => exact (rR iJ.1))
   (case aS => exact (below_size cI))
   (case aL => have := XG.out; omega)
   intro N7 Sn ho hb hg hat
   rw [← D6.out] at ho
   replace jM := am (Kd.R_after (ok := (fun _ => True)) (by refine rR ?_; exact Kd.R_mono jM.1 (fun _ hk => ⟨trivial, hk⟩)) hg hat)
   replace HB := am hb
   have wG := am ho
   clear iJ
   clear ho hb hg hat
   refine hK.out _ _ trivial (fun hHeld => ?_)
   clear hK K
   refine nM ?_
   refine oN 11 (some 44) fun K hK => ?_
   refine Kd.R_append_rows_step Kd.string (w0 := w) w.heap.size (by rfl) (.tmp 40) (.tmp 43) 23 9 (.string ⟨#[]⟩) 16 rfl Try.underlying23 info9 rfl (by decide) (by omega) N7 yM (l0.drop (aW : Int).toNat) _ _ _ (fun k_ => some k_ ≠ (.slice WW z7.length ZX : Value).ownBlock) (fun _ => False) rfl rfl ?aO ?aR (fun _ _ h => h) (fun _ h => h.elim) ?aF ?aB ?aS ?aL ?_
   (case aR => first | (rw [← show (l0.drop (aW : Int).toNat).length = (l0.length - aW.toNat) from List.length_drop]; repeat (first | exact (Kd.C_below I9.1 HB.1) | (with_reducible refine Kd.C_alloc ?_ _) | (with_reducible refine Kd.C_drewN ?_ _) | (with_reducible refine Kd.C_drew ?_))) | (repeat (first | exact (Kd.C_below I9.1 HB.1) | (with_reducible refine Kd.C_alloc ?_ _) | (with_reducible refine Kd.C_drewN ?_ _) | (with_reducible refine Kd.C_drew ?_))))
   (case aB => exact cI)
   (case aF => exact (fun k_ hk => Kd.fresh' (Kd.R_lt uQ) k_ hk))
   (case aO => exact (rR wG.1))
   (case aS => exact (below_size cI))
   (case aL => have := XH.out; have hlx_ := (show (l0.drop (aW : Int).toNat).length = (l0.length - aW.toNat) from List.length_drop); omega)
   intro Rw WI ho hb hg hat
   rw [← IQ.out] at ho
   replace jM := am (Kd.R_after (ok := (fun _ => True)) uQ hg hat)
   replace HB := am hb
   have kM := am ho
   clear wG
   clear ho hb hg hat
   refine hK.out _ _ trivial (fun hHeld => ?_)
   clear hK K
   refine nM ?_
   refine pU1 12 ?_
   refine dN ?_
   try go_wp2
   go_ret
   exact ⟨_, eR, by refine rR ?_; exact Kd.R_mono kM.1 (fun _ hk => trivial), cI⟩
def insF (a : ByteArray) : List ByteArray → Bool
 | [] => false
 | x :: t => if Op.bytesLess x.toList a.toList = true then insF a t else x.toList == a.toList
def spec_l3Insert.q0 : Nat → List ByteArray → ByteArray → Int → Option Bool
 | 0, _, _, _ => none
 | k + 1, b, c, a => if a < (b.length : Int) then (if 0 ≤ a then (if (Op.bytesLess ((rdOf ByteArray.empty b a).toList) c.toList) = true then (spec_l3Insert.q0 k b c (wrap64 (a + 1))) else (if (rdOf ByteArray.empty b a).toList = c.toList then some true else none)) else none) else none
theorem spec_l3Insert.q0_of (l : List ByteArray) (a : ByteArray) (hl : l.length ≤ 9223372036854775807) : ∀ (n i : Nat), i + n = l.length → insF a (l.drop i) = true → spec_l3Insert.q0 (n + 1) l a i = some true
 | 0, i, hi, h => by rw [List.drop_eq_nil_of_le (by omega)] at h; cases h
 | n + 1, i, hi, h => by
  have hlt : i < l.length := by omega
  rw [List.drop_eq_getElem_cons hlt] at h
  have e1 : rdOf ByteArray.empty l (i : Int) = l[i] := by unfold rdOf; rw [Int.toNat_natCast]; simp [List.getD_eq_getElem?_getD, hlt]
  unfold spec_l3Insert.q0
  rw [if_pos (by omega), if_pos (by omega), e1]
  unfold insF at h
  by_cases hc : Op.bytesLess l[i].toList a.toList = true
  ·rw [if_pos hc] at h ⊢
   rw [show wrap64 ((i : Int) + 1) = ((i + 1 : Nat) : Int) by unfold wrap64; omega]
   exact spec_l3Insert.q0_of l a hl n (i + 1) (by omega) h
  ·rw [if_neg hc] at h ⊢
   rw [if_pos (by simpa using h)]
theorem spec_l3Insert.same (k : Nat) (A0 : Option Addr) (c0 : Nat) (l0 : List ByteArray) (a1 : ByteArray) (w : World) (gL : Kd.C Kd.string w A0 l0.length l0) (l7 : l0.length ≤ c0) (h : spec_l3Insert.q0 k l0 a1 0 = some true) :
  Calls Try.prog 106 #[.slice A0 l0.length c0, .string a1] w fun e w' => e = .returned (.slice A0 l0.length c0) ∧ Below w.heap.size w w' := by
 obtain ⟨hL, wE⟩ := mZ2 gL l7
 clear gL l7
 have HB := am (Below.refl w.heap.size w)
 have H := h
 clear h
 have H' := am H
 repeat clear H
 go_enter Try.func106, Try.ntmps106
 go_wp2
 go_loopg [5] k (fun kq v5 w' => ∃ (aW : Int), v5 = .int .i64 aW ∧ Aside0 (spec_l3Insert.q0 kq l0 a1 aW = some true) ∧ Aside0 (kq ≤ k) ∧ Aside0 (Below w.heap.size w w'))
 case atStart => exact ⟨(0), aQ, H', ⟨Nat.le_refl _⟩, ⟨cI⟩⟩
 clear H'
 obtain ⟨aW, rfl, HA, HK1, HB⟩ := hrel
 cases gk with
 | zero => exact absurd HA.out (by simp [spec_l3Insert.q0])
 | succ k1 =>
  have H := HA.out
  clear HA
  simp only [spec_l3Insert.q0] at H
  by_cases c3 : aW < (l0.length : Int)
  ·rw [if_pos c3] at H
   have pG : decide (aW < (l0.length : Int)) = true := decide_eq_true c3
   clear c3
   by_cases c4 : 0 ≤ aW
   ·rw [if_pos c4] at H
    have jE : decide (0 ≤ aW) = true := decide_eq_true c4
    clear c4
    refine tC H ?_ ?_ <;> clear H <;> intro pH H
    ·have H' := am H
     repeat clear H
     obtain ⟨dS, eY, e0, kZ, l5⟩ := aS hL HB aW
     cases eY
     go_wp2
     go_roundg k1
     case measure => have := HK1.out; omega
     case rel => exact ⟨(wrap64 (aW + 1)), aQ, H', ⟨by have := HK1.out; omega⟩, ⟨cI⟩⟩
    ·by_cases c6 : (rdOf ByteArray.empty l0 aW).toList = a1.toList
     ·rw [if_pos c6] at H
      have sC : ((rdOf ByteArray.empty l0 aW).toList == a1.toList) = true := beq_iff_eq.mpr c6
      have EQ : ((rdOf ByteArray.empty l0 aW).toList != a1.toList) = false := bne_eq_false_iff_eq.mpr c6
      clear c6 H
      obtain ⟨dS, eY, e0, kZ, l5⟩ := aS hL HB aW
      cases eY
      obtain ⟨fA, iE, f7, oF, oH⟩ := aS hL HB aW
      obtain rfl : dS = fA := (by injection iE)
      go_wp2
      go_ret
      exact ⟨rfl, cI⟩
     ·rw [if_neg c6] at H; cases H
   ·rw [if_neg c4] at H; cases H
  ·rw [if_neg c3] at H; cases H
end Go.Proofs.Ytaofjgnhapnndaa.Q
