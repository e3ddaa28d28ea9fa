/- Texts that the row needs: words on memory and rows, the contracts of the functions it reaches, and the plain lemmas on what they compute. -/
import Derived.Lib.SliceRun
import Derived.Test.YtaofjgnhapnndaaXkoag
set_option maxHeartbeats 8000000
set_option maxRecDepth 100000
open Go.Proofs.YtaofjgnhapnndaaFko
namespace Go.Proofs.Ytaofjgnhapnndaa.Q
open Go.RowKit Go.Proofs.YtaofjgnhapnndaaW.PrintWords Go.Proofs.YtaofjgnhapnndaaW.PrintLast Go.Proofs.YtaofjgnhapnndaaW.PrintMore
set_option linter.unusedVariables false
set_option linter.unusedSimpArgs false
theorem Yr {α : Type} {d : Kd α} {w : World} {l : List α} (h : d.C w none l.length l) : l = [] := by
 cases l with
 | nil => rfl
 | cons a l =>
  obtain ⟨ad, he, _⟩ := h.2.2 (by simp)
  cases he
mutual
def dM.l0 : Nat → List ByteArray → List ByteArray → Int → List Int → Int → List ByteArray → List (S56) → Option (List ByteArray × (List (S56)) × Int)
 | 0, _, _, _, _, _, _, _ => none
 | k + 1, b, h, a, c, i, d, e => if a < (b.length : Int) then ((bE.f k c i 4).bind fun g => (if g.1 = 0 then (dM.l0 k b h (wrap64 (a + 1)) c g.2 d e) else (if 0 ≤ a then ((gF.f k c g.2 d 2).bind fun j => (dM.l1 k b h a 0 c j.2 d e (rdOf ByteArray.empty b a) ([] : List ByteArray) j.1)) else (none)))) else (some (d, e, i))
def dM.l1 : Nat → List ByteArray → List ByteArray → Int → Int → List Int → Int → List ByteArray → List (S56) → ByteArray → List ByteArray → List ByteArray → Option (List ByteArray × (List (S56)) × Int)
 | 0, _, _, _, _, _, _, _, _, _, _, _ => none
 | k + 1, h, c, i, a, d, m, j, e, l, g, b => if a < (b.length : Int) then (if 0 ≤ a then ((dK.f k c (rdOf ByteArray.empty b a)).bind fun o => (if o = true then (dM.l1 k h c i (wrap64 (a + 1)) d m j e l g b) else ((bE.f k d m 2).bind fun n => (if n.1 = 0 then (if c.length < 8796093022208 then (if g.length < 8796093022208 then (dM.l1 k h (c ++ [rdOf ByteArray.empty b a]) i (wrap64 (a + 1)) d n.2 j e l (g ++ [rdOf ByteArray.empty b a]) b) else (none)) else (none)) else (dM.l1 k h c i (wrap64 (a + 1)) d n.2 j e l g b))))) else (none)) else (if e.length < 2199023255552 then (dM.l0 k h c (wrap64 (i + 1)) d m j (e ++ [(⟨l, g, b⟩ : S56)])) else (none))
end
def dM.f (k : Nat) (d4 : List Int) (hG : Int) (fY : List ByteArray) (mF : List (S56)) : Option (List ByteArray × (List (S56)) × Int) := (nQ.f).bind fun a => (dM.l0 k a (([] : List ByteArray)) 0 d4 hG fY ([] : List (S56)))
def dM.T7 : Bool × List (List Nat × List Nat) := (true, [([], []), ([], []), ([0, 1], [0, 1]), ([2], [2]), ([], []), ([], []), ([5], [5]), ([4, 6], [4, 6]), ([3, 7], [3, 7]), ([], []), ([9, 8, 7, 0, 1, 2, 3, 4, 5, 6, 7, 8, 9], [8, 9])])
def dM.B7 : List Nat := [0, 0, 3, 7, 0, 0, 32, 112, 255, 0, 1023]
theorem dM.tab7 : rtab .any (opsOf Try.f129 7) = dM.T7 := by kernel_rfl
theorem dM.uG : kM dM.T7.2 dM.B7 = true := by kernel_rfl
def dM.T13 : Bool × List (List Nat × List Nat) := (true, [([], []), ([0], [0]), ([], []), ([2], [2]), ([], []), ([3, 4], [3, 4]), ([5], [5]), ([6], [6]), ([1, 7], [1, 7]), ([0, 1, 2, 3, 4, 5, 6, 7, 8], []), ([9, 8, 8, 0, 1, 2, 3, 4, 5, 6, 7, 8], [8, 9])])
def dM.B13 : List Nat := [0, 1, 0, 4, 0, 28, 60, 124, 255, 511, 1023]
theorem dM.SY : rtab .any (opsOf Try.f129 13) = dM.T13 := by kernel_rfl
theorem dM.LV : kM dM.T13.2 dM.B13 = true := by kernel_rfl
theorem dM.calls (k : Nat) (g : Nat) (d4 : List Int) (hG : Int) (P1_0_ : Nat → Prop) (u9000_ : Value) (fY : List ByteArray) (xO : Option Addr) (xC : Nat) (mF : List (S56)) (r1 : List ByteArray) (r2 : List (S56)) (r3 : Int) (w0 w : World) (hI : aD w0 w g d4 hG) (hB : Below w0.heap.size w0 w) (uu : Kd.R Kd.string 9 w w0.heap.size P1_0_ u9000_ fY) (N9 : ∀ W_, Kept w W_ (fun k_ => (P1_0_ k_) ∨ k_ = g) → Kd.C k56 W_ xO mF.length mF) (PU : mF.length ≤ xC) (hn_ : xO = none) (hz_ : xC = 0) (h : dM.f k d4 hG fY mF = some (r1, r2, r3)) :
  Calls Try.prog 129 #[.pointer (some ⟨g, 0, none⟩), .agg #[u9000_, .slice xO mF.length xC]] w fun e w' => ∃ v0_ v1_ : Value, e = .returned (.agg #[v0_, v1_]) ∧ Kd.R Kd.string 9 w' w0.heap.size (fun k_ => (P1_0_ k_ ∨ w.heap.size ≤ k_)) v0_ r1 ∧ Kd.N k56 56 w' w.heap.size (fun k_ => (P1_0_ k_ ∨ w.heap.size ≤ k_) ∧ some k_ ≠ (v0_ : Value).ownBlock) v1_ r2 ∧ aD w0 w' g d4 r3 ∧ Below w0.heap.size w0 w' ∧ Kept w w' (fun k_ => (P1_0_ k_) ∨ k_ = g) := by
 have hu31 := Try.underlying31
 have hu56 := Try.underlying56
 have FH := am (show Kd.R Kd.string 9 w w0.heap.size (fun k_ => (P1_0_ k_ ∨ w.heap.size ≤ k_)) u9000_ fY from Kd.aM uu (fun k_ hk => (.inl hk)))
 subst hn_
 subst hz_
 obtain rfl := Yr (N9 w (Kept.refl w _))
 clear N9 PU
 simp only [List.length_nil]
 have gJ := am hI
 have HL := am hB.size
 clear hI
 have HK := am (Kept.refl w (fun k_ => (P1_0_ k_) ∨ k_ = g))
 have HW0 := am hB.size
 have HB := am hB
 clear hB
 unfold dM.f at h
 have H := h
 clear h
 obtain ⟨eK, A3, H⟩ := bd H
 obtain ⟨wz, hy106⟩ : ∃ y_ : List ByteArray, y_ = (([] : List ByteArray)) := ⟨_, rfl⟩
 replace H : (dM.l0 k eK wz 0 d4 hG fY ([] : List (S56))) = some (r1, r2, r3) := by first | (rw [hy106]; with_reducible exact H) | (have H2_ := (Option.bind_some _ _).symm.trans H; rw [hy106]; with_reducible exact H2_) | (have H2_ := (Option.bind_some _ _).symm.trans H; with_reducible exact H2_) | with_reducible exact H | (rw [hy106]; exact H) | exact H
 have ov := am hy106
 clear hy106
 have H' := am H
 repeat clear H
 obtain ⟨vS, vU, eo4⟩ := Kd.bN FH.1
 subst eo4
 go_enter Try.func129, Try.ntmps129
 go_wp2_with (first | ((with_reducible refine gD 3 ?_); refine bX 3 #[.slice vS fY.length vU, .slice none 0 0] 31 ?_; intro aJ hg w5 hbox hb; replace FH := am (Kd.jY (rR FH.1) hb); have a3 := am hbox; have gH := am (by rw [hg]; exact (by first | exact HK.out.1 | exact (show Kept w _ (fun k_ => (P1_0_ k_) ∨ k_ = g) from by repeat (first | (with_reducible first | exact HK.out | apply Kept.alloc | apply Kept.drewN | apply Kept.drew | refine Kept.setCell ?_ (.inl (.inr rfl)) _) | exact HK.out)).1) : w.heap.size ≤ aJ); replace HK := am (Kept.below (S := (fun k_ => (P1_0_ k_) ∨ k_ = g)) (by repeat (first | (with_reducible first | exact HK.out | apply Kept.alloc | apply Kept.drewN | apply Kept.drew | refine Kept.setCell ?_ (.inl (.inr rfl)) _) | exact HK.out)) hb); have iE := am (by rw [hg]; exact (aG BJ) : w0.heap.size ≤ aJ); replace HB := bS BJ hb; have l7 := am (by rw [hg]; exact Nat.ne_of_lt (aD.lt (show aD w0 _ g d4 hG from tH)) : g ≠ aJ); have fF := am (by rw [hg]; exact Nat.ne_of_gt (aD.lt (show aD w0 _ g d4 hG from tH)) : aJ ≠ g); replace gJ := am (aD.below tH hb); clear hb hbox hg) | ((with_reducible refine gD 4 ?_); refine bX 4 #[.slice none 0 0, .slice none 0 0] 31 ?_; intro aX hg w6 hbox hb; replace FH := am (Kd.jY (rR FH.1) hb); have aK := am hbox; have mP := am (by rw [hg]; exact (by first | exact HK.out.1 | exact (show Kept w _ (fun k_ => (P1_0_ k_) ∨ k_ = g) from by repeat (first | (with_reducible first | exact HK.out | apply Kept.alloc | apply Kept.drewN | apply Kept.drew | refine Kept.setCell ?_ (.inl (.inr rfl)) _ | refine Kept.setCell ?_ (.inr gH.out) _) | exact HK.out)).1) : w.heap.size ≤ aX); replace HK := am (Kept.below (S := (fun k_ => (P1_0_ k_) ∨ k_ = g)) (by repeat (first | (with_reducible first | exact HK.out | apply Kept.alloc | apply Kept.drewN | apply Kept.drew | refine Kept.setCell ?_ (.inl (.inr rfl)) _ | refine Kept.setCell ?_ (.inr gH.out) _) | exact HK.out)) hb); have nX := am (by rw [hg]; exact (aG VZ) : w0.heap.size ≤ aX); replace HB := bS VZ hb; have dP := nL aQ hg; have dQ := nG aQ hg; replace a3 := bB aQ hb; have lZ := am (by rw [hg]; exact Nat.ne_of_lt (aD.lt (show aD w0 _ g d4 hG from CW)) : g ≠ aX); have hJ := am (by rw [hg]; exact Nat.ne_of_gt (aD.lt (show aD w0 _ g d4 hG from CW)) : aX ≠ g); replace gJ := am (aD.below CW hb); clear hb hbox hg) | ((with_reducible refine gC 132 ?_); refine cE (some 10) Try.func132 (nQ.calls  eK _ A3.out) ?_; rintro e w7 ⟨DU, rfl, hD, hb⟩; refine ⟨_, rfl, ?_⟩; have nS := am (Kd.cO (Kd.eF (Kd.jK (M := fun k_ => (P1_0_ k_ ∨ w.heap.size ≤ k_)) hD Ny (fun k_ h_ => .inr h_)) (Kd.R_lt (rR FH.1))) (aG xE)); replace FH := am (Kd.dJ (rR FH.1) (Kd.bL hD) hb); replace a3 := bB aQ hb; replace aK := bB cA hb; replace HK := am (Kept.below (S := (fun k_ => (P1_0_ k_) ∨ k_ = g)) QQ hb); replace HB := bS xE hb; replace gJ := am (aD.below qG hb); clear hb hD) | ((with_reducible refine jD (N := 11) rfl ?_); refine lS 9 11 ov ?_; intro aA9 w8 ho9 hb; have JO := am (Kd.cO (Kd.eF (Kd.eF (Kd.jK (M := fun k_ => (P1_0_ k_ ∨ w.heap.size ≤ k_)) ho9 Ny (fun k_ h_ => .inr h_)) (Kd.R_lt (rR FH.1))) (Kd.R_lt KP)) (aG xE)); replace FH := am (Kd.dJ (rR FH.1) (Kd.bL ho9) hb); replace nS := am (Kd.dJ KP (Kd.bL ho9) hb); replace a3 := bB aQ hb; replace aK := bB cA hb; replace HK := am (Kept.below (S := (fun k_ => (P1_0_ k_) ∨ k_ = g)) QQ hb); replace HB := bS xE hb; replace gJ := am (aD.below qG hb); clear hb ho9))
 go_loopg [6, 7] k (fun kq v6 v7 w' => ∃ (Br : List ByteArray) (kW : Int) (n3 : Int) (pK : List (S56)) (n0 : Value), v7 = .int .i64 kW ∧ aA (dM.l0 kq eK Br kW d4 n3 fY pK = some (r1, r2, r3)) ∧ aA (kq ≤ k) ∧ aA (Kd.R Kd.string 9 w' w0.heap.size (fun k_ => (P1_0_ k_ ∨ w.heap.size ≤ k_) ∧ some k_ ≠ (v6 : Value).ownBlock ∧ some k_ ≠ ((.slice vS fY.length vU) : Value).ownBlock) DU eK) ∧ aA (Kd.R Kd.string 9 w' w0.heap.size (fun k_ => (P1_0_ k_ ∨ w.heap.size ≤ k_) ∧ some k_ ≠ (DU : Value).ownBlock ∧ some k_ ≠ ((.slice vS fY.length vU) : Value).ownBlock) v6 Br) ∧ aA (Kd.R Kd.string 9 w' w0.heap.size (fun k_ => (P1_0_ k_ ∨ w.heap.size ≤ k_) ∧ some k_ ≠ (DU : Value).ownBlock ∧ some k_ ≠ (v6 : Value).ownBlock) (.slice vS fY.length vU) fY) ∧ aA (Kd.N k56 56 w' w.heap.size (fun k_ => (P1_0_ k_ ∨ w.heap.size ≤ k_) ∧ some k_ ≠ (DU : Value).ownBlock ∧ some k_ ≠ (v6 : Value).ownBlock ∧ some k_ ≠ ((.slice vS fY.length vU) : Value).ownBlock ∧ k_ ≠ aJ ∧ k_ ≠ aX ∧ k_ ≠ g) n0 pK) ∧ aA (w'.heap[aJ]? = some (.cells #[(.slice vS fY.length vU), n0] 31 (0, 0))) ∧ aA (w'.heap[aX]? = some (.cells #[(.slice none 0 0), (.slice none 0 0)] 31 (0, 0))) ∧ aA (aD w0 w' g d4 n3) ∧ aA (Kept w w' (fun k_ => (P1_0_ k_) ∨ k_ = g)) ∧ aA (Below w0.heap.size w0 w'))
 case atStart => exact ⟨(wz), (0), (hG), (([] : List (S56))), (.slice none 0 0), dH, H', ⟨Nat.le_refl _⟩, ⟨by refine rR ?_; exact Kd.aM nS.1 (fun _ hk => ⟨hk.1.1.1, ⟨hk.2, hk.1.2⟩⟩)⟩, ⟨by refine rR ?_; exact Kd.aM JO.1 (fun _ hk => ⟨hk.1.1.1, ⟨hk.2, hk.1.2⟩⟩)⟩, ⟨by refine rR ?_; exact Kd.aM FH.1 (fun _ hk => ⟨hk.1.1, ⟨hk.1.2, hk.2⟩⟩)⟩, ⟨eN⟩, ⟨rB a3.1⟩, ⟨rB aK.1⟩, ⟨qG⟩, ⟨QQ⟩, ⟨xE⟩⟩
 clear H'
 obtain ⟨Br, kW, n3, pK, n0, rfl, HA, HK1, p9, gO, fD, eM, a3, aK, gJ, HK, HB⟩ := hrel
 cases gk with
 | zero => exact absurd HA.out (by simp [dM.l0])
 | succ k1 =>
  have H := HA.out
  clear HA
  simp only [dM.l0] at H
  refine ic H ?_ ?_ <;> clear H <;> intro IC H
  ·obtain ⟨⟨DR, vD⟩, A11, H⟩ := bd H
   dsimp only at H
   refine iq H ?_ ?_ <;> clear H <;> intro Rk MU Kw H
   ·have H' := am H
    repeat clear H
    obtain ⟨a4F, a6L, a7P⟩ := Kd.bN p9.1
    subst a7P
    go_wp2_with (first | ((with_reducible refine gC 100 ?_); refine cQ (some 19) Try.func100 (bE.calls k1 g d4 n3 4 DR vD w0 _ (qG) (xE) A11.out) ?_; rintro wn ⟨hi, hb, hk⟩; replace p9 := iR qG AX hk; replace gO := iR qG jU hk; replace fD := iR qG AW hk; replace eM := am (Kd.aU (Kd.y9 (Kd.aU (ok := fun k_ => (((P1_0_ k_ ∨ w.heap.size ≤ k_)) ∧ (some k_ ≠ (.slice a4F eK.length a6L : Value).ownBlock ∧ (some k_ ≠ (u6 : Value).ownBlock ∧ (some k_ ≠ (.slice vS fY.length vU : Value).ownBlock ∧ (k_ ≠ aJ ∧ (k_ ≠ aX ∧ k_ ≠ g))))))) FM (fun k_ hk_ => (⟨hk_, hk_.2.2.2.2.2.2⟩ : _ ∧ k_ ≠ g))) hk (fun _ h => h.2)) (fun _ h => h.1)); replace a3 := kb aQ hk fF; replace aK := kb cA hk hJ; replace HK := am (Kept.H7 (S := (fun k_ => (P1_0_ k_) ∨ k_ = g)) QQ hk (.inl (.inr rfl))); replace HB := am hb; replace gJ := am hi; clear hb hk hi))
    go_roundg k1
    case measure => have := HK1.out; omega
    case rel => exact ⟨(Br), (wrap64 (kW + 1)), (vD), (pK), (n0), dH, H', ⟨by have := HK1.out; omega⟩, ⟨rR p9.1⟩, ⟨rR gO.1⟩, ⟨rR fD.1⟩, ⟨rN eM.1⟩, ⟨rB a3.1⟩, ⟨rB aK.1⟩, ⟨qG⟩, ⟨QQ⟩, ⟨xE⟩⟩
   ·obtain ⟨X8, H⟩ := cN H
    obtain ⟨⟨l6, oS⟩, YW, H⟩ := bd H
    dsimp only at H
    have H' := am H
    repeat clear H
    obtain ⟨QG, lA, Lx⟩ := Kd.bN p9.1
    subst Lx
    try go_wp2_with (first | ((with_reducible refine gC 100 ?_); refine cQ (some 19) Try.func100 (bE.calls k1 g d4 n3 4 DR vD w0 _ (qG) (xE) A11.out) ?_; rintro w18 ⟨hi, hb, hk⟩; replace p9 := iR qG AX hk; replace gO := iR qG jU hk; replace fD := iR qG AW hk; replace eM := am (Kd.aU (Kd.y9 (Kd.aU (ok := fun k_ => (((P1_0_ k_ ∨ w.heap.size ≤ k_)) ∧ (some k_ ≠ (.slice QG eK.length lA : Value).ownBlock ∧ (some k_ ≠ (u6 : Value).ownBlock ∧ (some k_ ≠ (.slice vS fY.length vU : Value).ownBlock ∧ (k_ ≠ aJ ∧ (k_ ≠ aX ∧ k_ ≠ g))))))) FM (fun k_ hk_ => (⟨hk_, hk_.2.2.2.2.2.2⟩ : _ ∧ k_ ≠ g))) hk (fun _ h => h.2)) (fun _ h => h.1)); replace a3 := kb aQ hk fF; replace aK := kb cA hk hJ; replace HK := am (Kept.H7 (S := (fun k_ => (P1_0_ k_) ∨ k_ = g)) QQ hk (.inl (.inr rfl))); replace HB := am hb; replace gJ := am hi; clear hb hk hi))
    replace p9 := RD p9
    replace gO := RD gO
    replace fD := RD fD
    replace eM := ND eM
    replace a3 := BD a3
    replace aK := BD aK
    replace gJ := am (aD.drew gJ.out)
    replace HK := am (Kept.drew HK.out)
    replace HB := am (aV HB.1)
    obtain ⟨jL, UM, wI, Ns, Oa⟩ := aS (am (Kd.aT p9.1).2.2) b0 kW
    cases UM
    refine sT (S := fun w' => w'.cell? ⟨aJ, 0, none⟩ = some (.slice vS fY.length vU) ∧ w'.cell? ⟨aJ, 1, none⟩ = some (n0) ∧ w'.cell? (jL.add (kW).toNat) = some (.string (rdOf ByteArray.empty eK kW))) [] 11 ⟨⟨(bF a3.1 0).trans rfl, (bF a3.1 1).trans rfl, wI⟩⟩ (fun hHeld => ?_)
    refine dZ dM.tab7 dM.uG (fun HT_ HW_ => ?_)
    generalize w18.drew = wq at p9 gO fD eM a3 aK gJ HK HB wI hHeld ⊢
    refine pU5 0 1 2 4 5 ?_
    refine tK3 3 (some 24) ?_
    refine tK3 6 (some 27) ?_
    refine SK (σ := Value × Nat) 1 (bz 11 1023) (fun s_ => [(28, s_.1), (8, .pointer (some ⟨s_.2, 0, none⟩)), (29, .agg #[.string (rdOf ByteArray.empty eK kW), .slice none 0 0, s_.1])]) (fun s_ w' => (w'.cell? ⟨aJ, 0, none⟩ = some (.slice vS fY.length vU) ∧ w'.cell? ⟨aJ, 1, none⟩ = some (n0) ∧ w'.cell? (jL.add (kW).toNat) = some (.string (rdOf ByteArray.empty eK kW))) ∧ (Kd.R Kd.string 9 w' w0.heap.size (fun k_ => (P1_0_ k_ ∨ w.heap.size ≤ k_) ∧ some k_ ≠ (.slice vS fY.length vU : Value).ownBlock ∧ some k_ ≠ (.slice (some jL) eK.length lA : Value).ownBlock ∧ some k_ ≠ (u6 : Value).ownBlock) s_.1 l6) ∧ (Kd.R Kd.string 9 w' w0.heap.size (fun k_ => (P1_0_ k_ ∨ w.heap.size ≤ k_) ∧ some k_ ≠ (s_.1 : Value).ownBlock ∧ some k_ ≠ (.slice (some jL) eK.length lA : Value).ownBlock ∧ some k_ ≠ (u6 : Value).ownBlock) (.slice vS fY.length vU) fY) ∧ (Kd.N k56 56 w' w.heap.size (fun k_ => (P1_0_ k_ ∨ w.heap.size ≤ k_) ∧ some k_ ≠ (s_.1 : Value).ownBlock ∧ some k_ ≠ (.slice vS fY.length vU : Value).ownBlock ∧ some k_ ≠ (.slice (some jL) eK.length lA : Value).ownBlock ∧ some k_ ≠ (u6 : Value).ownBlock ∧ k_ ≠ g ∧ k_ ≠ aJ ∧ k_ ≠ aX ∧ k_ ≠ s_.2) n0 pK) ∧ (Kd.R Kd.string 9 w' w0.heap.size (fun k_ => (P1_0_ k_ ∨ w.heap.size ≤ k_) ∧ some k_ ≠ (s_.1 : Value).ownBlock ∧ some k_ ≠ (.slice vS fY.length vU : Value).ownBlock ∧ some k_ ≠ (u6 : Value).ownBlock) (.slice (some jL) eK.length lA) eK) ∧ (Kd.R Kd.string 9 w' w0.heap.size (fun k_ => (P1_0_ k_ ∨ w.heap.size ≤ k_) ∧ some k_ ≠ (s_.1 : Value).ownBlock ∧ some k_ ≠ (.slice vS fY.length vU : Value).ownBlock ∧ some k_ ≠ (.slice (some jL) eK.length lA : Value).ownBlock) u6 Br) ∧ (w'.heap[aJ]? = some (.cells #[.slice vS fY.length vU, n0] 31 (0, 0))) ∧ (w'.heap[aX]? = some (.cells #[.slice none 0 0, .slice none 0 0] 31 (0, 0))) ∧ (w'.heap[s_.2]? = some (.cells #[.string (⟨#[]⟩ : ByteArray), .slice none 0 0, .slice none 0 0] 56 (0, 0))) ∧ (w.heap.size ≤ s_.2) ∧ (w0.heap.size ≤ s_.2) ∧ (g ≠ s_.2) ∧ (s_.2 ≠ g) ∧ (aJ ≠ s_.2) ∧ (s_.2 ≠ aJ) ∧ (aX ≠ s_.2) ∧ (s_.2 ≠ aX) ∧ (aD w0 w' g d4 oS) ∧ (Kept w w' (fun k_ => (P1_0_ k_) ∨ k_ = g)) ∧ (Below w0.heap.size w0 w')) ?_ ?_
    rotate_left
    ·intro hCont
     refine two_ (i := 7) (j := 9) (Ni := some 28) (Nj := some 8) (bz 11 255) (bz 11 639) rfl rfl rfl rfl (BC HT_.out (by kernel_rfl)) (by decide) (by decide) (fun K hK => ?_) (fun K hK => ?_)
     ·skip
      refine wF Try.func109 (by kernel_rfl) rfl #[.pointer (some ⟨g, 0, none⟩), .slice vS fY.length vU, .int .i64 2] (by rfl) rfl rfl FO ?_
      with_reducible refine (gF.calls k1 g d4 vD _ _ fY 2 l6 oS w0 _ ?side1 ?side2 ?side3 ?side4 ?side5 YW.out).mono ?_
      (case side1 => exact qG)
      (case side2 => exact xE)
      (case side3 => exact pC (Kd.aT fD.1).2.2)
      (case side4 => exact (Kd.aT fD.1).2.1)
      (case side5 => exact oO (aD.own_ne gJ.out fD.1 (by decide)))
      rintro e Hw ⟨rQ, rfl, hD, hi, hb, hk⟩
      have HS2_ := kC hk (hHeld.2.2) (by first | (rw [add_block]; exact Kd.p8 (aD.own_ne gJ.out p9.1 (by decide))) | (show (Addr.add _ _).block ≠ _; rw [add_block]; exact Kd.p8 (aD.own_ne gJ.out p9.1 (by decide))) | exact Kd.p8 (aD.own_ne gJ.out p9.1 (by decide)))
      refine ⟨_, rfl, ?_⟩
      replace eM := am (Kd.aU (Kd.nD (Kd.TW (Kd.aU (ok := fun k_ => (((P1_0_ k_ ∨ w.heap.size ≤ k_)) ∧ (some k_ ≠ (.slice (some jL) eK.length lA : Value).ownBlock ∧ (some k_ ≠ (u6 : Value).ownBlock ∧ (some k_ ≠ (.slice vS fY.length vU : Value).ownBlock ∧ (k_ ≠ aJ ∧ (k_ ≠ aX ∧ k_ ≠ g))))))) FM (fun k_ hk_ => (⟨hk_, hk_.2.2.2.2.2.2⟩ : _ ∧ k_ ≠ g))) hk) (Kd.bL hD)) (fun _ h_ => h_.1))
      replace a3 := kb aQ hk fF
      replace aK := kb cA hk hJ
      have fX := am (Kd.cO (Kd.eF (Kd.eF (Kd.eF (Kd.jK (M := fun k_ => (P1_0_ k_ ∨ w.heap.size ≤ k_)) hD Ny (fun k_ h_ => .inr h_)) (Kd.R_lt AX)) (Kd.R_lt jU)) (Kd.R_lt AW)) (aG xE))
      replace p9 := am (Kd.aM (Kd.EM (Kd.EL (aD.apart (show aD w0 _ g d4 vD from qG) AX (by decide)) hk) (Kd.bL hD)) (fun _ h_ => h_.1))
      replace gO := am (Kd.aM (Kd.EM (Kd.EL (aD.apart (show aD w0 _ g d4 vD from qG) jU (by decide)) hk) (Kd.bL hD)) (fun _ h_ => h_.1))
      replace fD := am (Kd.aM (Kd.EM (Kd.EL (aD.apart (show aD w0 _ g d4 vD from qG) AW (by decide)) hk) (Kd.bL hD)) (fun _ h_ => h_.1))
      replace HK := am (Kept.H7 (S := (fun k_ => (P1_0_ k_) ∨ k_ = g)) QQ hk (.inl (.inr rfl)))
      replace HB := am hb
      replace gJ := am hi
      clear hb hk hi hD
      obtain ⟨Pw, Rp, Rw⟩ := Kd.bN fX.1
      (first | subst Rw | (obtain ⟨f4_, f5_⟩ := sj Rw; subst f4_; subst f5_))
      refine hK.out _ _ ⟨(bF a3.1 0).trans rfl, (bF a3.1 1).trans rfl, HS2_⟩ (fun hHeld => ?_)
      clear hK K
      refine nM ?_
      refine pU1 8 ?_
      refine oN 9 (some 8) fun K hK => ?_
      refine X6 ?hg (N := 8) ?hd (cs := #[.string (⟨#[]⟩ : ByteArray), .slice none 0 0, .slice none 0 0]) (t := 56) ?hr ?_; (case hd => rfl); (case hg => rfl); (case hr => first | (go_simp; done) | (go_simp; rfl))
      intro j8 hg Tx hbox hb
      have HS2_ := (hb.cell (World.block_lt_of_cell? _ _ (hHeld.2.2))).trans (hHeld.2.2)
      replace p9 := RB AX hb
      replace gO := RB jU hb
      replace fD := RB AW hb
      replace eM := am (Kd.iI (Kd.pX FM j8 (Nat.le_of_eq hg.symm)) hb)
      replace fX := RB sP hb
      have jC := am hbox
      have RA := am (by rw [hg]; exact Ny : w.heap.size ≤ j8)
      replace HK := am (Kept.below (S := (fun k_ => (P1_0_ k_) ∨ k_ = g)) QQ hb)
      have WT := am (by rw [hg]; exact (aG xE) : w0.heap.size ≤ j8)
      replace HB := bS xE hb
      have kR := nL aQ hg
      have pF := nG aQ hg
      replace a3 := bB aQ hb
      have nZ := nL cA hg
      have pG := nG cA hg
      replace aK := bB cA hb
      have z5 := am (by rw [hg]; exact Nat.ne_of_lt (aD.lt (show aD w0 _ g d4 oS from qG)) : g ≠ j8)
      have wB := am (by rw [hg]; exact Nat.ne_of_gt (aD.lt (show aD w0 _ g d4 oS from qG)) : j8 ≠ g)
      replace gJ := am (aD.below qG hb)
      clear hb hbox hg
      refine hK.out _ _ ⟨(bF a3.1 0).trans rfl, (bF a3.1 1).trans rfl, HS2_⟩ (fun hHeld => ?_)
      clear hK K
      refine nM ?_
      exact rW xY (hCont (.slice Pw l6.length Rp, j8) _ ⟨hHeld, (by refine rR ?_; exact Kd.aM fX.1 (fun _ hk => ⟨hk.1.1.1.1, ⟨hk.2, ⟨hk.1.1.2, hk.1.2⟩⟩⟩)), (by refine rR ?_; exact Kd.aM fD.1 (fun _ hk => ⟨hk.1.1, ⟨hk.2, ⟨hk.1.2.1, hk.1.2.2⟩⟩⟩)), (by refine rN ?_; exact Kd.aU eM.1 (fun _ hk => ⟨hk.1.1.1, ⟨hk.1.2, ⟨hk.1.1.2.2.2.1, ⟨hk.1.1.2.1, ⟨hk.1.1.2.2.1, ⟨hk.1.1.2.2.2.2.2.2, ⟨hk.1.1.2.2.2.2.1, ⟨hk.1.1.2.2.2.2.2.1, hk.2⟩⟩⟩⟩⟩⟩⟩⟩)), (by refine rR ?_; exact Kd.aM p9.1 (fun _ hk => ⟨hk.1.1, ⟨hk.2, ⟨hk.1.2.2, hk.1.2.1⟩⟩⟩)), (by refine rR ?_; exact Kd.aM gO.1 (fun _ hk => ⟨hk.1.1, ⟨hk.2, ⟨hk.1.2.2, hk.1.2.1⟩⟩⟩)), aQ, cA, II, RA.out, WT.1, z5.1, wB.1, kR.1, pF.1, nZ.1, pG.1, wT, KR, GF⟩)
     ·skip
      refine X6 ?hg (N := 8) ?hd (cs := #[.string (⟨#[]⟩ : ByteArray), .slice none 0 0, .slice none 0 0]) (t := 56) ?hr ?_; (case hd => rfl); (case hg => rfl); (case hr => first | (go_simp; done) | (go_simp; rfl))
      intro j8 hg Hw hbox hb
      have HS2_ := (hb.cell (World.block_lt_of_cell? _ _ (hHeld.2.2))).trans (hHeld.2.2)
      replace p9 := RB AX hb
      replace gO := RB jU hb
      replace fD := RB AW hb
      replace eM := am (Kd.iI (Kd.pX FM j8 (Nat.le_of_eq hg.symm)) hb)
      have jC := am hbox
      have RA := am (by rw [hg]; exact Ny : w.heap.size ≤ j8)
      replace HK := am (Kept.below (S := (fun k_ => (P1_0_ k_) ∨ k_ = g)) QQ hb)
      have WT := am (by rw [hg]; exact (aG xE) : w0.heap.size ≤ j8)
      replace HB := bS xE hb
      have kR := nL aQ hg
      have pF := nG aQ hg
      replace a3 := bB aQ hb
      have nZ := nL cA hg
      have pG := nG cA hg
      replace aK := bB cA hb
      have z5 := am (by rw [hg]; exact Nat.ne_of_lt (aD.lt (show aD w0 _ g d4 vD from qG)) : g ≠ j8)
      have wB := am (by rw [hg]; exact Nat.ne_of_gt (aD.lt (show aD w0 _ g d4 vD from qG)) : j8 ≠ g)
      replace gJ := am (aD.below qG hb)
      clear hb hbox hg
      refine hK.out _ _ ⟨(bF a3.1 0).trans rfl, (bF a3.1 1).trans rfl, HS2_⟩ (fun hHeld => ?_)
      clear hK K
      refine nM ?_
      refine oN 7 (some 28) fun K hK => ?_
      refine wF Try.func109 (by kernel_rfl) rfl #[.pointer (some ⟨g, 0, none⟩), .slice vS fY.length vU, .int .i64 2] (by rfl) rfl rfl FO ?_
      with_reducible refine (gF.calls k1 g d4 vD _ _ fY 2 l6 oS w0 _ ?side1 ?side2 ?side3 ?side4 ?side5 YW.out).mono ?_
      (case side1 => exact wT)
      (case side2 => exact GF)
      (case side3 => exact pC (Kd.aT fD.1).2.2)
      (case side4 => exact (Kd.aT fD.1).2.1)
      (case side5 => exact oO (aD.own_ne gJ.out fD.1 (by decide)))
      rintro e ll ⟨rQ, rfl, hD, hi, hb, hk⟩
      have HS2_ := kC hk (hHeld.2.2) (by first | (rw [add_block]; exact Kd.p8 (aD.own_ne gJ.out p9.1 (by decide))) | (show (Addr.add _ _).block ≠ _; rw [add_block]; exact Kd.p8 (aD.own_ne gJ.out p9.1 (by decide))) | exact Kd.p8 (aD.own_ne gJ.out p9.1 (by decide)))
      refine ⟨_, rfl, ?_⟩
      replace eM := am (Kd.aU (Kd.nD (Kd.TW (Kd.aU (ok := fun k_ => ((((P1_0_ k_ ∨ w.heap.size ≤ k_)) ∧ (some k_ ≠ (.slice (some jL) eK.length lA : Value).ownBlock ∧ (some k_ ≠ (u6 : Value).ownBlock ∧ (some k_ ≠ (.slice vS fY.length vU : Value).ownBlock ∧ (k_ ≠ aJ ∧ (k_ ≠ aX ∧ k_ ≠ g)))))) ∧ k_ ≠ j8)) FM (fun k_ hk_ => (⟨hk_, hk_.1.2.2.2.2.2.2⟩ : _ ∧ k_ ≠ g))) hk) (Kd.bL hD)) (fun _ h_ => h_.1))
      replace a3 := kb aQ hk fF
      replace aK := kb cA hk hJ
      replace jC := kb II hk wB
      have fX := am (Kd.cO (Kd.eF (Kd.eF (Kd.eF (Kd.jK (M := fun k_ => (P1_0_ k_ ∨ w.heap.size ≤ k_)) hD vj (fun k_ h_ => .inr h_)) (Kd.R_lt AX)) (Kd.R_lt jU)) (Kd.R_lt AW)) (aG GF))
      replace p9 := am (Kd.aM (Kd.EM (Kd.EL (aD.apart (show aD w0 _ g d4 vD from wT) AX (by decide)) hk) (Kd.bL hD)) (fun _ h_ => h_.1))
      replace gO := am (Kd.aM (Kd.EM (Kd.EL (aD.apart (show aD w0 _ g d4 vD from wT) jU (by decide)) hk) (Kd.bL hD)) (fun _ h_ => h_.1))
      replace fD := am (Kd.aM (Kd.EM (Kd.EL (aD.apart (show aD w0 _ g d4 vD from wT) AW (by decide)) hk) (Kd.bL hD)) (fun _ h_ => h_.1))
      replace HK := am (Kept.H7 (S := (fun k_ => (P1_0_ k_) ∨ k_ = g)) KR hk (.inl (.inr rfl)))
      replace HB := am hb
      replace gJ := am hi
      clear hb hk hi hD
      obtain ⟨ma, rz, Rx⟩ := Kd.bN fX.1
      (first | subst Rx | (obtain ⟨f4_, f5_⟩ := sj Rx; subst f4_; subst f5_))
      refine hK.out _ _ ⟨(bF a3.1 0).trans rfl, (bF a3.1 1).trans rfl, HS2_⟩ (fun hHeld => ?_)
      clear hK K
      refine nM ?_
      refine pU1 8 ?_
      exact rW xY (hCont (.slice ma l6.length rz, j8) _ ⟨hHeld, (by refine rR ?_; exact Kd.aM fX.1 (fun _ hk => ⟨hk.1.1.1.1, ⟨hk.2, ⟨hk.1.1.2, hk.1.2⟩⟩⟩)), (by refine rR ?_; exact Kd.aM fD.1 (fun _ hk => ⟨hk.1.1, ⟨hk.2, ⟨hk.1.2.1, hk.1.2.2⟩⟩⟩)), (by refine rN ?_; exact Kd.aU eM.1 (fun _ hk => ⟨hk.1.1.1, ⟨hk.2, ⟨hk.1.1.2.2.2.1, ⟨hk.1.1.2.1, ⟨hk.1.1.2.2.1, ⟨hk.1.1.2.2.2.2.2.2, ⟨hk.1.1.2.2.2.2.1, ⟨hk.1.1.2.2.2.2.2.1, hk.1.2⟩⟩⟩⟩⟩⟩⟩⟩)), (by refine rR ?_; exact Kd.aM p9.1 (fun _ hk => ⟨hk.1.1, ⟨hk.2, ⟨hk.1.2.2, hk.1.2.1⟩⟩⟩)), (by refine rR ?_; exact Kd.aM gO.1 (fun _ hk => ⟨hk.1.1, ⟨hk.2, ⟨hk.1.2.2, hk.1.2.1⟩⟩⟩)), aQ, cA, II, RA.out, WT.1, z5.1, wB.1, kR.1, pF.1, nZ.1, pG.1, wT, KR, GF⟩)
    rintro ⟨rQ, j8⟩ SZ ⟨hS_, h0_, h1_, h2_, h3_, h4_, h5_, h6_, h7_, h8_, h9_, h10_, h11_, h12_, h13_, h14_, h15_, h16_, h17_, h18_⟩
    have fX : aA (Kd.R Kd.string 9 SZ w0.heap.size (fun k_ => (P1_0_ k_ ∨ w.heap.size ≤ k_) ∧ some k_ ≠ (.slice vS fY.length vU : Value).ownBlock ∧ some k_ ≠ (.slice (some jL) eK.length lA : Value).ownBlock ∧ some k_ ≠ (u6 : Value).ownBlock) rQ l6) := ⟨h0_⟩
    replace fD : aA (Kd.R Kd.string 9 SZ w0.heap.size (fun k_ => (P1_0_ k_ ∨ w.heap.size ≤ k_) ∧ some k_ ≠ (rQ : Value).ownBlock ∧ some k_ ≠ (.slice (some jL) eK.length lA : Value).ownBlock ∧ some k_ ≠ (u6 : Value).ownBlock) (.slice vS fY.length vU) fY) := ⟨h1_⟩
    replace eM : aA (Kd.N k56 56 SZ w.heap.size (fun k_ => (P1_0_ k_ ∨ w.heap.size ≤ k_) ∧ some k_ ≠ (rQ : Value).ownBlock ∧ some k_ ≠ (.slice vS fY.length vU : Value).ownBlock ∧ some k_ ≠ (.slice (some jL) eK.length lA : Value).ownBlock ∧ some k_ ≠ (u6 : Value).ownBlock ∧ k_ ≠ g ∧ k_ ≠ aJ ∧ k_ ≠ aX ∧ k_ ≠ j8) n0 pK) := ⟨h2_⟩
    replace p9 : aA (Kd.R Kd.string 9 SZ w0.heap.size (fun k_ => (P1_0_ k_ ∨ w.heap.size ≤ k_) ∧ some k_ ≠ (rQ : Value).ownBlock ∧ some k_ ≠ (.slice vS fY.length vU : Value).ownBlock ∧ some k_ ≠ (u6 : Value).ownBlock) (.slice (some jL) eK.length lA) eK) := ⟨h3_⟩
    replace gO : aA (Kd.R Kd.string 9 SZ w0.heap.size (fun k_ => (P1_0_ k_ ∨ w.heap.size ≤ k_) ∧ some k_ ≠ (rQ : Value).ownBlock ∧ some k_ ≠ (.slice vS fY.length vU : Value).ownBlock ∧ some k_ ≠ (.slice (some jL) eK.length lA : Value).ownBlock) u6 Br) := ⟨h4_⟩
    replace a3 : aA (SZ.heap[aJ]? = some (.cells #[.slice vS fY.length vU, n0] 31 (0, 0))) := ⟨h5_⟩
    replace aK : aA (SZ.heap[aX]? = some (.cells #[.slice none 0 0, .slice none 0 0] 31 (0, 0))) := ⟨h6_⟩
    have jC : aA (SZ.heap[j8]? = some (.cells #[.string (⟨#[]⟩ : ByteArray), .slice none 0 0, .slice none 0 0] 56 (0, 0))) := ⟨h7_⟩
    have RA : aA (w.heap.size ≤ j8) := ⟨h8_⟩
    have WT : aA (w0.heap.size ≤ j8) := ⟨h9_⟩
    have z5 : aA (g ≠ j8) := ⟨h10_⟩
    have wB : aA (j8 ≠ g) := ⟨h11_⟩
    have kR : aA (aJ ≠ j8) := ⟨h12_⟩
    have pF : aA (j8 ≠ aJ) := ⟨h13_⟩
    have nZ : aA (aX ≠ j8) := ⟨h14_⟩
    have pG : aA (j8 ≠ aX) := ⟨h15_⟩
    replace gJ : aA (aD w0 SZ g d4 oS) := ⟨h16_⟩
    replace HK : aA (Kept w SZ (fun k_ => (P1_0_ k_) ∨ k_ = g)) := ⟨h17_⟩
    replace HB : aA (Below w0.heap.size w0 SZ) := ⟨h18_⟩
    clear h0_ h1_ h2_ h3_ h4_ h5_ h6_ h7_ h8_ h9_ h10_ h11_ h12_ h13_ h14_ h15_ h16_ h17_ h18_
    have hHeld : SZ.cell? ⟨aJ, 0, none⟩ = some (.slice vS fY.length vU) ∧ SZ.cell? ⟨aJ, 1, none⟩ = some (n0) ∧ SZ.cell? (jL.add (kW).toNat) = some (.string (rdOf ByteArray.empty eK kW)) := hS_
    obtain ⟨IW, sQ, XJ⟩ := Kd.bN fX.1
    (first | subst XJ | (obtain ⟨f4_, f5_⟩ := sj XJ; subst f4_; subst f5_))
    refine rW (a' := ?_) ?_ ?_
    rotate_left
    ·simp only [CX, Act.put, List.setIfInBounds_toArray, List.set_cons_zero, List.set_cons_succ]
     rfl
    refine oN 10 none fun K hK => ?_
    have aNG : SZ.cell? ⟨j8, 0, none⟩ = some (.string (⟨#[]⟩ : ByteArray)) := (bF jC.1 0).trans rfl
    have aG3 := fV jC.1 0
    have a1U := kR.1
    have a1V := nZ.1
    have a0M := pF.1
    have a0N := pG.1
    have aNH : SZ.cell? ⟨j8, 1, none⟩ = some (.slice none 0 0) := (bF jC.1 1).trans rfl
    have aG4 := fV jC.1 1
    have a1W := kR.1
    have a1X := nZ.1
    have a0O := pF.1
    have a0P := pG.1
    have aNI : SZ.cell? ⟨j8, 2, none⟩ = some (.slice none 0 0) := (bF jC.1 2).trans rfl
    have aG5 := fV jC.1 2
    have a1Y := kR.1
    have a1Z := nZ.1
    have a0Q := pF.1
    have a0R := pG.1
    refine wP (w1 := ?_) (by rfl) rfl ?_ ?_
    rotate_left
    ·go_simp
     rfl
    refine hK.out _ _ ⟨((cell_far (p := ⟨j8, _, none⟩) kR.1 _).trans (((cell_far (p := ⟨j8, _, none⟩) kR.1 _).trans (((cell_far (p := ⟨j8, _, none⟩) kR.1 _).trans (hHeld.1)))))), ((cell_far (p := ⟨j8, _, none⟩) kR.1 _).trans (((cell_far (p := ⟨j8, _, none⟩) kR.1 _).trans (((cell_far (p := ⟨j8, _, none⟩) kR.1 _).trans (hHeld.2.1)))))), ((cell_far (p := ⟨j8, _, none⟩) gv _).trans (((cell_far (p := ⟨j8, _, none⟩) gv _).trans (((cell_far (p := ⟨j8, _, none⟩) gv _).trans (hHeld.2.2))))))⟩ (fun hHeld => ?_)
    clear hK K
    refine dN ?_
    try go_wp2
    go_loopg [6, 9] k1 (fun kq v6 v9 w' => ∃ (j7 : List ByteArray) (jX : Int) (CK : Int) (oP : List ByteArray) (l3 : Value), v9 = .int .i64 jX ∧ aA (dM.l1 kq eK j7 kW jX d4 CK fY pK (rdOf ByteArray.empty eK kW) oP l6 = some (r1, r2, r3)) ∧ aA (kq ≤ k1) ∧ aA (Kd.R Kd.string 9 w' w0.heap.size (fun k_ => (P1_0_ k_ ∨ w.heap.size ≤ k_) ∧ some k_ ≠ (v6 : Value).ownBlock ∧ some k_ ≠ ((.slice vS fY.length vU) : Value).ownBlock ∧ some k_ ≠ (l3 : Value).ownBlock ∧ some k_ ≠ ((.slice IW l6.length sQ) : Value).ownBlock) (.slice (some jL) eK.length lA) eK) ∧ aA (Kd.R Kd.string 9 w' w0.heap.size (fun k_ => (P1_0_ k_ ∨ w.heap.size ≤ k_) ∧ some k_ ≠ ((.slice (some jL) eK.length lA) : Value).ownBlock ∧ some k_ ≠ ((.slice vS fY.length vU) : Value).ownBlock ∧ some k_ ≠ (l3 : Value).ownBlock ∧ some k_ ≠ ((.slice IW l6.length sQ) : Value).ownBlock) v6 j7) ∧ aA (Kd.R Kd.string 9 w' w0.heap.size (fun k_ => (P1_0_ k_ ∨ w.heap.size ≤ k_) ∧ some k_ ≠ ((.slice (some jL) eK.length lA) : Value).ownBlock ∧ some k_ ≠ (v6 : Value).ownBlock ∧ some k_ ≠ (l3 : Value).ownBlock ∧ some k_ ≠ ((.slice IW l6.length sQ) : Value).ownBlock) (.slice vS fY.length vU) fY) ∧ aA (Kd.N k56 56 w' w.heap.size (fun k_ => (P1_0_ k_ ∨ w.heap.size ≤ k_) ∧ some k_ ≠ ((.slice (some jL) eK.length lA) : Value).ownBlock ∧ some k_ ≠ (v6 : Value).ownBlock ∧ some k_ ≠ ((.slice vS fY.length vU) : Value).ownBlock ∧ some k_ ≠ (l3 : Value).ownBlock ∧ some k_ ≠ ((.slice IW l6.length sQ) : Value).ownBlock ∧ k_ ≠ aJ ∧ k_ ≠ aX ∧ k_ ≠ j8 ∧ k_ ≠ g) n0 pK) ∧ aA (Kd.R Kd.string 9 w' w0.heap.size (fun k_ => (P1_0_ k_ ∨ w.heap.size ≤ k_) ∧ some k_ ≠ ((.slice (some jL) eK.length lA) : Value).ownBlock ∧ some k_ ≠ (v6 : Value).ownBlock ∧ some k_ ≠ ((.slice vS fY.length vU) : Value).ownBlock ∧ some k_ ≠ ((.slice IW l6.length sQ) : Value).ownBlock) l3 oP) ∧ aA (Kd.R Kd.string 9 w' w0.heap.size (fun k_ => (P1_0_ k_ ∨ w.heap.size ≤ k_) ∧ some k_ ≠ ((.slice (some jL) eK.length lA) : Value).ownBlock ∧ some k_ ≠ (v6 : Value).ownBlock ∧ some k_ ≠ ((.slice vS fY.length vU) : Value).ownBlock ∧ some k_ ≠ (l3 : Value).ownBlock) (.slice IW l6.length sQ) l6) ∧ aA (w'.heap[aJ]? = some (.cells #[(.slice vS fY.length vU), n0] 31 (0, 0))) ∧ aA (w'.heap[aX]? = some (.cells #[(.slice none 0 0), (.slice none 0 0)] 31 (0, 0))) ∧ aA (w'.heap[j8]? = some (.cells #[.string (rdOf ByteArray.empty eK kW), l3, (.slice IW l6.length sQ)] 56 (0, 0))) ∧ aA (aD w0 w' g d4 CK) ∧ aA (Kept w w' (fun k_ => (P1_0_ k_) ∨ k_ = g)) ∧ aA (Below w0.heap.size w0 w'))
    case atStart => exact ⟨(Br), (0), (oS), (([] : List ByteArray)), (.slice none 0 0), dH, H', ⟨Nat.le_refl _⟩, ⟨by refine rR ?_; exact Kd.aM (fR (fR (fR (tR p9 jC)))) (fun _ hk => ⟨hk.1.1, ⟨hk.1.2.2.2, ⟨hk.1.2.2.1, ⟨(by simp [Value.ownBlock]), hk.1.2.1⟩⟩⟩⟩)⟩, ⟨by refine rR ?_; exact Kd.aM (fR (fR (fR (tR gO jC)))) (fun _ hk => ⟨hk.1.1, ⟨hk.1.2.2.2, ⟨hk.1.2.2.1, ⟨(by simp [Value.ownBlock]), hk.1.2.1⟩⟩⟩⟩)⟩, ⟨by refine rR ?_; exact Kd.aM (fR (fR (fR (tR fD jC)))) (fun _ hk => ⟨hk.1.1, ⟨hk.1.2.2.1, ⟨hk.1.2.2.2, ⟨(by simp [Value.ownBlock]), hk.1.2.1⟩⟩⟩⟩)⟩, ⟨by refine rN ?_; exact Kd.aU (fN (fN (fN (Kd.aU eM.1 (fun k_ hk => (⟨hk, hk.2.2.2.2.2.2.2.2⟩ : _ ∧ k_ ≠ j8)))))) (fun _ hk => ⟨hk.1.1, ⟨hk.1.2.2.2.1, ⟨hk.1.2.2.2.2.1, ⟨hk.1.2.2.1, ⟨(by simp [Value.ownBlock]), ⟨hk.1.2.1, ⟨hk.1.2.2.2.2.2.2.1, ⟨hk.1.2.2.2.2.2.2.2.1, ⟨hk.1.2.2.2.2.2.2.2.2, hk.1.2.2.2.2.2.1⟩⟩⟩⟩⟩⟩⟩⟩⟩)⟩, ⟨by first | exact Kd.vJ _ _ _ _ _ | exact Kd.zV _ _ _ _ _ | exact Kd.zZ _ _ _ _ _ | exact Kd.zW _ _ _ _ _ | exact Kd.zY _ _ _ _ _⟩, ⟨by refine rR ?_; exact Kd.aM (fR (fR (fR (tR fX jC)))) (fun _ hk => ⟨hk.1.1, ⟨hk.1.2.2.1, ⟨hk.1.2.2.2, ⟨hk.1.2.1, (by simp [Value.ownBlock])⟩⟩⟩⟩)⟩, ⟨qF a3 kR⟩, ⟨qF aK nZ⟩, ⟨by refine rB ?_; refine eH (cs := #[.string (rdOf ByteArray.empty eK kW), .slice none 0 0, .slice none 0 0]) ?_ 2 _ rfl; refine rB ?_; refine eH (cs := #[.string (rdOf ByteArray.empty eK kW), .slice none 0 0, .slice none 0 0]) ?_ 1 _ rfl; refine rB ?_; refine eH (cs := #[.string (⟨#[]⟩ : ByteArray), .slice none 0 0, .slice none 0 0]) ?_ 0 _ rfl; refine rB ?_; exact jC.1⟩, ⟨wT⟩, ⟨KR⟩, ⟨GF⟩⟩
    case round =>
     clear H'
     try clear IC
     try clear Rk
     try clear MU
     try clear Kw
     try clear X8
     try clear wI
     try clear Ns Oa
     obtain ⟨j7, jX, CK, oP, l3, rfl, HA, HK2, p9, gO, fD, eM, iM, iB, a3, aK, jC, gJ, HK, HB⟩ := hrel
     cases gk with
     | zero => exact absurd HA.out (by simp [dM.l1])
     | succ k2 =>
      have H := HA.out
      clear HA
      simp only [dM.l1] at H
      refine ic H ?_ ?_ <;> clear H <;> intro Lc H
      ·obtain ⟨Dr, H⟩ := cN H
       obtain ⟨I0, Ca, H⟩ := bd H
       refine tC H ?_ ?_ <;> clear H <;> intro Vz H <;> subst Vz
       ·have H' := am H
        repeat clear H
        have yi := nZ3 pF kR pG nZ wB z5
        have pv := cz3 jC
        obtain ⟨r8, Lr, Fb, vh, vn⟩ := aS (am (Kd.aT iB.1).2.2) b0 jX
        cases Lr
        obtain ⟨nJ, nB, cl⟩ := Kd.bN gO.1
        subst cl
        go_wp2_with (first | ((with_reducible refine gC 80 ?_); refine cQ (some 43) Try.func80 (dK.calls k2 _ _ j7 (rdOf ByteArray.empty l6 jX) true _ (pC (Kd.aT gO.1).2.2) ((Kd.aT gO.1).2.1) Ca.out) ?_; rintro w' ⟨nd, rfl⟩))
        go_roundg k2
        case measure => have := HK1.out; have := HK2.out; omega
        case rel => exact ⟨(j7), (wrap64 (jX + 1)), (CK), (oP), (l3), dH, H', ⟨by have := HK1.out; have := HK2.out; omega⟩, ⟨rR p9.1⟩, ⟨rR gO.1⟩, ⟨rR fD.1⟩, ⟨rN eM.1⟩, ⟨rR iM.1⟩, ⟨rR iB.1⟩, ⟨rB a3.1⟩, ⟨rB aK.1⟩, ⟨rB jC.1⟩, ⟨wT⟩, ⟨KR⟩, ⟨GF⟩⟩
       ·obtain ⟨⟨uR, wQ⟩, A37, H⟩ := bd H
        dsimp only at H
        refine iq H ?_ ?_ <;> clear H <;> intro c38 aF3 aF4 H
        ·obtain ⟨nk, H⟩ := cL H
         obtain ⟨aB1, Jt⟩ := yv (j7 ++ [rdOf ByteArray.empty l6 jX]); first | replace H := bW Jt H | rw [← Jt.1] at H
         obtain ⟨nl, H⟩ := cL H
         obtain ⟨DW, G0⟩ := yv (oP ++ [rdOf ByteArray.empty l6 jX]); first | replace H := bW G0 H | rw [← G0.1] at H
         have H' := am H
         repeat clear H
         have Z41 := nZ3 pF kR pG nZ wB z5
         have Z44 := cz3 jC
         obtain ⟨r8, Lr, Fb, vh, vn⟩ := aS (am (Kd.aT iB.1).2.2) b0 jX
         cases Lr
         obtain ⟨WS, XG, a7T⟩ := Kd.bN gO.1
         subst a7T
         try go_wp2_with (first | ((with_reducible refine gC 80 ?_); refine cQ (some 43) Try.func80 (dK.calls k2 _ _ j7 (rdOf ByteArray.empty l6 jX) false _ (pC (Kd.aT gO.1).2.2) ((Kd.aT gO.1).2.1) Ca.out) ?_; rintro w' ⟨nd, rfl⟩; (try (rw [ER wr]; generalize hq_ : World.drewN wr _ = wr; have n0_ : aA (Kd.R Kd.string 9 wr w0.heap.size (fun k_ => (((P1_0_ k_ ∨ w.heap.size ≤ k_)) ∧ (some k_ ≠ (.slice (some jL) eK.length lA : Value).ownBlock ∧ (some k_ ≠ (.slice WS j7.length XG : Value).ownBlock ∧ (some k_ ≠ (l3 : Value).ownBlock ∧ some k_ ≠ (.slice (some r8) l6.length sQ : Value).ownBlock))))) (.slice vS fY.length vU) fY) := ⟨by rw [← hq_]; exact AW⟩; have n1_ : aA (Kd.N k56 56 wr w.heap.size (fun k_ => (((P1_0_ k_ ∨ w.heap.size ≤ k_)) ∧ (some k_ ≠ (.slice (some jL) eK.length lA : Value).ownBlock ∧ (some k_ ≠ (.slice WS j7.length XG : Value).ownBlock ∧ (some k_ ≠ (.slice vS fY.length vU : Value).ownBlock ∧ (some k_ ≠ (l3 : Value).ownBlock ∧ (some k_ ≠ (.slice (some r8) l6.length sQ : Value).ownBlock ∧ (k_ ≠ aJ ∧ (k_ ≠ aX ∧ (k_ ≠ j8 ∧ k_ ≠ g)))))))))) n0 pK) := ⟨by rw [← hq_]; exact FM⟩; have n2_ : aA (Kd.R Kd.string 9 wr w0.heap.size (fun k_ => (((P1_0_ k_ ∨ w.heap.size ≤ k_)) ∧ (some k_ ≠ (.slice (some jL) eK.length lA : Value).ownBlock ∧ (some k_ ≠ (.slice WS j7.length XG : Value).ownBlock ∧ (some k_ ≠ (.slice vS fY.length vU : Value).ownBlock ∧ some k_ ≠ (.slice (some r8) l6.length sQ : Value).ownBlock))))) l3 oP) := ⟨by rw [← hq_]; exact (rR iM.1)⟩; have n3_ : aA (Kd.R Kd.string 9 wr w0.heap.size (fun k_ => (((P1_0_ k_ ∨ w.heap.size ≤ k_)) ∧ (some k_ ≠ (.slice (some jL) eK.length lA : Value).ownBlock ∧ (some k_ ≠ (.slice WS j7.length XG : Value).ownBlock ∧ (some k_ ≠ (.slice vS fY.length vU : Value).ownBlock ∧ some k_ ≠ (l3 : Value).ownBlock))))) (.slice (some r8) l6.length sQ) l6) := ⟨by rw [← hq_]; exact (rR iB.1)⟩; have n4_ : aA (Kd.R Kd.string 9 wr w0.heap.size (fun k_ => (((P1_0_ k_ ∨ w.heap.size ≤ k_)) ∧ (some k_ ≠ (.slice WS j7.length XG : Value).ownBlock ∧ (some k_ ≠ (.slice vS fY.length vU : Value).ownBlock ∧ (some k_ ≠ (l3 : Value).ownBlock ∧ some k_ ≠ (.slice (some r8) l6.length sQ : Value).ownBlock))))) (.slice (some jL) eK.length lA) eK) := ⟨by rw [← hq_]; exact AX⟩; have n5_ : aA (Kd.R Kd.string 9 wr w0.heap.size (fun k_ => (((P1_0_ k_ ∨ w.heap.size ≤ k_)) ∧ (some k_ ≠ (.slice (some jL) eK.length lA : Value).ownBlock ∧ (some k_ ≠ (.slice vS fY.length vU : Value).ownBlock ∧ (some k_ ≠ (l3 : Value).ownBlock ∧ some k_ ≠ (.slice (some r8) l6.length sQ : Value).ownBlock))))) (.slice WS j7.length XG) j7) := ⟨by rw [← hq_]; exact jU⟩; have n6_ : aA (wr.heap[aJ]? = some (.cells #[.slice vS fY.length vU, n0] 31 (0, 0))) := ⟨by rw [← hq_]; exact aQ⟩; have n7_ : aA (wr.heap[aX]? = some (.cells #[.slice none 0 0, .slice none 0 0] 31 (0, 0))) := ⟨by rw [← hq_]; exact cA⟩; have n8_ : aA (wr.heap[j8]? = some (.cells #[.string (rdOf ByteArray.empty eK kW), l3, .slice (some r8) l6.length sQ] 56 (0, 0))) := ⟨by rw [← hq_]; exact II⟩; have n9_ : aA (aD w0 wr g d4 CK) := ⟨by rw [← hq_]; exact wT⟩; have n10_ : aA (Kept w wr (fun k_ => (P1_0_ k_) ∨ k_ = g)) := ⟨by rw [← hq_]; exact KR⟩; have n11_ : aA (Below w0.heap.size w0 wr) := ⟨by rw [← hq_]; exact GF⟩; clear fD eM iM iB p9 gO a3 aK jC gJ HK HB hq_; have fD := n0_; have eM := n1_; have iM := n2_; have iB := n3_; have p9 := n4_; have gO := n5_; have a3 := n6_; have aK := n7_; have jC := n8_; have gJ := n9_; have HK := n10_; have HB := n11_; clear n0_ n1_ n2_ n3_ n4_ n5_ n6_ n7_ n8_ n9_ n10_ n11_))) | (go_at_call 100; refine cM (bE.calls k2 g d4 CK 2 uR wQ w0 _ (wT) (GF) A37.out) ?_; rintro QF ⟨hi, hb, hk⟩; replace p9 := iR wT AX hk; replace gO := iR wT jU hk; replace fD := iR wT AW hk; replace eM := am (Kd.aU (Kd.y9 (Kd.aU (ok := fun k_ => (((P1_0_ k_ ∨ w.heap.size ≤ k_)) ∧ (some k_ ≠ (.slice (some jL) eK.length lA : Value).ownBlock ∧ (some k_ ≠ (.slice WS j7.length XG : Value).ownBlock ∧ (some k_ ≠ (.slice vS fY.length vU : Value).ownBlock ∧ (some k_ ≠ (l3 : Value).ownBlock ∧ (some k_ ≠ (.slice (some r8) l6.length sQ : Value).ownBlock ∧ (k_ ≠ aJ ∧ (k_ ≠ aX ∧ (k_ ≠ j8 ∧ k_ ≠ g)))))))))) FM (fun k_ hk_ => (⟨hk_, hk_.2.2.2.2.2.2.2.2.2⟩ : _ ∧ k_ ≠ g))) hk (fun _ h => h.2)) (fun _ h => h.1)); replace iM := iR wT (rR iM.1) hk; replace iB := iR wT (rR iB.1) hk; replace a3 := kb aQ hk fF; replace aK := kb cA hk hJ; replace jC := kb II hk wB; replace HK := am (Kept.H7 (S := (fun k_ => (P1_0_ k_) ∨ k_ = g)) KR hk (.inl (.inr rfl))); replace HB := am hb; replace gJ := am hi; clear hb hk hi; have Z47 := cz3 jC; obtain ⟨ql, a7L, a2Y, aNW, aO1⟩ := aS (am (Kd.aT iB.1).2.2) b0 jX; obtain rfl : r8 = ql := (by injection a7L)) | ((with_reducible refine pY (b := .append) (xs := #[.tmp 50, .tmp 56]) rfl ?_); at_builtin; refine Kd.zX Kd.string (w0 := w0) w0.heap.size rfl (.tmp 50) (.tmp 56) 23 9 (.string ⟨#[]⟩) 16 rfl Try.underlying23 jT rfl (by decide) (by omega) (.slice WS j7.length XG) j7 (rdOf ByteArray.empty l6 jX) [.string (rdOf ByteArray.empty l6 jX)] (fun k_ => (P1_0_ k_ ∨ w.heap.size ≤ k_) ∧ some k_ ≠ (.slice (some jL) eK.length lA : Value).ownBlock ∧ some k_ ≠ (.slice vS fY.length vU : Value).ownBlock ∧ some k_ ≠ (l3 : Value).ownBlock ∧ some k_ ≠ (.slice (some r8) l6.length sQ : Value).ownBlock) (fun _ => False) rfl rfl ?aP (fun _ hk => hk.elim) ?aF ?aO ?aB ?aS ?aL ?_; (case aP => exact rfl); (case aB => exact GF); (case aF => exact (fun k_ hk => ⟨(.inr (Nat.le_trans vj hk)), Kd.fresh' (Kd.R_lt AX) k_ hk, Kd.fresh' (Kd.R_lt AW) k_ hk, Kd.fresh' (Kd.R_lt (rR iM.1)) k_ hk, Kd.fresh' (Kd.R_lt (rR iB.1)) k_ hk⟩)); (case aO => exact jU); (case aS => exact (aG GF)); (case aL => have := nk.out; omega); intro Bo w48 ho hb hg hat; rw [← Jt.out] at ho; replace p9 := am (Kd.gW (ok := (fun k_ => (P1_0_ k_ ∨ w.heap.size ≤ k_) ∧ some k_ ≠ (.slice vS fY.length vU : Value).ownBlock ∧ some k_ ≠ (l3 : Value).ownBlock ∧ some k_ ≠ (.slice (some r8) l6.length sQ : Value).ownBlock)) (by refine rR ?_; exact Kd.aM p9.1 (fun _ hk => ⟨⟨hk.1, ⟨hk.2.2.1, ⟨hk.2.2.2.1, hk.2.2.2.2⟩⟩⟩, hk.2.1⟩)) hg hat); replace fD := am (Kd.gW (ok := (fun k_ => (P1_0_ k_ ∨ w.heap.size ≤ k_) ∧ some k_ ≠ (.slice (some jL) eK.length lA : Value).ownBlock ∧ some k_ ≠ (l3 : Value).ownBlock ∧ some k_ ≠ (.slice (some r8) l6.length sQ : Value).ownBlock)) (by refine rR ?_; exact Kd.aM fD.1 (fun _ hk => ⟨⟨hk.1, ⟨hk.2.1, ⟨hk.2.2.2.1, hk.2.2.2.2⟩⟩⟩, hk.2.2.1⟩)) hg hat); replace eM := am (Kd.nT (ok := (fun k_ => (P1_0_ k_ ∨ w.heap.size ≤ k_) ∧ some k_ ≠ (.slice (some jL) eK.length lA : Value).ownBlock ∧ some k_ ≠ (.slice vS fY.length vU : Value).ownBlock ∧ some k_ ≠ (l3 : Value).ownBlock ∧ some k_ ≠ (.slice (some r8) l6.length sQ : Value).ownBlock ∧ k_ ≠ aJ ∧ k_ ≠ aX ∧ k_ ≠ j8 ∧ k_ ≠ g)) (by refine rN ?_; exact Kd.aU eM.1 (fun _ hk => ⟨⟨hk.1, ⟨hk.2.1, ⟨hk.2.2.2.1, ⟨hk.2.2.2.2.1, ⟨hk.2.2.2.2.2.1, ⟨hk.2.2.2.2.2.2.1, ⟨hk.2.2.2.2.2.2.2.1, ⟨hk.2.2.2.2.2.2.2.2.1, hk.2.2.2.2.2.2.2.2.2⟩⟩⟩⟩⟩⟩⟩⟩, hk.2.2.1⟩)) hg hat); replace iM := am (Kd.gW (ok := (fun k_ => (P1_0_ k_ ∨ w.heap.size ≤ k_) ∧ some k_ ≠ (.slice (some jL) eK.length lA : Value).ownBlock ∧ some k_ ≠ (.slice vS fY.length vU : Value).ownBlock ∧ some k_ ≠ (.slice (some r8) l6.length sQ : Value).ownBlock)) (by refine rR ?_; exact Kd.aM iM.1 (fun _ hk => ⟨⟨hk.1, ⟨hk.2.1, ⟨hk.2.2.2.1, hk.2.2.2.2⟩⟩⟩, hk.2.2.1⟩)) hg hat); replace iB := am (Kd.gW (ok := (fun k_ => (P1_0_ k_ ∨ w.heap.size ≤ k_) ∧ some k_ ≠ (.slice (some jL) eK.length lA : Value).ownBlock ∧ some k_ ≠ (.slice vS fY.length vU : Value).ownBlock ∧ some k_ ≠ (l3 : Value).ownBlock)) (by refine rR ?_; exact Kd.aM iB.1 (fun _ hk => ⟨⟨hk.1, ⟨hk.2.1, ⟨hk.2.2.2.1, hk.2.2.2.2⟩⟩⟩, hk.2.2.1⟩)) hg hat); replace a3 := gkR aQ hg gO a3; replace aK := gkR cA hg gO aK; replace jC := gkR II hg gO jC; replace gJ := am (aD.grown wT hg (aD.own_ne gJ.out gO.1 (by decide))); replace HB := am hb; replace HK := am (Kept.qW (S := (fun k_ => (P1_0_ k_) ∨ k_ = g)) hg KR (fun k_ e_ => Or.imp_left Or.inl ((gO.1.1 k_ e_).1))); have vX := am ho; clear gO; clear ho hb hg hat))
         replace p9 := RD p9
         replace fD := RD fD
         replace eM := ND eM
         replace iM := RD iM
         replace iB := RD iB
         replace vX := RD vX
         replace a3 := BD a3
         replace aK := BD aK
         replace jC := BD jC
         replace gJ := am (aD.drew gJ.out)
         replace HK := am (Kept.drew HK.out)
         replace HB := am (aV HB.1)
         obtain ⟨qm, a7M, Fc, aNX, aO2⟩ := aS (am (Kd.aT iB.1).2.2) b0 jX
         obtain rfl : r8 = qm := (by injection a7M)
         refine sT (S := fun w' => w'.cell? ⟨j8, 0, none⟩ = some (.string (rdOf ByteArray.empty eK kW)) ∧ w'.cell? ⟨j8, 1, none⟩ = some (l3) ∧ w'.cell? ⟨j8, 2, none⟩ = some (.slice (some r8) l6.length sQ) ∧ w'.cell? (r8.add (jX).toNat) = some (.string (rdOf ByteArray.empty l6 jX))) [8, 10] 11 ⟨⟨(bF jC.1 0).trans rfl, (bF jC.1 1).trans rfl, (bF jC.1 2).trans rfl, Fc⟩⟩ (fun hHeld => ?_)
         refine dZ dM.SY dM.LV (fun HT_ HW_ => ?_)
         generalize w48.drew = w49 at p9 fD eM iM iB vX a3 aK jC gJ HK HB Fc hHeld ⊢
         refine pU3 0 2 4 ?_
         refine tK4 1 (some 59) ?_
         refine tK4 3 (some 61) ?_
         refine pU1 5 ?_
         refine tK4 6 (some 64) ?_
         refine oN 7 (some 65) fun K hK => ?_
         refine yJ (w1 := ?_) (v := ?_) (by rfl) rfl ?_ ?_
         rotate_left 2
         ·go_simp
          constructor
          ·rfl
          ·rfl
         refine hK.out _ _ ⟨(bF (dE jC.1 _) 0).trans rfl, (bF (dE jC.1 _) 1).trans rfl, (bF (dE jC.1 _) 2).trans rfl, (World.cell?_alloc_lt _ _ _ (World.block_lt_of_cell? _ _ (hHeld.2.2.2))).trans (hHeld.2.2.2)⟩ (fun hHeld => ?_)
         clear hK K
         refine nM ?_
         refine lN 8 (some 66) fun K hK => ?_
         refine Kd.oI Kd.string (w0 := w0) w0.heap.size (by rfl) (.tmp 59) (.tmp 65) 23 9 (.string ⟨#[]⟩) 16 rfl Try.underlying23 jT rfl (by decide) (by omega) l3 oP (rdOf ByteArray.empty l6 jX) [.string (rdOf ByteArray.empty l6 jX)] (fun k_ => (P1_0_ k_ ∨ w.heap.size ≤ k_) ∧ some k_ ≠ (.slice (some jL) eK.length lA : Value).ownBlock ∧ some k_ ≠ (.slice vS fY.length vU : Value).ownBlock ∧ some k_ ≠ (.slice (some r8) l6.length sQ : Value).ownBlock ∧ some k_ ≠ (Bo : Value).ownBlock) (fun _ => False) rfl rfl ?aP (fun _ hk => hk.elim) ?aF ?aO ?aB ?aS ?aL ?_
         (case aP => exact rfl)
         (case aB => exact GF)
         (case aF => exact (fun k_ hk => ⟨(.inr (Nat.le_trans vj hk)), Kd.fresh' (Kd.R_lt AX) k_ hk, Kd.fresh' (Kd.R_lt AW) k_ hk, Kd.fresh' (Kd.R_lt (rR iB.1)) k_ hk, Kd.fresh' (Kd.R_lt (rR vX.1)) k_ hk⟩))
         (case aO => exact (by refine rR ?_; exact Kd.aM iM.1 (fun _ hk => ⟨hk.1.1, ⟨hk.1.2.1, ⟨hk.1.2.2.1, ⟨hk.1.2.2.2, hk.2⟩⟩⟩⟩)))
         (case aS => exact (aG GF))
         (case aL => have := nl.out; omega)
         intro Tv w50 ho hb hg hat
         rw [← G0.out] at ho
         replace p9 := am (Kd.gW (ok := (fun k_ => (P1_0_ k_ ∨ w.heap.size ≤ k_) ∧ some k_ ≠ (.slice vS fY.length vU : Value).ownBlock ∧ some k_ ≠ (.slice (some r8) l6.length sQ : Value).ownBlock ∧ some k_ ≠ (Bo : Value).ownBlock)) (by refine rR ?_; exact Kd.aM p9.1 (fun _ hk => ⟨⟨hk.1.1, ⟨hk.1.2.1, ⟨hk.1.2.2.2, hk.2⟩⟩⟩, hk.1.2.2.1⟩)) hg hat)
         replace fD := am (Kd.gW (ok := (fun k_ => (P1_0_ k_ ∨ w.heap.size ≤ k_) ∧ some k_ ≠ (.slice (some jL) eK.length lA : Value).ownBlock ∧ some k_ ≠ (.slice (some r8) l6.length sQ : Value).ownBlock ∧ some k_ ≠ (Bo : Value).ownBlock)) (by refine rR ?_; exact Kd.aM fD.1 (fun _ hk => ⟨⟨hk.1.1, ⟨hk.1.2.1, ⟨hk.1.2.2.2, hk.2⟩⟩⟩, hk.1.2.2.1⟩)) hg hat)
         replace eM := am (Kd.nT (ok := (fun k_ => (P1_0_ k_ ∨ w.heap.size ≤ k_) ∧ some k_ ≠ (.slice (some jL) eK.length lA : Value).ownBlock ∧ some k_ ≠ (.slice vS fY.length vU : Value).ownBlock ∧ some k_ ≠ (.slice (some r8) l6.length sQ : Value).ownBlock ∧ some k_ ≠ (Bo : Value).ownBlock ∧ k_ ≠ aJ ∧ k_ ≠ aX ∧ k_ ≠ j8 ∧ k_ ≠ g)) (by refine rN ?_; exact Kd.aU eM.1 (fun _ hk => ⟨⟨hk.1.1, ⟨hk.1.2.1, ⟨hk.1.2.2.1, ⟨hk.1.2.2.2.2.1, ⟨hk.2, ⟨hk.1.2.2.2.2.2.1, ⟨hk.1.2.2.2.2.2.2.1, ⟨hk.1.2.2.2.2.2.2.2.1, hk.1.2.2.2.2.2.2.2.2⟩⟩⟩⟩⟩⟩⟩⟩, hk.1.2.2.2.1⟩)) hg hat)
         replace iB := am (Kd.gW (ok := (fun k_ => (P1_0_ k_ ∨ w.heap.size ≤ k_) ∧ some k_ ≠ (.slice (some jL) eK.length lA : Value).ownBlock ∧ some k_ ≠ (.slice vS fY.length vU : Value).ownBlock ∧ some k_ ≠ (Bo : Value).ownBlock)) (by refine rR ?_; exact Kd.aM iB.1 (fun _ hk => ⟨⟨hk.1.1, ⟨hk.1.2.1, ⟨hk.1.2.2.1, hk.2⟩⟩⟩, hk.1.2.2.2⟩)) hg hat)
         replace a3 := gkR aQ hg iM a3
         replace aK := gkR cA hg iM aK
         replace jC := gkR II hg iM jC
         replace gJ := am (aD.grown wT hg (aD.own_ne gJ.out iM.1 (by decide)))
         replace vX := am (Kd.gW (ok := (fun k_ => (P1_0_ k_ ∨ w.heap.size ≤ k_) ∧ some k_ ≠ (.slice (some jL) eK.length lA : Value).ownBlock ∧ some k_ ≠ (.slice vS fY.length vU : Value).ownBlock ∧ some k_ ≠ (.slice (some r8) l6.length sQ : Value).ownBlock)) (by refine rR ?_; exact Kd.aM vX.1 (fun _ hk => ⟨⟨hk.1, ⟨hk.2.1, ⟨hk.2.2.1, hk.2.2.2.2⟩⟩⟩, hk.2.2.2.1⟩)) hg hat)
         replace HB := am hb
         replace HK := am (Kept.qW (S := (fun k_ => (P1_0_ k_) ∨ k_ = g)) hg KR (fun k_ e_ => Or.imp_left Or.inl ((iM.1.1 k_ e_).1.1)))
         have mQ := am ho
         clear iM
         clear ho hb hg hat
         obtain ⟨mg, sc, Rz⟩ := Kd.bN mQ.1
         (first | subst Rz | (obtain ⟨f4_, f5_⟩ := sj Rz; subst f4_; subst f5_))
         refine hK.out _ _ ?_
         clear hK K
         refine nM ?_
         refine pU1 9 ?_
         refine lN 10 none fun K hK => ?_
         have aNO : w50.cell? ⟨j8, 1, none⟩ = some (l3) := (bF jC.1 1).trans rfl
         have aGB := fV jC.1 1
         have a2I := kR.1
         have a2J := nZ.1
         have a10 := pF.1
         have a11 := pG.1
         refine wP (w1 := ?_) (by rfl) rfl ?_ ?_
         rotate_left
         ·go_simp
          rfl
         refine hK.out _ _ ?_
         clear hK K
         refine dN ?_
         try go_wp2
         go_roundg k2
         case measure => have := HK1.out; have := HK2.out; omega
         case rel => exact ⟨(aB1), (wrap64 (jX + 1)), (wQ), (DW), (.slice mg DW.length sc), dH, H', ⟨by have := HK1.out; have := HK2.out; omega⟩, ⟨by refine rR ?_; exact Kd.aM (fR (tR p9 jC)) (fun _ hk => ⟨hk.1.1.1, ⟨hk.1.1.2.2.2, ⟨hk.1.1.2.1, ⟨hk.1.2, hk.1.1.2.2.1⟩⟩⟩⟩)⟩, ⟨by refine rR ?_; exact Kd.aM (fR (tR vX jC)) (fun _ hk => ⟨hk.1.1.1, ⟨hk.1.1.2.1, ⟨hk.1.1.2.2.1, ⟨hk.1.2, hk.1.1.2.2.2⟩⟩⟩⟩)⟩, ⟨by refine rR ?_; exact Kd.aM (fR (tR fD jC)) (fun _ hk => ⟨hk.1.1.1, ⟨hk.1.1.2.1, ⟨hk.1.1.2.2.2, ⟨hk.1.2, hk.1.1.2.2.1⟩⟩⟩⟩)⟩, ⟨by refine rN ?_; exact Kd.aU (fN (Kd.aU eM.1 (fun k_ hk => (⟨hk, hk.1.2.2.2.2.2.2.2.1⟩ : _ ∧ k_ ≠ j8)))) (fun _ hk => ⟨hk.1.1.1, ⟨hk.1.1.2.1, ⟨hk.1.1.2.2.2.2.1, ⟨hk.1.1.2.2.1, ⟨hk.1.2, ⟨hk.1.1.2.2.2.1, ⟨hk.1.1.2.2.2.2.2.1, ⟨hk.1.1.2.2.2.2.2.2.1, ⟨hk.1.1.2.2.2.2.2.2.2.1, hk.1.1.2.2.2.2.2.2.2.2⟩⟩⟩⟩⟩⟩⟩⟩⟩)⟩, ⟨by refine rR ?_; exact Kd.aM (fR (tR mQ jC)) (fun _ hk => ⟨hk.1.1, ⟨hk.1.2.1, ⟨hk.1.2.2.2.2, ⟨hk.1.2.2.1, hk.1.2.2.2.1⟩⟩⟩⟩)⟩, ⟨by refine rR ?_; exact Kd.aM (fR (tR iB jC)) (fun _ hk => ⟨hk.1.1.1, ⟨hk.1.1.2.1, ⟨hk.1.1.2.2.2, ⟨hk.1.1.2.2.1, hk.1.2⟩⟩⟩⟩)⟩, ⟨qF a3 kR⟩, ⟨qF aK nZ⟩, ⟨by refine rB ?_; refine eH (cs := #[.string (rdOf ByteArray.empty eK kW), l3, .slice (some r8) l6.length sQ]) ?_ 1 _ rfl; refine rB ?_; exact jC.1⟩, ⟨wT⟩, ⟨KR⟩, ⟨GF⟩⟩
        ·have H' := am H
         repeat clear H
         have Z53 := nZ3 pF kR pG nZ wB z5
         have Z56 := cz3 jC
         obtain ⟨r8, Lr, Fb, vh, vn⟩ := aS (am (Kd.aT iB.1).2.2) b0 jX
         cases Lr
         obtain ⟨a4N, a6T, a7Y⟩ := Kd.bN gO.1
         subst a7Y
         go_wp2_with (first | ((with_reducible refine gC 80 ?_); refine cQ (some 43) Try.func80 (dK.calls k2 _ _ j7 (rdOf ByteArray.empty l6 jX) false _ (pC (Kd.aT gO.1).2.2) ((Kd.aT gO.1).2.1) Ca.out) ?_; rintro w' ⟨nd, rfl⟩) | (go_at_call 100; refine cM (bE.calls k2 g d4 CK 2 uR wQ w0 _ (wT) (GF) A37.out) ?_; rintro w58 ⟨hi, hb, hk⟩; replace p9 := iR wT AX hk; replace gO := iR wT jU hk; replace fD := iR wT AW hk; replace eM := am (Kd.aU (Kd.y9 (Kd.aU (ok := fun k_ => (((P1_0_ k_ ∨ w.heap.size ≤ k_)) ∧ (some k_ ≠ (.slice (some jL) eK.length lA : Value).ownBlock ∧ (some k_ ≠ (.slice a4N j7.length a6T : Value).ownBlock ∧ (some k_ ≠ (.slice vS fY.length vU : Value).ownBlock ∧ (some k_ ≠ (l3 : Value).ownBlock ∧ (some k_ ≠ (.slice (some r8) l6.length sQ : Value).ownBlock ∧ (k_ ≠ aJ ∧ (k_ ≠ aX ∧ (k_ ≠ j8 ∧ k_ ≠ g)))))))))) FM (fun k_ hk_ => (⟨hk_, hk_.2.2.2.2.2.2.2.2.2⟩ : _ ∧ k_ ≠ g))) hk (fun _ h => h.2)) (fun _ h => h.1)); replace iM := iR wT (rR iM.1) hk; replace iB := iR wT (rR iB.1) hk; replace a3 := kb aQ hk fF; replace aK := kb cA hk hJ; replace jC := kb II hk wB; replace HK := am (Kept.H7 (S := (fun k_ => (P1_0_ k_) ∨ k_ = g)) KR hk (.inl (.inr rfl))); replace HB := am hb; replace gJ := am hi; clear hb hk hi))
         go_roundg k2
         case measure => have := HK1.out; have := HK2.out; omega
         case rel => exact ⟨(j7), (wrap64 (jX + 1)), (wQ), (oP), (l3), dH, H', ⟨by have := HK1.out; have := HK2.out; omega⟩, ⟨rR p9.1⟩, ⟨rR gO.1⟩, ⟨rR fD.1⟩, ⟨rN eM.1⟩, ⟨rR iM.1⟩, ⟨rR iB.1⟩, ⟨rB a3.1⟩, ⟨rB aK.1⟩, ⟨rB jC.1⟩, ⟨wT⟩, ⟨KR⟩, ⟨GF⟩⟩
      ·obtain ⟨np, H⟩ := cL H
       obtain ⟨YJ, FZ⟩ := yv (pK ++ [(⟨(rdOf ByteArray.empty eK kW), oP, l6⟩ : S56)]); first | replace H := bW FZ H | rw [← FZ.1] at H
       have H' := am H
       repeat clear H
       have Z60 := nZ3 pF kR pG nZ wB z5
       have Z63 := cz3 jC
       have Z64 := nZ2 dP dQ fF l7
       have Z66 := cz2 a3
       obtain ⟨Yl, bv, dm⟩ := Kd.bN iM.1
       subst dm
       go_wp2_with (first | ((with_reducible refine pY (b := .append) (xs := #[.tmp 69, .tmp 71]) rfl ?_); at_builtin; refine Kd.Jl k56 w.heap.size rfl (.tmp 69) (.tmp 71) 29 56 Ag0 64 rfl Try.underlying29 rP rfl (by decide) (by omega) n0 pK (⟨(rdOf ByteArray.empty eK kW), oP, l6⟩ : S56) [.string (rdOf ByteArray.empty eK kW), .slice Yl oP.length bv, .slice IW l6.length sQ] (fun k_ => (P1_0_ k_ ∨ w.heap.size ≤ k_) ∧ some k_ ≠ (.slice (some jL) eK.length lA : Value).ownBlock ∧ some k_ ≠ (u6 : Value).ownBlock ∧ some k_ ≠ (.slice vS fY.length vU : Value).ownBlock ∧ k_ ≠ aJ ∧ k_ ≠ aX ∧ k_ ≠ j8 ∧ k_ ≠ g) (fun k_ => ((fun k_ => (P1_0_ k_ ∨ w.heap.size ≤ k_) ∧ some k_ ≠ (.slice (some jL) eK.length lA : Value).ownBlock ∧ some k_ ≠ (u6 : Value).ownBlock ∧ some k_ ≠ (.slice vS fY.length vU : Value).ownBlock ∧ k_ ≠ aJ ∧ k_ ≠ aX ∧ k_ ≠ j8 ∧ k_ ≠ g)) k_ ∧ some k_ ≠ (n0 : Value).ownBlock) rfl rfl ?aP (fun _ hk => hk) ?aF ?aO (Below.refl _ _) ?aS ?aL ?_; (case aP => exact (KL _ _ (⟨(rdOf ByteArray.empty eK kW), oP, l6⟩ : S56) (Kd.aT (Kd.aM (ok' := (fun k_ => ((fun k_ => (P1_0_ k_ ∨ w.heap.size ≤ k_) ∧ some k_ ≠ (.slice (some jL) eK.length lA : Value).ownBlock ∧ some k_ ≠ (u6 : Value).ownBlock ∧ some k_ ≠ (.slice vS fY.length vU : Value).ownBlock ∧ k_ ≠ aJ ∧ k_ ≠ aX ∧ k_ ≠ j8 ∧ k_ ≠ g)) k_ ∧ some k_ ≠ (n0 : Value).ownBlock)) (aD.apart gJ.out (Kd.fK (Kd.fK (Kd.fK (Kd.nA (iM.1) (Kd.iV eM.1) (by decide)) a3.1 (by decide)) aK.1 (by decide)) jC.1 (by decide)) (by decide)) (fun k_ hk => ⟨⟨hk.1.1.1.1.1.1, ⟨hk.1.1.1.1.1.2.1, ⟨hk.1.1.1.1.1.2.2.1, ⟨hk.1.1.1.1.1.2.2.2.1, ⟨hk.1.1.1.2, ⟨hk.1.1.2, ⟨hk.1.2, hk.2⟩⟩⟩⟩⟩⟩⟩, hk.1.1.1.1.2⟩))).2.1 (Kd.R_F (Kd.aM (ok' := (fun k_ => ((fun k_ => (P1_0_ k_ ∨ w.heap.size ≤ k_) ∧ some k_ ≠ (.slice (some jL) eK.length lA : Value).ownBlock ∧ some k_ ≠ (u6 : Value).ownBlock ∧ some k_ ≠ (.slice vS fY.length vU : Value).ownBlock ∧ k_ ≠ aJ ∧ k_ ≠ aX ∧ k_ ≠ j8 ∧ k_ ≠ g)) k_ ∧ some k_ ≠ (n0 : Value).ownBlock)) (aD.apart gJ.out (Kd.fK (Kd.fK (Kd.fK (Kd.nA (iM.1) (Kd.iV eM.1) (by decide)) a3.1 (by decide)) aK.1 (by decide)) jC.1 (by decide)) (by decide)) (fun k_ hk => ⟨⟨hk.1.1.1.1.1.1, ⟨hk.1.1.1.1.1.2.1, ⟨hk.1.1.1.1.1.2.2.1, ⟨hk.1.1.1.1.1.2.2.2.1, ⟨hk.1.1.1.2, ⟨hk.1.1.2, ⟨hk.1.2, hk.2⟩⟩⟩⟩⟩⟩⟩, hk.1.1.1.1.2⟩))) (Kd.aT (Kd.aM (ok' := (fun k_ => ((fun k_ => (P1_0_ k_ ∨ w.heap.size ≤ k_) ∧ some k_ ≠ (.slice (some jL) eK.length lA : Value).ownBlock ∧ some k_ ≠ (u6 : Value).ownBlock ∧ some k_ ≠ (.slice vS fY.length vU : Value).ownBlock ∧ k_ ≠ aJ ∧ k_ ≠ aX ∧ k_ ≠ j8 ∧ k_ ≠ g)) k_ ∧ some k_ ≠ (n0 : Value).ownBlock)) (aD.apart gJ.out (Kd.fK (Kd.fK (Kd.fK (Kd.nA (iB.1) (Kd.iV eM.1) (by decide)) a3.1 (by decide)) aK.1 (by decide)) jC.1 (by decide)) (by decide)) (fun k_ hk => ⟨⟨hk.1.1.1.1.1.1, ⟨hk.1.1.1.1.1.2.1, ⟨hk.1.1.1.1.1.2.2.1, ⟨hk.1.1.1.1.1.2.2.2.1, ⟨hk.1.1.1.2, ⟨hk.1.1.2, ⟨hk.1.2, hk.2⟩⟩⟩⟩⟩⟩⟩, hk.1.1.1.1.2⟩))).2.1 (Kd.R_F (Kd.aM (ok' := (fun k_ => ((fun k_ => (P1_0_ k_ ∨ w.heap.size ≤ k_) ∧ some k_ ≠ (.slice (some jL) eK.length lA : Value).ownBlock ∧ some k_ ≠ (u6 : Value).ownBlock ∧ some k_ ≠ (.slice vS fY.length vU : Value).ownBlock ∧ k_ ≠ aJ ∧ k_ ≠ aX ∧ k_ ≠ j8 ∧ k_ ≠ g)) k_ ∧ some k_ ≠ (n0 : Value).ownBlock)) (aD.apart gJ.out (Kd.fK (Kd.fK (Kd.fK (Kd.nA (iB.1) (Kd.iV eM.1) (by decide)) a3.1 (by decide)) aK.1 (by decide)) jC.1 (by decide)) (by decide)) (fun k_ hk => ⟨⟨hk.1.1.1.1.1.1, ⟨hk.1.1.1.1.1.2.1, ⟨hk.1.1.1.1.1.2.2.1, ⟨hk.1.1.1.1.1.2.2.2.1, ⟨hk.1.1.1.2, ⟨hk.1.1.2, ⟨hk.1.2, hk.2⟩⟩⟩⟩⟩⟩⟩, hk.1.1.1.1.2⟩))))); (case aF => exact (fun k_ hk => ⟨(.inr (Nat.le_trans vj hk)), Kd.fresh' (Kd.R_lt AX) k_ hk, Kd.fresh' (Kd.R_lt jU) k_ hk, Kd.fresh' (Kd.R_lt AW) k_ hk, fB aQ k_ hk, fB cA k_ hk, fB II k_ hk, aD.fresh wT k_ hk⟩)); (case aO => exact (by refine rN ?_; exact Kd.aU eM.1 (fun _ hk => ⟨hk.1, ⟨hk.2.1, ⟨hk.2.2.1, ⟨hk.2.2.2.1, ⟨hk.2.2.2.2.2.2.1, ⟨hk.2.2.2.2.2.2.2.1, ⟨hk.2.2.2.2.2.2.2.2.1, hk.2.2.2.2.2.2.2.2.2⟩⟩⟩⟩⟩⟩⟩))); (case aS => exact vj); (case aL => have := np.out; omega); intro wj w67 ho hb hg hat; rw [← FZ.out] at ho; replace p9 := am (Kd.rH AX (Kd.iV FM) (by decide) hg); replace gO := am (Kd.rH jU (Kd.iV FM) (by decide) hg); replace fD := am (Kd.rH AW (Kd.iV FM) (by decide) hg); replace a3 := gkN aQ hg eM a3; replace aK := gkN cA hg eM aK; replace jC := am (vM (g := j8) (o := .cells #[.string (rdOf ByteArray.empty eK kW), .slice Yl oP.length bv, .slice IW l6.length sQ] 56 (0, 0)) II hg (Kd.FW eM.1 (fun _ hk => hk.2.2.2.2.2.2.2.2.1))); replace HB := am (oF GF HW0.out hb); replace gJ := am (aD.grown wT hg (aD.Fh gJ.out eM.1 (by decide))); replace HK := am (Kept.qW (S := (fun k_ => (P1_0_ k_) ∨ k_ = g)) hg KR (fun k_ e_ => Or.imp_left Or.inl (.inr (Kd.uZ eM.1 k_ e_)))); have yM := am ho; clear eM; clear iM; clear iB; clear ho hb hg hat; obtain ⟨Z2, Ah, dp⟩ := Kd.iJ yM.1; subst dp; have Z70 := cz2 a3))
       go_roundg k2
       case measure => have := HK1.out; have := HK2.out; omega
       case rel => exact ⟨(j7), (wrap64 (kW + 1)), (CK), (YJ), (.slice Z2 YJ.length Ah), dH, H', ⟨by have := HK1.out; have := HK2.out; omega⟩, ⟨by refine rR ?_; exact Kd.aM (fR (tR p9 a3)) (fun _ hk => ⟨hk.1.1, ⟨hk.1.2.1, hk.1.2.2.1⟩⟩)⟩, ⟨by refine rR ?_; exact Kd.aM (fR (tR gO a3)) (fun _ hk => ⟨hk.1.1, ⟨hk.1.2.1, hk.1.2.2.1⟩⟩)⟩, ⟨by refine rR ?_; exact Kd.aM (fR (tR fD a3)) (fun _ hk => ⟨hk.1.1, ⟨hk.1.2.1, hk.1.2.2.1⟩⟩)⟩, ⟨by refine rN ?_; exact Kd.aU (fN (Kd.aU yM.1 (fun k_ hk => (⟨hk, hk.2.2.2.2.1⟩ : _ ∧ k_ ≠ aJ)))) (fun _ hk => ⟨hk.1.1, ⟨hk.1.2.1, ⟨hk.1.2.2.1, ⟨hk.1.2.2.2.1, ⟨hk.1.2.2.2.2.1, ⟨hk.1.2.2.2.2.2.1, hk.1.2.2.2.2.2.2.2⟩⟩⟩⟩⟩⟩)⟩, ⟨by refine rB ?_; refine eH (cs := #[.slice vS fY.length vU, n0]) ?_ 1 _ rfl; refine rB ?_; exact a3.1⟩, ⟨qF aK dQ⟩, ⟨wT⟩, ⟨KR⟩, ⟨GF⟩⟩
  ·obtain ⟨rfl, rfl, rfl⟩ := sZ3 H
   repeat clear H
   obtain ⟨aLA, aN8, a88⟩ := Kd.bN p9.1
   subst a88
   have Z72 := nZ2 dP dQ fF l7
   have Z74 := cz2 a3
   have Z75 := nZ1 hJ lZ
   have Z76 := cz2 aK
   obtain ⟨a4P, a6W, a8B⟩ := Kd.iJ eM.1
   subst a8B
   go_wp2
   refine cR aX 31 #[.slice vS fY.length vU, .slice a4P pK.length a6W] (qP aK) Try.underlying31 ?_
   exact ⟨_, _, eR, mR fD aK, by refine rN ?_; exact Kd.aU (fN (fN (Kd.aU eM.1 (fun k_ hk => (⟨hk, hk.2.2.2.2.2.1⟩ : _ ∧ k_ ≠ aX))))) (fun _ hk => ⟨hk.1.1, hk.1.2.2.2.1⟩), qG, xE, QQ⟩
end Go.Proofs.Ytaofjgnhapnndaa.Q
namespace Go.Proofs.Ytaofjgnhapnndaa.Q
open Go.RowKit Go.Proofs.YtaofjgnhapnndaaW.PrintWords Go.Proofs.YtaofjgnhapnndaaW.PrintLast Go.Proofs.YtaofjgnhapnndaaW.PrintMore
set_option linter.unusedVariables false
set_option linter.unusedSimpArgs false
def iA.f (l0 : List ByteArray) : Option (List ByteArray) := (some (([] : List ByteArray) : List ByteArray)).bind fun a => (if a.length + l0.length < 8796093022208 then (some (a ++ l0)) else (none))
theorem iA.calls (A0 : Option Addr) (c0 : Nat) (l0 : List ByteArray) (r : List ByteArray) (w : World) (r5 : Kd.C Kd.string w A0 l0.length l0) (xK : l0.length ≤ c0) (h : iA.f l0 = some r) :
  Calls Try.prog 93 #[.slice A0 l0.length c0] w fun e w' => ∃ v0_ : Value, e = .returned (v0_) ∧ Kd.R Kd.string 9 w' w.heap.size (fun _ => True) v0_ r ∧ Below w.heap.size w w' := by
 obtain ⟨rD, O0⟩ := mZ2 r5 xK
 clear r5 xK
 have HB := am (Below.refl w.heap.size w)
 unfold iA.f at h
 have H := h
 clear h
 obtain ⟨WO, hy101⟩ : ∃ y_ : List ByteArray, y_ = (([] : List ByteArray)) := ⟨_, rfl⟩
 replace H : (if WO.length + l0.length < 8796093022208 then (some (WO ++ l0)) else (none)) = some r := by first | (rw [hy101]; with_reducible exact H) | (have H2_ := (Option.bind_some _ _).symm.trans H; rw [hy101]; with_reducible exact H2_) | (have H2_ := (Option.bind_some _ _).symm.trans H; with_reducible exact H2_) | with_reducible exact H | (rw [hy101]; exact H) | exact H
 have FI := am hy101
 clear hy101
 obtain ⟨a5C, H⟩ := cL H
 obtain ⟨aPE, Jo⟩ := yv (WO ++ l0); first | replace H := bW Jo H | rw [← Jo.1] at H
 obtain rfl := Option.some.inj H
 repeat clear H
 go_enter Try.func93, Try.ntmps93
 go_wp2_with (first | ((with_reducible refine jD (N := 3) rfl ?_); refine lS 9 3 FI ?_; intro Hp w3 ho4 hb; have l5 := am (Kd.cO ho4 (aG eI)); replace HB := bS eI hb; clear hb ho4) | ((with_reducible refine pY (b := .append) (xs := #[.tmp 3, .tmp 4]) rfl ?_); at_builtin; refine Kd.QJ Kd.string (w0 := w) w.heap.size rfl (.tmp 3) (.tmp 4) 23 9 (.string ⟨#[]⟩) 16 rfl Try.underlying23 jT rfl (by decide) (by omega) Hp WO l0 _ _ _ (fun _ => True) (fun _ => False) rfl rfl ?aO ?aR (fun _ _ h => h) (fun _ h => h.elim) ?aF ?aB ?aS ?aL ?_; (case aR => repeat (first | exact (Kd.bK rD.1 HB.1) | (with_reducible refine Kd.gU ?_ _) | (with_reducible refine Kd.gV ?_ _) | (with_reducible refine Kd.iW ?_))); (case aB => exact eI); (case aF => exact (fun _ _ => trivial)); (case aO => exact NI); (case aS => exact (aG eI)); (case aL => have := a5C.out; omega); intro JI w5 ho hb hg hat; rw [← Jo.out] at ho; replace HB := am hb; have eG := am ho; clear l5; clear ho hb hg hat))
 go_ret
 exact ⟨_, eR, rR eG.1, eI⟩
def dG.l0 : Nat → Int → List ByteArray → List (S56) → List ByteArray → List (S56) → Option (List ByteArray × (List (S56)))
 | 0, _, _, _, _, _ => none
 | k + 1, a, e, b, d, c => if a < (b.length : Int) then (if 0 ≤ a then ((iA.f ((aC b a).f1)).bind fun g => ((iA.f ((aC b a).f2)).bind fun h => (if c.length < 2199023255552 then (dG.l0 k (wrap64 (a + 1)) e b d (c ++ [(⟨(aC b a).f0, g, h⟩ : S56)])) else (none)))) else (none)) else (some (d, c))
def dG.f (k : Nat) (aY : List ByteArray) (aI : List (S56)) : Option (List ByteArray × (List (S56))) := (iA.f aY).bind fun a => (dG.l0 k 0 aY aI a ([] : List (S56)))
def dG.T5 : Bool × List (List Nat × List Nat) := (true, [([], []), ([0], [0]), ([], []), ([2], [2]), ([], []), ([3, 4], [3, 4]), ([5], [5]), ([6], [6]), ([], []), ([8], [8]), ([], []), ([9, 10], [9, 10]), ([11], [11]), ([12], [12]), ([13], [13]), ([], []), ([15], [15]), ([], []), ([16, 17], [16, 17]), ([18], [18]), ([19], [19]), ([20, 14], [20]), ([7, 14, 21], [7, 14, 21]), ([22], [22]), ([1, 23, 21], [1, 23]), ([0, 1, 2, 3, 4, 5, 6, 7, 8, 9, 10, 11, 12, 13, 14, 15, 16, 17, 18, 19, 20, 21, 22, 23, 24], []), ([25, 24, 24, 0, 1, 2, 3, 4, 5, 6, 7, 8, 9, 10, 11, 12, 13, 14, 15, 16, 17, 18, 19, 20, 21, 22, 23, 24], [24, 25])])
def dG.B5 : List Nat := [0, 1, 0, 4, 0, 28, 60, 124, 0, 256, 0, 1792, 3840, 7936, 16128, 0, 32768, 0, 229376, 491520, 1015808, 2096896, 4194300, 8388604, 16777215, 33554431, 67108863]
theorem dG.tab5 : rtab .any (opsOf Try.f89 5) = dG.T5 := by kernel_rfl
theorem dG.qo : kM dG.T5.2 dG.B5 = true := by kernel_rfl
theorem dG.calls (k : Nat) (eL : Option Addr) (eO : Nat) (aY : List ByteArray) (fJ : Option Addr) (eJ : Nat) (aI : List (S56)) (r1 : List ByteArray) (r2 : List (S56)) (w : World) (iQ : Kd.C Kd.string w eL aY.length aY) (iO : aY.length ≤ eO) (iH : Kd.C k56 w fJ aI.length aI) (iP : aI.length ≤ eJ) (h : dG.f k aY aI = some (r1, r2)) :
  Calls Try.prog 89 #[.agg #[.slice eL aY.length eO, .slice fJ aI.length eJ]] w fun e w' => ∃ v0_ v1_ : Value, e = .returned (.agg #[v0_, v1_]) ∧ Kd.R Kd.string 9 w' w.heap.size (fun _ => True) v0_ r1 ∧ Kd.S k56 56 w' w.heap.size (fun k_ => some k_ ≠ (v0_ : Value).ownBlock) v1_ r2 ∧ Below w.heap.size w w' := by
 have hu31 := Try.underlying31
 have hu56 := Try.underlying56
 obtain ⟨eQ, eP⟩ := mZ2 iQ iO
 obtain ⟨dO, fP⟩ := mZ2 iH iP
 clear iQ iO iH iP
 have HB := am (Below.refl w.heap.size w)
 unfold dG.f at h
 have H := h
 clear h
 obtain ⟨eK, A2, H⟩ := bd H
 have H' := am H
 repeat clear H
 go_enter Try.func89, Try.ntmps89
 go_wp2_with (first | ((with_reducible refine gD 1 ?_); refine bX 1 #[.slice eL aY.length eO, .slice fJ aI.length eJ] 31 ?_; intro aJ hg w3 hbox hb; have a3 := am hbox; have gH := am (u0 : w.heap.size ≤ aJ); have iE := gH; replace HB := bS eI hb; clear hb hbox hg) | ((with_reducible refine gD 2 ?_); refine bX 2 #[.slice none 0 0, .slice none 0 0] 31 ?_; intro aX hg w4 hbox hb; have aK := am hbox; have mP := am (GG : w.heap.size ≤ aX); have nX := mP; replace HB := bS dS hb; have dP := nL aQ hg; have dQ := nG aQ hg; replace a3 := bB aQ hb; clear hb hbox hg; have Z5 := nZ1 dP dQ; have Z6 := cz2 a3) | ((with_reducible refine gC 93 ?_); refine cE (some 7) Try.func93 (iA.calls _ _ aY eK _ (pB eQ) eP.1 A2.out) ?_; rintro e w7 ⟨DU, rfl, hD, hb⟩; refine ⟨_, rfl, ?_⟩; have nS := am (Kd.cO hD (aG nO)); replace a3 := bB aQ hb; replace aK := bB cA hb; replace HB := bS nO hb; clear hb hD; obtain ⟨Pn, Pp, eo8⟩ := Kd.bN nS.1; subst eo8) | ((with_reducible refine gD 3 ?_); refine bX 3 #[.slice none 0 0, .slice none 0 0] 31 ?_; intro Me hg w9 hbox hb; replace nS := RB KP hb; have sI := am hbox; have mz := am (Y7 : w.heap.size ≤ Me); have mr := mz; replace HB := bS nO hb; have zL := nL aQ hg; have GP := nG aQ hg; replace a3 := bB aQ hb; have D6 := nL cA hg; have LK := nG cA hg; replace aK := bB cA hb; clear hb hbox hg; have Z10 := nZ2 GP zL LK D6; have yf := cz2 sI))
 go_loopg [4] k (fun kq v4 w' => ∃ (mI : Int) (zQ : List (S56)) (xN : Value), v4 = .int .i64 mI ∧ aA (dG.l0 kq mI aY aI eK zQ = some (r1, r2)) ∧ aA (kq ≤ k) ∧ aA (Kd.R Kd.string 9 w' w.heap.size (fun _ => True) (.slice Pn eK.length Pp) eK) ∧ aA (Kd.S k56 56 w' w.heap.size (fun k_ => some k_ ≠ ((.slice Pn eK.length Pp) : Value).ownBlock) xN zQ) ∧ aA (w'.heap[aJ]? = some (.cells #[(.slice eL aY.length eO), (.slice fJ aI.length eJ)] 31 (0, 0))) ∧ aA (w'.heap[aX]? = some (.cells #[(.slice none 0 0), (.slice none 0 0)] 31 (0, 0))) ∧ aA (w'.heap[Me]? = some (.cells #[(.slice Pn eK.length Pp), xN] 31 (0, 0))) ∧ aA (Below w.heap.size w w'))
 case atStart => exact ⟨(0), (([] : List (S56))), (.slice none 0 0), dH, H', ⟨Nat.le_refl _⟩, ⟨mR nS sI⟩, ⟨eN⟩, ⟨qF a3 zL⟩, ⟨qF aK D6⟩, ⟨qP sI⟩, ⟨VY⟩⟩
 clear H'
 try clear yf
 try clear Z6
 obtain ⟨mI, zQ, xN, rfl, HA, HK1, tN, lU, a3, aK, sI, HB⟩ := hrel
 cases gk with
 | zero => exact absurd HA.out (by simp [dG.l0])
 | succ k1 =>
  have H := HA.out
  clear HA
  simp only [dG.l0] at H
  refine ic H ?_ ?_ <;> clear H <;> intro MV H
  ·obtain ⟨S0, H⟩ := cN H
   obtain ⟨DR, YV, H⟩ := bd H
   obtain ⟨DS, YW, H⟩ := bd H
   obtain ⟨Cx, H⟩ := cL H
   obtain ⟨xc, Jr⟩ := yv (zQ ++ [(⟨(aC aI mI).f0, DR, DS⟩ : S56)]); first | replace H := bW Jr H | rw [← Jr.1] at H
   have H' := am H
   repeat clear H
   have yg := nZ2 dP dQ zL GP
   have Z20 := cz2 a3
   try go_wp2
   replace tN := RD tN
   replace lU := SD lU
   replace a3 := BD a3
   replace aK := BD aK
   replace sI := BD sI
   replace HB := am (aV HB.1)
   obtain ⟨MT, YN, ZP, YO, ZQ, Aj, oV, oW, oX, EY, zA, zB, ED, TN, EE, TO, gq, ia⟩ := wW dO HB mI
   cases Aj
   obtain ⟨Dm, a3I, a5Q, a3J, a5R, cd, GW, GX, GY, OJ, Ey, Ez, Co, Qg, Qp, xk, a9E, a9R⟩ := wW dO HB mI
   obtain rfl : MT = Dm := (by injection cd)
   obtain ⟨ea_, ec_⟩ := eZ2 zA Ey
   subst ea_
   subst ec_
   obtain ⟨ea_, ec_⟩ := eZ2 zB Ez
   subst ea_
   subst ec_
   obtain ⟨yQ, YR, ZT, YS, ZU, Ak, GZ, H0, H3, H4, EZ, F0, O3, TQ, z4, BN, Nt, Ob⟩ := wW dO HB mI
   obtain rfl : MT = yQ := (by injection Ak)
   obtain ⟨ea_, ec_⟩ := eZ2 zA EZ
   subst ea_
   subst ec_
   obtain ⟨ea_, ec_⟩ := eZ2 zB F0
   subst ea_
   subst ec_
   refine sT [26] 27 (uB2 sI (uB2 a3 (uBx HB oV (uBx HB oW (uBx HB oX (uBx HB GW (uBx HB GX (uBx HB GY (uBx HB GZ (uBx HB H0 (uAx HB H3))))))))))) (fun hHeld => ?_)
   refine dZ dG.tab5 dG.qo (fun HT_ HW_ => ?_)
   generalize wr.drew = ll at tN lU a3 aK sI HB ED EE Co Qp O3 z4 EY zA zB OJ Ey Ez H4 EZ F0 hHeld ⊢
   refine pU7 0 2 4 8 10 15 17 ?_
   refine tK13 1 (some 17) ?_
   refine tK13 3 (some 19) ?_
   refine pU2 5 6 ?_
   refine tK13 7 (some 23) ?_
   refine tK13 9 (some 25) ?_
   refine pU2 11 12 ?_
   refine tK13 13 (some 29) ?_
   refine tK13 16 (some 32) ?_
   refine pU2 18 19 ?_
   refine tK13 20 (some 36) ?_
   refine oN 14 (some 30) fun K hK => ?_
   refine gE Try.func93 (iA.calls _ _ ((aC aI mI).f1) DR _ (pB Co) Qg.1 YV.out) ?_
   rintro e Tx ⟨aAB, rfl, hD, hb⟩
   refine ⟨_, rfl, ?_⟩
   replace lU := am (Kd.D9 Nx (Kd.bL hD) hb)
   have FU := am (Kd.cO (Kd.eF hD (Kd.R_lt SR)) (aG VY))
   replace tN := am (Kd.dJ SR (Kd.bL hD) hb)
   replace a3 := bB aQ hb
   replace aK := bB cA hb
   replace sI := bB Nw hb
   replace HB := bS VY hb
   clear hb hD
   refine nK hK (uB2 sI (uB2 a3 (uBx HB oV (uBx HB oW (uBx HB oX (uBx HB GW (uBx HB GX (uBx HB GY (uBx HB GZ (uBx HB H0 (uAx HB H3))))))))))).1 fun hHeld => ?_
   clear hK K
   refine oN 21 (some 37) fun K hK => ?_
   refine gE Try.func93 (iA.calls _ _ ((aC aI mI).f2) DS _ (pB z4) BN.1 YW.out) ?_
   rintro e SZ ⟨Bm, rfl, hD, hb⟩
   refine ⟨_, rfl, ?_⟩
   replace lU := am (Kd.D9 Nx (Kd.bL hD) hb)
   have D3 := am (Kd.cO (Kd.eF (Kd.eF hD (Kd.R_lt SR)) (Kd.R_lt (rR FU.1))) (aG VY))
   replace tN := am (Kd.dJ SR (Kd.bL hD) hb)
   replace FU := am (Kd.dJ (rR FU.1) (Kd.bL hD) hb)
   replace a3 := bB aQ hb
   replace aK := bB cA hb
   replace sI := bB Nw hb
   replace HB := bS VY hb
   clear hb hD
   obtain ⟨IW, sQ, XJ⟩ := Kd.bN D3.1
   (first | subst XJ | (obtain ⟨f4_, f5_⟩ := sj XJ; subst f4_; subst f5_))
   obtain ⟨Px, Rq, Ao⟩ := Kd.bN FU.1
   (first | subst Ao | (obtain ⟨f4_, f5_⟩ := sj Ao; subst f4_; subst f5_))
   refine nK hK (uB2 sI (uB2 a3 (uBx HB oV (uBx HB oW (uBx HB oX (uBx HB GW (uBx HB GX (uBx HB GY (uBx HB GZ (uBx HB H0 (uAx HB H3))))))))))).1 fun hHeld => ?_
   clear hK K
   refine pU1 22 ?_
   refine oN 23 (some 39) fun K hK => ?_
   refine yJ (w1 := ?_) (v := ?_) (by rfl) rfl ?_ ?_
   rotate_left 2
   ·go_simp
    constructor
    ·rfl
    ·rfl
   refine hK.out _ _ ⟨(bF (dE sI.1 _) 0).trans rfl, (bF (dE sI.1 _) 1).trans rfl, (bF (dE a3.1 _) 0).trans rfl, (bF (dE a3.1 _) 1).trans rfl, (World.cell?_alloc_lt _ _ _ (World.block_lt_of_cell? _ _ ((hX HB oV)))).trans ((hX HB oV)), (World.cell?_alloc_lt _ _ _ (World.block_lt_of_cell? _ _ ((hX HB oW)))).trans ((hX HB oW)), (World.cell?_alloc_lt _ _ _ (World.block_lt_of_cell? _ _ ((hX HB oX)))).trans ((hX HB oX)), (World.cell?_alloc_lt _ _ _ (World.block_lt_of_cell? _ _ ((hX HB GW)))).trans ((hX HB GW)), (World.cell?_alloc_lt _ _ _ (World.block_lt_of_cell? _ _ ((hX HB GX)))).trans ((hX HB GX)), (World.cell?_alloc_lt _ _ _ (World.block_lt_of_cell? _ _ ((hX HB GY)))).trans ((hX HB GY)), (World.cell?_alloc_lt _ _ _ (World.block_lt_of_cell? _ _ ((hX HB GZ)))).trans ((hX HB GZ)), (World.cell?_alloc_lt _ _ _ (World.block_lt_of_cell? _ _ ((hX HB H0)))).trans ((hX HB H0)), (World.cell?_alloc_lt _ _ _ (World.block_lt_of_cell? _ _ ((hX HB H3)))).trans ((hX HB H3))⟩ (fun hHeld => ?_)
   clear hK K
   refine nM ?_
   refine oN 24 (some 40) fun K hK => ?_
   refine Kd.I9 k56 (w0 := w) w.heap.size (by rfl) (.tmp 17) (.tmp 39) 29 56 Ag0 64 rfl Try.underlying29 rP rfl (by decide) (by omega) xN zQ (⟨(aC aI mI).f0, DR, DS⟩ : S56) [.string ((aC aI mI).f0), .slice Px DR.length Rq, .slice IW DS.length sQ] (fun k_ => some k_ ≠ (.slice Pn eK.length Pp : Value).ownBlock) (fun k_ => some k_ = (.slice Px DR.length Rq : Value).ownBlock ∨ some k_ = (.slice IW DS.length sQ : Value).ownBlock) rfl rfl ?aP (fun k_ hk_ => hk_.elim (fun h_ => ((Kd.aM (ok' := fun k_ => ((fun k_ => some k_ ≠ (.slice Pn eK.length Pp : Value).ownBlock)) k_ ∧ some k_ ≠ (xN : Value).ownBlock) (Kd.nA (FU.1) (Kd.GV lU.1) (by decide)) (fun k_ hk => ⟨hk.1.1.2, hk.2⟩))).1 k_ h_.symm) (fun h_ => ((Kd.aM (ok' := fun k_ => ((fun k_ => some k_ ≠ (.slice Pn eK.length Pp : Value).ownBlock)) k_ ∧ some k_ ≠ (xN : Value).ownBlock) (Kd.nA (D3.1) (Kd.GV lU.1) (by decide)) (fun k_ hk => ⟨hk.1.1.2, hk.2⟩))).1 k_ h_.symm)) ?aF ?aO ?aB ?aS ?aL ?_
   (case aP => exact KM _ _ _ (⟨(aC aI mI).f0, DR, DS⟩ : S56) (Kd.aM (Kd.JU rfl (Kd.aM (ok' := fun k_ => ((fun k_ => some k_ ≠ (.slice Pn eK.length Pp : Value).ownBlock)) k_ ∧ some k_ ≠ (xN : Value).ownBlock) (Kd.nA (FU.1) (Kd.GV lU.1) (by decide)) (fun k_ hk => ⟨hk.1.1.2, hk.2⟩))) (fun _ h_ => Or.inl h_)) (Kd.aM (Kd.JU rfl (Kd.aM (ok' := fun k_ => ((fun k_ => some k_ ≠ (.slice Pn eK.length Pp : Value).ownBlock)) k_ ∧ some k_ ≠ (xN : Value).ownBlock) (Kd.nA (D3.1) (Kd.GV lU.1) (by decide)) (fun k_ hk => ⟨hk.1.1.2, hk.2⟩))) (fun _ h_ => Or.inr (h_))) (iw FU.1 D3.1))
   (case aB => exact VY)
   (case aF => exact (fun k_ hk => Kd.fresh' (Kd.R_lt SR) k_ hk))
   (case aO => exact (by refine rS ?_; exact Kd.CQ lU.1 (fun k_ hk => ⟨hk.1.1, fun e_ => e_.elim (fun h_ => hk.1.2 h_) (fun h_ => hk.2 h_)⟩)))
   (case aS => exact (aG VY))
   (case aL => have := Cx.out; omega)
   intro aO6 lm ho hb hg hat
   rw [← Jr.out] at ho
   replace tN := am (Kd.rH SR (Kd.GV Nx) (by decide) hg)
   replace a3 := gkS aQ hg lU a3
   replace aK := gkS cA hg lU aK
   replace sI := gkS Nw hg lU sI
   replace HB := am hb
   have Uh := am ho
   clear lU
   clear FU
   clear D3
   clear ho hb hg hat
   obtain ⟨a4H, a6N, sl⟩ := Kd.GU Uh.1
   (first | subst sl | (obtain ⟨f4_, f5_⟩ := sj sl; subst f4_; subst f5_))
   refine nK hK (uB2 sI (uB2 a3 (uBx HB oV (uBx HB oW (uBx HB oX (uBx HB GW (uBx HB GX (uBx HB GY (uBx HB GZ (uBx HB H0 (uAx HB H3))))))))))).1 fun hHeld => ?_
   clear hK K
   refine pU1 25 ?_
   refine lN 26 none fun K hK => ?_
   have aNJ : lm.cell? ⟨Me, 1, none⟩ = some (xN) := (bF sI.1 1).trans rfl
   have aG6 := fV sI.1 1
   have a2A := zL.1
   have a2B := D6.1
   have a0S := GP.1
   have a0T := LK.1
   refine wP (w1 := ?_) (by rfl) rfl ?_ ?_
   rotate_left
   ·go_simp
    rfl
   refine hK.out _ _ ?_
   clear hK K
   refine dN ?_
   try go_wp2
   go_roundg k1
   case measure => have := HK1.out; omega
   case rel => exact ⟨(wrap64 (mI + 1)), (xc), (.slice a4H xc.length a6N), dH, H', ⟨by have := HK1.out; omega⟩, ⟨mR tN sI⟩, ⟨mS Uh sI⟩, ⟨qF a3 zL⟩, ⟨qF aK D6⟩, ⟨by refine rB ?_; refine eH (cs := #[.slice Pn eK.length Pp, xN]) ?_ 1 _ rfl; refine rB ?_; exact sI.1⟩, ⟨VY⟩⟩
  ·obtain ⟨rfl, rfl⟩ := sZ2 H
   repeat clear H
   have Z29 := nZ2 dP dQ zL GP
   have Z31 := cz2 a3
   have yi := nZ1 LK D6
   have yj := cz2 sI
   have Z34 := cz2 aK
   obtain ⟨YX, Aa, Ap⟩ := Kd.GU lU.1
   subst Ap
   go_wp2
   refine cR aX 31 #[.slice Pn eK.length Pp, .slice YX zQ.length Aa] (qP aK) Try.underlying31 ?_
   exact ⟨_, _, eR, mR tN aK, mS lU aK, VY⟩
def gT.f (k : Nat) (aY : List ByteArray) (aI : List (S56)) (a1 : ByteArray) : Option (List ByteArray × (List (S56)) × Int) := (aH.f k aY aI).bind fun h => (if h = true then ((dG.f k aY aI).bind fun a => ((fT.f k aY aI a1).bind fun b => (if b < 0 then (some (a.1, a.2, 3)) else ((some (([] : List (S56)) : List (S56))).bind fun c => (if 0 ≤ b then (if b ≤ (a.2.length : Int) then ((some (a.2.take (b : Int).toNat : List (S56))).bind fun d => (if c.length + d.length < 2199023255552 then ((some (c ++ d : List (S56))).bind fun e => (if 0 ≤ (wrap64 (b + 1)) then (if (wrap64 (b + 1)) ≤ (a.2.length : Int) then ((some (a.2.drop ((wrap64 (b + 1)) : Int).toNat : List (S56))).bind fun g => (if e.length + g.length < 2199023255552 then (some (a.1, (e ++ g), 0)) else (none))) else (none)) else (none))) else (none))) else (none)) else (none)))))) else (some (([] : List ByteArray), ([] : List (S56)), 1)))
def gT.T7 : Bool × List (List Nat × List Nat) := (true, [([], []), ([], []), ([1], [1]), ([], []), ([2, 3], [2, 3]), ([0, 4], [0, 4]), ([], []), ([6], [6]), ([], []), ([8], [8]), ([7, 9], [7, 9]), ([5, 10, 5], [5, 10]), ([0, 1, 2, 3, 4, 5, 6, 7, 8, 9, 10, 11], []), ([12, 11, 11, 0, 1, 2, 3, 4, 5, 6, 7, 8, 9, 10, 11], [11, 12])])
def gT.B7 : List Nat := [0, 0, 2, 0, 14, 31, 0, 64, 0, 256, 960, 2047, 4095, 8191]
theorem gT.tab7 : rtab .any (opsOf Try.f46 7) = gT.T7 := by kernel_rfl
theorem gT.uG : kM gT.T7.2 gT.B7 = true := by kernel_rfl
theorem gT.calls (k : Nat) (eL : Option Addr) (eO : Nat) (aY : List ByteArray) (fJ : Option Addr) (eJ : Nat) (aI : List (S56)) (a1 : ByteArray) (r1 : List ByteArray) (r2 : List (S56)) (r3 : Int) (w : World) (iQ : Kd.C Kd.string w eL aY.length aY) (iO : aY.length ≤ eO) (iH : Kd.C k56 w fJ aI.length aI) (iP : aI.length ≤ eJ) (h : gT.f k aY aI a1 = some (r1, r2, r3)) :
  Calls Try.prog 46 #[.agg #[.slice eL aY.length eO, .slice fJ aI.length eJ], .string a1] w fun e w' => ∃ v0_ v1_ : Value, e = .returned (.tuple #[.agg #[v0_, v1_], .int .i64 r3]) ∧ Kd.R Kd.string 9 w' w.heap.size (fun k_ => (w.heap.size ≤ k_)) v0_ r1 ∧ Kd.N k56 56 w' w.heap.size (F10 w v0_) v1_ r2 ∧ Below w.heap.size w w' := by
 have hu31 := Try.underlying31
 obtain ⟨eQ, eP⟩ := mZ2 iQ iO
 obtain ⟨dO, fP⟩ := mZ2 iH iP
 clear iQ iO iH iP
 have HB := am (Below.refl w.heap.size w)
 unfold gT.f at h
 have H := h
 clear h
 obtain ⟨eK, A3, H⟩ := bd H
 refine tC H ?_ ?_ <;> clear H <;> intro c4 H <;> subst c4
 obtain ⟨⟨dI, e5⟩, A5, H⟩ := bd H
 dsimp only at H
 obtain ⟨dD, A6, H⟩ := bd H
 refine ic H ?_ ?_ <;> clear H <;> intro UB H
 obtain ⟨rfl, rfl, rfl⟩ := sZ3 H
 repeat clear H
 have ZG := trivial
 have ol := trivial
 rotate_left
 obtain ⟨sS, hy112⟩ : ∃ y_ : List (S56), y_ = (([] : List (S56))) := ⟨_, rfl⟩
 replace H : (if 0 ≤ dD then (if dD ≤ (e5.length : Int) then ((some (e5.take (dD : Int).toNat : List (S56))).bind fun JJ => (if sS.length + JJ.length < 2199023255552 then ((some (sS ++ JJ : List (S56))).bind fun MJ => (if 0 ≤ (wrap64 (dD + 1)) then (if (wrap64 (dD + 1)) ≤ (e5.length : Int) then ((some (e5.drop ((wrap64 (dD + 1)) : Int).toNat : List (S56))).bind fun BM => (if MJ.length + BM.length < 2199023255552 then (some (dI, (MJ ++ BM), 0)) else (none))) else (none)) else (none))) else (none))) else (none)) else (none)) = some (r1, r2, r3) := by first | (rw [hy112]; with_reducible exact H) | (have H2_ := (Option.bind_some _ _).symm.trans H; rw [hy112]; with_reducible exact H2_) | (have H2_ := (Option.bind_some _ _).symm.trans H; with_reducible exact H2_) | with_reducible exact H | (rw [hy112]; exact H) | exact H
 have yP := am hy112
 clear hy112
 obtain ⟨PJ, qz, H⟩ := cP H
 obtain ⟨S1, Vy, H⟩ := cP H
 obtain ⟨JJ, I6, H⟩ := bY H
 obtain ⟨WY, H⟩ := cL H
 obtain ⟨MJ, Di, H⟩ := bY H
 obtain ⟨ji28, hji28⟩ : ∃ j_ : Int, (wrap64 (dD + 1)) = j_ := ⟨_, rfl⟩
 replace H : (if 0 ≤ (ji28) then (if (ji28) ≤ (e5.length : Int) then ((some (e5.drop ((ji28) : Int).toNat : List (S56))).bind fun BM => (if MJ.length + BM.length < 2199023255552 then (some (dI, (MJ ++ BM), 0)) else (none))) else (none)) else (none)) = some (r1, r2, r3) := by first | (rw [hji28] at H; exact H) | (simp only [hji28] at H ⊢; exact H)
 (try rw [hji28] at A3)
 (try rw [hji28] at A5)
 (try rw [hji28] at A6)
 have hji28w : (IntKind.i64.wrap (dD + 1)) = ji28 := (mV _).trans hji28
 obtain ⟨Dr, aEY, H⟩ := cP H
 obtain ⟨MX, aEZ, H⟩ := cP H
 obtain ⟨BM, MR, H⟩ := bY H
 obtain ⟨Jd, H⟩ := cL H
 obtain ⟨jo, Ju⟩ := yv (MJ ++ BM); first | replace H := bW Ju H | rw [← Ju.1] at H
 obtain ⟨rfl, rfl, rfl⟩ := sZ3 H
 repeat clear H
 have ZG := trivial
 have om := trivial
 rotate_left
 obtain ⟨rfl, rfl, rfl⟩ := sZ3 H
 repeat clear H
 have oo := trivial
 rotate_left
 all_goals
  go_enter Try.func46, Try.ntmps46
  try go_wp2_with (first | ((with_reducible refine gD 2 ?_); refine bX 2 #[.slice eL aY.length eO, .slice fJ aI.length eJ] 31 ?_; intro aJ hg aIM hbox hb; have a3 := am hbox; have gH := am (u0 : w.heap.size ≤ aJ); have iE := gH; replace HB := bS eI hb; clear hb hbox hg) | ((with_reducible refine gD 4 ?_); refine bX 4 #[.slice none 0 0, .slice none 0 0] 31 ?_; intro aX hg aIN hbox hb; have aK := am hbox; have mP := am (GG : w.heap.size ≤ aX); have nX := mP; replace HB := bS dS hb; have dP := nL aQ hg; have dQ := nG aQ hg; replace a3 := bB aQ hb; clear hb hbox hg; have aCE := nZ1 dP dQ; have aCF := cz2 a3) | ((with_reducible refine gC 22 ?_); revert ZG; intro ZG; refine cQ (some 9) Try.func22 (aH.calls k _ _ aY _ _ aI true _ (pB eQ) eP.1 (pB dO) fP.1 A3.out) ?_; rintro aIO hb; replace a3 := bB aQ hb; replace aK := bB cA hb; replace HB := bS nO hb; clear hb; have aCG := cz2 a3) | ((with_reducible refine gC 89 ?_); revert ZG; intro ZG; refine cE (some 13) Try.func89 (dG.calls k _ _ aY _ _ aI dI e5 _ (pB eQ) eP.1 (pB dO) fP.1 A5.out) ?_; rintro e aIP ⟨JI, FP, rfl, hD, rM, hb⟩; refine ⟨_, rfl, ?_⟩; have eG := am (Kd.cO (Kd.jK (M := fun k_ => (w.heap.size ≤ k_)) hD (aG nO) (fun k_ h_ => h_)) (aG nO)); have fQ := am (Kd.l9 (Kd.aU (ok' := F12 w JI aJ aX) (Kd.S_N (Kd.rJ rM)) (fun k_ hk_ => ⟨(Nat.le_trans (aG nO) hk_.2.1), hk_.1, (fB aQ k_ hk_.2.1), (fB cA k_ hk_.2.1)⟩)) (aG nO)); replace a3 := bB aQ hb; replace aK := bB cA hb; replace HB := bS nO hb; clear hb hD rM) | ((with_reducible refine gD 6 ?_); revert ZG; intro ZG; refine bX 6 #[.slice none 0 0, .slice none 0 0] 31 ?_; intro cC hg aIQ hbox hb; replace eG := RB tG hb; replace fQ := am (Kd.iI (Kd.pX wY cC (Nat.le_of_eq hg.symm)) hb); have bU := am hbox; have FS := am (Y7 : w.heap.size ≤ cC); have I5 := FS; replace HB := bS nO hb; have gI := nL aQ hg; have hZ := nG aQ hg; replace a3 := bB aQ hb; have gZ := nL cA hg; have j9 := nG cA hg; replace aK := bB cA hb; clear hb hbox hg; obtain ⟨qK, qQ, cp⟩ := Kd.bN eG.1; subst cp; have aCH := nZ2 hZ gI j9 gZ; have aCI := cz2 bU; obtain ⟨vV, uI, cq⟩ := Kd.iJ fQ.1; subst cq; have aCJ := cz2 a3) | ((with_reducible refine gC 82 ?_); revert ol; intro ol; refine cQ (some 16) Try.func82 (fT.calls k _ _ aY _ _ aI a1 dD _ (Kd.bK eQ.1 gG) eP.1 (Kd.bK dO.1 gG) fP.1 A6.out) ?_; rintro aIS hb; replace eG := am (Kd.jY (by refine rR ?_; exact (Kd.aM (fR (fR (tR eG bU))) (fun _ h_ => h_.1))) hb); replace fQ := am (Kd.iI (by refine rN ?_; exact (Kd.aU (fN (fN (Kd.aU fQ.1 (fun k_ hk => (⟨hk, hk.2⟩ : _ ∧ k_ ≠ cC))))) (fun _ h_ => h_.1))) hb); replace a3 := am (dL (g := aJ) (o := .cells #[.slice eL aY.length eO, .slice fJ aI.length eJ] 31 (0, 0)) gy hb); replace aK := am (dL (g := aX) (o := .cells #[.slice none 0 0, .slice none 0 0] 31 (0, 0)) gz hb); replace bU := am (dL (g := cC) (o := .cells #[.slice qK dI.length qQ, .slice vV e5.length uI] 31 (0, 0)) (qP bU) hb); replace HB := bS gG hb; clear hb; have aCK := cz2 bU; have aCL := cz2 aK) | ((with_reducible refine gC 82 ?_); revert om; intro om; refine cQ (some 16) Try.func82 (fT.calls k _ _ aY _ _ aI a1 dD _ (Kd.bK eQ.1 gG) eP.1 (Kd.bK dO.1 gG) fP.1 A6.out) ?_; rintro ww hb; replace eG := am (Kd.jY (by refine rR ?_; exact (Kd.aM (fR (fR (tR eG bU))) (fun _ h_ => h_.1))) hb); replace fQ := am (Kd.iI (by refine rN ?_; exact (Kd.aU (fN (fN (Kd.aU fQ.1 (fun k_ hk => (⟨hk, hk.2⟩ : _ ∧ k_ ≠ cC))))) (fun _ h_ => h_.1))) hb); replace a3 := am (dL (g := aJ) (o := .cells #[.slice eL aY.length eO, .slice fJ aI.length eJ] 31 (0, 0)) gy hb); replace aK := am (dL (g := aX) (o := .cells #[.slice none 0 0, .slice none 0 0] 31 (0, 0)) gz hb); replace bU := am (dL (g := cC) (o := .cells #[.slice qK dI.length qQ, .slice vV e5.length uI] 31 (0, 0)) (qP bU) hb); replace HB := bS gG hb; clear hb) | ((with_reducible refine gC 22 ?_); revert oo; intro oo; refine cQ (some 9) Try.func22 (aH.calls k _ _ aY _ _ aI false _ (pB eQ) eP.1 (pB dO) fP.1 A3.out) ?_; rintro aIT hb; replace a3 := bB aQ hb; replace aK := bB cA hb; replace HB := bS nO hb; clear hb; have aCM := cz2 aK))
 ·refine cT aX 31 #[.slice qK dI.length qQ, .slice vV e5.length uI] (qP aK) Try.underlying31 ?_
  exact ⟨_, _, eR, mR eG aK, by refine rN ?_; exact Kd.aU (fN (fN (Kd.aU fQ.1 (fun k_ hk => (⟨hk, hk.1.2.2.2⟩ : _ ∧ k_ ≠ aX))))) (fun _ hk => ⟨hk.1.1.1, hk.1.1.2.1⟩), gG⟩
 ·replace eG := RD eG
  replace fQ := ND fQ
  replace a3 := BD a3
  replace aK := BD aK
  replace bU := BD bU
  replace HB := am (aV HB.1)
  have q48 : (dD : Int) ≤ ((e5.length : Int) : Int) := oT
  obtain ⟨i048, Xd, _, hsz48, _⟩ := info_parts rP
  have hroom48 : e5.length ≤ uI := (Kd.cB fQ.1).2.1
  have hC48 : Kd.F k56 _ _ vV e5.length e5 := (Kd.V_at (base := w.heap.size) (Kd.N_V fQ.1)).2.2
  have hcut48 := PO (P := Try.prog) 29 56 .i64 Try.underlying29 Xd vV e5.length uI dD (oT) q48 hroom48
  have fa := Kd.TL (m := (dD : Int).toNat) hC48 (by omega)
  have hy48 : JJ.length = (dD : Int).toNat := (by rw [I6.out, List.length_take]; omega)
  rw [← I6.out] at fa
  rw [← hy48] at hcut48
  have yM := am (show Kd.V k56 56 _ w.heap.size _ (.slice vV JJ.length uI) JJ from Kd.V_mk (by omega) fa)
  have aBL := am (show JJ.length ≤ uI from by omega)
  clear fa hC48 hroom48 Xd hsz48
  have KY48 := am hy48
  clear hy48
  replace q48 := eq_true q48
  have q49 : ((ji28) : Int) ≤ ((e5.length : Int) : Int) := oT
  obtain ⟨i049, Xe, _, hsz49, _⟩ := info_parts rP
  have hroom49 : e5.length ≤ uI := (Kd.cB fQ.1).2.1
  have hC49 : Kd.F k56 _ _ vV e5.length e5 := (Kd.V_at (base := w.heap.size) (Kd.N_V fQ.1)).2.2
  have a9P : (0 : Int) ≤ ((ji28) : Int) := oT
  have hcut49 := JX (P := Try.prog) 29 56 .i64 Try.underlying29 Xe 3 hsz49 vV e5.length uI (ji28) a9P q49
  have Mt := Kd.Cg (m := ((ji28) : Int).toNat) (c := uI) hC49 (by omega) hroom49
  obtain ⟨A49, hA49⟩ : ∃ A1, A1 = (if uI = ((ji28) : Int).toNat then vV else (vV : Option Addr).map (·.add (((ji28) : Int).toNat * 3))) := ⟨_, rfl⟩
  obtain ⟨ZY, Se⟩ : ∃ c1, c1 = uI - ((ji28) : Int).toNat := ⟨_, rfl⟩
  have hy49 : BM.length = e5.length - ((ji28) : Int).toNat := (by rw [MR.out, List.length_drop] <;> omega)
  rw [show (e5).drop ((ji28) : Int).toNat = BM from MR.out.symm] at Mt
  replace Mt : Kd.F k56 _ _ A49 BM.length BM := (by rw [hA49]; exact Mt)
  rw [← hy49, ← hA49, ← Se] at hcut49
  have vX := am (show Kd.V k56 56 _ w.heap.size _ (.slice A49 BM.length ZY) BM from Kd.V_mk (by rw [hy49, Se]; exact Nat.sub_le_sub_right hroom49 _) Mt)
  have aBO := am (show BM.length ≤ ZY from by rw [hy49, Se]; exact Nat.sub_le_sub_right hroom49 _)
  clear Mt hC49 hroom49 Xe hsz49 Se
  have KY49 := am hy49
  have KA49 := am hA49
  clear hy49 hA49
  replace q49 := eq_true q49
  refine sT [13] 14 (uA2 bU) (fun hHeld => ?_)
  refine dZ gT.tab7 gT.uG (fun HT_ HW_ => ?_)
  generalize ww.drew = w47 at eG fQ a3 aK bU HB yM vX hHeld ⊢
  refine pU5 1 3 6 8 9 ?_
  refine tK2 2 (some 22) ?_
  refine pU1 4 ?_
  refine tK2 7 (some 27) ?_
  refine pU1 10 ?_
  refine oN 0 (some 20) fun K hK => ?_
  refine Kd.J2 k56 _ 56 ?hg (N' := 20) ?hd (xs := ([] : List (S56))) (inner := []) (ok := (F23 w (.slice qK dI.length qQ) (.slice vV e5.length uI) aJ aX cC)) (okp := (F23 w (.slice qK dI.length qQ) (.slice vV e5.length uI) aJ aX cC)) ?hr ?hp (fun _ hk => hk) ((show ∀ k_, w47.heap.size ≤ k_ → (F23 w (.slice qK dI.length qQ) (.slice vV e5.length uI) aJ aX cC) k_ from fun k_ hk => ⟨(Nat.le_trans (aG gG) hk), Kd.fresh' (Kd.R_lt tG) k_ hk, Kd.fresh' (Kd.N_lt wY) k_ hk, fB aQ k_ hk, fB cA k_ hk, fB jM k_ hk⟩) _ (Nat.le_refl _)) (Below.refl _ _) (Nat.le_refl _) (by simp) ?_; (case hd => rfl); (case hg => rfl); (case hr => first | (go_simp; done) | (go_simp; rfl)); (case hp => exact (Reps.none _ _))
  intro rQ w50 XT hb hg_ hnew_
  clear hg_ hnew_
  (first | rw [← yP.out] at XT | (simp only [Int.reduceToNat] at XT; rw [← yP.out] at XT))
  replace eG := RB tG hb
  replace fQ := am (Kd.kL wY (Kd.uZ XT) hb)
  replace yM := am (Kd.gP (rV yM.1) (Kd.uZ XT) hb)
  replace vX := am (Kd.gP (rV vX.1) (Kd.uZ XT) hb)
  have fX := am (Kd.l9 XT (aG gG))
  replace a3 := bB aQ hb
  replace aK := bB cA hb
  replace bU := bB jM hb
  replace HB := bS gG hb
  clear hb XT
  refine nK hK (uA2 bU).1 fun hHeld => ?_
  clear hK K
  refine oN 5 (some 25) fun K hK => ?_
  refine Kd.nC k56 (w0 := w) w.heap.size (by rfl) (.tmp 20) (.tmp 24) 29 56 Ag0 64 rfl Try.underlying29 rP rfl (by decide) (by omega) rQ sS JJ _ _ _ (F13 w (.slice qK dI.length qQ) aJ aX cC) (FA (F13 w (.slice qK dI.length qQ) aJ aX cC) rQ) rfl rfl ?aO ?aR (fun _ hk => hk) ?aF ?aB ?aS ?aL ?_
  (case aR => exact (by skip; exact Kd.V_F (Kd.fG (ok' := (FA (F13 w (.slice qK dI.length qQ) aJ aX cC) rQ)) (yM.1) (fun k_ hk => ⟨⟨hk.1.1.1, ⟨hk.1.1.2.1, ⟨hk.1.1.2.2.1, ⟨hk.1.1.2.2.2, hk.1.2⟩⟩⟩⟩, hk.2⟩))))
  (case aB => exact gG)
  (case aF => exact (fun k_ hk => ⟨(Nat.le_trans (aG gG) hk), Kd.fresh' (Kd.R_lt tG) k_ hk, fB aQ k_ hk, fB cA k_ hk, fB jM k_ hk⟩))
  (case aO => exact (by refine rN ?_; exact Kd.aU fX.1 (fun _ hk => ⟨hk.1, ⟨hk.2.1, ⟨hk.2.2.2.1, ⟨hk.2.2.2.2.1, hk.2.2.2.2.2⟩⟩⟩⟩)))
  (case aS => exact (aG gG))
  (case aL => have := WY.out; omega)
  intro NX w52 ho hb hg hat
  rw [← Di.out] at ho
  replace a3 := gkN aQ hg fX a3
  replace aK := gkN cA hg fX aK
  replace eG := am (Kd.rH tG (Kd.iV (rN fX.1)) (by decide) hg)
  replace fQ := am (Kd.nT (ok := (F13 w (.slice qK dI.length qQ) aJ aX cC)) (by refine rN ?_; exact Kd.aU fQ.1 (fun _ hk => ⟨⟨hk.1.1.1, ⟨hk.1.1.2.1, ⟨hk.1.1.2.2.1, ⟨hk.1.1.2.2.2, hk.1.2⟩⟩⟩⟩, hk.2⟩)) hg hat)
  replace bU := gkN jM hg fX bU
  replace yM := am (Kd.fM (ok := (F13 w (.slice qK dI.length qQ) aJ aX cC)) (by refine rV ?_; exact Kd.fG yM.1 (fun _ hk => ⟨⟨hk.1.1.1, ⟨hk.1.1.2.1, ⟨hk.1.1.2.2.1, ⟨hk.1.1.2.2.2, hk.1.2⟩⟩⟩⟩, hk.2⟩)) hg hat)
  replace vX := am (Kd.fM (ok := (F13 w (.slice qK dI.length qQ) aJ aX cC)) (by refine rV ?_; exact Kd.fG vX.1 (fun _ hk => ⟨⟨hk.1.1.1, ⟨hk.1.1.2.1, ⟨hk.1.1.2.2.1, ⟨hk.1.1.2.2.2, hk.1.2⟩⟩⟩⟩, hk.2⟩)) hg hat)
  replace HB := am hb
  have oH := am ho
  clear fX
  clear ho hb hg hat
  refine nK hK (uA2 bU).1 fun hHeld => ?_
  clear hK K
  refine oN 11 (some 31) fun K hK => ?_
  refine Kd.nC k56 (w0 := w) w.heap.size (by rfl) (.tmp 25) (.tmp 30) 29 56 Ag0 64 rfl Try.underlying29 rP rfl (by decide) (by omega) NX MJ BM _ _ _ (F13 w (.slice qK dI.length qQ) aJ aX cC) (FA (F13 w (.slice qK dI.length qQ) aJ aX cC) NX) rfl rfl ?aO ?aR (fun _ hk => hk) ?aF ?aB ?aS ?aL ?_
  (case aR => exact (by skip; exact Kd.V_F (Kd.fG (ok' := (FA (F13 w (.slice qK dI.length qQ) aJ aX cC) NX)) (vX.1) (fun k_ hk => ⟨⟨hk.1.1, ⟨hk.1.2.1, ⟨hk.1.2.2.1, ⟨hk.1.2.2.2.1, hk.1.2.2.2.2⟩⟩⟩⟩, hk.2⟩))))
  (case aB => exact gG)
  (case aF => exact (fun k_ hk => ⟨(Nat.le_trans (aG gG) hk), Kd.fresh' (Kd.R_lt tG) k_ hk, fB aQ k_ hk, fB cA k_ hk, fB jM k_ hk⟩))
  (case aO => exact (rN oH.1))
  (case aS => exact (aG gG))
  (case aL => have := Jd.out; omega)
  intro aAE w53 ho hb hg hat
  rw [← Ju.out] at ho
  replace a3 := gkN aQ hg oH a3
  replace aK := gkN cA hg oH aK
  replace eG := am (Kd.rH tG (Kd.iV (rN oH.1)) (by decide) hg)
  replace fQ := am (Kd.nT (ok := (F13 w (.slice qK dI.length qQ) aJ aX cC)) wY hg hat)
  replace bU := gkN jM hg oH bU
  replace yM := am (Kd.fM (ok := (F13 w (.slice qK dI.length qQ) aJ aX cC)) (rV yM.1) hg hat)
  replace vX := am (Kd.fM (ok := (F13 w (.slice qK dI.length qQ) aJ aX cC)) (rV vX.1) hg hat)
  replace HB := am hb
  have WW := am ho
  clear oH
  clear ho hb hg hat
  obtain ⟨Yc, bk, sw⟩ := Kd.iJ WW.1
  (first | subst sw | (obtain ⟨f4_, f5_⟩ := sj sw; subst f4_; subst f5_))
  refine nK hK (uA2 bU).1 fun hHeld => ?_
  clear hK K
  refine pU1 12 ?_
  refine lN 13 none fun K hK => ?_
  have aNP : w53.cell? ⟨cC, 1, none⟩ = some (.slice vV e5.length uI) := (bF bU.1 1).trans rfl
  have aGC := fV bU.1 1
  have a2K := gI.1
  have a2L := gZ.1
  have a13 := hZ.1
  have a14 := j9.1
  refine wP (w1 := ?_) (by rfl) rfl ?_ ?_
  rotate_left
  ·go_simp
   rfl
  refine hK.out _ _ ?_
  clear hK K
  refine dN ?_
  have Z56 := cz2 bU
  have Z57 := cz2 aK
  try go_wp2
  refine cT aX 31 #[.slice qK dI.length qQ, .slice Yc jo.length bk] (by refine rB ?_; refine eH (cs := #[.slice qK dI.length qQ, .slice none 0 0]) ?_ 1 _ rfl; refine rB ?_; refine eH (cs := #[.slice none 0 0, .slice none 0 0]) ?_ 0 _ rfl; refine rB ?_; refine dY ?_ gZ.1 _; refine rB ?_; exact aK.1) Try.underlying31 ?_
  exact ⟨_, _, by first | rfl | (simp [qR, qU] <;> rfl) | (simp only [← hji28]; first | rfl | (simp [qR, qU] <;> rfl)) | (simp [*, qR, qU] <;> rfl), by refine rR ?_; exact Kd.aM (fR (fR (Kd.qO (p := ⟨cC, 1, none⟩) (Kd.fK (tR eG bU) aK.1 (by decide)) (fun _ hk => hk.1.2) (.slice Yc jo.length bk)))) (fun _ hk => hk.1.1.1), by refine rN ?_; exact Kd.aU (fN (fN (Kd.BR (p := ⟨cC, 1, none⟩) (Kd.aU (Kd.aU WW.1 (fun k_ hk => (⟨hk, hk.2.2.2.2⟩ : _ ∧ k_ ≠ cC))) (fun k_ hk => (⟨hk, hk.1.2.2.2.1⟩ : _ ∧ k_ ≠ aX))) (fun _ hk => hk.1.2) (.slice Yc jo.length bk)))) (fun _ hk => ⟨hk.1.1.1, hk.1.1.2.1⟩), gG⟩
 refine cT aX 31 #[.slice none 0 0, .slice none 0 0] vi Try.underlying31 ?_
 exact ⟨_, _, eR, by first | exact Kd.vJ _ _ _ _ _ | exact Kd.zV _ _ _ _ _ | exact Kd.zZ _ _ _ _ _ | exact Kd.zW _ _ _ _ _ | exact Kd.zY _ _ _ _ _, by first | exact Kd.zY _ _ _ _ _ | exact Kd.zV _ _ _ _ _ | exact Kd.zZ _ _ _ _ _ | exact Kd.zW _ _ _ _ _ | exact Kd.vJ _ _ _ _ _, nO⟩
theorem Nb (W : World) (ok : Nat → Prop) (x : S56) {A1 : Option Addr} {c1 e base : Nat} {v2 : Value} (l1 : x.f1.length ≤ c1) (g1 : Kd.F Kd.string W ok A1 x.f1.length x.f1) (h : Kd.R Kd.string e W base ok v2 x.f2) : Kd.FK k56 W ok x [.string x.f0, .slice A1 x.f1.length c1, v2] := by
 obtain ⟨A, c, rfl⟩ := Kd.bN h
 exact KL W ok x l1 g1 (Kd.aT h).2.1 (Kd.R_F h)
theorem Y1 (W : World) (ok : Nat → Prop) (x : S56) {A2 : Option Addr} {c2 e base : Nat} {v1 : Value} (h : Kd.R Kd.string e W base ok v1 x.f1) (l2 : x.f2.length ≤ c2) (g2 : Kd.F Kd.string W ok A2 x.f2.length x.f2) : Kd.FK k56 W ok x [.string x.f0, v1, .slice A2 x.f2.length c2] := by
 obtain ⟨A, c, rfl⟩ := Kd.bN h
 exact KL W ok x (Kd.aT h).2.1 (Kd.R_F h) l2 g2
def eD.l0 : Nat → List ByteArray → Int → List ByteArray → Int → List ByteArray → List (S56) → List ByteArray → List (S56) → Option (List ByteArray × (List (S56)) × Int)
 | 0, _, _, _, _, _, _, _, _ => none
 | k + 1, e, a, g, b, j, c, h, d => if 0 ≤ a then (if a < (c.length : Int) then (if b < (((aC c a).f1).length : Int) then (if 0 ≤ b then ((dK.f k e (rdOf ByteArray.empty ((aC c a).f1) b)).bind fun m => (if m = true then (if g.length < 8796093022208 then (eD.l0 k e a (g ++ [rdOf ByteArray.empty ((aC c a).f1) b]) (wrap64 (b + 1)) j c h d) else (none)) else (eD.l0 k e a g (wrap64 (b + 1)) j c h d))) else (none)) else ((iA.f e).bind fun n => (if a < (d.length : Int) then ((some (d.set (a : Int).toNat (⟨(aC d a).f0, (aC d a).f1, n⟩ : S56) : List (S56))).bind fun i => ((dG.f k h (i.set (a : Int).toNat (⟨(aC i a).f0, g, (aC i a).f2⟩ : S56))).bind fun l => (some (l.1, l.2, 0)))) else (none)))) else (none)) else (none)
def eD.f (k : Nat) (aY : List ByteArray) (aI : List (S56)) (a1 : ByteArray) (l2 : List ByteArray) : Option (List ByteArray × (List (S56)) × Int) := (aH.f k aY aI).bind fun c => (if c = true then ((dG.f k aY aI).bind fun a => ((fT.f k aY aI a1).bind fun b => (if b < 0 then (some (a.1, a.2, 3)) else (if 0 ≤ b then (if b < (aI.length : Int) then ((dC.f k l2 ((aC aI b).f2)).bind fun d => (if d = true then (eD.l0 k l2 b (([] : List ByteArray)) 0 aY aI a.1 a.2) else (some (a.1, a.2, 2)))) else (none)) else (none))))) else (some (([] : List ByteArray), ([] : List (S56)), 1)))
def eD.T15 : Bool × List (List Nat × List Nat) := (true, [([], []), ([0], [0]), ([], []), ([], []), ([3], [3]), ([1, 2, 0, 1, 2, 3, 4], [1, 2]), ([5, 0, 1, 2, 3, 4], [5]), ([6, 4, 4, 0, 1, 2, 3, 4], [4, 6])])
def eD.B15 : List Nat := [0, 1, 0, 0, 8, 31, 63, 127]
theorem eD.YF : rtab .any (opsOf Try.f49 15) = eD.T15 := by kernel_rfl
theorem eD.P9 : kM eD.T15.2 eD.B15 = true := by kernel_rfl
theorem eD.calls (k : Nat) (eL : Option Addr) (eO : Nat) (aY : List ByteArray) (fJ : Option Addr) (eJ : Nat) (aI : List (S56)) (a1 : ByteArray) (A2 : Option Addr) (c2 : Nat) (l2 : List ByteArray) (r1 : List ByteArray) (r2 : List (S56)) (r3 : Int) (w : World) (iQ : Kd.C Kd.string w eL aY.length aY) (iO : aY.length ≤ eO) (iH : Kd.C k56 w fJ aI.length aI) (iP : aI.length ≤ eJ) (XW : Kd.C Kd.string w A2 l2.length l2) (XP : l2.length ≤ c2) (h : eD.f k aY aI a1 l2 = some (r1, r2, r3)) :
  Calls Try.prog 49 #[.agg #[.slice eL aY.length eO, .slice fJ aI.length eJ], .string a1, .slice A2 l2.length c2] w fun e w' => ∃ v0_ v1_ : Value, e = .returned (.tuple #[.agg #[v0_, v1_], .int .i64 r3]) ∧ Kd.R Kd.string 9 w' w.heap.size (fun k_ => (w.heap.size ≤ k_)) v0_ r1 ∧ Kd.N k56 56 w' w.heap.size (F10 w v0_) v1_ r2 ∧ Below w.heap.size w w' := by
 have hu31 := Try.underlying31
 obtain ⟨eQ, eP⟩ := mZ2 iQ iO
 obtain ⟨dO, fP⟩ := mZ2 iH iP
 obtain ⟨IX, D0⟩ := mZ2 XW XP
 clear iQ iO iH iP XW XP
 have HB := am (Below.refl w.heap.size w)
 unfold eD.f at h
 have H := h
 clear h
 obtain ⟨eK, A4, H⟩ := bd H
 refine tC H ?_ ?_ <;> clear H <;> intro c5 H <;> subst c5
 ·obtain ⟨⟨dI, e5⟩, A6, H⟩ := bd H
  dsimp only at H
  obtain ⟨dD, A7, H⟩ := bd H
  refine ic H ?_ ?_ <;> clear H <;> intro HY H
  ·obtain ⟨rfl, rfl, rfl⟩ := sZ3 H
   repeat clear H
   go_enter Try.func49, Try.ntmps49
   go_wp2_with (first | ((with_reducible refine jD (N := 3) rfl ?_); refine pI ?hg (N := 3) ?hd (cs := #[.slice eL aY.length eO, .slice fJ aI.length eJ]) (t := 31) ?hr ?_; (case hd => rfl); (case hg => rfl); (case hr => (try (obtain ⟨Az_, cz_, ez_⟩ := Kd.bN pA.1; subst ez_)); first | (go_simp; done) | (go_simp; rfl)); intro aJ hg w9 hbox hb; have a3 := am hbox; have gH := am (u0 : w.heap.size ≤ aJ); have iE := gH; replace HB := bS eI hb; clear hb hbox hg) | ((with_reducible refine jD (N := 6) rfl ?_); refine pI ?hg (N := 6) ?hd (cs := #[.slice none 0 0, .slice none 0 0]) (t := 31) ?hr ?_; (case hd => rfl); (case hg => rfl); (case hr => (try (obtain ⟨Az_, cz_, ez_⟩ := Kd.bN pA.1; subst ez_)); first | (go_simp; done) | (go_simp; rfl)); intro aX hg w10 hbox hb; have aK := am hbox; have mP := am (GG : w.heap.size ≤ aX); have nX := mP; replace HB := bS dS hb; have dP := nL aQ hg; have dQ := nG aQ hg; replace a3 := bB aQ hb; clear hb hbox hg; have Po := nZ1 dP dQ; have yf := cz2 a3) | ((with_reducible refine gC 22 ?_); refine cQ (some 13) Try.func22 (aH.calls k _ _ aY _ _ aI true _ (pB eQ) eP.1 (pB dO) fP.1 A4.out) ?_; rintro Pt hb; replace a3 := bB aQ hb; replace aK := bB cA hb; replace HB := bS nO hb; clear hb; have Z14 := cz2 a3) | ((with_reducible refine gC 89 ?_); refine cE (some 17) Try.func89 (dG.calls k _ _ aY _ _ aI dI e5 _ (pB eQ) eP.1 (pB dO) fP.1 A6.out) ?_; rintro e wo ⟨JI, FP, rfl, hD, rM, hb⟩; refine ⟨_, rfl, ?_⟩; have eG := am (Kd.cO (Kd.jK (M := fun k_ => (w.heap.size ≤ k_)) hD (aG nO) (fun k_ h_ => h_)) (aG nO)); have fQ := am (Kd.l9 (Kd.aU (ok' := F12 w JI aJ aX) (Kd.S_N (Kd.rJ rM)) (fun k_ hk_ => ⟨(Nat.le_trans (aG nO) hk_.2.1), hk_.1, (fB aQ k_ hk_.2.1), (fB cA k_ hk_.2.1)⟩)) (aG nO)); replace a3 := bB aQ hb; replace aK := bB cA hb; replace HB := bS nO hb; clear hb hD rM) | ((with_reducible refine jD (N := 8) rfl ?_); refine pI ?hg (N := 8) ?hd (cs := #[.slice none 0 0, .slice none 0 0]) (t := 31) ?hr ?_; (case hd => rfl); (case hg => rfl); (case hr => (try (obtain ⟨Az_, cz_, ez_⟩ := Kd.bN pA.1; subst ez_)); first | (go_simp; done) | (go_simp; rfl)); intro cC hg w16 hbox hb; replace eG := RB tG hb; replace fQ := am (Kd.iI (Kd.pX wY cC (Nat.le_of_eq hg.symm)) hb); have bU := am hbox; have FS := am (Y7 : w.heap.size ≤ cC); have I5 := FS; replace HB := bS nO hb; have gI := nL aQ hg; have hZ := nG aQ hg; replace a3 := bB aQ hb; have gZ := nL cA hg; have j9 := nG cA hg; replace aK := bB cA hb; clear hb hbox hg; obtain ⟨QG, lA, Lx⟩ := Kd.bN eG.1; subst Lx; have yg := nZ2 hZ gI j9 gZ; have Z20 := cz2 bU; obtain ⟨Pw, Rp, Rw⟩ := Kd.iJ fQ.1; subst Rw; have Z22 := cz2 a3) | ((with_reducible refine gC 82 ?_); refine cQ (some 20) Try.func82 (fT.calls k _ _ aY _ _ aI a1 dD _ (Kd.bK eQ.1 gG) eP.1 (Kd.bK dO.1 gG) fP.1 A7.out) ?_; rintro SZ hb; replace eG := am (Kd.jY (by refine rR ?_; exact (Kd.aM (fR (fR (tR eG bU))) (fun _ h_ => h_.1))) hb); replace fQ := am (Kd.iI (by refine rN ?_; exact (Kd.aU (fN (fN (Kd.aU fQ.1 (fun k_ hk => (⟨hk, hk.2⟩ : _ ∧ k_ ≠ cC))))) (fun _ h_ => h_.1))) hb); replace a3 := am (dL (g := aJ) (o := .cells #[.slice eL aY.length eO, .slice fJ aI.length eJ] 31 (0, 0)) gy hb); replace aK := am (dL (g := aX) (o := .cells #[.slice none 0 0, .slice none 0 0] 31 (0, 0)) gz hb); replace bU := am (dL (g := cC) (o := .cells #[.slice QG dI.length lA, .slice Pw e5.length Rp] 31 (0, 0)) (qP bU) hb); replace HB := bS gG hb; clear hb; have Z24 := cz2 bU; have Z25 := cz2 aK))
   refine cT aX 31 #[.slice QG dI.length lA, .slice Pw e5.length Rp] (qP aK) Try.underlying31 ?_
   exact ⟨_, _, eR, mR eG aK, by refine rN ?_; exact Kd.aU (fN (fN (Kd.aU fQ.1 (fun k_ hk => (⟨hk, hk.1.2.2.2⟩ : _ ∧ k_ ≠ aX))))) (fun _ hk => ⟨hk.1.1.1, hk.1.1.2.1⟩), gG⟩
  obtain ⟨S1, H⟩ := cN H
  obtain ⟨XA, H⟩ := cN H
  obtain ⟨DS, Xx, H⟩ := bd H
  refine tC H ?_ ?_ <;> clear H <;> intro bc H <;> subst bc
  ·obtain ⟨xb, hy114⟩ : ∃ y_ : List ByteArray, y_ = (([] : List ByteArray)) := ⟨_, rfl⟩
   replace H : (eD.l0 k l2 dD xb 0 aY aI dI e5) = some (r1, r2, r3) := by first | (rw [hy114]; with_reducible exact H) | (have H2_ := (Option.bind_some _ _).symm.trans H; rw [hy114]; with_reducible exact H2_) | (have H2_ := (Option.bind_some _ _).symm.trans H; with_reducible exact H2_) | with_reducible exact H | (rw [hy114]; exact H) | exact H
   have Vh := am hy114
   clear hy114
   have H' := am H
   repeat clear H
   go_enter Try.func49, Try.ntmps49
   go_wp2_with (first | ((with_reducible refine jD (N := 3) rfl ?_); refine pI ?hg (N := 3) ?hd (cs := #[.slice eL aY.length eO, .slice fJ aI.length eJ]) (t := 31) ?hr ?_; (case hd => rfl); (case hg => rfl); (case hr => (try (obtain ⟨Az_, cz_, ez_⟩ := Kd.bN pA.1; subst ez_)); first | (go_simp; done) | (go_simp; rfl)); intro aJ hg wt hbox hb; have a3 := am hbox; have gH := am (u0 : w.heap.size ≤ aJ); have iE := gH; replace HB := bS eI hb; clear hb hbox hg) | ((with_reducible refine jD (N := 6) rfl ?_); refine pI ?hg (N := 6) ?hd (cs := #[.slice none 0 0, .slice none 0 0]) (t := 31) ?hr ?_; (case hd => rfl); (case hg => rfl); (case hr => (try (obtain ⟨Az_, cz_, ez_⟩ := Kd.bN pA.1; subst ez_)); first | (go_simp; done) | (go_simp; rfl)); intro aX hg w31 hbox hb; have aK := am hbox; have mP := am (GG : w.heap.size ≤ aX); have nX := mP; replace HB := bS dS hb; have dP := nL aQ hg; have dQ := nG aQ hg; replace a3 := bB aQ hb; clear hb hbox hg; have yi := nZ1 dP dQ; have yj := cz2 a3) | ((with_reducible refine gC 22 ?_); refine cQ (some 13) Try.func22 (aH.calls k _ _ aY _ _ aI true _ (pB eQ) eP.1 (pB dO) fP.1 A4.out) ?_; rintro ln hb; replace a3 := bB aQ hb; replace aK := bB cA hb; replace HB := bS nO hb; clear hb; have pv := cz2 a3) | ((with_reducible refine gC 89 ?_); refine cE (some 17) Try.func89 (dG.calls k _ _ aY _ _ aI dI e5 _ (pB eQ) eP.1 (pB dO) fP.1 A6.out) ?_; rintro e Ou ⟨JI, FP, rfl, hD, rM, hb⟩; refine ⟨_, rfl, ?_⟩; have eG := am (Kd.cO (Kd.jK (M := fun k_ => (w.heap.size ≤ k_)) hD (aG nO) (fun k_ h_ => h_)) (aG nO)); have fQ := am (Kd.l9 (Kd.aU (ok' := F12 w JI aJ aX) (Kd.S_N (Kd.rJ rM)) (fun k_ hk_ => ⟨(Nat.le_trans (aG nO) hk_.2.1), hk_.1, (fB aQ k_ hk_.2.1), (fB cA k_ hk_.2.1)⟩)) (aG nO)); replace a3 := bB aQ hb; replace aK := bB cA hb; replace HB := bS nO hb; clear hb hD rM) | ((with_reducible refine jD (N := 8) rfl ?_); refine pI ?hg (N := 8) ?hd (cs := #[.slice none 0 0, .slice none 0 0]) (t := 31) ?hr ?_; (case hd => rfl); (case hg => rfl); (case hr => (try (obtain ⟨Az_, cz_, ez_⟩ := Kd.bN pA.1; subst ez_)); first | (go_simp; done) | (go_simp; rfl)); intro cC hg Ov hbox hb; replace eG := RB tG hb; replace fQ := am (Kd.iI (Kd.pX wY cC (Nat.le_of_eq hg.symm)) hb); have bU := am hbox; have FS := am (Y7 : w.heap.size ≤ cC); have I5 := FS; replace HB := bS nO hb; have gI := nL aQ hg; have hZ := nG aQ hg; replace a3 := bB aQ hb; have gZ := nL cA hg; have j9 := nG cA hg; replace aK := bB cA hb; clear hb hbox hg; obtain ⟨xQ, xU, Ar⟩ := Kd.bN eG.1; subst Ar; have Z39 := nZ2 hZ gI j9 gZ; have Z41 := cz2 bU; obtain ⟨Fw, J6, Gm⟩ := Kd.iJ fQ.1; subst Gm; have yk := cz2 a3) | ((with_reducible refine gC 82 ?_); refine cQ (some 20) Try.func82 (fT.calls k _ _ aY _ _ aI a1 dD _ (Kd.bK eQ.1 gG) eP.1 (Kd.bK dO.1 gG) fP.1 A7.out) ?_; rintro lq hb; replace eG := am (Kd.jY (by refine rR ?_; exact (Kd.aM (fR (fR (tR eG bU))) (fun _ h_ => h_.1))) hb); replace fQ := am (Kd.iI (by refine rN ?_; exact (Kd.aU (fN (fN (Kd.aU fQ.1 (fun k_ hk => (⟨hk, hk.2⟩ : _ ∧ k_ ≠ cC))))) (fun _ h_ => h_.1))) hb); replace a3 := am (dL (g := aJ) (o := .cells #[.slice eL aY.length eO, .slice fJ aI.length eJ] 31 (0, 0)) gy hb); replace aK := am (dL (g := aX) (o := .cells #[.slice none 0 0, .slice none 0 0] 31 (0, 0)) gz hb); replace bU := am (dL (g := cC) (o := .cells #[.slice xQ dI.length xU, .slice Fw e5.length J6] 31 (0, 0)) (qP bU) hb); replace HB := bS gG hb; clear hb; have pw := cz2 a3; obtain ⟨yQ, YR, ZT, YS, ZU, Ak, H4, EZ, F0, O3, TQ, z4, BN, Nt, Ob⟩ := aT56 dO HB dD; cases Ak) | ((with_reducible refine gC 71 ?_); refine cQ (some 31) Try.func71 (dC.calls k _ _ l2 _ _ ((aC aI dD).f2) true _ (pB IX) D0.1 (pB z4) BN.1 Xx.out) ?_; rintro w' ⟨nd, rfl⟩) | ((with_reducible refine jD (N := 34) rfl ?_); refine Kd.Dl Kd.string _ 9 ?hg (N := 34) ?hd (xs := ([] : List ByteArray)) (inner := []) (ok := fun _ => True) (okp := fun _ => True) ?hr ?hp (fun _ hk => hk) trivial (Below.refl _ _) (Nat.le_refl _) (by simp) ?_; (case hd => rfl); (case hg => rfl); (case hr => (try (obtain ⟨Az_, cz_, ez_⟩ := Kd.bN pA.1; subst ez_)); first | (go_simp; done) | (go_simp; rfl)); (case hp => exact (Reps.none _ _)); intro aAC QF Av hb hg_ hnew_; clear hg_ hnew_; (first | rw [← Vh.out] at Av | (simp only [Int.reduceToNat] at Av; rw [← Vh.out] at Av)); replace fQ := am (Kd.kL wY (Kd.bL Av) hb); have Cl := am (Kd.cO (Kd.eF (Kd.jK (M := fun k_ => (w.heap.size ≤ k_)) Av (aG gG) (fun k_ h_ => h_)) (Kd.R_lt tG)) (aG gG)); replace eG := am (Kd.dJ tG (Kd.bL Av) hb); replace a3 := bB aQ hb; replace aK := bB cA hb; replace bU := bB jM hb; replace HB := bS gG hb; clear hb Av))
   go_loopg [10, 11] k (fun kq v10 v11 w' => ∃ (IU : List ByteArray) (qB : Int), v11 = .int .i64 qB ∧ aA (eD.l0 kq l2 dD IU qB aY aI dI e5 = some (r1, r2, r3)) ∧ aA (kq ≤ k) ∧ aA (Kd.R Kd.string 9 w' w.heap.size (F10 w (.slice xQ dI.length xU)) v10 IU) ∧ aA (Kd.R Kd.string 9 w' w.heap.size (F10 w v10) (.slice xQ dI.length xU) dI) ∧ aA (Kd.N k56 56 w' w.heap.size (F23 w v10 (.slice xQ dI.length xU) aJ aX cC) (.slice Fw e5.length J6) e5) ∧ aA (w'.heap[aJ]? = some (.cells #[(.slice eL aY.length eO), (.slice (some yQ) aI.length eJ)] 31 (0, 0))) ∧ aA (w'.heap[aX]? = some (.cells #[(.slice none 0 0), (.slice none 0 0)] 31 (0, 0))) ∧ aA (w'.heap[cC]? = some (.cells #[(.slice xQ dI.length xU), (.slice Fw e5.length J6)] 31 (0, 0))) ∧ aA (Below w.heap.size w w'))
   case atStart => exact ⟨(xb), (0), dH, H', ⟨Nat.le_refl _⟩, ⟨by refine rR ?_; exact Kd.aM Cl.1 (fun _ hk => ⟨hk.1.1, hk.2⟩)⟩, ⟨by refine rR ?_; exact Kd.aM eG.1 (fun _ hk => ⟨hk.1.1, hk.2⟩)⟩, ⟨by refine rN ?_; exact Kd.aU fQ.1 (fun _ hk => ⟨hk.1.1.1, ⟨hk.2, ⟨hk.1.1.2.1, ⟨hk.1.1.2.2.1, ⟨hk.1.1.2.2.2, hk.1.2⟩⟩⟩⟩⟩)⟩, ⟨rB a3.1⟩, ⟨rB aK.1⟩, ⟨rB bU.1⟩, ⟨gG⟩⟩
   clear H'
   try clear c2
   try clear c5
   try clear HY
   try clear S1
   try clear XA
   try clear bc
   try clear yj
   try clear pv
   try clear Z41
   try clear yk
   try clear pw
   try clear H4 EZ F0
   try clear Nt Ob
   obtain ⟨IU, qB, rfl, HA, HK1, pA, dA, bH, a3, aK, bU, HB⟩ := hrel
   cases gk with
   | zero => exact absurd HA.out (by simp [eD.l0])
   | succ k1 =>
    have H := HA.out
    clear HA
    simp only [eD.l0] at H
    obtain ⟨rc, H⟩ := cN H
    obtain ⟨XC, H⟩ := cN H
    refine ic H ?_ ?_ <;> clear H <;> intro We H
    ·obtain ⟨rg, H⟩ := cN H
     obtain ⟨eV, xi, H⟩ := bd H
     refine tC H ?_ ?_ <;> clear H <;> intro c53 H <;> subst c53
     ·obtain ⟨nn, H⟩ := cL H
      obtain ⟨BM, MR⟩ := yv (IU ++ [rdOf ByteArray.empty ((aC aI dD).f1) qB]); first | replace H := bW MR H | rw [← MR.1] at H
      have H' := am H
      repeat clear H
      have Z55 := nZ2 dP dQ gI hZ
      have Z57 := cz2 a3
      obtain ⟨X4, Hy, Ku, Hz, Kv, Lq, OK, KE, KF, Cp, Ch, Cq, Ci, vg, vm⟩ := aT56 dO HB dD
      obtain rfl : yQ = X4 := (by injection Lq)
      obtain ⟨Kk, Xs, ar, Xt, au, ch, Ss, VL, VM, TU, Ql, Qt, Qm, a9G, a9T⟩ := aT56 dO HB dD
      obtain rfl : yQ = Kk := (by injection ch)
      obtain ⟨ea_, ec_⟩ := eZ2 KE VL
      subst ea_
      subst ec_
      obtain ⟨ea_, ec_⟩ := eZ2 KF VM
      subst ea_
      subst ec_
      obtain ⟨qi, ci, Su, a9H, a9U⟩ := aS TU HB qB
      cases ci
      go_wp2_with (first | ((with_reducible refine gC 80 ?_); refine cQ (some 56) Try.func80 (dK.calls k1 _ _ l2 (rdOf ByteArray.empty ((aC aI dD).f1) qB) true _ (pB IX) D0.1 xi.out) ?_; rintro w' ⟨nd, rfl⟩; obtain ⟨qj, a3Q, a5Y, a3R, a5Z, a7J, a2X, Sv, Sw, Qu, xq, ye, xr, aNU, aNZ⟩ := aT56 dO HB dD; obtain rfl : yQ = qj := (by injection a7J); obtain ⟨ea_, ec_⟩ := eZ2 KE Sv; subst ea_; subst ec_; obtain ⟨ea_, ec_⟩ := eZ2 KF Sw; subst ea_; subst ec_; obtain ⟨P6, cj, KG, Nu, Oc⟩ := aS Qu HB qB; cases cj) | ((with_reducible refine pY (b := .append) (xs := #[.tmp 57, .tmp 67]) rfl ?_); at_builtin; refine Kd.zX Kd.string (w0 := w) w.heap.size rfl (.tmp 57) (.tmp 67) 23 9 (.string ⟨#[]⟩) 16 rfl Try.underlying23 jT rfl (by decide) (by omega) u10 IU (rdOf ByteArray.empty ((aC aI dD).f1) qB) [.string (rdOf ByteArray.empty ((aC aI dD).f1) qB)] (F10 w (.slice xQ dI.length xU)) (fun _ => False) rfl rfl ?aP (fun _ hk => hk.elim) ?aF ?aO ?aB ?aS ?aL ?_; (case aP => exact rfl); (case aB => exact gG); (case aF => exact (fun k_ hk => ⟨(Nat.le_trans (aG gG) hk), Kd.fresh' (Kd.R_lt lG) k_ hk⟩)); (case aO => exact (rR pA.1)); (case aS => exact (aG gG)); (case aL => have := nn.out; omega); intro Bn w58 ho hb hg hat; rw [← MR.out] at ho; replace dA := am (Kd.gW (ok := (fun k_ => (w.heap.size ≤ k_))) lG hg hat); replace bH := am (Kd.nT (ok := (F13 w (.slice xQ dI.length xU) aJ aX cC)) (by refine rN ?_; exact Kd.aU bH.1 (fun _ hk => ⟨⟨hk.1, ⟨hk.2.2.1, ⟨hk.2.2.2.1, ⟨hk.2.2.2.2.1, hk.2.2.2.2.2⟩⟩⟩⟩, hk.2.1⟩)) hg hat); replace a3 := gkR aQ hg pA a3; replace aK := gkR cA hg pA aK; replace bU := gkR jM hg pA bU; replace HB := am hb; have sW := am ho; clear pA; clear ho hb hg hat))
      go_roundg k1
      case measure => have := HK1.out; omega
      case rel => exact ⟨(BM), (wrap64 (qB + 1)), dH, H', ⟨by have := HK1.out; omega⟩, ⟨rR sW.1⟩, ⟨rR dA.1⟩, ⟨by refine rN ?_; exact Kd.aU bH.1 (fun _ hk => ⟨hk.1.1, ⟨hk.2, ⟨hk.1.2.1, ⟨hk.1.2.2.1, ⟨hk.1.2.2.2.1, hk.1.2.2.2.2⟩⟩⟩⟩⟩)⟩, ⟨rB a3.1⟩, ⟨rB aK.1⟩, ⟨rB bU.1⟩, ⟨gG⟩⟩
     ·have H' := am H
      repeat clear H
      have Z59 := nZ2 dP dQ gI hZ
      have Z61 := cz2 a3
      obtain ⟨X4, Hy, Ku, Hz, Kv, Lq, OK, KE, KF, Cp, Ch, Cq, Ci, vg, vm⟩ := aT56 dO HB dD
      obtain rfl : yQ = X4 := (by injection Lq)
      obtain ⟨Kk, Xs, ar, Xt, au, ch, Ss, VL, VM, TU, Ql, Qt, Qm, a9G, a9T⟩ := aT56 dO HB dD
      obtain rfl : yQ = Kk := (by injection ch)
      obtain ⟨ea_, ec_⟩ := eZ2 KE VL
      subst ea_
      subst ec_
      obtain ⟨ea_, ec_⟩ := eZ2 KF VM
      subst ea_
      subst ec_
      obtain ⟨qi, ci, Su, a9H, a9U⟩ := aS TU HB qB
      cases ci
      go_wp2_with (first | ((with_reducible refine gC 80 ?_); refine cQ (some 56) Try.func80 (dK.calls k1 _ _ l2 (rdOf ByteArray.empty ((aC aI dD).f1) qB) false _ (pB IX) D0.1 xi.out) ?_; rintro w' ⟨nd, rfl⟩))
      go_roundg k1
      case measure => have := HK1.out; omega
      case rel => exact ⟨(IU), (wrap64 (qB + 1)), dH, H', ⟨by have := HK1.out; omega⟩, ⟨rR pA.1⟩, ⟨rR dA.1⟩, ⟨rN bH.1⟩, ⟨rB a3.1⟩, ⟨rB aK.1⟩, ⟨rB bU.1⟩, ⟨gG⟩⟩
    ·obtain ⟨zI, A62, H⟩ := bd H
     obtain ⟨Wf, H⟩ := cN H
     obtain ⟨DW, G0, H⟩ := bY H
     obtain ⟨QE, X0⟩ := yv (DW.set (dD : Int).toNat (⟨(aC DW dD).f0, IU, (aC DW dD).f2⟩ : S56)); first | replace H := bW X0 H | rw [← X0.1] at H
     obtain ⟨⟨YE, QX⟩, A66, H⟩ := bd H
     dsimp only at H
     obtain ⟨rfl, rfl, rfl⟩ := sZ3 H
     repeat clear H
     have Z67 := nZ2 dP dQ gI hZ
     have Z69 := cz2 a3
     obtain ⟨X4, Hy, Ku, Hz, Kv, Lq, OK, KE, KF, Cp, Ch, Cq, Ci, vg, vm⟩ := aT56 dO HB dD
     obtain rfl : yQ = X4 := (by injection Lq)
     try go_wp2
     replace pA := RD pA
     replace dA := RD dA
     replace bH := ND bH
     replace a3 := BD a3
     replace aK := BD aK
     replace bU := BD bU
     replace HB := am (aV HB.1)
     refine sT (S := fun w' => w'.cell? ⟨cC, 0, none⟩ = some (.slice xQ dI.length xU) ∧ w'.cell? ⟨cC, 1, none⟩ = some (.slice Fw e5.length J6)) [7] 8 ⟨⟨(bF bU.1 0).trans rfl, (bF bU.1 1).trans rfl⟩⟩ (fun hHeld => ?_)
     refine dZ eD.YF eD.P9 (fun HT_ HW_ => ?_)
     generalize wr.drew = w70 at pA dA bH a3 aK bU HB hHeld ⊢
     refine pU3 0 2 3 ?_
     refine tK2 1 (some 70) ?_
     refine oN 4 (some 73) fun K hK => ?_
     refine gE Try.func93 (iA.calls _ _ l2 zI _ (pB IX) D0.1 A62.out) ?_
     rintro e Ty ⟨LA, rfl, hD, hb⟩
     refine ⟨_, rfl, ?_⟩
     replace bH := am (Kd.kL sO (Kd.bL hD) hb)
     have OY := am (Kd.cO (Kd.eF (Kd.eF (Kd.jK (M := fun k_ => (w.heap.size ≤ k_)) hD (aG gG) (fun k_ h_ => h_)) (Kd.R_lt (rR pA.1))) (Kd.R_lt lG)) (aG gG))
     replace pA := am (Kd.dJ (rR pA.1) (Kd.bL hD) hb)
     replace dA := am (Kd.dJ lG (Kd.bL hD) hb)
     replace a3 := bB aQ hb
     replace aK := bB cA hb
     replace bU := bB jM hb
     replace HB := bS gG hb
     clear hb hD
     have gt : 0 ≤ (dD : Int) := oT
     have ie : (dD : Int) < ((e5.length : Int) : Int) := oT
     obtain ⟨r6, a6U, Lz, Mf, gl64, cl64, HG64⟩ := Kd.ZI bH.1 (by omega)
     (first | cases Lz | (injection Lz with ea_ en_ ec_; (first | subst ea_ | (injection ea_ with ea_; subst ea_)); subst ec_; clear en_))
     have GB64 := am Mf
     have GG64 := am HG64
     clear Mf gl64 HG64
     obtain ⟨ce64, hcl64, hM64, hcc64, hfr64⟩ := Kd.IZ bH.1 z56 (dD : Int) gt ie
     obtain ⟨ua64_1, uc64_1, ua64_2, uc64_2, rfl, aA3, a8I, aA4, a8J⟩ := qV hM64
     have fe : World.cell? _ ⟨r6, (dD : Int).toNat * 3, none⟩ = some (.string ((aC e5 dD).f0)) := hcc64 0 _ rfl
     have a9C : World.cell? _ ⟨r6, (dD : Int).toNat * 3 + 1, none⟩ = some (.slice ua64_1 ((aC e5 dD).f1).length uc64_1) := hcc64 1 _ rfl
     have a9D : World.cell? _ ⟨r6, (dD : Int).toNat * 3 + 2, none⟩ = some (.slice ua64_2 ((aC e5 dD).f2).length uc64_2) := hcc64 2 _ rfl
     have hf64_0 : World.frozen? _ ⟨r6, (dD : Int).toNat * 3, none⟩ = false := hfr64 0
     have hf64_1 : World.frozen? _ ⟨r6, (dD : Int).toNat * 3 + 1, none⟩ = false := hfr64 1
     have hf64_2 : World.frozen? _ ⟨r6, (dD : Int).toNat * 3 + 2, none⟩ = false := hfr64 2
     clear hcl64 hcc64 hfr64 hM64
     replace gt := eq_true gt
     replace ie := eq_true ie
     have HX72 := am (show Kd.N k56 56 _ w.heap.size (F33 w u10 (.slice xQ dI.length xU) LA aJ aX cC) (.slice (some ⟨r6, 0, none⟩) e5.length J6) e5 from (Kd.aU (bH.1) (fun k_ hk => ⟨hk.1.1, ⟨hk.1.2.1, ⟨hk.1.2.2.1, ⟨hk.2, ⟨hk.1.2.2.2.1, ⟨hk.1.2.2.2.2.1, hk.1.2.2.2.2.2⟩⟩⟩⟩⟩⟩)))
     replace HX72 := am (show Kd.N k56 56 _ w.heap.size (F23 w u10 (.slice xQ dI.length xU) aJ aX cC) (.slice (some ⟨r6, 0, none⟩) e5.length J6) e5 from Kd.aU HX72.out (fun k_ hk => ⟨hk.1, ⟨hk.2.1, ⟨hk.2.2.1, ⟨hk.2.2.2.2.1, ⟨hk.2.2.2.2.2.1, hk.2.2.2.2.2.2⟩⟩⟩⟩⟩))
     obtain ⟨ce72, hcl72, hM72, hcc72, hfr72⟩ := Kd.IZ HX72.out z56 (dD : Int) (oT) (by have h_ : (dD : Int) < ((e5.length : Int) : Int) := oT; first | exact h_ | (have e_ := (Kd.cB bH.1).1; omega) | simpa using h_)
     obtain ⟨ua72_1, uc72_1, ua72_2, uc72_2, rfl, iz, ek, aA5, a8K⟩ := qV hM72
     have HP72 := (Kd.Jm HX72.out (dD : Int) (oT) (by have h_ : (dD : Int) < ((e5.length : Int) : Int) := oT; first | exact h_ | (have e_ := (Kd.cB bH.1).1; omega) | simpa using h_) (seg := [LA]) (j := 2) hcl72 hcc72 (show 3 ≤ 3 from by decide) (x' := (⟨(aC e5 dD).f0, (aC e5 dD).f1, zI⟩ : S56)) (Nb _ _ (⟨(aC e5 dD).f0, (aC e5 dD).f1, zI⟩ : S56) iz ek (Kd.aM (ok' := (fun k_ => ((F23 w u10 (.slice xQ dI.length xU) aJ aX cC)) k_ ∧ k_ ≠ r6)) (Kd.fK (Kd.fK (Kd.fK (Kd.nA (OY.1) (Kd.iV bH.1) (by decide)) a3.1 (by decide)) aK.1 (by decide)) bU.1 (by decide)) (fun k_ hk => ⟨⟨hk.1.1.1.1.1.1.1, ⟨hk.1.1.1.1.1.2, ⟨hk.1.1.1.1.2, ⟨hk.1.1.2, ⟨hk.1.2, hk.2⟩⟩⟩⟩⟩, fun e_ => (hk.1.1.1.2) (by rw [e_]; rfl)⟩))) (fun _ hk => hk)).1
     rw [← G0.out] at HP72
     have HQ72 := am HP72
     clear hcl72 hcc72 hfr72 hM72 HP72
     refine hK.out _ _ ⟨(bF bU.1 0).trans rfl, (bF bU.1 1).trans rfl⟩ (fun hHeld => ?_)
     clear hK K
     refine nM ?_
     refine pU2 5 6 ?_
     refine lN 7 none fun K hK => ?_
     refine wP (w1 := (Ty.setCell ⟨r6, (dD : Int).toNat * 3 + 2, none⟩ (LA))) (by rfl) rfl ?_ ?_
     skip
     ·obtain ⟨Az_, cz_, ez_⟩ := Kd.bN OY.1
      subst ez_
      go_simp
      (try rfl)
     refine hK.out _ _ ?_
     clear hK K
     refine dN ?_
     have n0_ : aA (Kd.R Kd.string 9 (Ty.setCell ⟨r6, (dD : Int).toNat * 3 + 2, none⟩ (LA)) w.heap.size (F10 w (.slice xQ dI.length xU)) u10 IU) := ⟨by refine rR ?_; exact Kd.aM (Kd.qO (p := ⟨r6, (dD : Int).toNat * 3 + 2, none⟩) (tR pA GG64) (fun _ hk => hk.2) (LA)) (fun _ hk => ⟨hk.1.1.1, hk.1.1.2⟩)⟩
     have n1_ : aA (Kd.R Kd.string 9 (Ty.setCell ⟨r6, (dD : Int).toNat * 3 + 2, none⟩ (LA)) w.heap.size (F10 w u10) (.slice xQ dI.length xU) dI) := ⟨by refine rR ?_; exact Kd.aM (Kd.qO (p := ⟨r6, (dD : Int).toNat * 3 + 2, none⟩) (tR dA GG64) (fun _ hk => hk.2) (LA)) (fun _ hk => ⟨hk.1.1.1, hk.1.1.2⟩)⟩
     have n2_ : aA (Kd.N k56 56 (Ty.setCell ⟨r6, (dD : Int).toNat * 3 + 2, none⟩ (LA)) w.heap.size (F23 w u10 (.slice xQ dI.length xU) aJ aX cC) (.slice (some ⟨r6, 0, none⟩) e5.length J6) DW) := ⟨rN HQ72.out⟩
     have n3_ : aA ((Ty.setCell ⟨r6, (dD : Int).toNat * 3 + 2, none⟩ (LA)).heap[aJ]? = some (.cells #[.slice eL aY.length eO, .slice (some yQ) aI.length eJ] 31 (0, 0))) := ⟨by refine rB ?_; refine dY ?_ (by have h_ := Kd.FW bH.1 (fun _ hk => by first | exact hk.2.2.2.1 | exact hk.2.2.2.1.1 | exact hk.1.2.2.2.1); intro e_; exact h_ (by rw [e_]; rfl)) _; refine rB ?_; exact a3.1⟩
     have n4_ : aA ((Ty.setCell ⟨r6, (dD : Int).toNat * 3 + 2, none⟩ (LA)).heap[aX]? = some (.cells #[.slice none 0 0, .slice none 0 0] 31 (0, 0))) := ⟨by refine rB ?_; refine dY ?_ (by have h_ := Kd.FW bH.1 (fun _ hk => by first | exact hk.2.2.2.2.1 | exact hk.2.2.2.2.1.1 | exact hk.1.2.2.2.2.1); intro e_; exact h_ (by rw [e_]; rfl)) _; refine rB ?_; exact aK.1⟩
     have n5_ : aA ((Ty.setCell ⟨r6, (dD : Int).toNat * 3 + 2, none⟩ (LA)).heap[cC]? = some (.cells #[.slice xQ dI.length xU, .slice (some ⟨r6, 0, none⟩) e5.length J6] 31 (0, 0))) := ⟨by refine rB ?_; refine dY ?_ (by have h_ := Kd.FW bH.1 (fun _ hk => by first | exact hk.2.2.2.2.2 | exact hk.2.2.2.2.2.1 | exact hk.1.2.2.2.2.2); intro e_; exact h_ (by rw [e_]; rfl)) _; refine rB ?_; exact bU.1⟩
     have n6_ : aA (Below w.heap.size w (Ty.setCell ⟨r6, (dD : Int).toNat * 3 + 2, none⟩ (LA))) := ⟨by repeat (first | (with_reducible first | exact HB.1 | apply cZ | apply bR | apply aV | refine bI ?_ GB64.out | refine bI ?_ iE.1 | refine bI ?_ nX.1 | refine bI ?_ I5.1) | exact HB.1)⟩
     (try clear pA)
     (try clear dA)
     (try clear bH)
     (try clear a3)
     (try clear aK)
     (try clear bU)
     (try clear HB)
     generalize (Ty.setCell ⟨r6, (dD : Int).toNat * 3 + 2, none⟩ (LA)) = w73 at n0_ n1_ n2_ n3_ n4_ n5_ n6_ ⊢
     have pA := n0_
     have dA := n1_
     have bH := n2_
     have a3 := n3_
     have aK := n4_
     have bU := n5_
     have HB := n6_
     clear n0_ n1_ n2_ n3_ n4_ n5_ n6_
     have Z74 := nZ1 j9 gZ
     have Z75 := cz2 bU
     have p65 : 0 ≤ (dD : Int) := oT
     have q65 : (dD : Int) < ((e5.length : Int) : Int) := oT
     replace p65 := eq_true p65
     replace q65 := eq_true q65
     have HX76 := am (show Kd.N k56 56 w73 w.heap.size (F13 w (.slice xQ dI.length xU) aJ aX cC) (.slice (some ⟨r6, 0, none⟩) e5.length J6) DW from (by refine rN ?_; exact Kd.aU bH.1 (fun _ hk => ⟨hk.1, ⟨hk.2.2.1, ⟨hk.2.2.2.1, ⟨hk.2.2.2.2.1, hk.2.2.2.2.2⟩⟩⟩⟩)))
     obtain ⟨ce76, hcl76, hM76, hcc76, hfr76⟩ := Kd.IZ HX76.out z56 (dD : Int) (oT) (by have h_ : (dD : Int) < ((e5.length : Int) : Int) := oT; first | exact h_ | (have e_ := (Kd.cB bH.1).1; omega) | simpa using h_)
     obtain ⟨ua76_1, uc76_1, ua76_2, uc76_2, rfl, aA6, a8L, ja, em⟩ := qV hM76
     have HP76 := Kd.Jm HX76.out (dD : Int) (oT) (by have h_ : (dD : Int) < ((e5.length : Int) : Int) := oT; first | exact h_ | (have e_ := (Kd.cB bH.1).1; omega) | simpa using h_) (seg := [u10]) (j := 1) hcl76 hcc76 (show 2 ≤ 3 from by decide) (x' := (⟨(aC DW dD).f0, IU, (aC DW dD).f2⟩ : S56)) (Y1 _ _ (⟨(aC DW dD).f0, IU, (aC DW dD).f2⟩ : S56) (Kd.aM (ok' := (fun k_ => ((F13 w (.slice xQ dI.length xU) aJ aX cC)) k_ ∧ k_ ≠ r6)) (Kd.fK (Kd.fK (Kd.fK (Kd.nA (pA.1) (Kd.iV bH.1) (by decide)) a3.1 (by decide)) aK.1 (by decide)) bU.1 (by decide)) (fun k_ hk => ⟨⟨hk.1.1.1.1.1, ⟨hk.1.1.1.1.2, ⟨hk.1.1.2, ⟨hk.1.2, hk.2⟩⟩⟩⟩, fun e_ => (hk.1.1.1.2) (by rw [e_]; rfl)⟩)) ja em) (fun _ hk => hk)
     have fg := hcc76 1 _ rfl
     (try simp only [show (k56).sz = 3 from rfl, Nat.mul_one, Nat.add_zero] at fg)
     have hf76_1 := hfr76 1
     (try simp only [show (k56).sz = 3 from rfl, Nat.mul_one, Nat.add_zero] at hf76_1)
     clear hcl76 hcc76 hfr76 hM76
     try go_wp2_with (first | ((with_reducible refine PT (t := 23) (p := 81) rfl ?_); refine NN (t := 23) (p := 81) (v := ?vo_w77) (w1 := (w73.setCell ⟨r6, (dD : Int).toNat * 3 + 1, none⟩ (u10))) ?hg ?ho ?hn ?hr ?_; (case ho => rfl); (case hg => rfl); (case hn => rfl); (case hr => (try (obtain ⟨Az_, cz_, ez_⟩ := Kd.bN pA.1; subst ez_)); first | (go_simp; done) | (go_simp; rfl)); intro w77 hw; have hg : w73.grownBy w77 (some r6) := (by rw [hw]; exact HP76.2); have hp_ : Kd.N k56 56 w77 w.heap.size (F13 w (.slice xQ dI.length xU) aJ aX cC) (.slice (some ⟨r6, 0, none⟩) e5.length J6) QE := (by rw [hw, X0.out]; exact HP76.1); clear HP76; replace dA := am (Kd.rH (v := (.slice (some ⟨r6, 0, none⟩) e5.length J6)) lG (Kd.iV bH.1) (by decide) hg); replace a3 := gkN aQ hg bH a3; replace aK := gkN cA hg bH aK; replace bU := gkN jM hg bH bU; replace bH := am hp_; replace HB := am (by rw [hw]; exact bI (HB.1) GB64.out : Below w.heap.size w w77); clear pA; clear hg hw hp_; have Z78 := cz2 bU) | ((with_reducible refine mU (f := 89) rfl ?_); refine wE (some 83) rfl rfl Try.func89 (by kernel_rfl) rfl #[.agg #[.slice xQ dI.length xU, .slice (some ⟨r6, 0, none⟩) QE.length J6]] rfl (by (try simp only [List.map_toArray, List.map_cons, List.map_nil]); first | done | (rw [show QE.length = e5.length from (Kd.cB bH.1).1.symm] <;> rfl) | rfl | (simp only [List.length_drop, List.length_take]; rfl)) ?_; (with_reducible refine (dG.calls k1 _ _ dI _ _ QE YE QX _ ?side1 ?side2 ?side3 ?side4 A66.out).mono ?_); (case side1 => exact pC (Kd.aT dA.1).2.2); (case side2 => exact (Kd.aT dA.1).2.1); (case side3 => exact pC (Kd.cB bH.1).2.2); (case side4 => rw [show QE.length = e5.length from (Kd.cB bH.1).1.symm]; exact (Kd.cB bH.1).2.1); rintro e w79 ⟨jg, aAF, rfl, hD, rM, hb⟩; refine ⟨_, rfl, ?_⟩; have vY := am (Kd.cO (Kd.eF (Kd.jK (M := fun k_ => (w.heap.size ≤ k_)) hD (aG gG) (fun k_ h_ => h_)) (Kd.R_lt lG)) (aG gG)); have vZ := am (Kd.l9 (Kd.aU (ok' := F33 w jg (.slice xQ dI.length xU) (.slice (some ⟨r6, 0, none⟩) e5.length J6) aJ aX cC) (Kd.S_N (Kd.rJ rM)) (fun k_ hk_ => ⟨(Nat.le_trans (aG gG) hk_.2.1), hk_.1, (Kd.fresh' (Kd.R_lt lG) k_ hk_.2.1), (Kd.fresh' (Kd.N_lt sO) k_ hk_.2.1), (fB aQ k_ hk_.2.1), (fB cA k_ hk_.2.1), (fB jM k_ hk_.2.1)⟩)) (aG gG)); replace dA := am (Kd.dJ lG (Kd.bL hD) hb); replace bH := am (Kd.aU (Kd.nD (Kd.nD (Kd.FY sO hb) (Kd.bL hD)) yV) (fun _ h_ => h_.1)); replace a3 := bB aQ hb; replace aK := bB cA hb; replace bU := bB jM hb; replace HB := bS gG hb; clear hb hD rM; obtain ⟨a4T, a7A, a8C⟩ := Kd.bN vY.1; subst a8C; have Z81 := cz2 aK; obtain ⟨a4W, a7D, a8D⟩ := Kd.iJ vZ.1; subst a8D))
     refine cT aX 31 #[.slice a4T YE.length a7A, .slice a4W QX.length a7D] (qP aK) Try.underlying31 ?_
     exact ⟨_, _, eR, mR vY aK, by refine rN ?_; exact Kd.aU (fN (fN (Kd.aU vZ.1 (fun k_ hk => (⟨hk, hk.2.2.2.2.2.1⟩ : _ ∧ k_ ≠ aX))))) (fun _ hk => ⟨hk.1.1, hk.1.2.1⟩), gG⟩
  obtain ⟨rfl, rfl, rfl⟩ := sZ3 H
  repeat clear H
  go_enter Try.func49, Try.ntmps49
  go_wp2_with (first | ((with_reducible refine jD (N := 3) rfl ?_); refine pI ?hg (N := 3) ?hd (cs := #[.slice eL aY.length eO, .slice fJ aI.length eJ]) (t := 31) ?hr ?_; (case hd => rfl); (case hg => rfl); (case hr => (try (obtain ⟨Az_, cz_, ez_⟩ := Kd.bN pA.1; subst ez_)); first | (go_simp; done) | (go_simp; rfl)); intro aJ hg wx hbox hb; have a3 := am hbox; have gH := am (u0 : w.heap.size ≤ aJ); have iE := gH; replace HB := bS eI hb; clear hb hbox hg) | ((with_reducible refine jD (N := 6) rfl ?_); refine pI ?hg (N := 6) ?hd (cs := #[.slice none 0 0, .slice none 0 0]) (t := 31) ?hr ?_; (case hd => rfl); (case hg => rfl); (case hr => (try (obtain ⟨Az_, cz_, ez_⟩ := Kd.bN pA.1; subst ez_)); first | (go_simp; done) | (go_simp; rfl)); intro aX hg Tz hbox hb; have aK := am hbox; have mP := am (GG : w.heap.size ≤ aX); have nX := mP; replace HB := bS dS hb; have dP := nL aQ hg; have dQ := nG aQ hg; replace a3 := bB aQ hb; clear hb hbox hg; have Z85 := nZ1 dP dQ; have Z86 := cz2 a3) | ((with_reducible refine gC 22 ?_); refine cQ (some 13) Try.func22 (aH.calls k _ _ aY _ _ aI true _ (pB eQ) eP.1 (pB dO) fP.1 A4.out) ?_; rintro w87 hb; replace a3 := bB aQ hb; replace aK := bB cA hb; replace HB := bS nO hb; clear hb; have Z88 := cz2 a3) | ((with_reducible refine gC 89 ?_); refine cE (some 17) Try.func89 (dG.calls k _ _ aY _ _ aI dI e5 _ (pB eQ) eP.1 (pB dO) fP.1 A6.out) ?_; rintro e Ox ⟨JI, FP, rfl, hD, rM, hb⟩; refine ⟨_, rfl, ?_⟩; have eG := am (Kd.cO (Kd.jK (M := fun k_ => (w.heap.size ≤ k_)) hD (aG nO) (fun k_ h_ => h_)) (aG nO)); have fQ := am (Kd.l9 (Kd.aU (ok' := F12 w JI aJ aX) (Kd.S_N (Kd.rJ rM)) (fun k_ hk_ => ⟨(Nat.le_trans (aG nO) hk_.2.1), hk_.1, (fB aQ k_ hk_.2.1), (fB cA k_ hk_.2.1)⟩)) (aG nO)); replace a3 := bB aQ hb; replace aK := bB cA hb; replace HB := bS nO hb; clear hb hD rM) | ((with_reducible refine jD (N := 8) rfl ?_); refine pI ?hg (N := 8) ?hd (cs := #[.slice none 0 0, .slice none 0 0]) (t := 31) ?hr ?_; (case hd => rfl); (case hg => rfl); (case hr => (try (obtain ⟨Az_, cz_, ez_⟩ := Kd.bN pA.1; subst ez_)); first | (go_simp; done) | (go_simp; rfl)); intro cC hg w90 hbox hb; replace eG := RB tG hb; replace fQ := am (Kd.iI (Kd.pX wY cC (Nat.le_of_eq hg.symm)) hb); have bU := am hbox; have FS := am (Y7 : w.heap.size ≤ cC); have I5 := FS; replace HB := bS nO hb; have gI := nL aQ hg; have hZ := nG aQ hg; replace a3 := bB aQ hb; have gZ := nL cA hg; have j9 := nG cA hg; replace aK := bB cA hb; clear hb hbox hg; obtain ⟨Z3, Ai, eh⟩ := Kd.bN eG.1; subst eh; have Z92 := nZ2 hZ gI j9 gZ; have Z94 := cz2 bU; obtain ⟨Qa, Rv, a8F⟩ := Kd.iJ fQ.1; subst a8F; have Z96 := cz2 a3) | ((with_reducible refine gC 82 ?_); refine cQ (some 20) Try.func82 (fT.calls k _ _ aY _ _ aI a1 dD _ (Kd.bK eQ.1 gG) eP.1 (Kd.bK dO.1 gG) fP.1 A7.out) ?_; rintro Ua hb; replace eG := am (Kd.jY (by refine rR ?_; exact (Kd.aM (fR (fR (tR eG bU))) (fun _ h_ => h_.1))) hb); replace fQ := am (Kd.iI (by refine rN ?_; exact (Kd.aU (fN (fN (Kd.aU fQ.1 (fun k_ hk => (⟨hk, hk.2⟩ : _ ∧ k_ ≠ cC))))) (fun _ h_ => h_.1))) hb); replace a3 := am (dL (g := aJ) (o := .cells #[.slice eL aY.length eO, .slice fJ aI.length eJ] 31 (0, 0)) gy hb); replace aK := am (dL (g := aX) (o := .cells #[.slice none 0 0, .slice none 0 0] 31 (0, 0)) gz hb); replace bU := am (dL (g := cC) (o := .cells #[.slice Z3 dI.length Ai, .slice Qa e5.length Rv] 31 (0, 0)) (qP bU) hb); replace HB := bS gG hb; clear hb; have Z98 := cz2 a3; obtain ⟨yQ, YR, ZT, YS, ZU, Ak, H4, EZ, F0, O3, TQ, z4, BN, Nt, Ob⟩ := aT56 dO HB dD; cases Ak) | ((with_reducible refine gC 71 ?_); refine cQ (some 31) Try.func71 (dC.calls k _ _ l2 _ _ ((aC aI dD).f2) false _ (pB IX) D0.1 (pB z4) BN.1 Xx.out) ?_; rintro w' ⟨nd, rfl⟩; (try (rw [ER Ua]; generalize hq_ : World.drewN Ua _ = Ua; have n0_ : aA (Kd.R Kd.string 9 Ua w.heap.size (fun k_ => (((w.heap.size ≤ k_)) ∧ True)) (.slice Z3 dI.length Ai) dI) := ⟨by rw [← hq_]; exact tG⟩; have n1_ : aA (Kd.N k56 56 Ua w.heap.size (fun k_ => ((((w.heap.size ≤ k_)) ∧ (some k_ ≠ (.slice Z3 dI.length Ai : Value).ownBlock ∧ (k_ ≠ aJ ∧ k_ ≠ aX))) ∧ k_ ≠ cC)) (.slice Qa e5.length Rv) e5) := ⟨by rw [← hq_]; exact wY⟩; have n2_ : aA (Ua.heap[aJ]? = some (.cells #[.slice eL aY.length eO, .slice (some yQ) aI.length eJ] 31 (0, 0))) := ⟨by rw [← hq_]; exact aQ⟩; have n3_ : aA (Ua.heap[aX]? = some (.cells #[.slice none 0 0, .slice none 0 0] 31 (0, 0))) := ⟨by rw [← hq_]; exact cA⟩; have n4_ : aA (Ua.heap[cC]? = some (.cells #[.slice Z3 dI.length Ai, .slice Qa e5.length Rv] 31 (0, 0))) := ⟨by rw [← hq_]; exact jM⟩; have n5_ : aA (Below w.heap.size w Ua) := ⟨by rw [← hq_]; exact gG⟩; clear eG fQ a3 aK bU HB hq_; have eG := n0_; have fQ := n1_; have a3 := n2_; have aK := n3_; have bU := n4_; have HB := n5_; clear n0_ n1_ n2_ n3_ n4_ n5_)); have Z99 := cz2 bU; have aLF := cz2 aK))
  refine cT aX 31 #[.slice Z3 dI.length Ai, .slice Qa e5.length Rv] (qP aK) Try.underlying31 ?_
  exact ⟨_, _, eR, mR eG aK, by refine rN ?_; exact Kd.aU (fN (fN (Kd.aU fQ.1 (fun k_ hk => (⟨hk, hk.1.2.2.2⟩ : _ ∧ k_ ≠ aX))))) (fun _ hk => ⟨hk.1.1.1, hk.1.1.2.1⟩), gG⟩
 obtain ⟨rfl, rfl, rfl⟩ := sZ3 H
 repeat clear H
 go_enter Try.func49, Try.ntmps49
 go_wp2_with (first | ((with_reducible refine jD (N := 3) rfl ?_); refine pI ?hg (N := 3) ?hd (cs := #[.slice eL aY.length eO, .slice fJ aI.length eJ]) (t := 31) ?hr ?_; (case hd => rfl); (case hg => rfl); (case hr => (try (obtain ⟨Az_, cz_, ez_⟩ := Kd.bN pA.1; subst ez_)); first | (go_simp; done) | (go_simp; rfl)); intro aJ hg aOU hbox hb; have a3 := am hbox; have gH := am (u0 : w.heap.size ≤ aJ); have iE := gH; replace HB := bS eI hb; clear hb hbox hg) | ((with_reducible refine jD (N := 6) rfl ?_); refine pI ?hg (N := 6) ?hd (cs := #[.slice none 0 0, .slice none 0 0]) (t := 31) ?hr ?_; (case hd => rfl); (case hg => rfl); (case hr => (try (obtain ⟨Az_, cz_, ez_⟩ := Kd.bN pA.1; subst ez_)); first | (go_simp; done) | (go_simp; rfl)); intro aX hg aOV hbox hb; have aK := am hbox; have mP := am (GG : w.heap.size ≤ aX); have nX := mP; replace HB := bS dS hb; have dP := nL aQ hg; have dQ := nG aQ hg; replace a3 := bB aQ hb; clear hb hbox hg; have a5G := nZ1 dP dQ; have a5H := cz2 a3) | ((with_reducible refine gC 22 ?_); refine cQ (some 13) Try.func22 (aH.calls k _ _ aY _ _ aI false _ (pB eQ) eP.1 (pB dO) fP.1 A4.out) ?_; rintro aOX hb; replace a3 := bB aQ hb; replace aK := bB cA hb; replace HB := bS nO hb; clear hb; have aLH := cz2 aK))
 refine cT aX 31 #[.slice none 0 0, .slice none 0 0] vi Try.underlying31 ?_
 exact ⟨_, _, eR, by first | exact Kd.vJ _ _ _ _ _ | exact Kd.zV _ _ _ _ _ | exact Kd.zZ _ _ _ _ _ | exact Kd.zW _ _ _ _ _ | exact Kd.zY _ _ _ _ _, by first | exact Kd.zY _ _ _ _ _ | exact Kd.zV _ _ _ _ _ | exact Kd.zZ _ _ _ _ _ | exact Kd.zW _ _ _ _ _ | exact Kd.vJ _ _ _ _ _, nO⟩
mutual
def dB.j0 : Nat → ByteArray → List ByteArray → Bool → List ByteArray → List (S56) → List ByteArray → List (S56) → Option (List ByteArray × (List (S56)) × Int)
 | 0, _, _, _, _, _, _, _ => none
 | k + 1, c, e, g, h, d, a, b => if g = true then (some (a, b, 2)) else ((fT.f k h d c).bind fun i => (if i ≥ 0 then (some (a, b, 3)) else (if (d.length : Int) ≥ 5 then (some (a, b, 4)) else (dB.l0 k c e 0 a b))))
def dB.l0 : Nat → ByteArray → List ByteArray → Int → List ByteArray → List (S56) → Option (List ByteArray × (List (S56)) × Int)
 | 0, _, _, _, _, _ => none
 | k + 1, c, d, a, e, b => if a < (b.length : Int) then (if 0 ≤ a then (if (Op.bytesLess (((aC b a).f0).toList) c.toList) = true then (dB.l0 k c d (wrap64 (a + 1)) e b) else ((some (([] : List (S56)) : List (S56))).bind fun g => (if a ≤ (b.length : Int) then ((some (b.take (a : Int).toNat : List (S56))).bind fun h => (if g.length + h.length < 2199023255552 then ((some (g ++ h : List (S56))).bind fun i => ((iA.f d).bind fun u => (if i.length < 2199023255552 then ((some (i ++ [(⟨c, ([] : List ByteArray), u⟩ : S56)] : List (S56))).bind fun j => ((some (b.drop (a : Int).toNat : List (S56))).bind fun l => (if j.length + l.length < 2199023255552 then ((dG.f k e (j ++ l)).bind fun m => (some (m.1, m.2, 0))) else (none)))) else (none)))) else (none))) else (none)))) else (none)) else ((some (([] : List (S56)) : List (S56))).bind fun n => (if 0 ≤ a then (if a ≤ (b.length : Int) then ((some (b.take (a : Int).toNat : List (S56))).bind fun o => (if n.length + o.length < 2199023255552 then ((some (n ++ o : List (S56))).bind fun p => ((iA.f d).bind fun v => (if p.length < 2199023255552 then ((some (p ++ [(⟨c, ([] : List ByteArray), v⟩ : S56)] : List (S56))).bind fun q => ((some (b.drop (a : Int).toNat : List (S56))).bind fun r => (if q.length + r.length < 2199023255552 then ((dG.f k e (q ++ r)).bind fun s => (some (s.1, s.2, 0))) else (none)))) else (none)))) else (none))) else (none)) else (none)))
end
def dB.f (k : Nat) (aY : List ByteArray) (aI : List (S56)) (a1 : ByteArray) (l2 : List ByteArray) : Option (List ByteArray × (List (S56)) × Int) := (aH.f k aY aI).bind fun b => (if b = true then ((dG.f k aY aI).bind fun a => ((d9.f k a1).bind fun c => (if c = true then ((dC.f k l2 aY).bind fun d => (dB.j0 k a1 l2 (!d) aY aI a.1 a.2)) else (dB.j0 k a1 l2 true aY aI a.1 a.2)))) else (some (([] : List ByteArray), ([] : List (S56)), 1)))
def dB.T13 : Bool × List (List Nat × List Nat) := (true, [([], []), ([], []), ([1], [1]), ([], []), ([2, 3], [2, 3]), ([0, 4], [0, 4]), ([], []), ([], []), ([7, 5], [7]), ([6, 8], [6, 8]), ([9], [9]), ([5, 10, 8], [5, 10]), ([], []), ([12], [12]), ([], []), ([13, 14], [13, 14]), ([11, 15, 11], [11, 15]), ([0, 1, 2, 3, 4, 5, 6, 7, 8, 9, 10, 11, 12, 13, 14, 15, 16], []), ([17, 16, 16, 0, 1, 2, 3, 4, 5, 6, 7, 8, 9, 10, 11, 12, 13, 14, 15, 16], [16, 17])])
def dB.B13 : List Nat := [0, 0, 2, 0, 14, 31, 0, 0, 191, 511, 1023, 2047, 0, 4096, 0, 28672, 65535, 131071, 262143]
theorem dB.SY : rtab .any (opsOf Try.f59 13) = dB.T13 := by kernel_rfl
theorem dB.LV : kM dB.T13.2 dB.B13 = true := by kernel_rfl
theorem dB.calls (k : Nat) (eL : Option Addr) (eO : Nat) (aY : List ByteArray) (fJ : Option Addr) (eJ : Nat) (aI : List (S56)) (a1 : ByteArray) (A2 : Option Addr) (c2 : Nat) (l2 : List ByteArray) (r1 : List ByteArray) (r2 : List (S56)) (r3 : Int) (w : World) (iQ : Kd.C Kd.string w eL aY.length aY) (iO : aY.length ≤ eO) (iH : Kd.C k56 w fJ aI.length aI) (iP : aI.length ≤ eJ) (XW : Kd.C Kd.string w A2 l2.length l2) (XP : l2.length ≤ c2) (h : dB.f k aY aI a1 l2 = some (r1, r2, r3)) :
  Calls Try.prog 59 #[.agg #[.slice eL aY.length eO, .slice fJ aI.length eJ], .string a1, .slice A2 l2.length c2] w fun e w' => ∃ v0_ v1_ : Value, e = .returned (.tuple #[.agg #[v0_, v1_], .int .i64 r3]) ∧ Kd.R Kd.string 9 w' w.heap.size (fun k_ => (w.heap.size ≤ k_)) v0_ r1 ∧ Kd.N k56 56 w' w.heap.size (F10 w v0_) v1_ r2 ∧ Below w.heap.size w w' := by
 have hu31 := Try.underlying31
 have hu56 := Try.underlying56
 obtain ⟨eQ, eP⟩ := mZ2 iQ iO
 obtain ⟨dO, fP⟩ := mZ2 iH iP
 obtain ⟨IX, D0⟩ := mZ2 XW XP
 clear iQ iO iH iP XW XP
 have HB := am (Below.refl w.heap.size w)
 unfold dB.f at h
 have H := h
 clear h
 obtain ⟨eK, A4, H⟩ := bd H
 refine tC H ?_ ?_ <;> clear H <;> intro c5 H <;> subst c5
 ·obtain ⟨⟨dI, e5⟩, A6, H⟩ := bd H
  dsimp only at H
  have HC7 := am H
  clear H
  go_enter Try.func59, Try.ntmps59
  go_upto_region 4 with (first | ((with_reducible refine gD 3 ?_); refine bX 3 #[.slice eL aY.length eO, .slice fJ aI.length eJ] 31 ?_; intro aJ hg w8 hbox hb; have a3 := am hbox; have gH := am (u0 : w.heap.size ≤ aJ); have iE := gH; replace HB := bS eI hb; clear hb hbox hg) | ((with_reducible refine gD 6 ?_); refine bX 6 #[.slice none 0 0, .slice none 0 0] 31 ?_; intro aX hg w9 hbox hb; have aK := am hbox; have mP := am (GG : w.heap.size ≤ aX); have nX := mP; replace HB := bS dS hb; have dP := nL aQ hg; have dQ := nG aQ hg; replace a3 := bB aQ hb; clear hb hbox hg; have Z10 := nZ1 dP dQ; have Po := cz2 a3) | ((with_reducible refine gC 22 ?_); refine cQ (some 11) Try.func22 (aH.calls k _ _ aY _ _ aI true _ (pB eQ) eP.1 (pB dO) fP.1 A4.out) ?_; rintro w12 hb; replace a3 := bB aQ hb; replace aK := bB cA hb; replace HB := bS nO hb; clear hb; have Ki := cz2 a3) | ((with_reducible refine gC 89 ?_); refine cE (some 15) Try.func89 (dG.calls k _ _ aY _ _ aI dI e5 _ (pB eQ) eP.1 (pB dO) fP.1 A6.out) ?_; rintro e wn ⟨JI, FP, rfl, hD, rM, hb⟩; refine ⟨_, rfl, ?_⟩; have eG := am (Kd.cO (Kd.jK (M := fun k_ => (w.heap.size ≤ k_)) hD (aG nO) (fun k_ h_ => h_)) (aG nO)); have fQ := am (Kd.l9 (Kd.aU (ok' := F12 w JI aJ aX) (Kd.S_N (Kd.rJ rM)) (fun k_ hk_ => ⟨(Nat.le_trans (aG nO) hk_.2.1), hk_.1, (fB aQ k_ hk_.2.1), (fB cA k_ hk_.2.1)⟩)) (aG nO)); replace a3 := bB aQ hb; replace aK := bB cA hb; replace HB := bS nO hb; clear hb hD rM) | ((with_reducible refine gD 8 ?_); refine bX 8 #[.slice none 0 0, .slice none 0 0] 31 ?_; intro cC hg wo hbox hb; replace eG := RB tG hb; replace fQ := am (Kd.iI (Kd.pX wY cC (Nat.le_of_eq hg.symm)) hb); have bU := am hbox; have FS := am (Y7 : w.heap.size ≤ cC); have I5 := FS; replace HB := bS nO hb; have gI := nL aQ hg; have hZ := nG aQ hg; replace a3 := bB aQ hb; have gZ := nL cA hg; have j9 := nG cA hg; replace aK := bB cA hb; clear hb hbox hg; obtain ⟨kN, kJ, a7Q⟩ := Kd.bN eG.1; subst a7Q; have Z17 := nZ2 hZ gI j9 gZ; have yh := cz2 bU; obtain ⟨xP, o6, An⟩ := Kd.iJ fQ.1; subst An))
  (try simp only [Act.put, List.setIfInBounds_toArray, List.set_cons_zero, List.set_cons_succ])
  go_cut [25] (fun v25 wc => ∃ (kq : Nat) (Pg : Bool), v25 = .bool Pg ∧ aA (dB.j0 kq a1 l2 Pg aY aI dI e5 = some (r1, r2, r3)) ∧ aA (kq ≤ k) ∧ aA (Kd.R Kd.string 9 wc w.heap.size (fun k_ => (w.heap.size ≤ k_)) (.slice kN dI.length kJ) dI) ∧ aA (Kd.N k56 56 wc w.heap.size (F13 w (.slice kN dI.length kJ) aJ aX cC) (.slice xP e5.length o6) e5) ∧ aA (wc.heap[aJ]? = some (.cells #[(.slice eL aY.length eO), (.slice fJ aI.length eJ)] 31 (0, 0))) ∧ aA (wc.heap[aX]? = some (.cells #[(.slice none 0 0), (.slice none 0 0)] 31 (0, 0))) ∧ aA (wc.heap[cC]? = some (.cells #[(.slice kN dI.length kJ), (.slice xP e5.length o6)] 31 (0, 0))) ∧ aA (Below w.heap.size w wc))
  case first =>
   have H := HC7.1
   clear HC7
   obtain ⟨dD, js, H⟩ := bd H
   refine tC H ?_ ?_ <;> clear H <;> intro c22 H <;> subst c22
   ·obtain ⟨l6, WP, H⟩ := bd H
    have H' := am H
    repeat clear H
    go_wp2_with (first | ((with_reducible refine gC 70 ?_); refine cQ (some 17) Try.func70 (d9.calls k a1 true _ js.out) ?_; rintro w' ⟨nd, rfl⟩; have Z24 := nZ2 dP dQ gI hZ; have Z26 := cz2 a3) | (go_at_call 71; refine cM (dC.calls k _ _ l2 _ _ aY l6 _ (Kd.bK IX.1 gG) D0.1 (Kd.bK eQ.1 gG) eP.1 WP.out) ?_; rintro w' ⟨nd, rfl⟩))
    go_meet
    exact ⟨_, (!l6), dH, H', ⟨by first | omega | exact Nat.le_refl _⟩, ⟨mR eG bU⟩, ⟨by refine rN ?_; exact Kd.aU (fN (fN (Kd.aU fQ.1 (fun k_ hk => (⟨hk, hk.2⟩ : _ ∧ k_ ≠ cC))))) (fun _ hk => ⟨hk.1.1.1, ⟨hk.1.1.2.1, ⟨hk.1.1.2.2.1, ⟨hk.1.1.2.2.2, hk.1.2⟩⟩⟩⟩)⟩, ⟨qF a3 gI⟩, ⟨qF aK gZ⟩, ⟨qP bU⟩, ⟨gG⟩⟩
   have H' := am H
   repeat clear H
   go_wp2_with (first | ((with_reducible refine gC 70 ?_); refine cQ (some 17) Try.func70 (d9.calls k a1 false _ js.out) ?_; rintro w' ⟨nd, rfl⟩))
   go_meet
   exact ⟨_, (true), dH, H', ⟨by first | omega | exact Nat.le_refl _⟩, ⟨mR eG bU⟩, ⟨by refine rN ?_; exact Kd.aU (fN (fN (Kd.aU fQ.1 (fun k_ hk => (⟨hk, hk.2⟩ : _ ∧ k_ ≠ cC))))) (fun _ hk => ⟨hk.1.1.1, ⟨hk.1.1.2.1, ⟨hk.1.1.2.2.1, ⟨hk.1.1.2.2.2, hk.1.2⟩⟩⟩⟩)⟩, ⟨qF a3 gI⟩, ⟨qF aK gZ⟩, ⟨qP bU⟩, ⟨gG⟩⟩
  clear HC7
  try clear c2
  try clear c5
  try clear Po
  try clear Ki
  try clear yh
  obtain ⟨kq, Pg, rfl, HA, HJ6, dA, bH, a3, aK, bU, HB⟩ := hcut
  cases kq with
  | zero => exact absurd HA.out (by simp [dB.j0])
  | succ kj6 =>
   have H := HA.out
   clear HA
   simp only [dB.j0] at H
   refine tC H ?_ ?_ <;> (repeat clear H) <;> intro c27 H <;> subst c27
   obtain ⟨rfl, rfl, rfl⟩ := sZ3 H
   repeat clear H
   have Z28 := nZ2 hZ gI j9 gZ
   have Z30 := cz2 bU
   have Z31 := nZ1 dQ dP
   have yi := cz2 aK
   rotate_left
   obtain ⟨DS, A33, H⟩ := bd H
   by_cases bf : DS ≥ 0
   rw [if_pos bf] at H
   have Wb : decide (0 ≤ DS) = true := decide_eq_true bf
   clear bf
   obtain ⟨rfl, rfl, rfl⟩ := sZ3 H
   repeat clear H
   have pv := nZ2 dP dQ gI hZ
   have Z37 := cz2 a3
   have oq := trivial
   rotate_left
   rw [if_neg bf] at H
   have Wb : decide (0 ≤ DS) = false := decide_eq_false bf
   clear bf
   by_cases Ro : (aI.length : Int) ≥ 5
   rw [if_pos Ro] at H
   have Le : decide (5 ≤ (aI.length : Int)) = true := decide_eq_true Ro
   have Wc : decide (5 ≤ aI.length) = true := decide_eq_true (by omega)
   clear Ro
   obtain ⟨rfl, rfl, rfl⟩ := sZ3 H
   repeat clear H
   have yk := nZ2 dP dQ gI hZ
   have pw := cz2 a3
   have ot := trivial
   rotate_left
   rw [if_neg Ro] at H
   have Le : decide (5 ≤ (aI.length : Int)) = false := decide_eq_false Ro
   have Wc : decide (5 ≤ aI.length) = false := decide_eq_false (by omega)
   clear Ro
   have H' := am H
   repeat clear H
   have Z51 := nZ2 dP dQ gI hZ
   have Z53 := cz2 a3
   have ou := trivial
   rotate_left
   all_goals
    go_wp2_with (first | ((with_reducible refine gC 82 ?_); revert oq; intro oq; refine cQ (some 29) Try.func82 (fT.calls kj6 _ _ aY _ _ aI a1 DS _ (pB eQ) eP.1 (pB dO) fP.1 A33.out) ?_; rintro aIU hb; replace dA := RB lG hb; replace bH := NE sO hb; replace a3 := bB aQ hb; replace aK := bB cA hb; replace bU := bB jM hb; replace HB := bS gG hb; clear hb; have aCO := nZ1 j9 gZ; have aCP := cz2 bU; have aCQ := cz2 aK) | ((with_reducible refine gC 82 ?_); revert ot; intro ot; refine cQ (some 29) Try.func82 (fT.calls kj6 _ _ aY _ _ aI a1 DS _ (pB eQ) eP.1 (pB dO) fP.1 A33.out) ?_; rintro aIV hb; replace dA := RB lG hb; replace bH := NE sO hb; replace a3 := bB aQ hb; replace aK := bB cA hb; replace bU := bB jM hb; replace HB := bS gG hb; clear hb; have aCR := cz2 a3; have aCS := nZ1 j9 gZ; have aCT := cz2 bU; have aCU := cz2 aK) | ((with_reducible refine gC 82 ?_); revert ou; intro ou; refine cQ (some 29) Try.func82 (fT.calls kj6 _ _ aY _ _ aI a1 DS _ (pB eQ) eP.1 (pB dO) fP.1 A33.out) ?_; rintro aIW hb; replace dA := RB lG hb; replace bH := NE sO hb; replace a3 := bB aQ hb; replace aK := bB cA hb; replace bU := bB jM hb; replace HB := bS gG hb; clear hb; have px := cz2 a3))
   ·refine cT aX 31 #[.slice kN dI.length kJ, .slice xP e5.length o6] (qP aK) Try.underlying31 ?_
    exact ⟨_, _, eR, mR dA aK, by refine rN ?_; exact Kd.aU (fN (fN (Kd.aU bH.1 (fun k_ hk => (⟨hk, hk.2.2.2.1⟩ : _ ∧ k_ ≠ aX))))) (fun _ hk => ⟨hk.1.1, hk.1.2.1⟩), gG⟩
   ·refine cT aX 31 #[.slice kN dI.length kJ, .slice xP e5.length o6] (qP aK) Try.underlying31 ?_
    exact ⟨_, _, eR, mR dA aK, by refine rN ?_; exact Kd.aU (fN (fN (Kd.aU bH.1 (fun k_ hk => (⟨hk, hk.2.2.2.1⟩ : _ ∧ k_ ≠ aX))))) (fun _ hk => ⟨hk.1.1, hk.1.2.1⟩), gG⟩
   ·refine cT aX 31 #[.slice kN dI.length kJ, .slice xP e5.length o6] (qP aK) Try.underlying31 ?_
    exact ⟨_, _, eR, mR dA aK, by refine rN ?_; exact Kd.aU (fN (fN (Kd.aU bH.1 (fun k_ hk => (⟨hk, hk.2.2.2.1⟩ : _ ∧ k_ ≠ aX))))) (fun _ hk => ⟨hk.1.1, hk.1.2.1⟩), gG⟩
   ·go_loopg [9] kj6 (fun kq v9 w' => ∃ (jX : Int), v9 = .int .i64 jX ∧ aA (dB.l0 kq a1 l2 jX dI e5 = some (r1, r2, r3)) ∧ aA (kq ≤ kj6) ∧ aA (Kd.R Kd.string 9 w' w.heap.size (fun k_ => (w.heap.size ≤ k_)) (.slice kN dI.length kJ) dI) ∧ aA (Kd.N k56 56 w' w.heap.size (F13 w (.slice kN dI.length kJ) aJ aX cC) (.slice xP e5.length o6) e5) ∧ aA (w'.heap[aJ]? = some (.cells #[(.slice eL aY.length eO), (.slice fJ aI.length eJ)] 31 (0, 0))) ∧ aA (w'.heap[aX]? = some (.cells #[(.slice none 0 0), (.slice none 0 0)] 31 (0, 0))) ∧ aA (w'.heap[cC]? = some (.cells #[(.slice kN dI.length kJ), (.slice xP e5.length o6)] 31 (0, 0))) ∧ aA (Below w.heap.size w w'))
    case atStart => exact ⟨(0), dH, H', ⟨Nat.le_refl _⟩, ⟨rR dA.1⟩, ⟨rN bH.1⟩, ⟨rB a3.1⟩, ⟨rB aK.1⟩, ⟨rB bU.1⟩, ⟨gG⟩⟩
    case round =>
     clear H'
     try clear c2
     try clear c5
     try clear c27
     try clear bf
     try clear Wb
     try clear Ro
     try clear Le
     try clear Wc
     try clear Po
     try clear Ki
     try clear yh
     try clear Z53
     try clear px
     obtain ⟨jX, rfl, HA, HK2, dA, bH, a3, aK, bU, HB⟩ := hrel
     cases gk with
     | zero => exact absurd HA.out (by simp [dB.l0])
     | succ k2 =>
      have H := HA.out
      clear HA
      simp only [dB.l0] at H
      refine ic H ?_ ?_ <;> clear H <;> intro ri H
      ·obtain ⟨XD, H⟩ := cN H
       refine tC H ?_ ?_ <;> clear H <;> intro rj H
       ·have H' := am H
        repeat clear H
        have Z59 := nZ2 hZ gI j9 gZ
        have Z61 := cz2 bU
        have VV : 0 ≤ (jX : Int) := oT
        have WB : jX < (e5.length : Int) := oT
        obtain ⟨uN, Xq, ap, Xr, aq, ce, Sn, VJ, VK, K8, K6, K9, K7⟩ := x9 (Kd.cB bH.1).2.2 jX VV WB
        cases ce
        obtain ⟨ce114, hce114, hMe114, hcc114⟩ := Kd.WZ bH.1 z56 jX VV (by first | exact WB | exact oT | (have e_ := (Kd.cB bH.1).1; omega))
        obtain ⟨ua114_1, uc114_1, ua114_2, uc114_2, rfl, FB, ES, FC, ET⟩ := qV hMe114
        have z6 := hcc114 1 _ rfl
        rw [mO _ _ 1 (by omega)] at z6
        replace z6 := Option.some.inj (z6.symm.trans VJ)
        injection z6 with hva_ hvn_ hvc_
        rw [hva_] at ES
        rw [hvc_] at FB
        have qH := am (show Kd.V Kd.string 9 _ w.heap.size _ _ ((aC e5 jX).f1) from Kd.V_mk FB ES)
        clear hva_ hvn_ hvc_ ES FB
        have z7 := hcc114 2 _ rfl
        rw [mO _ _ 2 (by omega)] at z7
        replace z7 := Option.some.inj (z7.symm.trans VK)
        injection z7 with hva_ hvn_ hvc_
        rw [hva_] at ET
        rw [hvc_] at FC
        have qI := am (show Kd.V Kd.string 9 _ w.heap.size _ _ ((aC e5 jX).f2) from Kd.V_mk FC ET)
        clear hva_ hvn_ hvc_ ET FC
        clear hcc114 hce114
        have EG := am K6
        have Qh := am K8
        clear K6 K8
        have EH := am K7
        have Qi := am K9
        clear K7 K9
        replace VV := eq_true VV
        replace WB := eq_true WB
        go_wp2
        go_roundg k2
        case measure => have := HJ6.out; have := HK2.out; omega
        case rel => exact ⟨(wrap64 (jX + 1)), dH, H', ⟨by have := HJ6.out; have := HK2.out; omega⟩, ⟨rR dA.1⟩, ⟨rN bH.1⟩, ⟨rB a3.1⟩, ⟨rB aK.1⟩, ⟨rB bU.1⟩, ⟨gG⟩⟩
       ·obtain ⟨JJ, hy115⟩ : ∃ y_ : List (S56), y_ = (([] : List (S56))) := ⟨_, rfl⟩
        replace H : (if jX ≤ (e5.length : Int) then ((some (e5.take (jX : Int).toNat : List (S56))).bind fun YK => (if JJ.length + YK.length < 2199023255552 then ((some (JJ ++ YK : List (S56))).bind fun BM => ((iA.f l2).bind fun zI => (if BM.length < 2199023255552 then ((some (BM ++ [(⟨a1, ([] : List ByteArray), zI⟩ : S56)] : List (S56))).bind fun DW => ((some (e5.drop (jX : Int).toNat : List (S56))).bind fun FF => (if DW.length + FF.length < 2199023255552 then ((dG.f k2 dI (DW ++ FF)).bind fun Vr => (some (Vr.1, Vr.2, 0))) else (none)))) else (none)))) else (none))) else (none)) = some (r1, r2, r3) := by first | (rw [hy115]; with_reducible exact H) | (have H2_ := (Option.bind_some _ _).symm.trans H; rw [hy115]; with_reducible exact H2_) | (have H2_ := (Option.bind_some _ _).symm.trans H; with_reducible exact H2_) | with_reducible exact H | (rw [hy115]; exact H) | exact H
        have I6 := am hy115
        clear hy115
        have rk := eq_true (oT : 0 ≤ jX)
        obtain ⟨Wf, aFG, H⟩ := cP H
        obtain ⟨YK, Vi, H⟩ := bY H
        obtain ⟨nq, H⟩ := cL H
        obtain ⟨BM, MR, H⟩ := bY H
        obtain ⟨zI, A65, H⟩ := bd H
        obtain ⟨nr, H⟩ := cL H
        obtain ⟨DW, G0, H⟩ := bY H
        have aFH := eq_true (oT : 0 ≤ jX)
        have aFI := eq_true (oT : jX ≤ (e5.length : Int))
        obtain ⟨FF, RN, H⟩ := bY H
        obtain ⟨nt, H⟩ := cL H
        obtain ⟨MK, MS⟩ := yv (DW ++ FF); first | replace H := bW MS H | rw [← MS.1] at H
        obtain ⟨⟨Bj, vp⟩, A70, H⟩ := bd H
        dsimp only at H
        obtain ⟨rfl, rfl, rfl⟩ := sZ3 H
        repeat clear H
        have Z71 := nZ2 hZ gI j9 gZ
        have Z73 := cz2 bU
        have VV : 0 ≤ (jX : Int) := oT
        have WB : jX < (e5.length : Int) := oT
        obtain ⟨uN, Xq, ap, Xr, aq, ce, Sn, VJ, VK, K8, K6, K9, K7⟩ := x9 (Kd.cB bH.1).2.2 jX VV WB
        cases ce
        obtain ⟨ce114, hce114, hMe114, hcc114⟩ := Kd.WZ bH.1 z56 jX VV (by first | exact WB | exact oT | (have e_ := (Kd.cB bH.1).1; omega))
        obtain ⟨ua114_1, uc114_1, ua114_2, uc114_2, rfl, FB, ES, FC, ET⟩ := qV hMe114
        have z6 := hcc114 1 _ rfl
        rw [mO _ _ 1 (by omega)] at z6
        replace z6 := Option.some.inj (z6.symm.trans VJ)
        injection z6 with hva_ hvn_ hvc_
        rw [hva_] at ES
        rw [hvc_] at FB
        have qH := am (show Kd.V Kd.string 9 _ w.heap.size _ _ ((aC e5 jX).f1) from Kd.V_mk FB ES)
        clear hva_ hvn_ hvc_ ES FB
        have z7 := hcc114 2 _ rfl
        rw [mO _ _ 2 (by omega)] at z7
        replace z7 := Option.some.inj (z7.symm.trans VK)
        injection z7 with hva_ hvn_ hvc_
        rw [hva_] at ET
        rw [hvc_] at FC
        have qI := am (show Kd.V Kd.string 9 _ w.heap.size _ _ ((aC e5 jX).f2) from Kd.V_mk FC ET)
        clear hva_ hvn_ hvc_ ET FC
        clear hcc114 hce114
        have EG := am K6
        have Qh := am K8
        clear K6 K8
        have EH := am K7
        have Qi := am K9
        clear K7 K9
        replace VV := eq_true VV
        replace WB := eq_true WB
        try go_wp2
        replace dA := RD dA
        replace bH := ND bH
        replace qH := am (Kd.ZM qH.out)
        replace qI := am (Kd.ZM qI.out)
        replace a3 := BD a3
        replace aK := BD aK
        replace bU := BD bU
        replace EG := am (Kd.iW EG.1)
        replace EH := am (Kd.iW EH.1)
        replace HB := am (aV HB.1)
        have q75 : (jX : Int) ≤ ((e5.length : Int) : Int) := oT
        obtain ⟨i075, Xg, _, hsz75, _⟩ := info_parts rP
        have hroom75 : e5.length ≤ o6 := (Kd.cB bH.1).2.1
        have hC75 : Kd.F k56 _ _ (some uN) e5.length e5 := (Kd.V_at (base := w.heap.size) (Kd.N_V bH.1)).2.2
        have hcut75 := PO (P := Try.prog) 29 56 .i64 Try.underlying29 Xg (some uN) e5.length o6 jX (oT) q75 hroom75
        have fc := Kd.TL (m := (jX : Int).toNat) hC75 (by omega)
        have hy75 : YK.length = (jX : Int).toNat := (by rw [Vi.out, List.length_take]; omega)
        rw [← Vi.out] at fc
        rw [← hy75] at hcut75
        have oH := am (show Kd.V k56 56 _ w.heap.size _ (.slice (some uN) YK.length o6) YK from Kd.V_mk (by omega) fc)
        have aBM := am (show YK.length ≤ o6 from by omega)
        clear fc hC75 hroom75 Xg hsz75
        have KY75 := am hy75
        clear hy75
        replace q75 := eq_true q75
        have lh : (jX : Int) ≤ ((e5.length : Int) : Int) := oT
        obtain ⟨i076, Xh, _, hsz76, _⟩ := info_parts rP
        have hroom76 : e5.length ≤ o6 := (Kd.cB bH.1).2.1
        have hC76 : Kd.F k56 _ _ (some uN) e5.length e5 := (Kd.V_at (base := w.heap.size) (Kd.N_V bH.1)).2.2
        have a9Q : (0 : Int) ≤ (jX : Int) := oT
        have hcut76 := JX (P := Try.prog) 29 56 .i64 Try.underlying29 Xh 3 hsz76 (some uN) e5.length o6 jX a9Q lh
        have Mu := Kd.Cg (m := (jX : Int).toNat) (c := o6) hC76 (by omega) hroom76
        obtain ⟨A76, hA76⟩ : ∃ A1, A1 = (if o6 = (jX : Int).toNat then (some uN) else ((some uN) : Option Addr).map (·.add ((jX : Int).toNat * 3))) := ⟨_, rfl⟩
        obtain ⟨c76, Sf⟩ : ∃ c1, c1 = o6 - (jX : Int).toNat := ⟨_, rfl⟩
        have hy76 : FF.length = e5.length - (jX : Int).toNat := (by rw [RN.out, List.length_drop] <;> omega)
        rw [show (e5).drop (jX : Int).toNat = FF from RN.out.symm] at Mu
        replace Mu : Kd.F k56 _ _ A76 FF.length FF := (by rw [hA76]; exact Mu)
        rw [← hy76, ← hA76, ← Sf] at hcut76
        have vZ := am (show Kd.V k56 56 _ w.heap.size _ (.slice A76 FF.length c76) FF from Kd.V_mk (by rw [hy76, Sf]; exact Nat.sub_le_sub_right hroom76 _) Mu)
        have aBR := am (show FF.length ≤ c76 from by rw [hy76, Sf]; exact Nat.sub_le_sub_right hroom76 _)
        clear Mu hC76 hroom76 Xh hsz76 Sf
        have KY76 := am hy76
        have KA76 := am hA76
        clear hy76 hA76
        replace lh := eq_true lh
        refine sT [18] 19 (uA2 bU) (fun hHeld => ?_)
        refine dZ dB.SY dB.LV (fun HT_ HW_ => ?_)
        generalize wr.drew = w74 at dA bH qH qI a3 aK bU EG EH HB oH vZ hHeld ⊢
        refine pU6 1 3 6 7 12 14 ?_
        refine tK2 2 (some 56) ?_
        refine pU1 4 ?_
        refine tK2 13 (some 67) ?_
        refine pU1 15 ?_
        refine oN 0 (some 54) fun K hK => ?_
        refine Kd.J2 k56 _ 56 ?hg (N' := 54) ?hd (xs := ([] : List (S56))) (inner := []) (ok := (F23 w (.slice kN dI.length kJ) (.slice (some uN) e5.length o6) aJ aX cC)) (okp := (F23 w (.slice kN dI.length kJ) (.slice (some uN) e5.length o6) aJ aX cC)) ?hr ?hp (fun _ hk => hk) ((show ∀ k_, w74.heap.size ≤ k_ → (F23 w (.slice kN dI.length kJ) (.slice (some uN) e5.length o6) aJ aX cC) k_ from fun k_ hk => ⟨(Nat.le_trans (aG gG) hk), Kd.fresh' (Kd.R_lt lG) k_ hk, Kd.fresh' (Kd.N_lt sO) k_ hk, fB aQ k_ hk, fB cA k_ hk, fB jM k_ hk⟩) _ (Nat.le_refl _)) (Below.refl _ _) (Nat.le_refl _) (by simp) ?_; (case hd => rfl); (case hg => rfl); (case hr => first | (go_simp; done) | (go_simp; rfl)); (case hp => exact (Reps.none _ _))
        intro WM w77 J8 hb hg_ hnew_
        clear hg_ hnew_
        (first | rw [← I6.out] at J8 | (simp only [Int.reduceToNat] at J8; rw [← I6.out] at J8))
        replace dA := RB lG hb
        replace bH := am (Kd.kL sO (by first | exact Kd.uZ J8 | exact Kd.EN J8) hb)
        replace qH := am (Kd.gP (rV qH.out) (by first | exact Kd.uZ J8 | exact Kd.EN J8) hb)
        replace qI := am (Kd.gP (rV qI.out) (by first | exact Kd.uZ J8 | exact Kd.EN J8) hb)
        replace oH := am (Kd.gP (rV oH.1) (by first | exact Kd.uZ J8 | exact Kd.EN J8) hb)
        replace vZ := am (Kd.gP (rV vZ.1) (by first | exact Kd.uZ J8 | exact Kd.EN J8) hb)
        have pQ := am (Kd.l9 J8 (aG gG))
        replace a3 := bB aQ hb
        replace aK := bB cA hb
        replace bU := bB jM hb
        replace EG := am (Kd.bK (by repeat (first | (with_reducible exact EG.1) | (with_reducible refine Kd.gU ?_ _) | (with_reducible refine Kd.gV ?_ _) | (with_reducible refine Kd.iW ?_) | exact EG.1)) hb)
        replace EH := am (Kd.bK (by repeat (first | (with_reducible exact EH.1) | (with_reducible refine Kd.gU ?_ _) | (with_reducible refine Kd.gV ?_ _) | (with_reducible refine Kd.iW ?_) | exact EH.1)) hb)
        replace HB := bS gG hb
        clear hb J8
        refine nK hK (uA2 bU).1 fun hHeld => ?_
        clear hK K
        refine oN 5 (some 59) fun K hK => ?_
        refine Kd.nC k56 (w0 := w) w.heap.size (by rfl) (.tmp 54) (.tmp 58) 29 56 Ag0 64 rfl Try.underlying29 rP rfl (by decide) (by omega) WM JJ YK _ _ _ (F13 w (.slice kN dI.length kJ) aJ aX cC) (FA (F13 w (.slice kN dI.length kJ) aJ aX cC) WM) rfl rfl ?aO ?aR (fun _ hk => hk) ?aF ?aB ?aS ?aL ?_
        (case aR => exact (by skip; exact Kd.V_F (Kd.fG (ok' := (FA (F13 w (.slice kN dI.length kJ) aJ aX cC) WM)) (oH.1) (fun k_ hk => ⟨⟨hk.1.1, ⟨hk.1.2.1, ⟨hk.1.2.2.1, ⟨hk.1.2.2.2.1, hk.1.2.2.2.2⟩⟩⟩⟩, hk.2⟩))))
        (case aB => exact gG)
        (case aF => exact (fun k_ hk => ⟨(Nat.le_trans (aG gG) hk), Kd.fresh' (Kd.R_lt lG) k_ hk, fB aQ k_ hk, fB cA k_ hk, fB jM k_ hk⟩))
        (case aO => exact (by refine rN ?_; exact Kd.aU pQ.1 (fun _ hk => ⟨hk.1, ⟨hk.2.1, ⟨hk.2.2.2.1, ⟨hk.2.2.2.2.1, hk.2.2.2.2.2⟩⟩⟩⟩)))
        (case aS => exact (aG gG))
        (case aL => have := nq.out; omega)
        intro Bn w79 ho hb hg hat
        rw [← MR.out] at ho
        replace dA := am (Kd.rH lG (Kd.iV (rN pQ.1)) (by decide) hg)
        replace bH := am (Kd.nT (ok := (F13 w (.slice kN dI.length kJ) aJ aX cC)) sO hg hat)
        replace a3 := gkN aQ hg pQ a3
        replace aK := gkN cA hg pQ aK
        replace bU := gkN jM hg pQ bU
        replace qH := am (Kd.fM (ok := (F23 w (.slice kN dI.length kJ) (.slice (some uN) e5.length o6) aJ aX cC)) (by refine rV ?_; exact Kd.fG qH.out (fun _ hk => ⟨⟨hk.1.1.1, ⟨hk.1.1.2.1, ⟨hk.1.2, ⟨hk.1.1.2.2.1, ⟨hk.1.1.2.2.2.1, hk.1.1.2.2.2.2⟩⟩⟩⟩⟩, hk.2⟩)) hg hat)
        replace qI := am (Kd.fM (ok := (F23 w (.slice kN dI.length kJ) (.slice (some uN) e5.length o6) aJ aX cC)) (by refine rV ?_; exact Kd.fG qI.out (fun _ hk => ⟨⟨hk.1.1.1, ⟨hk.1.1.2.1, ⟨hk.1.2, ⟨hk.1.1.2.2.1, ⟨hk.1.1.2.2.2.1, hk.1.1.2.2.2.2⟩⟩⟩⟩⟩, hk.2⟩)) hg hat)
        replace oH := am (Kd.fM (ok := (F13 w (.slice kN dI.length kJ) aJ aX cC)) (rV oH.1) hg hat)
        replace vZ := am (Kd.fM (ok := (F13 w (.slice kN dI.length kJ) aJ aX cC)) (rV vZ.1) hg hat)
        replace HB := am hb
        have sW := am ho
        clear pQ
        clear ho hb hg hat
        refine nK hK (uA2 bU).1 fun hHeld => ?_
        clear hK K
        refine oN 8 (some 62) fun K hK => ?_
        refine gE Try.func93 (iA.calls _ _ l2 zI _ (pB IX) D0.1 A65.out) ?_
        rintro e w80 ⟨LA, rfl, hD, hb⟩
        refine ⟨_, rfl, ?_⟩
        replace bH := am (Kd.kL sO (Kd.bL hD) hb)
        replace qH := am (Kd.gP (rV qH.out) (Kd.bL hD) hb)
        replace qI := am (Kd.gP (rV qI.out) (Kd.bL hD) hb)
        replace oH := am (Kd.gP (rV oH.1) (Kd.bL hD) hb)
        replace vZ := am (Kd.gP (rV vZ.1) (Kd.bL hD) hb)
        replace sW := am (Kd.kL (rN sW.1) (Kd.bL hD) hb)
        have OY := am (Kd.cO (Kd.eF (Kd.jK (M := fun k_ => (w.heap.size ≤ k_)) hD (aG gG) (fun k_ h_ => h_)) (Kd.R_lt lG)) (aG gG))
        replace dA := am (Kd.dJ lG (Kd.bL hD) hb)
        replace a3 := bB aQ hb
        replace aK := bB cA hb
        replace bU := bB jM hb
        replace HB := bS gG hb
        clear hb hD
        obtain ⟨Fx, Gk, sy⟩ := Kd.bN OY.1
        (first | subst sy | (obtain ⟨f4_, f5_⟩ := sj sy; subst f4_; subst f5_))
        refine nK hK (uA2 bU).1 fun hHeld => ?_
        clear hK K
        refine pU1 9 ?_
        refine oN 10 (some 64) fun K hK => ?_
        refine yJ (w1 := ?_) (v := ?_) (by rfl) rfl ?_ ?_
        rotate_left 2
        ·go_simp
         constructor
         ·rfl
         ·rfl
        refine hK.out _ _ ⟨(bF (dE bU.1 _) 0).trans rfl, (bF (dE bU.1 _) 1).trans rfl⟩ (fun hHeld => ?_)
        clear hK K
        refine nM ?_
        refine oN 11 (some 65) fun K hK => ?_
        refine Kd.CP k56 (w0 := w) w.heap.size (by rfl) (.tmp 59) (.tmp 64) 29 56 Ag0 64 rfl Try.underlying29 rP rfl (by decide) (by omega) Bn BM (⟨a1, ([] : List ByteArray), zI⟩ : S56) [.string a1, .slice none 0 0, .slice Fx zI.length Gk] (F13 w (.slice kN dI.length kJ) aJ aX cC) (FA (F13 w (.slice kN dI.length kJ) aJ aX cC) Bn) rfl rfl ?aP (fun _ hk => hk) ?aF ?aO ?aB ?aS ?aL ?_
        (case aP => exact (KL _ _ (⟨a1, ([] : List ByteArray), zI⟩ : S56) (Nat.le_refl _) (Kd.Ij _ _ _) (Kd.aT (Kd.aM (ok' := (FA (F13 w (.slice kN dI.length kJ) aJ aX cC) Bn)) (Kd.fK (Kd.fK (Kd.fK (Kd.nA (OY.1) (Kd.iV sW.1) (by decide)) a3.1 (by decide)) aK.1 (by decide)) bU.1 (by decide)) (fun k_ hk => ⟨⟨hk.1.1.1.1.1.1, ⟨hk.1.1.1.1.2, ⟨hk.1.1.2, ⟨hk.1.2, hk.2⟩⟩⟩⟩, hk.1.1.1.2⟩))).2.1 (Kd.R_F (Kd.aM (ok' := (FA (F13 w (.slice kN dI.length kJ) aJ aX cC) Bn)) (Kd.fK (Kd.fK (Kd.fK (Kd.nA (OY.1) (Kd.iV sW.1) (by decide)) a3.1 (by decide)) aK.1 (by decide)) bU.1 (by decide)) (fun k_ hk => ⟨⟨hk.1.1.1.1.1.1, ⟨hk.1.1.1.1.2, ⟨hk.1.1.2, ⟨hk.1.2, hk.2⟩⟩⟩⟩, hk.1.1.1.2⟩)))))
        (case aB => exact gG)
        (case aF => exact (fun k_ hk => ⟨(Nat.le_trans (aG gG) hk), Kd.fresh' (Kd.R_lt lG) k_ hk, fB aQ k_ hk, fB cA k_ hk, fB jM k_ hk⟩))
        (case aO => exact (by refine rN ?_; exact Kd.aU sW.1 (fun _ hk => ⟨hk.1.1, ⟨hk.1.2.1, ⟨hk.1.2.2.1, ⟨hk.1.2.2.2.1, hk.1.2.2.2.2⟩⟩⟩⟩)))
        (case aS => exact (aG gG))
        (case aL => have := nr.out; omega)
        intro Tv w82 ho hb hg hat
        rw [← G0.out] at ho
        replace dA := am (Kd.rH lG (Kd.iV (rN sW.1)) (by decide) hg)
        replace bH := am (Kd.nT (ok := (F23 w (.slice kN dI.length kJ) (.slice Fx zI.length Gk) aJ aX cC)) (by refine rN ?_; exact Kd.aU bH.1 (fun _ hk => ⟨⟨hk.1.1.1, ⟨hk.1.1.2.1, ⟨hk.2, ⟨hk.1.1.2.2.1, ⟨hk.1.1.2.2.2.1, hk.1.1.2.2.2.2⟩⟩⟩⟩⟩, hk.1.2⟩)) hg hat)
        replace a3 := gkN aQ hg sW a3
        replace aK := gkN cA hg sW aK
        replace bU := gkN jM hg sW bU
        replace qH := am (Kd.fM (ok := (F33 w (.slice kN dI.length kJ) (.slice (some uN) e5.length o6) (.slice Fx zI.length Gk) aJ aX cC)) (by refine rV ?_; exact Kd.fG qH.out (fun _ hk => ⟨⟨hk.1.1.1, ⟨hk.1.1.2.1, ⟨hk.1.1.2.2.1, ⟨hk.2, ⟨hk.1.1.2.2.2.1, ⟨hk.1.1.2.2.2.2.1, hk.1.1.2.2.2.2.2⟩⟩⟩⟩⟩⟩, hk.1.2⟩)) hg hat)
        replace qI := am (Kd.fM (ok := (F33 w (.slice kN dI.length kJ) (.slice (some uN) e5.length o6) (.slice Fx zI.length Gk) aJ aX cC)) (by refine rV ?_; exact Kd.fG qI.out (fun _ hk => ⟨⟨hk.1.1.1, ⟨hk.1.1.2.1, ⟨hk.1.1.2.2.1, ⟨hk.2, ⟨hk.1.1.2.2.2.1, ⟨hk.1.1.2.2.2.2.1, hk.1.1.2.2.2.2.2⟩⟩⟩⟩⟩⟩, hk.1.2⟩)) hg hat)
        replace oH := am (Kd.fM (ok := (F23 w (.slice kN dI.length kJ) (.slice Fx zI.length Gk) aJ aX cC)) (by refine rV ?_; exact Kd.fG oH.1 (fun _ hk => ⟨⟨hk.1.1.1, ⟨hk.1.1.2.1, ⟨hk.2, ⟨hk.1.1.2.2.1, ⟨hk.1.1.2.2.2.1, hk.1.1.2.2.2.2⟩⟩⟩⟩⟩, hk.1.2⟩)) hg hat)
        replace vZ := am (Kd.fM (ok := (F23 w (.slice kN dI.length kJ) (.slice Fx zI.length Gk) aJ aX cC)) (by refine rV ?_; exact Kd.fG vZ.1 (fun _ hk => ⟨⟨hk.1.1.1, ⟨hk.1.1.2.1, ⟨hk.2, ⟨hk.1.1.2.2.1, ⟨hk.1.1.2.2.2.1, hk.1.1.2.2.2.2⟩⟩⟩⟩⟩, hk.1.2⟩)) hg hat)
        replace HB := am hb
        have mQ := am ho
        clear sW
        clear OY
        clear ho hb hg hat
        refine nK hK (uA2 bU).1 fun hHeld => ?_
        clear hK K
        refine oN 16 (some 70) fun K hK => ?_
        refine Kd.nC k56 (w0 := w) w.heap.size (by rfl) (.tmp 65) (.tmp 69) 29 56 Ag0 64 rfl Try.underlying29 rP rfl (by decide) (by omega) Tv DW FF _ _ _ (F13 w (.slice kN dI.length kJ) aJ aX cC) (FA (F13 w (.slice kN dI.length kJ) aJ aX cC) Tv) rfl rfl ?aO ?aR (fun _ hk => hk) ?aF ?aB ?aS ?aL ?_
        (case aR => exact (by skip; exact Kd.V_F (Kd.fG (ok' := (FA (F13 w (.slice kN dI.length kJ) aJ aX cC) Tv)) (vZ.1) (fun k_ hk => ⟨⟨hk.1.1, ⟨hk.1.2.1, ⟨hk.1.2.2.2.1, ⟨hk.1.2.2.2.2.1, hk.1.2.2.2.2.2⟩⟩⟩⟩, hk.2⟩))))
        (case aB => exact gG)
        (case aF => exact (fun k_ hk => ⟨(Nat.le_trans (aG gG) hk), Kd.fresh' (Kd.R_lt lG) k_ hk, fB aQ k_ hk, fB cA k_ hk, fB jM k_ hk⟩))
        (case aO => exact (rN mQ.1))
        (case aS => exact (aG gG))
        (case aL => have := nt.out; omega)
        intro aAG wx ho hb hg hat
        rw [← MS.out] at ho
        replace dA := am (Kd.rH lG (Kd.iV (rN mQ.1)) (by decide) hg)
        replace bH := am (Kd.nT (ok := (F13 w (.slice kN dI.length kJ) aJ aX cC)) (by refine rN ?_; exact Kd.aU bH.1 (fun _ hk => ⟨⟨hk.1.1, ⟨hk.1.2.1, ⟨hk.1.2.2.2.1, ⟨hk.1.2.2.2.2.1, hk.1.2.2.2.2.2⟩⟩⟩⟩, hk.2⟩)) hg hat)
        replace a3 := gkN aQ hg mQ a3
        replace aK := gkN cA hg mQ aK
        replace bU := gkN jM hg mQ bU
        replace qH := am (Kd.fM (ok := (F23 w (.slice kN dI.length kJ) (.slice (some uN) e5.length o6) aJ aX cC)) (by refine rV ?_; exact Kd.fG qH.out (fun _ hk => ⟨⟨hk.1.1, ⟨hk.1.2.1, ⟨hk.1.2.2.1, ⟨hk.1.2.2.2.2.1, ⟨hk.1.2.2.2.2.2.1, hk.1.2.2.2.2.2.2⟩⟩⟩⟩⟩, hk.2⟩)) hg hat)
        replace qI := am (Kd.fM (ok := (F23 w (.slice kN dI.length kJ) (.slice (some uN) e5.length o6) aJ aX cC)) (by refine rV ?_; exact Kd.fG qI.out (fun _ hk => ⟨⟨hk.1.1, ⟨hk.1.2.1, ⟨hk.1.2.2.1, ⟨hk.1.2.2.2.2.1, ⟨hk.1.2.2.2.2.2.1, hk.1.2.2.2.2.2.2⟩⟩⟩⟩⟩, hk.2⟩)) hg hat)
        replace oH := am (Kd.fM (ok := (F13 w (.slice kN dI.length kJ) aJ aX cC)) (by refine rV ?_; exact Kd.fG oH.1 (fun _ hk => ⟨⟨hk.1.1, ⟨hk.1.2.1, ⟨hk.1.2.2.2.1, ⟨hk.1.2.2.2.2.1, hk.1.2.2.2.2.2⟩⟩⟩⟩, hk.2⟩)) hg hat)
        replace vZ := am (Kd.fM (ok := (F13 w (.slice kN dI.length kJ) aJ aX cC)) (by refine rV ?_; exact Kd.fG vZ.1 (fun _ hk => ⟨⟨hk.1.1, ⟨hk.1.2.1, ⟨hk.1.2.2.2.1, ⟨hk.1.2.2.2.2.1, hk.1.2.2.2.2.2⟩⟩⟩⟩, hk.2⟩)) hg hat)
        replace HB := am hb
        have yO := am ho
        clear mQ
        clear ho hb hg hat
        obtain ⟨QH, PN, Sa⟩ := Kd.iJ yO.1
        (first | subst Sa | (obtain ⟨f4_, f5_⟩ := sj Sa; subst f4_; subst f5_))
        refine nK hK (uA2 bU).1 fun hHeld => ?_
        clear hK K
        refine pU1 17 ?_
        refine lN 18 none fun K hK => ?_
        have aNR : wx.cell? ⟨cC, 1, none⟩ = some (.slice (some uN) e5.length o6) := (bF bU.1 1).trans rfl
        have aGD := fV bU.1 1
        have a2M := gI.1
        have a2N := gZ.1
        have a15 := hZ.1
        have a18 := j9.1
        refine wP (w1 := ?_) (by rfl) rfl ?_ ?_
        rotate_left
        ·go_simp
         rfl
        refine hK.out _ _ ?_
        clear hK K
        refine dN ?_
        have Z86 := cz2 bU
        try go_wp2_with (first | ((with_reducible refine mU (f := 89) rfl ?_); refine wE (some 73) rfl rfl Try.func89 (by kernel_rfl) rfl #[.agg #[.slice kN dI.length kJ, .slice QH MK.length PN]] rfl FO ?_; (with_reducible refine (dG.calls k2 _ _ dI _ _ MK Bj vp _ ?side1 ?side2 ?side3 ?side4 A70.out).mono ?_); (case side1 => refine (Kd.aT (e := 9) (base := w.heap.size) (ok := fun k_ => (w.heap.size ≤ k_)) (n := dI.length) (c := kJ) ?_).2.2; exact (by refine rR ?_; exact Kd.aM (fR (tR dA bU)) (fun _ hk => hk.1.1))); (case side2 => exact (Kd.aT dA.1).2.1); (case side3 => refine (Kd.cB (e := 56) (base := w.heap.size) (ok := fun k_ => ((w.heap.size ≤ k_) ∧ (some k_ ≠ (.slice kN dI.length kJ : Value).ownBlock ∧ (k_ ≠ aJ ∧ (k_ ≠ aX ∧ k_ ≠ cC))))) (n := MK.length) (c := PN) ?_).2.2; exact (by refine rN ?_; exact (Kd.aU (fN (Kd.aU yO.1 (fun k_ hk => (⟨hk, hk.2.2.2.2⟩ : _ ∧ k_ ≠ cC)))) (fun _ h_ => h_.1)))); (case side4 => exact (Kd.cB yO.1).2.1); rintro e w87 ⟨aAH, aOA, rfl, hD, rM, hb⟩; refine ⟨_, rfl, ?_⟩; replace qH := am (Kd.fG (Kd.yA (Kd.yA (Kd.RU (by refine rV ?_; exact (Kd.fG (Kd.RS (p := ⟨cC, 1, none⟩) (Kd.fG qH.out (fun k_ hk => (⟨hk, hk.1.2.2.2.2.2⟩ : _ ∧ k_ ≠ cC))) (fun _ hk => hk.2) (.slice QH MK.length PN)) (fun _ h_ => h_.1))) hb) (Kd.bL hD)) yV) (fun _ h_ => h_.1)); replace qI := am (Kd.fG (Kd.yA (Kd.yA (Kd.RU (by refine rV ?_; exact (Kd.fG (Kd.RS (p := ⟨cC, 1, none⟩) (Kd.fG qI.out (fun k_ hk => (⟨hk, hk.1.2.2.2.2.2⟩ : _ ∧ k_ ≠ cC))) (fun _ hk => hk.2) (.slice QH MK.length PN)) (fun _ h_ => h_.1))) hb) (Kd.bL hD)) yV) (fun _ h_ => h_.1)); replace oH := am (Kd.fG (Kd.yA (Kd.yA (Kd.RU (by refine rV ?_; exact (Kd.fG (Kd.RS (p := ⟨cC, 1, none⟩) (Kd.fG oH.1 (fun k_ hk => (⟨hk, hk.1.2.2.2.2⟩ : _ ∧ k_ ≠ cC))) (fun _ hk => hk.2) (.slice QH MK.length PN)) (fun _ h_ => h_.1))) hb) (Kd.bL hD)) yV) (fun _ h_ => h_.1)); replace vZ := am (Kd.fG (Kd.yA (Kd.yA (Kd.RU (by refine rV ?_; exact (Kd.fG (Kd.RS (p := ⟨cC, 1, none⟩) (Kd.fG vZ.1 (fun k_ hk => (⟨hk, hk.1.2.2.2.2⟩ : _ ∧ k_ ≠ cC))) (fun _ hk => hk.2) (.slice QH MK.length PN)) (fun _ h_ => h_.1))) hb) (Kd.bL hD)) yV) (fun _ h_ => h_.1)); have Ui := am (Kd.cO (Kd.eF (Kd.jK (M := fun k_ => (w.heap.size ≤ k_)) hD (aG gG) (fun k_ h_ => h_)) (Kd.R_lt (by refine rR ?_; exact (Kd.aM (fR (tR dA bU)) (fun _ h_ => h_.1))))) (aG gG)); have Uk := am (Kd.l9 (Kd.aU (ok' := F43 w aAH (.slice kN dI.length kJ) (.slice (some uN) e5.length o6) (.slice QH MK.length PN) aJ aX cC) (Kd.S_N (Kd.rJ rM)) (fun k_ hk_ => ⟨(Nat.le_trans (aG gG) hk_.2.1), hk_.1, (Kd.fresh' (Kd.R_lt (by refine rR ?_; exact (Kd.aM (fR (tR dA bU)) (fun _ h_ => h_.1)))) k_ hk_.2.1), (Kd.fresh' (Kd.N_lt (by refine rN ?_; exact (Kd.aU (fN (Kd.aU bH.1 (fun k_ hk => (⟨hk, hk.1.2.2.2.2⟩ : _ ∧ k_ ≠ cC)))) (fun _ h_ => h_.1)))) k_ hk_.2.1), (Kd.fresh' (Kd.N_lt (by refine rN ?_; exact (Kd.aU (fN (Kd.aU yO.1 (fun k_ hk => (⟨hk, hk.2.2.2.2⟩ : _ ∧ k_ ≠ cC)))) (fun _ h_ => h_.1)))) k_ hk_.2.1), (Kd.AP (g := aJ) (o := .cells #[.slice eL aY.length eO, .slice fJ aI.length eJ] 31 (0, 0)) Tj k_ hk_.2.1), (Kd.AP (g := aX) (o := .cells #[.slice none 0 0, .slice none 0 0] 31 (0, 0)) Tk k_ hk_.2.1), (Kd.AP (g := cC) (o := .cells #[.slice kN dI.length kJ, .slice QH MK.length PN] 31 (0, 0)) (by refine rB ?_; refine eH (cs := #[.slice kN dI.length kJ, .slice (some uN) e5.length o6]) ?_ 1 _ rfl; refine rB ?_; exact bU.1) k_ hk_.2.1)⟩)) (aG gG)); replace dA := am (Kd.dJ (by refine rR ?_; exact (Kd.aM (fR (tR dA bU)) (fun _ h_ => h_.1))) (Kd.bL hD) hb); replace bH := am (Kd.aU (Kd.nD (Kd.nD (Kd.FY (by refine rN ?_; exact (Kd.aU (fN (Kd.aU bH.1 (fun k_ hk => (⟨hk, hk.1.2.2.2.2⟩ : _ ∧ k_ ≠ cC)))) (fun _ h_ => h_.1))) hb) (Kd.bL hD)) yV) (fun _ h_ => h_.1)); replace yO := am (Kd.aU (Kd.nD (Kd.nD (Kd.FY (by refine rN ?_; exact (Kd.aU (fN (Kd.aU yO.1 (fun k_ hk => (⟨hk, hk.2.2.2.2⟩ : _ ∧ k_ ≠ cC)))) (fun _ h_ => h_.1))) hb) (Kd.bL hD)) yV) (fun _ h_ => h_.1)); replace a3 := am (dL (g := aJ) (o := .cells #[.slice eL aY.length eO, .slice fJ aI.length eJ] 31 (0, 0)) Tj hb); replace aK := am (dL (g := aX) (o := .cells #[.slice none 0 0, .slice none 0 0] 31 (0, 0)) Tk hb); replace bU := am (dL (g := cC) (o := .cells #[.slice kN dI.length kJ, .slice QH MK.length PN] 31 (0, 0)) (by refine rB ?_; refine eH (cs := #[.slice kN dI.length kJ, .slice (some uN) e5.length o6]) ?_ 1 _ rfl; refine rB ?_; exact bU.1) hb); replace HB := bS gG hb; clear hb hD rM; obtain ⟨a4X, sd, Sb⟩ := Kd.bN Ui.1; subst Sb; have Z89 := nZ1 dQ dP; have Z90 := cz2 aK; obtain ⟨Z3, Ai, eh⟩ := Kd.iJ Uk.1; subst eh))
        refine cT aX 31 #[.slice a4X Bj.length sd, .slice Z3 vp.length Ai] (qP aK) Try.underlying31 ?_
        exact ⟨_, _, eR, mR Ui aK, by refine rN ?_; exact Kd.aU (fN (fN (Kd.aU Uk.1 (fun k_ hk => (⟨hk, hk.2.2.2.2.2.2.1⟩ : _ ∧ k_ ≠ aX))))) (fun _ hk => ⟨hk.1.1, hk.1.2.1⟩), gG⟩
      ·obtain ⟨DX, hy146⟩ : ∃ y_ : List (S56), y_ = (([] : List (S56))) := ⟨_, rfl⟩
       replace H : (if 0 ≤ jX then (if jX ≤ (e5.length : Int) then ((some (e5.take (jX : Int).toNat : List (S56))).bind fun R7 => (if DX.length + R7.length < 2199023255552 then ((some (DX ++ R7 : List (S56))).bind fun LD => ((iA.f l2).bind fun L2 => (if LD.length < 2199023255552 then ((some (LD ++ [(⟨a1, ([] : List ByteArray), L2⟩ : S56)] : List (S56))).bind fun Pk => ((some (e5.drop (jX : Int).toNat : List (S56))).bind fun NZ => (if Pk.length + NZ.length < 2199023255552 then ((dG.f k2 dI (Pk ++ NZ)).bind fun Vs => (some (Vs.1, Vs.2, 0))) else (none)))) else (none)))) else (none))) else (none)) else (none)) = some (r1, r2, r3) := by first | (rw [hy146]; with_reducible exact H) | (have H2_ := (Option.bind_some _ _).symm.trans H; rw [hy146]; with_reducible exact H2_) | (have H2_ := (Option.bind_some _ _).symm.trans H; with_reducible exact H2_) | with_reducible exact H | (rw [hy146]; exact H) | exact H
       have RP := am hy146
       clear hy146
       obtain ⟨aFV, aFW, H⟩ := cP H
       obtain ⟨aFX, aFY, H⟩ := cP H
       obtain ⟨R7, RQ, H⟩ := bY H
       obtain ⟨nv, H⟩ := cL H
       obtain ⟨LD, JT, H⟩ := bY H
       obtain ⟨L2, A95, H⟩ := bd H
       obtain ⟨nw, H⟩ := cL H
       obtain ⟨Pk, oy, H⟩ := bY H
       have aFZ := eq_true (oT : 0 ≤ jX)
       have Wg := eq_true (oT : jX ≤ (e5.length : Int))
       obtain ⟨NZ, Vj, H⟩ := bY H
       obtain ⟨nx, H⟩ := cL H
       obtain ⟨YL, Ka⟩ := yv (Pk ++ NZ); first | replace H := bW Ka H | rw [← Ka.1] at H
       obtain ⟨⟨vt, vu⟩, Xn, H⟩ := bd H
       dsimp only at H
       obtain ⟨rfl, rfl, rfl⟩ := sZ3 H
       repeat clear H
       have aLG := nZ2 hZ gI j9 gZ
       have a5G := cz2 bU
       try go_wp2
       replace dA := RD dA
       replace bH := ND bH
       replace a3 := BD a3
       replace aK := BD aK
       replace bU := BD bU
       replace HB := am (aV HB.1)
       have QU : (jX : Int) ≤ ((e5.length : Int) : Int) := oT
       obtain ⟨i0105, Mj, _, hsz105, _⟩ := info_parts rP
       have hroom105 : e5.length ≤ o6 := (Kd.cB bH.1).2.1
       have hC105 : Kd.F k56 _ _ xP e5.length e5 := (Kd.V_at (base := w.heap.size) (Kd.N_V bH.1)).2.2
       have hcut105 := PO (P := Try.prog) 29 56 .i64 Try.underlying29 Mj xP e5.length o6 jX (oT) QU hroom105
       have Mr := Kd.TL (m := (jX : Int).toNat) hC105 (by omega)
       have hy105 : R7.length = (jX : Int).toNat := (by rw [RQ.out, List.length_take]; omega)
       rw [← RQ.out] at Mr
       rw [← hy105] at hcut105
       have BO := am (show Kd.V k56 56 _ w.heap.size _ (.slice xP R7.length o6) R7 from Kd.V_mk (by omega) Mr)
       have aBT := am (show R7.length ≤ o6 from by omega)
       clear Mr hC105 hroom105 Mj hsz105
       have KY105 := am hy105
       clear hy105
       replace QU := eq_true QU
       have GI : (jX : Int) ≤ ((e5.length : Int) : Int) := oT
       obtain ⟨i0106, Mk, _, hsz106, _⟩ := info_parts rP
       have hroom106 : e5.length ≤ o6 := (Kd.cB bH.1).2.1
       have hC106 : Kd.F k56 _ _ xP e5.length e5 := (Kd.V_at (base := w.heap.size) (Kd.N_V bH.1)).2.2
       have vk : (0 : Int) ≤ (jX : Int) := oT
       have hcut106 := JX (P := Try.prog) 29 56 .i64 Try.underlying29 Mk 3 hsz106 xP e5.length o6 jX vk GI
       have XU := Kd.Cg (m := (jX : Int).toNat) (c := o6) hC106 (by omega) hroom106
       obtain ⟨lr, hA106⟩ : ∃ A1, A1 = (if o6 = (jX : Int).toNat then xP else (xP : Option Addr).map (·.add ((jX : Int).toNat * 3))) := ⟨_, rfl⟩
       obtain ⟨qq, Ee⟩ : ∃ c1, c1 = o6 - (jX : Int).toNat := ⟨_, rfl⟩
       have hy106 : NZ.length = e5.length - (jX : Int).toNat := (by rw [Vj.out, List.length_drop] <;> omega)
       rw [show (e5).drop (jX : Int).toNat = NZ from Vj.out.symm] at XU
       replace XU : Kd.F k56 _ _ lr NZ.length NZ := (by rw [hA106]; exact XU)
       rw [← hy106, ← hA106, ← Ee] at hcut106
       have BP := am (show Kd.V k56 56 _ w.heap.size _ (.slice lr NZ.length qq) NZ from Kd.V_mk (by rw [hy106, Ee]; exact Nat.sub_le_sub_right hroom106 _) XU)
       have aBU := am (show NZ.length ≤ qq from by rw [hy106, Ee]; exact Nat.sub_le_sub_right hroom106 _)
       clear XU hC106 hroom106 Mk hsz106 Ee
       have KY106 := am hy106
       have KA106 := am hA106
       clear hy106 hA106
       replace GI := eq_true GI
       refine sT [18] 19 (uA2 bU) (fun hHeld => ?_)
       refine dZ dB.SY dB.LV (fun HT_ HW_ => ?_)
       generalize wr.drew = wl at dA bH a3 aK bU HB BO BP hHeld ⊢
       refine pU6 1 3 6 7 12 14 ?_
       refine tK2 2 (some 56) ?_
       refine pU1 4 ?_
       refine tK2 13 (some 67) ?_
       refine pU1 15 ?_
       refine oN 0 (some 54) fun K hK => ?_
       refine Kd.J2 k56 _ 56 ?hg (N' := 54) ?hd (xs := ([] : List (S56))) (inner := []) (ok := (F23 w (.slice kN dI.length kJ) (.slice xP e5.length o6) aJ aX cC)) (okp := (F23 w (.slice kN dI.length kJ) (.slice xP e5.length o6) aJ aX cC)) ?hr ?hp (fun _ hk => hk) ((show ∀ k_, wl.heap.size ≤ k_ → (F23 w (.slice kN dI.length kJ) (.slice xP e5.length o6) aJ aX cC) k_ from fun k_ hk => ⟨(Nat.le_trans (aG gG) hk), Kd.fresh' (Kd.R_lt lG) k_ hk, Kd.fresh' (Kd.N_lt sO) k_ hk, fB aQ k_ hk, fB cA k_ hk, fB jM k_ hk⟩) _ (Nat.le_refl _)) (Below.refl _ _) (Nat.le_refl _) (by simp) ?_; (case hd => rfl); (case hg => rfl); (case hr => first | (go_simp; done) | (go_simp; rfl)); (case hp => exact (Reps.none _ _))
       intro Tw aAN GE hb hg_ hnew_
       clear hg_ hnew_
       (first | rw [← RP.out] at GE | (simp only [Int.reduceToNat] at GE; rw [← RP.out] at GE))
       replace dA := RB lG hb
       replace bH := am (Kd.kL sO (by first | exact Kd.uZ GE | exact Kd.EN GE) hb)
       replace BO := am (Kd.gP (rV BO.1) (by first | exact Kd.uZ GE | exact Kd.EN GE) hb)
       replace BP := am (Kd.gP (rV BP.1) (by first | exact Kd.uZ GE | exact Kd.EN GE) hb)
       have JP := am (Kd.l9 GE (aG gG))
       replace a3 := bB aQ hb
       replace aK := bB cA hb
       replace bU := bB jM hb
       replace HB := bS gG hb
       clear hb GE
       refine nK hK (uA2 bU).1 fun hHeld => ?_
       clear hK K
       refine oN 5 (some 59) fun K hK => ?_
       refine Kd.nC k56 (w0 := w) w.heap.size (by rfl) (.tmp 54) (.tmp 58) 29 56 Ag0 64 rfl Try.underlying29 rP rfl (by decide) (by omega) Tw DX R7 _ _ _ (F13 w (.slice kN dI.length kJ) aJ aX cC) (FA (F13 w (.slice kN dI.length kJ) aJ aX cC) Tw) rfl rfl ?aO ?aR (fun _ hk => hk) ?aF ?aB ?aS ?aL ?_
       (case aR => exact (by skip; exact Kd.V_F (Kd.fG (ok' := (FA (F13 w (.slice kN dI.length kJ) aJ aX cC) Tw)) (BO.1) (fun k_ hk => ⟨⟨hk.1.1, ⟨hk.1.2.1, ⟨hk.1.2.2.1, ⟨hk.1.2.2.2.1, hk.1.2.2.2.2⟩⟩⟩⟩, hk.2⟩))))
       (case aB => exact gG)
       (case aF => exact (fun k_ hk => ⟨(Nat.le_trans (aG gG) hk), Kd.fresh' (Kd.R_lt lG) k_ hk, fB aQ k_ hk, fB cA k_ hk, fB jM k_ hk⟩))
       (case aO => exact (by refine rN ?_; exact Kd.aU JP.1 (fun _ hk => ⟨hk.1, ⟨hk.2.1, ⟨hk.2.2.2.1, ⟨hk.2.2.2.2.1, hk.2.2.2.2.2⟩⟩⟩⟩)))
       (case aS => exact (aG gG))
       (case aL => have := nv.out; omega)
       intro Hr aOY ho hb hg hat
       rw [← JT.out] at ho
       replace dA := am (Kd.rH lG (Kd.iV (rN JP.1)) (by decide) hg)
       replace bH := am (Kd.nT (ok := (F13 w (.slice kN dI.length kJ) aJ aX cC)) sO hg hat)
       replace a3 := gkN aQ hg JP a3
       replace aK := gkN cA hg JP aK
       replace bU := gkN jM hg JP bU
       replace BO := am (Kd.fM (ok := (F13 w (.slice kN dI.length kJ) aJ aX cC)) (rV BO.1) hg hat)
       replace BP := am (Kd.fM (ok := (F13 w (.slice kN dI.length kJ) aJ aX cC)) (rV BP.1) hg hat)
       replace HB := am hb
       have uE := am ho
       clear JP
       clear ho hb hg hat
       refine nK hK (uA2 bU).1 fun hHeld => ?_
       clear hK K
       refine oN 8 (some 62) fun K hK => ?_
       refine gE Try.func93 (iA.calls _ _ l2 L2 _ (pB IX) D0.1 A95.out) ?_
       rintro e aAP ⟨aOE, rfl, hD, hb⟩
       refine ⟨_, rfl, ?_⟩
       replace bH := am (Kd.kL sO (Kd.bL hD) hb)
       replace BO := am (Kd.gP (rV BO.1) (Kd.bL hD) hb)
       replace BP := am (Kd.gP (rV BP.1) (Kd.bL hD) hb)
       replace uE := am (Kd.kL (rN uE.1) (Kd.bL hD) hb)
       have Cm := am (Kd.cO (Kd.eF (Kd.jK (M := fun k_ => (w.heap.size ≤ k_)) hD (aG gG) (fun k_ h_ => h_)) (Kd.R_lt lG)) (aG gG))
       replace dA := am (Kd.dJ lG (Kd.bL hD) hb)
       replace a3 := bB aQ hb
       replace aK := bB cA hb
       replace bU := bB jM hb
       replace HB := bS gG hb
       clear hb hD
       obtain ⟨Cb, Dt, Wl⟩ := Kd.bN Cm.1
       (first | subst Wl | (obtain ⟨f4_, f5_⟩ := sj Wl; subst f4_; subst f5_))
       refine nK hK (uA2 bU).1 fun hHeld => ?_
       clear hK K
       refine pU1 9 ?_
       refine oN 10 (some 64) fun K hK => ?_
       refine yJ (w1 := ?_) (v := ?_) (by rfl) rfl ?_ ?_
       rotate_left 2
       ·go_simp
        constructor
        ·rfl
        ·rfl
       refine hK.out _ _ ⟨(bF (dE bU.1 _) 0).trans rfl, (bF (dE bU.1 _) 1).trans rfl⟩ (fun hHeld => ?_)
       clear hK K
       refine nM ?_
       refine oN 11 (some 65) fun K hK => ?_
       refine Kd.CP k56 (w0 := w) w.heap.size (by rfl) (.tmp 59) (.tmp 64) 29 56 Ag0 64 rfl Try.underlying29 rP rfl (by decide) (by omega) Hr LD (⟨a1, ([] : List ByteArray), L2⟩ : S56) [.string a1, .slice none 0 0, .slice Cb L2.length Dt] (F13 w (.slice kN dI.length kJ) aJ aX cC) (FA (F13 w (.slice kN dI.length kJ) aJ aX cC) Hr) rfl rfl ?aP (fun _ hk => hk) ?aF ?aO ?aB ?aS ?aL ?_
       (case aP => exact (KL _ _ (⟨a1, ([] : List ByteArray), L2⟩ : S56) (Nat.le_refl _) (Kd.Ij _ _ _) (Kd.aT (Kd.aM (ok' := (FA (F13 w (.slice kN dI.length kJ) aJ aX cC) Hr)) (Kd.fK (Kd.fK (Kd.fK (Kd.nA (Cm.1) (Kd.iV uE.1) (by decide)) a3.1 (by decide)) aK.1 (by decide)) bU.1 (by decide)) (fun k_ hk => ⟨⟨hk.1.1.1.1.1.1, ⟨hk.1.1.1.1.2, ⟨hk.1.1.2, ⟨hk.1.2, hk.2⟩⟩⟩⟩, hk.1.1.1.2⟩))).2.1 (Kd.R_F (Kd.aM (ok' := (FA (F13 w (.slice kN dI.length kJ) aJ aX cC) Hr)) (Kd.fK (Kd.fK (Kd.fK (Kd.nA (Cm.1) (Kd.iV uE.1) (by decide)) a3.1 (by decide)) aK.1 (by decide)) bU.1 (by decide)) (fun k_ hk => ⟨⟨hk.1.1.1.1.1.1, ⟨hk.1.1.1.1.2, ⟨hk.1.1.2, ⟨hk.1.2, hk.2⟩⟩⟩⟩, hk.1.1.1.2⟩)))))
       (case aB => exact gG)
       (case aF => exact (fun k_ hk => ⟨(Nat.le_trans (aG gG) hk), Kd.fresh' (Kd.R_lt lG) k_ hk, fB aQ k_ hk, fB cA k_ hk, fB jM k_ hk⟩))
       (case aO => exact (by refine rN ?_; exact Kd.aU uE.1 (fun _ hk => ⟨hk.1.1, ⟨hk.1.2.1, ⟨hk.1.2.2.1, ⟨hk.1.2.2.2.1, hk.1.2.2.2.2⟩⟩⟩⟩)))
       (case aS => exact (aG gG))
       (case aL => have := nw.out; omega)
       intro ji aP0 ho hb hg hat
       rw [← oy.out] at ho
       replace dA := am (Kd.rH lG (Kd.iV (rN uE.1)) (by decide) hg)
       replace bH := am (Kd.nT (ok := (F23 w (.slice kN dI.length kJ) (.slice Cb L2.length Dt) aJ aX cC)) (by refine rN ?_; exact Kd.aU bH.1 (fun _ hk => ⟨⟨hk.1.1.1, ⟨hk.1.1.2.1, ⟨hk.2, ⟨hk.1.1.2.2.1, ⟨hk.1.1.2.2.2.1, hk.1.1.2.2.2.2⟩⟩⟩⟩⟩, hk.1.2⟩)) hg hat)
       replace a3 := gkN aQ hg uE a3
       replace aK := gkN cA hg uE aK
       replace bU := gkN jM hg uE bU
       replace BO := am (Kd.fM (ok := (F23 w (.slice kN dI.length kJ) (.slice Cb L2.length Dt) aJ aX cC)) (by refine rV ?_; exact Kd.fG BO.1 (fun _ hk => ⟨⟨hk.1.1.1, ⟨hk.1.1.2.1, ⟨hk.2, ⟨hk.1.1.2.2.1, ⟨hk.1.1.2.2.2.1, hk.1.1.2.2.2.2⟩⟩⟩⟩⟩, hk.1.2⟩)) hg hat)
       replace BP := am (Kd.fM (ok := (F23 w (.slice kN dI.length kJ) (.slice Cb L2.length Dt) aJ aX cC)) (by refine rV ?_; exact Kd.fG BP.1 (fun _ hk => ⟨⟨hk.1.1.1, ⟨hk.1.1.2.1, ⟨hk.2, ⟨hk.1.1.2.2.1, ⟨hk.1.1.2.2.2.1, hk.1.1.2.2.2.2⟩⟩⟩⟩⟩, hk.1.2⟩)) hg hat)
       replace HB := am hb
       have RE := am ho
       clear uE
       clear Cm
       clear ho hb hg hat
       refine nK hK (uA2 bU).1 fun hHeld => ?_
       clear hK K
       refine oN 16 (some 70) fun K hK => ?_
       refine Kd.nC k56 (w0 := w) w.heap.size (by rfl) (.tmp 65) (.tmp 69) 29 56 Ag0 64 rfl Try.underlying29 rP rfl (by decide) (by omega) ji Pk NZ _ _ _ (F13 w (.slice kN dI.length kJ) aJ aX cC) (FA (F13 w (.slice kN dI.length kJ) aJ aX cC) ji) rfl rfl ?aO ?aR (fun _ hk => hk) ?aF ?aB ?aS ?aL ?_
       (case aR => exact (by skip; exact Kd.V_F (Kd.fG (ok' := (FA (F13 w (.slice kN dI.length kJ) aJ aX cC) ji)) (BP.1) (fun k_ hk => ⟨⟨hk.1.1, ⟨hk.1.2.1, ⟨hk.1.2.2.2.1, ⟨hk.1.2.2.2.2.1, hk.1.2.2.2.2.2⟩⟩⟩⟩, hk.2⟩))))
       (case aB => exact gG)
       (case aF => exact (fun k_ hk => ⟨(Nat.le_trans (aG gG) hk), Kd.fresh' (Kd.R_lt lG) k_ hk, fB aQ k_ hk, fB cA k_ hk, fB jM k_ hk⟩))
       (case aO => exact (rN RE.1))
       (case aS => exact (aG gG))
       (case aL => have := nx.out; omega)
       intro aOF aAQ ho hb hg hat
       rw [← Ka.out] at ho
       replace dA := am (Kd.rH lG (Kd.iV (rN RE.1)) (by decide) hg)
       replace bH := am (Kd.nT (ok := (F13 w (.slice kN dI.length kJ) aJ aX cC)) (by refine rN ?_; exact Kd.aU bH.1 (fun _ hk => ⟨⟨hk.1.1, ⟨hk.1.2.1, ⟨hk.1.2.2.2.1, ⟨hk.1.2.2.2.2.1, hk.1.2.2.2.2.2⟩⟩⟩⟩, hk.2⟩)) hg hat)
       replace a3 := gkN aQ hg RE a3
       replace aK := gkN cA hg RE aK
       replace bU := gkN jM hg RE bU
       replace BO := am (Kd.fM (ok := (F13 w (.slice kN dI.length kJ) aJ aX cC)) (by refine rV ?_; exact Kd.fG BO.1 (fun _ hk => ⟨⟨hk.1.1, ⟨hk.1.2.1, ⟨hk.1.2.2.2.1, ⟨hk.1.2.2.2.2.1, hk.1.2.2.2.2.2⟩⟩⟩⟩, hk.2⟩)) hg hat)
       replace BP := am (Kd.fM (ok := (F13 w (.slice kN dI.length kJ) aJ aX cC)) (by refine rV ?_; exact Kd.fG BP.1 (fun _ hk => ⟨⟨hk.1.1, ⟨hk.1.2.1, ⟨hk.1.2.2.2.1, ⟨hk.1.2.2.2.2.1, hk.1.2.2.2.2.2⟩⟩⟩⟩, hk.2⟩)) hg hat)
       replace HB := am hb
       have RF := am ho
       clear RE
       clear ho hb hg hat
       obtain ⟨R8, PL, Wn⟩ := Kd.iJ RF.1
       (first | subst Wn | (obtain ⟨f4_, f5_⟩ := sj Wn; subst f4_; subst f5_))
       refine nK hK (uA2 bU).1 fun hHeld => ?_
       clear hK K
       refine pU1 17 ?_
       refine lN 18 none fun K hK => ?_
       have Mv : aAQ.cell? ⟨cC, 1, none⟩ = some (.slice xP e5.length o6) := (bF bU.1 1).trans rfl
       have a8Q := fV bU.1 1
       have uo := gI.1
       have uq := gZ.1
       have ui := hZ.1
       have uj := j9.1
       refine wP (w1 := ?_) (by rfl) rfl ?_ ?_
       rotate_left
       ·go_simp
        rfl
       refine hK.out _ _ ?_
       clear hK K
       refine dN ?_
       have aLL := cz2 bU
       try go_wp2_with (first | ((with_reducible refine mU (f := 89) rfl ?_); refine wE (some 73) rfl rfl Try.func89 (by kernel_rfl) rfl #[.agg #[.slice kN dI.length kJ, .slice R8 YL.length PL]] rfl FO ?_; (with_reducible refine (dG.calls k2 _ _ dI _ _ YL vt vu _ ?side1 ?side2 ?side3 ?side4 Xn.out).mono ?_); (case side1 => refine (Kd.aT (e := 9) (base := w.heap.size) (ok := fun k_ => (w.heap.size ≤ k_)) (n := dI.length) (c := kJ) ?_).2.2; exact (by refine rR ?_; exact Kd.aM (fR (tR dA bU)) (fun _ hk => hk.1.1))); (case side2 => exact (Kd.aT dA.1).2.1); (case side3 => refine (Kd.cB (e := 56) (base := w.heap.size) (ok := fun k_ => ((w.heap.size ≤ k_) ∧ (some k_ ≠ (.slice kN dI.length kJ : Value).ownBlock ∧ (k_ ≠ aJ ∧ (k_ ≠ aX ∧ k_ ≠ cC))))) (n := YL.length) (c := PL) ?_).2.2; exact (by refine rN ?_; exact (Kd.aU (fN (Kd.aU RF.1 (fun k_ hk => (⟨hk, hk.2.2.2.2⟩ : _ ∧ k_ ≠ cC)))) (fun _ h_ => h_.1)))); (case side4 => exact (Kd.cB RF.1).2.1); rintro e aP1 ⟨aAI, aOH, rfl, hD, rM, hb⟩; refine ⟨_, rfl, ?_⟩; replace BO := am (Kd.fG (Kd.yA (Kd.yA (Kd.RU (by refine rV ?_; exact (Kd.fG (Kd.RS (p := ⟨cC, 1, none⟩) (Kd.fG BO.1 (fun k_ hk => (⟨hk, hk.1.2.2.2.2⟩ : _ ∧ k_ ≠ cC))) (fun _ hk => hk.2) (.slice R8 YL.length PL)) (fun _ h_ => h_.1))) hb) (Kd.bL hD)) yV) (fun _ h_ => h_.1)); replace BP := am (Kd.fG (Kd.yA (Kd.yA (Kd.RU (by refine rV ?_; exact (Kd.fG (Kd.RS (p := ⟨cC, 1, none⟩) (Kd.fG BP.1 (fun k_ hk => (⟨hk, hk.1.2.2.2.2⟩ : _ ∧ k_ ≠ cC))) (fun _ hk => hk.2) (.slice R8 YL.length PL)) (fun _ h_ => h_.1))) hb) (Kd.bL hD)) yV) (fun _ h_ => h_.1)); have Ul := am (Kd.cO (Kd.eF (Kd.jK (M := fun k_ => (w.heap.size ≤ k_)) hD (aG gG) (fun k_ h_ => h_)) (Kd.R_lt (by refine rR ?_; exact (Kd.aM (fR (tR dA bU)) (fun _ h_ => h_.1))))) (aG gG)); have Um := am (Kd.l9 (Kd.aU (ok' := F43 w aAI (.slice kN dI.length kJ) (.slice xP e5.length o6) (.slice R8 YL.length PL) aJ aX cC) (Kd.S_N (Kd.rJ rM)) (fun k_ hk_ => ⟨(Nat.le_trans (aG gG) hk_.2.1), hk_.1, (Kd.fresh' (Kd.R_lt (by refine rR ?_; exact (Kd.aM (fR (tR dA bU)) (fun _ h_ => h_.1)))) k_ hk_.2.1), (Kd.fresh' (Kd.N_lt (by refine rN ?_; exact (Kd.aU (fN (Kd.aU bH.1 (fun k_ hk => (⟨hk, hk.1.2.2.2.2⟩ : _ ∧ k_ ≠ cC)))) (fun _ h_ => h_.1)))) k_ hk_.2.1), (Kd.fresh' (Kd.N_lt (by refine rN ?_; exact (Kd.aU (fN (Kd.aU RF.1 (fun k_ hk => (⟨hk, hk.2.2.2.2⟩ : _ ∧ k_ ≠ cC)))) (fun _ h_ => h_.1)))) k_ hk_.2.1), (Kd.AP (g := aJ) (o := .cells #[.slice eL aY.length eO, .slice fJ aI.length eJ] 31 (0, 0)) Tj k_ hk_.2.1), (Kd.AP (g := aX) (o := .cells #[.slice none 0 0, .slice none 0 0] 31 (0, 0)) Tk k_ hk_.2.1), (Kd.AP (g := cC) (o := .cells #[.slice kN dI.length kJ, .slice R8 YL.length PL] 31 (0, 0)) (by refine rB ?_; refine eH (cs := #[.slice kN dI.length kJ, .slice xP e5.length o6]) ?_ 1 _ rfl; refine rB ?_; exact bU.1) k_ hk_.2.1)⟩)) (aG gG)); replace dA := am (Kd.dJ (by refine rR ?_; exact (Kd.aM (fR (tR dA bU)) (fun _ h_ => h_.1))) (Kd.bL hD) hb); replace bH := am (Kd.aU (Kd.nD (Kd.nD (Kd.FY (by refine rN ?_; exact (Kd.aU (fN (Kd.aU bH.1 (fun k_ hk => (⟨hk, hk.1.2.2.2.2⟩ : _ ∧ k_ ≠ cC)))) (fun _ h_ => h_.1))) hb) (Kd.bL hD)) yV) (fun _ h_ => h_.1)); replace RF := am (Kd.aU (Kd.nD (Kd.nD (Kd.FY (by refine rN ?_; exact (Kd.aU (fN (Kd.aU RF.1 (fun k_ hk => (⟨hk, hk.2.2.2.2⟩ : _ ∧ k_ ≠ cC)))) (fun _ h_ => h_.1))) hb) (Kd.bL hD)) yV) (fun _ h_ => h_.1)); replace a3 := am (dL (g := aJ) (o := .cells #[.slice eL aY.length eO, .slice fJ aI.length eJ] 31 (0, 0)) Tj hb); replace aK := am (dL (g := aX) (o := .cells #[.slice none 0 0, .slice none 0 0] 31 (0, 0)) Tk hb); replace bU := am (dL (g := cC) (o := .cells #[.slice kN dI.length kJ, .slice R8 YL.length PL] 31 (0, 0)) (by refine rB ?_; refine eH (cs := #[.slice kN dI.length kJ, .slice xP e5.length o6]) ?_ 1 _ rfl; refine rB ?_; exact bU.1) hb); replace HB := bS gG hb; clear hb hD rM; obtain ⟨lw, ru, se⟩ := Kd.bN Ul.1; subst se; have aLM := nZ1 dQ dP; have aLN := cz2 aK; obtain ⟨lx, rv, sf⟩ := Kd.iJ Um.1; subst sf))
       refine cT aX 31 #[.slice lw vt.length ru, .slice lx vu.length rv] (qP aK) Try.underlying31 ?_
       exact ⟨_, _, eR, mR Ul aK, by refine rN ?_; exact Kd.aU (fN (fN (Kd.aU Um.1 (fun k_ hk => (⟨hk, hk.2.2.2.2.2.2.1⟩ : _ ∧ k_ ≠ aX))))) (fun _ hk => ⟨hk.1.1, hk.1.2.1⟩), gG⟩
 obtain ⟨rfl, rfl, rfl⟩ := sZ3 H
 repeat clear H
 go_enter Try.func59, Try.ntmps59
 go_wp2_with (first | ((with_reducible refine gD 3 ?_); refine bX 3 #[.slice eL aY.length eO, .slice fJ aI.length eJ] 31 ?_; intro aJ hg aP3 hbox hb; have a3 := am hbox; have gH := am (u0 : w.heap.size ≤ aJ); have iE := gH; replace HB := bS eI hb; clear hb hbox hg) | ((with_reducible refine gD 6 ?_); refine bX 6 #[.slice none 0 0, .slice none 0 0] 31 ?_; intro aX hg aP4 hbox hb; have aK := am hbox; have mP := am (GG : w.heap.size ≤ aX); have nX := mP; replace HB := bS dS hb; have dP := nL aQ hg; have dQ := nG aQ hg; replace a3 := bB aQ hb; clear hb hbox hg; have a5I := nZ1 dP dQ; have aLQ := cz2 a3) | ((with_reducible refine gC 22 ?_); refine cQ (some 11) Try.func22 (aH.calls k _ _ aY _ _ aI false _ (pB eQ) eP.1 (pB dO) fP.1 A4.out) ?_; rintro aP5 hb; replace a3 := bB aQ hb; replace aK := bB cA hb; replace HB := bS nO hb; clear hb; have aLS := cz2 aK))
 refine cT aX 31 #[.slice none 0 0, .slice none 0 0] vi Try.underlying31 ?_
 exact ⟨_, _, eR, by first | exact Kd.vJ _ _ _ _ _ | exact Kd.zV _ _ _ _ _ | exact Kd.zZ _ _ _ _ _ | exact Kd.zW _ _ _ _ _ | exact Kd.zY _ _ _ _ _, by first | exact Kd.zY _ _ _ _ _ | exact Kd.zV _ _ _ _ _ | exact Kd.zZ _ _ _ _ _ | exact Kd.zW _ _ _ _ _ | exact Kd.vJ _ _ _ _ _, nO⟩
end Go.Proofs.Ytaofjgnhapnndaa.Q
namespace Go.Proofs.Ytaofjgnhapnndaa.Q
open Go.RowKit Go.Proofs.YtaofjgnhapnndaaW.PrintWords Go.Proofs.YtaofjgnhapnndaaW.PrintLast Go.Proofs.YtaofjgnhapnndaaW.PrintMore
set_option linter.unusedVariables false
set_option linter.unusedSimpArgs false
def iK.l0 : Nat → Int → List ByteArray → Int → List ByteArray → List (S56) → Option (Bool)
 | 0, _, _, _, _, _ => none
 | k + 1, c, d, a, e, b => if a < (b.length : Int) then (if a = c then (iK.l0 k c d (wrap64 (a + 1)) e b) else (if 0 ≤ a then ((eX.f k ((aC b a).f1) d).bind fun g => (if g = true then (some true) else (iK.l0 k c d (wrap64 (a + 1)) e b))) else (none))) else (some false)
def iK.f (k : Nat) (aY : List ByteArray) (aI : List (S56)) (a1 : Int) (l2 : List ByteArray) : Option (Bool) := iK.l0 k a1 l2 0 aY aI
theorem iK.calls (k : Nat) (eL : Option Addr) (eO : Nat) (aY : List ByteArray) (fJ : Option Addr) (eJ : Nat) (aI : List (S56)) (a1 : Int) (A2 : Option Addr) (c2 : Nat) (l2 : List ByteArray) (r : Bool) (w : World) (iQ : Kd.C Kd.string w eL aY.length aY) (iO : aY.length ≤ eO) (iH : Kd.C k56 w fJ aI.length aI) (iP : aI.length ≤ eJ) (XW : Kd.C Kd.string w A2 l2.length l2) (XP : l2.length ≤ c2) (h : iK.f k aY aI a1 l2 = some r) :
  Calls Try.prog 105 #[.agg #[.slice eL aY.length eO, .slice fJ aI.length eJ], .int .i64 a1, .slice A2 l2.length c2] w fun e w' => e = .returned (.bool r) ∧ Below w.heap.size w w' := by
 have hu31 := Try.underlying31
 obtain ⟨eQ, eP⟩ := mZ2 iQ iO
 obtain ⟨dO, fP⟩ := mZ2 iH iP
 obtain ⟨IX, D0⟩ := mZ2 XW XP
 clear iQ iO iH iP XW XP
 have HB := am (Below.refl w.heap.size w)
 unfold iK.f at h
 have H := h
 clear h
 have H' := am H
 repeat clear H
 go_enter Try.func105, Try.ntmps105
 go_wp2_with (first | ((with_reducible refine gD 3 ?_); refine bX 3 #[.slice eL aY.length eO, .slice fJ aI.length eJ] 31 ?_; intro aJ hg w4 hbox hb; have a3 := am hbox; have gH := am (u0 : w.heap.size ≤ aJ); have iE := gH; replace HB := bS eI hb; clear hb hbox hg))
 go_loopg [7] k (fun kq v7 w' => ∃ (kW : Int), v7 = .int .i64 kW ∧ aA (iK.l0 kq a1 l2 kW aY aI = some r) ∧ aA (kq ≤ k) ∧ aA (w'.heap[aJ]? = some (.cells #[(.slice eL aY.length eO), (.slice fJ aI.length eJ)] 31 (0, 0))) ∧ aA (Below w.heap.size w w'))
 case atStart => exact ⟨(0), dH, H', ⟨Nat.le_refl _⟩, ⟨rB a3.1⟩, ⟨dS⟩⟩
 clear H'
 try clear c2
 obtain ⟨kW, rfl, HA, HK1, a3, HB⟩ := hrel
 cases gk with
 | zero => exact absurd HA.out (by simp [iK.l0])
 | succ k1 =>
  have H := HA.out
  clear HA
  simp only [iK.l0] at H
  refine ic H ?_ ?_ <;> clear H <;> intro EO H
  ·refine iq H ?_ ?_ <;> clear H <;> intro c6 PK ZZ H
   ·have H' := am H
    repeat clear H
    have Z7 := cz2 a3
    go_wp2
    go_roundg k1
    case measure => have := HK1.out; omega
    case rel => exact ⟨(wrap64 (kW + 1)), dH, H', ⟨by have := HK1.out; omega⟩, ⟨rB a3.1⟩, ⟨dS⟩⟩
   ·obtain ⟨HY, H⟩ := cN H
    obtain ⟨eK, A9, H⟩ := bd H
    refine tC H ?_ ?_ <;> clear H <;> intro X7 H <;> subst X7
    ·obtain rfl := Option.some.inj H
     repeat clear H
     have Po := cz2 a3
     obtain ⟨oC, sU, sX, sV, sY, sG, o2, oY, oZ, pS, pN, tP, tM, CV, CY⟩ := aT56 dO HB kW
     cases sG
     go_wp2_with (first | (go_at_call 72; refine cM (eX.calls k1 _ _ ((aC aI kW).f1) _ _ l2 true _ (pB pS) pN.1 (pB IX) D0.1 A9.out) ?_; rintro w' ⟨nd, rfl⟩))
     go_ret
     exact ⟨eR, dS⟩
    ·have H' := am H
     repeat clear H
     have yf := cz2 a3
     obtain ⟨oC, sU, sX, sV, sY, sG, o2, oY, oZ, pS, pN, tP, tM, CV, CY⟩ := aT56 dO HB kW
     cases sG
     go_wp2_with (first | (go_at_call 72; refine cM (eX.calls k1 _ _ ((aC aI kW).f1) _ _ l2 false _ (pB pS) pN.1 (pB IX) D0.1 A9.out) ?_; rintro w' ⟨nd, rfl⟩))
     go_roundg k1
     case measure => have := HK1.out; omega
     case rel => exact ⟨(wrap64 (kW + 1)), dH, H', ⟨by have := HK1.out; omega⟩, ⟨rB a3.1⟩, ⟨dS⟩⟩
  ·obtain rfl := Option.some.inj H
   repeat clear H
   have Ki := cz2 a3
   go_wp2
   go_ret
   exact ⟨eR, dS⟩
def dF.l0 : Nat → List ByteArray → ByteArray → Int → Option (List ByteArray)
 | 0, _, _, _ => none
 | k + 1, b, c, a => if a < (b.length : Int) then (if 0 ≤ a then (if (Op.bytesLess ((rdOf ByteArray.empty b a).toList) c.toList) = true then (dF.l0 k b c (wrap64 (a + 1))) else (if (rdOf ByteArray.empty b a).toList = c.toList then (none) else ((some (([] : List ByteArray) : List ByteArray)).bind fun d => (if a ≤ (b.length : Int) then (if d.length + (b.take (a : Int).toNat).length < 8796093022208 then ((some (d ++ (b.take (a : Int).toNat) : List ByteArray)).bind fun e => ((some (([c] : List ByteArray) : List ByteArray)).bind fun f => (if e.length + f.length < 8796093022208 then ((some (e ++ f : List ByteArray)).bind fun g => (if g.length + (b.drop (a : Int).toNat).length < 8796093022208 then (some (g ++ (b.drop (a : Int).toNat))) else (none))) else (none)))) else (none)) else (none))))) else (none)) else ((some (([] : List ByteArray) : List ByteArray)).bind fun h => (if 0 ≤ a then (if a ≤ (b.length : Int) then (if h.length + (b.take (a : Int).toNat).length < 8796093022208 then ((some (h ++ (b.take (a : Int).toNat) : List ByteArray)).bind fun i => ((some (([c] : List ByteArray) : List ByteArray)).bind fun j => (if i.length + j.length < 8796093022208 then ((some (i ++ j : List ByteArray)).bind fun l => (if l.length + (b.drop (a : Int).toNat).length < 8796093022208 then (some (l ++ (b.drop (a : Int).toNat))) else (none))) else (none)))) else (none)) else (none)) else (none)))
def dF.f (k : Nat) (l0 : List ByteArray) (a1 : ByteArray) : Option (List ByteArray) := dF.l0 k l0 a1 0
def dF.T6 : Bool × List (List Nat × List Nat) := (true, [([], []), ([], []), ([], []), ([1, 2], [1, 2]), ([0, 3], [0, 3]), ([], []), ([5], [5]), ([4, 6, 4], [4, 6]), ([], []), ([], []), ([8, 9], [8, 9]), ([7, 10, 7], [7, 10]), ([11, 11, 0, 1, 2, 3, 4, 5, 6, 7, 8, 9, 10, 11], [11])])
def dF.B6 : List Nat := [0, 0, 0, 6, 15, 0, 32, 127, 0, 0, 768, 2047, 4095]
theorem dF.tab6 : rtab .any (opsOf Try.f106 6) = dF.T6 := by kernel_rfl
theorem dF.wX : kM dF.T6.2 dF.B6 = true := by kernel_rfl
theorem dF.calls (k : Nat) (A0 : Option Addr) (c0 : Nat) (l0 : List ByteArray) (a1 : ByteArray) (r : List ByteArray) (w : World) (r5 : Kd.C Kd.string w A0 l0.length l0) (xK : l0.length ≤ c0) (h : dF.f k l0 a1 = some r) :
  Calls Try.prog 106 #[.slice A0 l0.length c0, .string a1] w fun e w' => ∃ v0_ : Value, e = .returned (v0_) ∧ Kd.R Kd.string 9 w' w.heap.size (fun _ => True) v0_ r ∧ Below w.heap.size w w' := by
 obtain ⟨rD, O0⟩ := mZ2 r5 xK
 clear r5 xK
 have HB := am (Below.refl w.heap.size w)
 unfold dF.f at h
 have H := h
 clear h
 have H' := am H
 repeat clear H
 go_enter Try.func106, Try.ntmps106
 go_wp2
 go_loopg [5] k (fun kq v5 w' => ∃ (bV : Int), v5 = .int .i64 bV ∧ aA (dF.l0 kq l0 a1 bV = some r) ∧ aA (kq ≤ k) ∧ aA (Below w.heap.size w w'))
 case atStart => exact ⟨(0), dH, H', ⟨Nat.le_refl _⟩, ⟨eI⟩⟩
 clear H'
 obtain ⟨bV, rfl, HA, HK1, HB⟩ := hrel
 cases gk with
 | zero => exact absurd HA.out (by simp [dF.l0])
 | succ k1 =>
  have H := HA.out
  clear HA
  simp only [dF.l0] at H
  refine ic H ?_ ?_ <;> clear H <;> intro BG H
  ·obtain ⟨vT, H⟩ := cN H
   refine tC H ?_ ?_ <;> clear H <;> intro EO H
   ·have H' := am H
    repeat clear H
    obtain ⟨jW, nV, kZ, wL, wN⟩ := aS rD HB bV
    cases nV
    go_wp2
    go_roundg k1
    case measure => have := HK1.out; omega
    case rel => exact ⟨(wrap64 (bV + 1)), dH, H', ⟨by have := HK1.out; omega⟩, ⟨eI⟩⟩
   ·refine iq H ?_ ?_ <;> clear H <;> intro c6 PK ZZ H
    ·cases H
    ·obtain ⟨I3, hy103⟩ : ∃ y_ : List ByteArray, y_ = (([] : List ByteArray)) := ⟨_, rfl⟩
     replace H : (if bV ≤ (l0.length : Int) then (if I3.length + (l0.take (bV : Int).toNat).length < 8796093022208 then ((some (I3 ++ (l0.take (bV : Int).toNat) : List ByteArray)).bind fun R5 => ((some (([a1] : List ByteArray) : List ByteArray)).bind fun GJ => (if R5.length + GJ.length < 8796093022208 then ((some (R5 ++ GJ : List ByteArray)).bind fun Pj => (if Pj.length + (l0.drop (bV : Int).toNat).length < 8796093022208 then (some (Pj ++ (l0.drop (bV : Int).toNat))) else (none))) else (none)))) else (none)) else (none)) = some r := by first | (rw [hy103]; with_reducible exact H) | (have H2_ := (Option.bind_some _ _).symm.trans H; rw [hy103]; with_reducible exact H2_) | (have H2_ := (Option.bind_some _ _).symm.trans H; with_reducible exact H2_) | with_reducible exact H | (rw [hy103]; exact H) | exact H
     have MQ := am hy103
     clear hy103
     have UB := eq_true (oT : 0 ≤ bV)
     obtain ⟨HY, a6K, H⟩ := cP H
     obtain ⟨Zl, H⟩ := cL H
     obtain ⟨R5, JS, H⟩ := bY H
     obtain ⟨GJ, RM, H⟩ := bY H
     obtain ⟨Iz, H⟩ := cL H
     obtain ⟨Pj, ow, H⟩ := bY H
     have ID := eq_true (oT : 0 ≤ bV)
     have MU := eq_true (oT : bV ≤ (l0.length : Int))
     obtain ⟨Ja, H⟩ := cL H
     obtain ⟨YJ, FZ⟩ := yv (Pj ++ (l0.drop (bV : Int).toNat)); first | replace H := bW FZ H | rw [← FZ.1] at H
     obtain rfl := Option.some.inj H
     repeat clear H
     obtain ⟨jW, nV, kZ, wL, wN⟩ := aS rD HB bV
     cases nV
     obtain ⟨oC, sG, o2, CV, CY⟩ := aS rD HB bV
     obtain rfl : jW = oC := (by injection sG)
     try go_wp2
     replace HB := am (aV HB.1)
     obtain ⟨i015, Wt, _, hsz15, _⟩ := info_parts jT
     obtain ⟨hcut15, hA15, hC15⟩ := kD (P := Try.prog) Value.string (⟨#[]⟩ : ByteArray) 23 9 .i64 Try.underlying23 Wt hsz15 (some jW) c0 l0 bV (oT) (oT) O0.1
     have Cn := am (Kd.kI (h1 := fun _ => rfl) (hA15 _ (Kd.kK rD.1)))
     have aBI := am hC15
     clear hA15 hC15 Wt hsz15
     obtain ⟨i016, Wu, _, hsz16, _⟩ := info_parts jT
     obtain ⟨YW, hcut16, hA16, hC16⟩ := IM (P := Try.prog) Value.string (⟨#[]⟩ : ByteArray) 23 9 .i64 Try.underlying23 Wu hsz16 (some jW) c0 l0 bV (oT) (oT) O0.1
     have Is := am (Kd.kI (h1 := fun _ => rfl) (hA16 _ (Kd.kK rD.1)))
     have aBK := am hC16
     clear hA16 hC16 Wu hsz16
     refine sT (S := fun w' => True) [] 13 ⟨trivial⟩ (fun hHeld => ?_)
     refine dZ dF.tab6 dF.wX (fun HT_ HW_ => ?_)
     generalize wr.drew = wn at HB Cn Is hHeld ⊢
     refine pU7 1 2 3 5 8 9 10 ?_
     refine SK (σ := Value × Value × Value) 3 (bz 13 1919) (fun s_ => [(33, s_.1), (37, s_.2.1), (39, s_.2.2)]) (fun s_ w' => (Kd.R Kd.string 9 w' w.heap.size (fun k_ => some k_ ≠ (s_.2.2 : Value).ownBlock) s_.2.1 R5) ∧ (Kd.R Kd.string 9 w' w.heap.size (fun k_ => some k_ ≠ (s_.2.1 : Value).ownBlock) s_.2.2 GJ) ∧ (Below w.heap.size w w')) ?_ ?_
     rotate_left
     ·intro hCont
      refine two_ (i := 0) (j := 6) (Ni := some 33) (Nj := some 39) (bz 13 1839) (bz 13 1902) rfl rfl rfl rfl (BC HT_.out (by kernel_rfl)) (by decide) (by decide) (fun K hK => ?_) (fun K hK => ?_)
      ·skip
       refine lT 9 33 MQ ?_
       intro DU Pu Ml hb
       have nS := am (Kd.cO Ml (aG eI))
       replace HB := bS eI hb
       clear hb Ml
       refine hK.out _ _ trivial (fun hHeld => ?_)
       clear hK K
       refine nM ?_
       refine two_ (i := 4) (j := 6) (Ni := some 37) (Nj := some 39) (bz 13 1855) (bz 13 1903) rfl rfl rfl rfl (BC HT_.out (by kernel_rfl)) (by decide) (by decide) (fun K hK => ?_) (fun K hK => ?_)
       ·skip
        refine Kd.dV Kd.string (w0 := w) w.heap.size (by rfl) (.tmp 33) (.tmp 36) 23 9 (.string ⟨#[]⟩) 16 rfl Try.underlying23 jT rfl (by decide) (by omega) DU I3 (l0.take (bV : Int).toNat) _ _ _ (fun _ => True) (fun _ => False) rfl rfl ?aO ?aR (fun _ _ h => h) (fun _ h => h.elim) ?aF ?aB ?aS ?aL ?_
        (case aR => (have e_ : (l0.take (bV : Int).toNat).length = bV.toNat := (by rw [List.length_take]; have h_ : (bV : Int) ≤ (l0.length : Int) := oT; omega); have q_ := Kd.bK Cn.1 HB.1; rw [e_] at q_; exact q_))
        (case aB => exact eI)
        (case aF => exact (fun _ _ => trivial))
        (case aO => exact KP)
        (case aS => exact (aG eI))
        (case aL => have := Zl.out; have hlx_ := (show (l0.take (bV : Int).toNat).length = bV.toNat from (by rw [List.length_take]; have h_ : (bV : Int) ≤ (l0.length : Int) := oT; omega)); omega)
        intro FP wq ho hb hg hat
        rw [← JS.out] at ho
        replace HB := am hb
        have fQ := am ho
        clear nS
        clear ho hb hg hat
        refine hK.out _ _ trivial (fun hHeld => ?_)
        clear hK K
        refine nM ?_
        refine oN 6 (some 39) fun K hK => ?_
        refine lT 9 39 RM ?_
        intro NW Hw ev hb
        have vH := am (Kd.cO (Kd.eF ev (Kd.R_lt (rR fQ.1))) (aG eI))
        replace fQ := am (Kd.dJ (rR fQ.1) (Kd.bL ev) hb)
        replace HB := bS eI hb
        clear hb ev
        refine hK.out _ _ trivial (fun hHeld => ?_)
        clear hK K
        refine nM ?_
        exact rW xY (hCont (DU, FP, NW) _ ⟨(by refine rR ?_; exact Kd.aM fQ.1 (fun _ hk => hk.2)), (by refine rR ?_; exact Kd.aM vH.1 (fun _ hk => hk.2)), eI⟩)
       ·skip
        refine lT 9 39 RM ?_
        intro NW wq As hb
        have vH := am (Kd.cO (Kd.eF As (Kd.R_lt KP)) (aG eI))
        replace nS := am (Kd.dJ KP (Kd.bL As) hb)
        replace HB := bS eI hb
        clear hb As
        refine hK.out _ _ trivial (fun hHeld => ?_)
        clear hK K
        refine nM ?_
        refine oN 4 (some 37) fun K hK => ?_
        refine Kd.dV Kd.string (w0 := w) w.heap.size (by rfl) (.tmp 33) (.tmp 36) 23 9 (.string ⟨#[]⟩) 16 rfl Try.underlying23 jT rfl (by decide) (by omega) DU I3 (l0.take (bV : Int).toNat) _ _ _ (fun k_ => some k_ ≠ (NW : Value).ownBlock) (fun _ => False) rfl rfl ?aO ?aR (fun _ _ h => h) (fun _ h => h.elim) ?aF ?aB ?aS ?aL ?_
        (case aR => (have e_ : (l0.take (bV : Int).toNat).length = bV.toNat := (by rw [List.length_take]; have h_ : (bV : Int) ≤ (l0.length : Int) := oT; omega); have q_ := Kd.bK Cn.1 HB.1; rw [e_] at q_; exact q_))
        (case aB => exact eI)
        (case aF => exact (fun k_ hk => Kd.fresh' (Kd.R_lt KQ) k_ hk))
        (case aO => exact (by refine rR ?_; exact Kd.aM nS.1 (fun _ hk => hk.2)))
        (case aS => exact (aG eI))
        (case aL => have := Zl.out; have hlx_ := (show (l0.take (bV : Int).toNat).length = bV.toNat from (by rw [List.length_take]; have h_ : (bV : Int) ≤ (l0.length : Int) := oT; omega)); omega)
        intro FP ll ho hb hg hat
        rw [← JS.out] at ho
        replace vH := am (Kd.gW (ok := (fun _ => True)) KQ hg hat)
        replace HB := am hb
        have fQ := am ho
        clear nS
        clear ho hb hg hat
        refine hK.out _ _ trivial (fun hHeld => ?_)
        clear hK K
        refine nM ?_
        exact rW xY (hCont (DU, FP, NW) _ ⟨(rR fQ.1), (by refine rR ?_; exact Kd.aM vH.1 (fun _ hk => hk.2)), eI⟩)
      ·skip
       refine lT 9 39 RM ?_
       intro NW Pu Ml hb
       have vH := am (Kd.cO Ml (aG eI))
       replace HB := bS eI hb
       clear hb Ml
       refine hK.out _ _ trivial (fun hHeld => ?_)
       clear hK K
       refine nM ?_
       refine oN 0 (some 33) fun K hK => ?_
       refine lT 9 33 MQ ?_
       intro DU wq As hb
       have nS := am (Kd.cO (Kd.eF As (Kd.R_lt KQ)) (aG eI))
       replace vH := am (Kd.dJ KQ (Kd.bL As) hb)
       replace HB := bS eI hb
       clear hb As
       refine hK.out _ _ trivial (fun hHeld => ?_)
       clear hK K
       refine nM ?_
       refine oN 4 (some 37) fun K hK => ?_
       refine Kd.dV Kd.string (w0 := w) w.heap.size (by rfl) (.tmp 33) (.tmp 36) 23 9 (.string ⟨#[]⟩) 16 rfl Try.underlying23 jT rfl (by decide) (by omega) DU I3 (l0.take (bV : Int).toNat) _ _ _ (fun k_ => some k_ ≠ (NW : Value).ownBlock) (fun _ => False) rfl rfl ?aO ?aR (fun _ _ h => h) (fun _ h => h.elim) ?aF ?aB ?aS ?aL ?_
       (case aR => (have e_ : (l0.take (bV : Int).toNat).length = bV.toNat := (by rw [List.length_take]; have h_ : (bV : Int) ≤ (l0.length : Int) := oT; omega); have q_ := Kd.bK Cn.1 HB.1; rw [e_] at q_; exact q_))
       (case aB => exact eI)
       (case aF => exact (fun k_ hk => Kd.fresh' (Kd.R_lt KQ) k_ hk))
       (case aO => exact (by refine rR ?_; exact Kd.aM nS.1 (fun _ hk => hk.2)))
       (case aS => exact (aG eI))
       (case aL => have := Zl.out; have hlx_ := (show (l0.take (bV : Int).toNat).length = bV.toNat from (by rw [List.length_take]; have h_ : (bV : Int) ≤ (l0.length : Int) := oT; omega)); omega)
       intro FP ll ho hb hg hat
       rw [← JS.out] at ho
       replace vH := am (Kd.gW (ok := (fun _ => True)) KQ hg hat)
       replace HB := am hb
       have fQ := am ho
       clear nS
       clear ho hb hg hat
       refine hK.out _ _ trivial (fun hHeld => ?_)
       clear hK K
       refine nM ?_
       exact rW xY (hCont (DU, FP, NW) _ ⟨(rR fQ.1), (by refine rR ?_; exact Kd.aM vH.1 (fun _ hk => hk.2)), eI⟩)
     rintro ⟨DU, FP, NW⟩ Tx ⟨h0_, h1_, h2_⟩
     have fQ : aA (Kd.R Kd.string 9 Tx w.heap.size (fun k_ => some k_ ≠ (NW : Value).ownBlock) FP R5) := ⟨h0_⟩
     have vH : aA (Kd.R Kd.string 9 Tx w.heap.size (fun k_ => some k_ ≠ (FP : Value).ownBlock) NW GJ) := ⟨h1_⟩
     replace HB : aA (Below w.heap.size w Tx) := ⟨h2_⟩
     clear h0_ h1_ h2_
     have hHeld := trivial
     obtain ⟨IW, sQ, XJ⟩ := Kd.bN vH.1
     (first | subst XJ | (obtain ⟨f4_, f5_⟩ := sj XJ; subst f4_; subst f5_))
     refine rW (a' := ?_) ?_ ?_
     rotate_left
     ·simp only [CX, Act.put, List.setIfInBounds_toArray, List.set_cons_zero, List.set_cons_succ]
      rfl
     refine oN 7 (some 40) fun K hK => ?_
     refine Kd.dV Kd.string (w0 := w) w.heap.size (by rfl) (.tmp 37) (.tmp 39) 23 9 (.string ⟨#[]⟩) 16 rfl Try.underlying23 jT rfl (by decide) (by omega) FP R5 GJ _ _ _ (fun k_ => some k_ ≠ (.slice IW GJ.length sQ : Value).ownBlock) (fun _ => False) rfl rfl ?aO ?aR (fun _ _ h => h) (fun _ h => h.elim) ?aF ?aB ?aS ?aL ?_
     (case aR => repeat (first | exact (Kd.aT vH.1).2.2 | (with_reducible refine Kd.gU ?_ _) | (with_reducible refine Kd.gV ?_ _) | (with_reducible refine Kd.iW ?_)))
     (case aB => exact eI)
     (case aF => exact (fun k_ hk => Kd.fresh' (Kd.R_lt KQ) k_ hk))
     (case aO => exact (rR fQ.1))
     (case aS => exact (aG eI))
     (case aL => have := Iz.out; omega)
     intro Bm SZ ho hb hg hat
     rw [← ow.out] at ho
     replace vH := am (Kd.gW (ok := (fun _ => True)) (by refine rR ?_; exact Kd.aM vH.1 (fun _ hk => ⟨trivial, hk⟩)) hg hat)
     replace HB := am hb
     have D3 := am ho
     clear fQ
     clear ho hb hg hat
     refine hK.out _ _ trivial (fun hHeld => ?_)
     clear hK K
     refine nM ?_
     refine oN 11 (some 44) fun K hK => ?_
     refine Kd.dV Kd.string (w0 := w) w.heap.size (by rfl) (.tmp 40) (.tmp 43) 23 9 (.string ⟨#[]⟩) 16 rfl Try.underlying23 jT rfl (by decide) (by omega) Bm Pj (l0.drop (bV : Int).toNat) _ _ _ (fun k_ => some k_ ≠ (.slice IW GJ.length sQ : Value).ownBlock) (fun _ => False) rfl rfl ?aO ?aR (fun _ _ h => h) (fun _ h => h.elim) ?aF ?aB ?aS ?aL ?_
     (case aR => first | (rw [← show (l0.drop (bV : Int).toNat).length = (l0.length - bV.toNat) from List.length_drop]; repeat (first | exact (Kd.bK Is.1 HB.1) | (with_reducible refine Kd.gU ?_ _) | (with_reducible refine Kd.gV ?_ _) | (with_reducible refine Kd.iW ?_))) | (repeat (first | exact (Kd.bK Is.1 HB.1) | (with_reducible refine Kd.gU ?_ _) | (with_reducible refine Kd.gV ?_ _) | (with_reducible refine Kd.iW ?_))))
     (case aB => exact eI)
     (case aF => exact (fun k_ hk => Kd.fresh' (Kd.R_lt KQ) k_ hk))
     (case aO => exact (rR D3.1))
     (case aS => exact (aG eI))
     (case aL => have := Ja.out; have hlx_ := (show (l0.drop (bV : Int).toNat).length = (l0.length - bV.toNat) from List.length_drop); omega)
     intro wj w25 ho hb hg hat
     rw [← FZ.out] at ho
     replace vH := am (Kd.gW (ok := (fun _ => True)) KQ hg hat)
     replace HB := am hb
     have yM := am ho
     clear D3
     clear ho hb hg hat
     refine hK.out _ _ trivial (fun hHeld => ?_)
     clear hK K
     refine nM ?_
     refine pU1 12 ?_
     refine dN ?_
     try go_wp2
     go_ret
     exact ⟨_, eR, by refine rR ?_; exact Kd.aM yM.1 (fun _ hk => trivial), eI⟩
  ·obtain ⟨MJ, hy120⟩ : ∃ y_ : List ByteArray, y_ = (([] : List ByteArray)) := ⟨_, rfl⟩
   replace H : (if 0 ≤ bV then (if bV ≤ (l0.length : Int) then (if MJ.length + (l0.take (bV : Int).toNat).length < 8796093022208 then ((some (MJ ++ (l0.take (bV : Int).toNat) : List ByteArray)).bind fun FE => ((some (([a1] : List ByteArray) : List ByteArray)).bind fun yL => (if FE.length + yL.length < 8796093022208 then ((some (FE ++ yL : List ByteArray)).bind fun QE => (if QE.length + (l0.drop (bV : Int).toNat).length < 8796093022208 then (some (QE ++ (l0.drop (bV : Int).toNat))) else (none))) else (none)))) else (none)) else (none)) else (none)) = some r := by first | (rw [hy120]; with_reducible exact H) | (have H2_ := (Option.bind_some _ _).symm.trans H; rw [hy120]; with_reducible exact H2_) | (have H2_ := (Option.bind_some _ _).symm.trans H; with_reducible exact H2_) | with_reducible exact H | (rw [hy120]; exact H) | exact H
   have Di := am hy120
   clear hy120
   obtain ⟨S1, Vy, H⟩ := cP H
   obtain ⟨XA, aEX, H⟩ := cP H
   obtain ⟨Jb, H⟩ := cL H
   obtain ⟨FE, I7, H⟩ := bY H
   obtain ⟨yL, I8, H⟩ := bY H
   obtain ⟨Jc, H⟩ := cL H
   obtain ⟨QE, X0, H⟩ := bY H
   have MX := eq_true (oT : 0 ≤ bV)
   have Wa := eq_true (oT : bV ≤ (l0.length : Int))
   obtain ⟨Je, H⟩ := cL H
   obtain ⟨aPF, Jw⟩ := yv (QE ++ (l0.drop (bV : Int).toNat)); first | replace H := bW Jw H | rw [← Jw.1] at H
   obtain rfl := Option.some.inj H
   repeat clear H
   try go_wp2
   replace HB := am (aV HB.1)
   obtain ⟨i034, Wx, _, hsz34, _⟩ := info_parts jT
   obtain ⟨hcut34, hA34, hC34⟩ := kD (P := Try.prog) Value.string (⟨#[]⟩ : ByteArray) 23 9 .i64 Try.underlying23 Wx hsz34 A0 c0 l0 bV (oT) (oT) O0.1
   have Cr := am (Kd.kI (h1 := fun _ => rfl) (hA34 _ (Kd.kK rD.1)))
   have aBN := am hC34
   clear hA34 hC34 Wx hsz34
   obtain ⟨i035, XQ, _, hsz35, _⟩ := info_parts jT
   obtain ⟨A35, hcut35, hA35, hC35⟩ := IM (P := Try.prog) Value.string (⟨#[]⟩ : ByteArray) 23 9 .i64 Try.underlying23 XQ hsz35 A0 c0 l0 bV (oT) (oT) O0.1
   have It := am (Kd.kI (h1 := fun _ => rfl) (hA35 _ (Kd.kK rD.1)))
   have aBQ := am hC35
   clear hA35 hC35 XQ hsz35
   refine sT (S := fun w' => True) [] 13 ⟨trivial⟩ (fun hHeld => ?_)
   refine dZ dF.tab6 dF.wX (fun HT_ HW_ => ?_)
   generalize wr.drew = Pv at HB Cr It hHeld ⊢
   refine pU7 1 2 3 5 8 9 10 ?_
   refine SK (σ := Value × Value × Value) 3 (bz 13 1919) (fun s_ => [(33, s_.1), (37, s_.2.1), (39, s_.2.2)]) (fun s_ w' => (Kd.R Kd.string 9 w' w.heap.size (fun k_ => some k_ ≠ (s_.2.2 : Value).ownBlock) s_.2.1 FE) ∧ (Kd.R Kd.string 9 w' w.heap.size (fun k_ => some k_ ≠ (s_.2.1 : Value).ownBlock) s_.2.2 yL) ∧ (Below w.heap.size w w')) ?_ ?_
   rotate_left
   ·intro hCont
    refine two_ (i := 0) (j := 6) (Ni := some 33) (Nj := some 39) (bz 13 1839) (bz 13 1902) rfl rfl rfl rfl (BC HT_.out (by kernel_rfl)) (by decide) (by decide) (fun K hK => ?_) (fun K hK => ?_)
    ·skip
     refine lT 9 33 Di ?_
     intro NX Ou M5 hb
     have oH := am (Kd.cO M5 (aG eI))
     replace HB := bS eI hb
     clear hb M5
     refine hK.out _ _ trivial (fun hHeld => ?_)
     clear hK K
     refine nM ?_
     refine two_ (i := 4) (j := 6) (Ni := some 37) (Nj := some 39) (bz 13 1855) (bz 13 1903) rfl rfl rfl rfl (BC HT_.out (by kernel_rfl)) (by decide) (by decide) (fun K hK => ?_) (fun K hK => ?_)
     ·skip
      refine Kd.dV Kd.string (w0 := w) w.heap.size (by rfl) (.tmp 33) (.tmp 36) 23 9 (.string ⟨#[]⟩) 16 rfl Try.underlying23 jT rfl (by decide) (by omega) NX MJ (l0.take (bV : Int).toNat) _ _ _ (fun _ => True) (fun _ => False) rfl rfl ?aO ?aR (fun _ _ h => h) (fun _ h => h.elim) ?aF ?aB ?aS ?aL ?_
      (case aR => (have e_ : (l0.take (bV : Int).toNat).length = bV.toNat := (by rw [List.length_take]; have h_ : (bV : Int) ≤ (l0.length : Int) := oT; omega); have q_ := Kd.bK Cr.1 HB.1; rw [e_] at q_; exact q_))
      (case aB => exact eI)
      (case aF => exact (fun _ _ => trivial))
      (case aO => exact (rR oH.1))
      (case aS => exact (aG eI))
      (case aL => have := Jb.out; have hlx_ := (show (l0.take (bV : Int).toNat).length = bV.toNat from (by rw [List.length_take]; have h_ : (bV : Int) ≤ (l0.length : Int) := oT; omega)); omega)
      intro y6 Hx ho hb hg hat
      rw [← I7.out] at ho
      replace HB := am hb
      have mH := am ho
      clear oH
      clear ho hb hg hat
      refine hK.out _ _ trivial (fun hHeld => ?_)
      clear hK K
      refine nM ?_
      refine oN 6 (some 39) fun K hK => ?_
      refine lT 9 39 I8 ?_
      intro I1 WQ ey hb
      have lE := am (Kd.cO (Kd.eF ey (Kd.R_lt NJ)) (aG eI))
      replace mH := am (Kd.dJ NJ (Kd.bL ey) hb)
      replace HB := bS eI hb
      clear hb ey
      refine hK.out _ _ trivial (fun hHeld => ?_)
      clear hK K
      refine nM ?_
      exact rW xY (hCont (NX, y6, I1) _ ⟨(by refine rR ?_; exact Kd.aM mH.1 (fun _ hk => hk.2)), (by refine rR ?_; exact Kd.aM lE.1 (fun _ hk => hk.2)), eI⟩)
     ·skip
      refine lT 9 39 I8 ?_
      intro I1 Hx Au hb
      have lE := am (Kd.cO (Kd.eF Au (Kd.R_lt (rR oH.1))) (aG eI))
      replace oH := am (Kd.dJ (rR oH.1) (Kd.bL Au) hb)
      replace HB := bS eI hb
      clear hb Au
      refine hK.out _ _ trivial (fun hHeld => ?_)
      clear hK K
      refine nM ?_
      refine oN 4 (some 37) fun K hK => ?_
      refine Kd.dV Kd.string (w0 := w) w.heap.size (by rfl) (.tmp 33) (.tmp 36) 23 9 (.string ⟨#[]⟩) 16 rfl Try.underlying23 jT rfl (by decide) (by omega) NX MJ (l0.take (bV : Int).toNat) _ _ _ (fun k_ => some k_ ≠ (I1 : Value).ownBlock) (fun _ => False) rfl rfl ?aO ?aR (fun _ _ h => h) (fun _ h => h.elim) ?aF ?aB ?aS ?aL ?_
      (case aR => (have e_ : (l0.take (bV : Int).toNat).length = bV.toNat := (by rw [List.length_take]; have h_ : (bV : Int) ≤ (l0.length : Int) := oT; omega); have q_ := Kd.bK Cr.1 HB.1; rw [e_] at q_; exact q_))
      (case aB => exact eI)
      (case aF => exact (fun k_ hk => Kd.fresh' (Kd.R_lt DP) k_ hk))
      (case aO => exact (by refine rR ?_; exact Kd.aM oH.1 (fun _ hk => hk.2)))
      (case aS => exact (aG eI))
      (case aL => have := Jb.out; have hlx_ := (show (l0.take (bV : Int).toNat).length = bV.toNat from (by rw [List.length_take]; have h_ : (bV : Int) ≤ (l0.length : Int) := oT; omega)); omega)
      intro y6 w40 ho hb hg hat
      rw [← I7.out] at ho
      replace lE := am (Kd.gW (ok := (fun _ => True)) DP hg hat)
      replace HB := am hb
      have mH := am ho
      clear oH
      clear ho hb hg hat
      refine hK.out _ _ trivial (fun hHeld => ?_)
      clear hK K
      refine nM ?_
      exact rW xY (hCont (NX, y6, I1) _ ⟨NJ, (by refine rR ?_; exact Kd.aM lE.1 (fun _ hk => hk.2)), eI⟩)
    ·skip
     refine lT 9 39 I8 ?_
     intro I1 Ou M5 hb
     have lE := am (Kd.cO M5 (aG eI))
     replace HB := bS eI hb
     clear hb M5
     refine hK.out _ _ trivial (fun hHeld => ?_)
     clear hK K
     refine nM ?_
     refine oN 0 (some 33) fun K hK => ?_
     refine lT 9 33 Di ?_
     intro NX Hx Au hb
     have oH := am (Kd.cO (Kd.eF Au (Kd.R_lt DP)) (aG eI))
     replace lE := am (Kd.dJ DP (Kd.bL Au) hb)
     replace HB := bS eI hb
     clear hb Au
     refine hK.out _ _ trivial (fun hHeld => ?_)
     clear hK K
     refine nM ?_
     refine oN 4 (some 37) fun K hK => ?_
     refine Kd.dV Kd.string (w0 := w) w.heap.size (by rfl) (.tmp 33) (.tmp 36) 23 9 (.string ⟨#[]⟩) 16 rfl Try.underlying23 jT rfl (by decide) (by omega) NX MJ (l0.take (bV : Int).toNat) _ _ _ (fun k_ => some k_ ≠ (I1 : Value).ownBlock) (fun _ => False) rfl rfl ?aO ?aR (fun _ _ h => h) (fun _ h => h.elim) ?aF ?aB ?aS ?aL ?_
     (case aR => (have e_ : (l0.take (bV : Int).toNat).length = bV.toNat := (by rw [List.length_take]; have h_ : (bV : Int) ≤ (l0.length : Int) := oT; omega); have q_ := Kd.bK Cr.1 HB.1; rw [e_] at q_; exact q_))
     (case aB => exact eI)
     (case aF => exact (fun k_ hk => Kd.fresh' (Kd.R_lt DP) k_ hk))
     (case aO => exact (by refine rR ?_; exact Kd.aM oH.1 (fun _ hk => hk.2)))
     (case aS => exact (aG eI))
     (case aL => have := Jb.out; have hlx_ := (show (l0.take (bV : Int).toNat).length = bV.toNat from (by rw [List.length_take]; have h_ : (bV : Int) ≤ (l0.length : Int) := oT; omega)); omega)
     intro y6 w40 ho hb hg hat
     rw [← I7.out] at ho
     replace lE := am (Kd.gW (ok := (fun _ => True)) DP hg hat)
     replace HB := am hb
     have mH := am ho
     clear oH
     clear ho hb hg hat
     refine hK.out _ _ trivial (fun hHeld => ?_)
     clear hK K
     refine nM ?_
     exact rW xY (hCont (NX, y6, I1) _ ⟨NJ, (by refine rR ?_; exact Kd.aM lE.1 (fun _ hk => hk.2)), eI⟩)
   rintro ⟨NX, y6, I1⟩ jk ⟨h0_, h1_, h2_⟩
   have mH : aA (Kd.R Kd.string 9 jk w.heap.size (fun k_ => some k_ ≠ (I1 : Value).ownBlock) y6 FE) := ⟨h0_⟩
   have lE : aA (Kd.R Kd.string 9 jk w.heap.size (fun k_ => some k_ ≠ (y6 : Value).ownBlock) I1 yL) := ⟨h1_⟩
   replace HB : aA (Below w.heap.size w jk) := ⟨h2_⟩
   clear h0_ h1_ h2_
   have hHeld := trivial
   obtain ⟨mf, sb, st⟩ := Kd.bN lE.1
   (first | subst st | (obtain ⟨f4_, f5_⟩ := sj st; subst f4_; subst f5_))
   refine rW (a' := ?_) ?_ ?_
   rotate_left
   ·simp only [CX, Act.put, List.setIfInBounds_toArray, List.set_cons_zero, List.set_cons_succ]
    rfl
   refine oN 7 (some 40) fun K hK => ?_
   refine Kd.dV Kd.string (w0 := w) w.heap.size (by rfl) (.tmp 37) (.tmp 39) 23 9 (.string ⟨#[]⟩) 16 rfl Try.underlying23 jT rfl (by decide) (by omega) y6 FE yL _ _ _ (fun k_ => some k_ ≠ (.slice mf yL.length sb : Value).ownBlock) (fun _ => False) rfl rfl ?aO ?aR (fun _ _ h => h) (fun _ h => h.elim) ?aF ?aB ?aS ?aL ?_
   (case aR => repeat (first | exact (Kd.aT lE.1).2.2 | (with_reducible refine Kd.gU ?_ _) | (with_reducible refine Kd.gV ?_ _) | (with_reducible refine Kd.iW ?_)))
   (case aB => exact eI)
   (case aF => exact (fun k_ hk => Kd.fresh' (Kd.R_lt DP) k_ hk))
   (case aO => exact NJ)
   (case aS => exact (aG eI))
   (case aL => have := Jc.out; omega)
   intro Ot w42 ho hb hg hat
   rw [← X0.out] at ho
   replace lE := am (Kd.gW (ok := (fun _ => True)) (by refine rR ?_; exact Kd.aM lE.1 (fun _ hk => ⟨trivial, hk⟩)) hg hat)
   replace HB := am hb
   have nI := am ho
   clear mH
   clear ho hb hg hat
   refine hK.out _ _ trivial (fun hHeld => ?_)
   clear hK K
   refine nM ?_
   refine oN 11 (some 44) fun K hK => ?_
   refine Kd.dV Kd.string (w0 := w) w.heap.size (by rfl) (.tmp 40) (.tmp 43) 23 9 (.string ⟨#[]⟩) 16 rfl Try.underlying23 jT rfl (by decide) (by omega) Ot QE (l0.drop (bV : Int).toNat) _ _ _ (fun k_ => some k_ ≠ (.slice mf yL.length sb : Value).ownBlock) (fun _ => False) rfl rfl ?aO ?aR (fun _ _ h => h) (fun _ h => h.elim) ?aF ?aB ?aS ?aL ?_
   (case aR => first | (rw [← show (l0.drop (bV : Int).toNat).length = (l0.length - bV.toNat) from List.length_drop]; repeat (first | exact (Kd.bK It.1 HB.1) | (with_reducible refine Kd.gU ?_ _) | (with_reducible refine Kd.gV ?_ _) | (with_reducible refine Kd.iW ?_))) | (repeat (first | exact (Kd.bK It.1 HB.1) | (with_reducible refine Kd.gU ?_ _) | (with_reducible refine Kd.gV ?_ _) | (with_reducible refine Kd.iW ?_))))
   (case aB => exact eI)
   (case aF => exact (fun k_ hk => Kd.fresh' (Kd.R_lt DP) k_ hk))
   (case aO => exact (rR nI.1))
   (case aS => exact (aG eI))
   (case aL => have := Je.out; have hlx_ := (show (l0.drop (bV : Int).toNat).length = (l0.length - bV.toNat) from List.length_drop); omega)
   intro aAF lq ho hb hg hat
   rw [← Jw.out] at ho
   replace lE := am (Kd.gW (ok := (fun _ => True)) DP hg hat)
   replace HB := am hb
   have vZ := am ho
   clear nI
   clear ho hb hg hat
   refine hK.out _ _ trivial (fun hHeld => ?_)
   clear hK K
   refine nM ?_
   refine pU1 12 ?_
   refine dN ?_
   try go_wp2
   go_ret
   exact ⟨_, eR, by refine rR ?_; exact Kd.aM vZ.1 (fun _ hk => trivial), eI⟩
def insF (a : ByteArray) : List ByteArray → Bool
 | [] => false
 | x :: t => if Op.bytesLess x.toList a.toList = true then insF a t else x.toList == a.toList
def dF.q0 : Nat → List ByteArray → ByteArray → Int → Option Bool
 | 0, _, _, _ => none
 | k + 1, b, c, a => if a < (b.length : Int) then (if 0 ≤ a then (if (Op.bytesLess ((rdOf ByteArray.empty b a).toList) c.toList) = true then (dF.q0 k b c (wrap64 (a + 1))) else (if (rdOf ByteArray.empty b a).toList = c.toList then some true else none)) else none) else none
theorem dF.Xk (l : List ByteArray) (a : ByteArray) (hl : l.length ≤ 9223372036854775807) : ∀ (n i : Nat), i + n = l.length → insF a (l.drop i) = true → dF.q0 (n + 1) l a i = some true
 | 0, i, hi, h => by rw [List.drop_eq_nil_of_le (by omega)] at h; cases h
 | n + 1, i, hi, h => by
  have hlt : i < l.length := by omega
  rw [List.drop_eq_getElem_cons hlt] at h
  have e1 : rdOf ByteArray.empty l (i : Int) = l[i] := by unfold rdOf; rw [Int.toNat_natCast]; simp [List.getD_eq_getElem?_getD, hlt]
  unfold dF.q0
  rw [if_pos (by omega), if_pos (by omega), e1]
  unfold insF at h
  by_cases hc : Op.bytesLess l[i].toList a.toList = true
  ·rw [if_pos hc] at h ⊢
   rw [show wrap64 ((i : Int) + 1) = ((i + 1 : Nat) : Int) by unfold wrap64; omega]
   exact dF.Xk l a hl n (i + 1) (by omega) h
  ·rw [if_neg hc] at h ⊢
   rw [if_pos (by simpa using h)]
theorem dF.same (k : Nat) (A0 : Option Addr) (c0 : Nat) (l0 : List ByteArray) (a1 : ByteArray) (w : World) (r5 : Kd.C Kd.string w A0 l0.length l0) (xK : l0.length ≤ c0) (h : dF.q0 k l0 a1 0 = some true) :
  Calls Try.prog 106 #[.slice A0 l0.length c0, .string a1] w fun e w' => e = .returned (.slice A0 l0.length c0) ∧ Below w.heap.size w w' := by
 obtain ⟨rD, O0⟩ := mZ2 r5 xK
 clear r5 xK
 have HB := am (Below.refl w.heap.size w)
 have H := h
 clear h
 have H' := am H
 repeat clear H
 go_enter Try.func106, Try.ntmps106
 go_wp2
 go_loopg [5] k (fun kq v5 w' => ∃ (bV : Int), v5 = .int .i64 bV ∧ aA (dF.q0 kq l0 a1 bV = some true) ∧ aA (kq ≤ k) ∧ aA (Below w.heap.size w w'))
 case atStart => exact ⟨(0), dH, H', ⟨Nat.le_refl _⟩, ⟨eI⟩⟩
 clear H'
 obtain ⟨bV, rfl, HA, HK1, HB⟩ := hrel
 cases gk with
 | zero => exact absurd HA.out (by simp [dF.q0])
 | succ k1 =>
  have H := HA.out
  clear HA
  simp only [dF.q0] at H
  by_cases c3 : bV < (l0.length : Int)
  ·rw [if_pos c3] at H
   have BG : decide (bV < (l0.length : Int)) = true := decide_eq_true c3
   clear c3
   by_cases c4 : 0 ≤ bV
   ·rw [if_pos c4] at H
    have vT : decide (0 ≤ bV) = true := decide_eq_true c4
    clear c4
    refine tC H ?_ ?_ <;> clear H <;> intro EO H
    ·have H' := am H
     repeat clear H
     obtain ⟨jW, nV, kZ, wL, wN⟩ := aS rD HB bV
     cases nV
     go_wp2
     go_roundg k1
     case measure => have := HK1.out; omega
     case rel => exact ⟨(wrap64 (bV + 1)), dH, H', ⟨by have := HK1.out; omega⟩, ⟨eI⟩⟩
    ·by_cases c6 : (rdOf ByteArray.empty l0 bV).toList = a1.toList
     ·rw [if_pos c6] at H
      have PK : ((rdOf ByteArray.empty l0 bV).toList == a1.toList) = true := beq_iff_eq.mpr c6
      have ZZ : ((rdOf ByteArray.empty l0 bV).toList != a1.toList) = false := bne_eq_false_iff_eq.mpr c6
      clear c6 H
      obtain ⟨jW, nV, kZ, wL, wN⟩ := aS rD HB bV
      cases nV
      obtain ⟨oC, sG, o2, CV, CY⟩ := aS rD HB bV
      obtain rfl : jW = oC := (by injection sG)
      go_wp2
      go_ret
      exact ⟨rfl, eI⟩
     ·rw [if_neg c6] at H; cases H
   ·rw [if_neg c4] at H; cases H
  ·rw [if_neg c3] at H; cases H
end Go.Proofs.Ytaofjgnhapnndaa.Q
