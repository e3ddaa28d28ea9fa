/- Texts that the row needs: words on memory and rows, the contracts of the functions it reaches, and the plain lemmas on what they compute. -/
import Derived.Laws.StructEq
import Derived.Test.YtaofjgnhapnndaaXkoab
open Go.Proofs.YtaofjgnhapnndaaFko
namespace Go.Proofs.YtaofjgnhapnndaaW.PrintLast
open Go.RowKit Go.Proofs.YtaofjgnhapnndaaW.PrintWords Go.Proofs.YtaofjgnhapnndaaW.PrintLast Go.Proofs.YtaofjgnhapnndaaW.PrintMore
section
variable {P : Program} {ops : Array Oper} {Q : Exit → Act → World → Prop} {md : Region.Mode} {S : World → Prop} {ds : List Nat}
theorem pW : (∀ (a : Act) (d : Tmp) (v : Value), a.put (some d) v = { a with tmps := a.tmps.setIfInBounds d v }) ∧ (∀ (a : Act) (v : Value), a.put none v = a) ∧ (∀ (l : List Value) (i : Nat) (v : Value), l.toArray.setIfInBounds i v = (l.set i v).toArray) ∧ (∀ (x y : Value) (l : List Value), (x :: l).set 0 y = y :: l) ∧ (∀ (x y : Value) (n : Nat) (l : List Value), (x :: l).set (n + 1) y = x :: l.set n y) ∧ (∀ n : Int, IntKind.i64.wrap n = Go.RowKit.wrap64 n) ∧ (∀ n : Int, IntKind.i32.wrap n = Go.RowKit.wrap32 n) := ⟨fun _ _ _ => rfl, fun _ _ => rfl, by intros; simp only [List.setIfInBounds_toArray], fun _ _ _ => rfl, fun _ _ _ _ => rfl, mV, pE⟩
def bzl : Nat → Nat → List Bool
  | 0, _ => []
  | n + 1, m => (m % 2 == 1) :: bzl n (m / 2)
def bz (n m : Nat) : Array Bool := ⟨bzl n m⟩
theorem pU {v : Value} {n m : Nat} {oi : Oper} {fuel : Nat} {a : Act} {w : World} (i : Nat) (N : Option Tmp) {a' : Act}
 (h : bD P md ops Q S ds fuel (bz n (m + 2 ^ i)) a' w)
 (hi : ops[i]? = some oi := by exact rfl) (hN : oi.dst = N := by exact rfl)
 (hc : anyB md ops (bz n m) (bz n (m + 2 ^ i)) i = true := by exact U4 HT_.out (by kernel_rfl))
 (hQ : ∀ c a w, Q (.panic c) (a.put oi.dst v) w → Q (.panic c) a w := by exact (fun _ _ _ h => h))
 (hy : Yields P ops oi v a := by exact Or.inl ⟨by rfl, by intro w'; go_simp; with_reducible rfl⟩)
 (ha : a.put N v = a' := by (simp only [pW]; rfl)) :
 bD P md ops Q S ds (fuel + 1) (bz n m) a w := Nz _ hi hN hc hQ hy ha h
theorem pV {n m : Nat} {oi : Oper} {fuel : Nat} {a : Act} {w : World} (i : Nat) (N : Option Tmp) {a' : Act}
 (h : bD P md ops Q S ds fuel (bz n (m + 2 ^ i)) a' w)
 (hi : ops[i]? = some oi := by exact rfl) (hN : oi.dst = N := by exact rfl)
 (hc : anyB md ops (bz n m) (bz n (m + 2 ^ i)) i = true := by exact U4 HT_.out (by kernel_rfl))
 (hQ : ∀ c a w, Q (.panic c) (a.put oi.dst undef) w → Q (.panic c) a w := by exact (fun _ _ _ h => h))
 (hy : Yields P ops oi undef a := by exact Or.inr ⟨by rfl, rfl⟩)
 (ha : a.put N undef = a' := by (simp only [pW]; rfl)) :
 bD P md ops Q S ds (fuel + 1) (bz n m) a w := Nz _ hi hN hc hQ hy ha h
theorem pU0 {v : Value} {n m : Nat} {oi : Oper} {fuel : Nat} {a : Act} {w : World} (i : Nat) (N : Option Tmp) {a' : Act}
 (h : bD P md ops Q S ds fuel (bz n (m + 2 ^ i)) a' w)
 (hi : ops[i]? = some oi := by exact rfl) (hN : oi.dst = N := by exact rfl)
 (hc : anyB md ops (bz n m) (bz n (m + 2 ^ i)) i = true := by kernel_rfl)
 (hQ : ∀ c a w, Q (.panic c) (a.put oi.dst v) w → Q (.panic c) a w := by exact (fun _ _ _ h => h))
 (hy : Yields P ops oi v a := by exact Or.inl ⟨by rfl, by intro w'; go_simp; with_reducible rfl⟩)
 (ha : a.put N v = a' := by (simp only [pW]; rfl)) :
 bD P md ops Q S ds (fuel + 1) (bz n m) a w := Nz _ hi hN hc hQ hy ha h
theorem tK1 {v : Value} {n m : Nat} {oi : Oper} {fuel : Nat} {a : Act} {w : World} (i : Nat) (N : Option Tmp) {a' : Act}
 (h : bD P md ops Q S ds fuel (bz n (m + 2 ^ i)) a' w)
 (hi : ops[i]? = some oi := by exact rfl) (hN : oi.dst = N := by exact rfl)
 (hc : takeB md ops ds (bz n m) (bz n (m + 2 ^ i)) i = true := by exact y5 HT_.out HW_.out (by kernel_rfl))
 (hQ : ∀ c a w, Q (.panic c) (a.put oi.dst v) w → Q (.panic c) a w := by exact (fun _ _ _ h => h))
 (hy : YieldsIf P ops S oi v a := by exact Or.inl ⟨by rfl, by intro w' s0; go_simp; with_reducible rfl⟩) (hS : S w := by exact hHeld)
 (ha : a.put N v = a' := by (simp only [pW]; rfl)) :
 bD P md ops Q S ds (fuel + 1) (bz n m) a w := DT _ hi hN hc hQ hy hS ha h
theorem tK2 {v : Value} {n m : Nat} {oi : Oper} {fuel : Nat} {a : Act} {w : World} (i : Nat) (N : Option Tmp) {a' : Act}
 (h : bD P md ops Q S ds fuel (bz n (m + 2 ^ i)) a' w)
 (hi : ops[i]? = some oi := by exact rfl) (hN : oi.dst = N := by exact rfl)
 (hc : takeB md ops ds (bz n m) (bz n (m + 2 ^ i)) i = true := by exact y5 HT_.out HW_.out (by kernel_rfl))
 (hQ : ∀ c a w, Q (.panic c) (a.put oi.dst v) w → Q (.panic c) a w := by exact (fun _ _ _ h => h))
 (hy : YieldsIf P ops S oi v a := by exact Or.inl ⟨by rfl, by rintro w' ⟨s0, s1⟩; go_simp; with_reducible rfl⟩) (hS : S w := by exact hHeld)
 (ha : a.put N v = a' := by (simp only [pW]; rfl)) :
 bD P md ops Q S ds (fuel + 1) (bz n m) a w := DT _ hi hN hc hQ hy hS ha h
theorem tK2_ {v : Value} {n m : Nat} {oi : Oper} {fuel : Nat} {a : Act} {w : World} (i : Nat) (N : Option Tmp) {a' : Act}
 (h : bD P md ops Q S ds fuel (bz n (m + 2 ^ i)) a' w)
 (hi : ops[i]? = some oi := by exact rfl) (hN : oi.dst = N := by exact rfl)
 (hc : takeB md ops ds (bz n m) (bz n (m + 2 ^ i)) i = true := by kernel_rfl)
 (hQ : ∀ c a w, Q (.panic c) (a.put oi.dst v) w → Q (.panic c) a w := by exact (fun _ _ _ h => h))
 (hy : YieldsIf P ops S oi v a := by exact Or.inl ⟨by rfl, by rintro w' ⟨s0, s1⟩; go_simp; with_reducible rfl⟩) (hS : S w := by exact hHeld)
 (ha : a.put N v = a' := by (simp only [pW]; rfl)) :
 bD P md ops Q S ds (fuel + 1) (bz n m) a w := DT _ hi hN hc hQ hy hS ha h
theorem tK3 {v : Value} {n m : Nat} {oi : Oper} {fuel : Nat} {a : Act} {w : World} (i : Nat) (N : Option Tmp) {a' : Act}
 (h : bD P md ops Q S ds fuel (bz n (m + 2 ^ i)) a' w)
 (hi : ops[i]? = some oi := by exact rfl) (hN : oi.dst = N := by exact rfl)
 (hc : takeB md ops ds (bz n m) (bz n (m + 2 ^ i)) i = true := by exact y5 HT_.out HW_.out (by kernel_rfl))
 (hQ : ∀ c a w, Q (.panic c) (a.put oi.dst v) w → Q (.panic c) a w := by exact (fun _ _ _ h => h))
 (hy : YieldsIf P ops S oi v a := by exact Or.inl ⟨by rfl, by rintro w' ⟨s0, s1, s2⟩; go_simp; with_reducible rfl⟩) (hS : S w := by exact hHeld)
 (ha : a.put N v = a' := by (simp only [pW]; rfl)) :
 bD P md ops Q S ds (fuel + 1) (bz n m) a w := DT _ hi hN hc hQ hy hS ha h
theorem tK3_ {v : Value} {n m : Nat} {oi : Oper} {fuel : Nat} {a : Act} {w : World} (i : Nat) (N : Option Tmp) {a' : Act}
 (h : bD P md ops Q S ds fuel (bz n (m + 2 ^ i)) a' w)
 (hi : ops[i]? = some oi := by exact rfl) (hN : oi.dst = N := by exact rfl)
 (hc : takeB md ops ds (bz n m) (bz n (m + 2 ^ i)) i = true := by kernel_rfl)
 (hQ : ∀ c a w, Q (.panic c) (a.put oi.dst v) w → Q (.panic c) a w := by exact (fun _ _ _ h => h))
 (hy : YieldsIf P ops S oi v a := by exact Or.inl ⟨by rfl, by rintro w' ⟨s0, s1, s2⟩; go_simp; with_reducible rfl⟩) (hS : S w := by exact hHeld)
 (ha : a.put N v = a' := by (simp only [pW]; rfl)) :
 bD P md ops Q S ds (fuel + 1) (bz n m) a w := DT _ hi hN hc hQ hy hS ha h
theorem tK4 {v : Value} {n m : Nat} {oi : Oper} {fuel : Nat} {a : Act} {w : World} (i : Nat) (N : Option Tmp) {a' : Act}
 (h : bD P md ops Q S ds fuel (bz n (m + 2 ^ i)) a' w)
 (hi : ops[i]? = some oi := by exact rfl) (hN : oi.dst = N := by exact rfl)
 (hc : takeB md ops ds (bz n m) (bz n (m + 2 ^ i)) i = true := by exact y5 HT_.out HW_.out (by kernel_rfl))
 (hQ : ∀ c a w, Q (.panic c) (a.put oi.dst v) w → Q (.panic c) a w := by exact (fun _ _ _ h => h))
 (hy : YieldsIf P ops S oi v a := by exact Or.inl ⟨by rfl, by rintro w' ⟨s0, s1, s2, s3⟩; go_simp; with_reducible rfl⟩) (hS : S w := by exact hHeld)
 (ha : a.put N v = a' := by (simp only [pW]; rfl)) :
 bD P md ops Q S ds (fuel + 1) (bz n m) a w := DT _ hi hN hc hQ hy hS ha h
theorem tK5 {v : Value} {n m : Nat} {oi : Oper} {fuel : Nat} {a : Act} {w : World} (i : Nat) (N : Option Tmp) {a' : Act}
 (h : bD P md ops Q S ds fuel (bz n (m + 2 ^ i)) a' w)
 (hi : ops[i]? = some oi := by exact rfl) (hN : oi.dst = N := by exact rfl)
 (hc : takeB md ops ds (bz n m) (bz n (m + 2 ^ i)) i = true := by exact y5 HT_.out HW_.out (by kernel_rfl))
 (hQ : ∀ c a w, Q (.panic c) (a.put oi.dst v) w → Q (.panic c) a w := by exact (fun _ _ _ h => h))
 (hy : YieldsIf P ops S oi v a := by exact Or.inl ⟨by rfl, by rintro w' ⟨s0, s1, s2, s3, s4⟩; go_simp; with_reducible rfl⟩) (hS : S w := by exact hHeld)
 (ha : a.put N v = a' := by (simp only [pW]; rfl)) :
 bD P md ops Q S ds (fuel + 1) (bz n m) a w := DT _ hi hN hc hQ hy hS ha h
theorem tK6 {v : Value} {n m : Nat} {oi : Oper} {fuel : Nat} {a : Act} {w : World} (i : Nat) (N : Option Tmp) {a' : Act}
 (h : bD P md ops Q S ds fuel (bz n (m + 2 ^ i)) a' w)
 (hi : ops[i]? = some oi := by exact rfl) (hN : oi.dst = N := by exact rfl)
 (hc : takeB md ops ds (bz n m) (bz n (m + 2 ^ i)) i = true := by exact y5 HT_.out HW_.out (by kernel_rfl))
 (hQ : ∀ c a w, Q (.panic c) (a.put oi.dst v) w → Q (.panic c) a w := by exact (fun _ _ _ h => h))
 (hy : YieldsIf P ops S oi v a := by exact Or.inl ⟨by rfl, by rintro w' ⟨s0, s1, s2, s3, s4, s5⟩; go_simp; with_reducible rfl⟩) (hS : S w := by exact hHeld)
 (ha : a.put N v = a' := by (simp only [pW]; rfl)) :
 bD P md ops Q S ds (fuel + 1) (bz n m) a w := DT _ hi hN hc hQ hy hS ha h
theorem tK8 {v : Value} {n m : Nat} {oi : Oper} {fuel : Nat} {a : Act} {w : World} (i : Nat) (N : Option Tmp) {a' : Act}
 (h : bD P md ops Q S ds fuel (bz n (m + 2 ^ i)) a' w)
 (hi : ops[i]? = some oi := by exact rfl) (hN : oi.dst = N := by exact rfl)
 (hc : takeB md ops ds (bz n m) (bz n (m + 2 ^ i)) i = true := by exact y5 HT_.out HW_.out (by kernel_rfl))
 (hQ : ∀ c a w, Q (.panic c) (a.put oi.dst v) w → Q (.panic c) a w := by exact (fun _ _ _ h => h))
 (hy : YieldsIf P ops S oi v a := by exact Or.inl ⟨by rfl, by rintro w' ⟨s0, s1, s2, s3, s4, s5, s6, s7⟩; go_simp; with_reducible rfl⟩) (hS : S w := by exact hHeld)
 (ha : a.put N v = a' := by (simp only [pW]; rfl)) :
 bD P md ops Q S ds (fuel + 1) (bz n m) a w := DT _ hi hN hc hQ hy hS ha h
theorem tK13 {v : Value} {n m : Nat} {oi : Oper} {fuel : Nat} {a : Act} {w : World} (i : Nat) (N : Option Tmp) {a' : Act}
 (h : bD P md ops Q S ds fuel (bz n (m + 2 ^ i)) a' w)
 (hi : ops[i]? = some oi := by exact rfl) (hN : oi.dst = N := by exact rfl)
 (hc : takeB md ops ds (bz n m) (bz n (m + 2 ^ i)) i = true := by exact y5 HT_.out HW_.out (by kernel_rfl))
 (hQ : ∀ c a w, Q (.panic c) (a.put oi.dst v) w → Q (.panic c) a w := by exact (fun _ _ _ h => h))
 (hy : YieldsIf P ops S oi v a := by exact Or.inl ⟨by rfl, by rintro w' ⟨s0, s1, s2, s3, s4, s5, s6, s7, s8, s9, s10, s11, s12⟩; go_simp; with_reducible rfl⟩) (hS : S w := by exact hHeld)
 (ha : a.put N v = a' := by (simp only [pW]; rfl)) :
 bD P md ops Q S ds (fuel + 1) (bz n m) a w := DT _ hi hN hc hQ hy hS ha h
theorem pC {p q : Prop} (x : q) (h : q → p := by intro hx; repeat (first | exact hx | (with_reducible refine Kd.gU ?_ _) | (with_reducible refine Kd.gV ?_ _) | (with_reducible refine Kd.iW ?_))) : p := h x
theorem pY0 {p : Prop} (h : p := by (with_reducible repeat (first | refine fA ?_ _ | refine eY ?_ | refine dE ?_ _)); refine eH (cs := #[.string ((aC sS y7).f0), .slice TC ((aC sS y7).f1).length U7, .slice none 0 0]) ?_ 2 _ rfl; (with_reducible repeat (first | refine fA ?_ _ | refine eY ?_ | refine dE ?_ _)); refine eH (cs := #[.string ((aC sS y7).f0), .slice none 0 0, .slice none 0 0]) ?_ 1 _ rfl; (with_reducible repeat (first | refine fA ?_ _ | refine eY ?_ | refine dE ?_ _)); refine eH (cs := #[.string (⟨#[]⟩ : ByteArray), .slice none 0 0, .slice none 0 0]) ?_ 0 _ rfl; (with_reducible repeat (first | refine fA ?_ _ | refine eY ?_ | refine dE ?_ _)); exact Cc.1) : p := h
theorem pY2 {p : Prop} (h : p := by (with_reducible repeat (first | refine fA ?_ _ | refine eY ?_ | refine dE ?_ _)); refine eH (cs := #[.string ((aC aI mL).f0), .slice zS ((aC aI mL).f1).length AB, .slice none 0 0]) ?_ 2 _ rfl; (with_reducible repeat (first | refine fA ?_ _ | refine eY ?_ | refine dE ?_ _)); refine eH (cs := #[.string ((aC aI mL).f0), .slice none 0 0, .slice none 0 0]) ?_ 1 _ rfl; (with_reducible repeat (first | refine fA ?_ _ | refine eY ?_ | refine dE ?_ _)); refine eH (cs := #[.string (⟨#[]⟩ : ByteArray), .slice none 0 0, .slice none 0 0]) ?_ 0 _ rfl; (with_reducible repeat (first | refine fA ?_ _ | refine eY ?_ | refine dE ?_ _)); exact gL.1) : p := h
theorem pY4 {p : Prop} (h : p := by (with_reducible repeat (first | refine fA ?_ _ | refine eY ?_ | refine dE ?_ _)); refine dY ?_ qL.1 _; (with_reducible repeat (first | refine fA ?_ _ | refine eY ?_ | refine dE ?_ _)); refine dY ?_ qL.1 _; (with_reducible repeat (first | refine fA ?_ _ | refine eY ?_ | refine dE ?_ _)); refine dY ?_ qL.1 _; (with_reducible repeat (first | refine fA ?_ _ | refine eY ?_ | refine dE ?_ _)); exact a3.1) : p := h
theorem Ps {p : Prop} (h : p := by (with_reducible repeat (first | apply Kd.mD | apply Kd.mE | apply Kd.nU)); exact (Kd.aM (Kd.qO (p := ⟨uH, 2, none⟩) (Kd.qO (p := ⟨uH, 1, none⟩) (Kd.qO (p := ⟨uH, 0, none⟩) (Kd.fK lO.1 gL.1 (by decide)) (fun _ hk => hk.2) (.string ((aC aI mL).f0))) (fun _ hk => hk.2) (.slice zS ((aC aI mL).f1).length AB)) (fun _ hk => hk.2) (.slice CL ((aC aI mL).f2).length CR)) (fun _ h_ => h_.1))) : p := h
theorem vi {p : Prop} (h : p := by (with_reducible repeat (first | refine fA ?_ _ | refine eY ?_ | refine dE ?_ _)); refine eH (cs := #[.slice none 0 0, .slice none 0 0]) ?_ 1 _ rfl; (with_reducible repeat (first | refine fA ?_ _ | refine eY ?_ | refine dE ?_ _)); refine eH (cs := #[.slice none 0 0, .slice none 0 0]) ?_ 0 _ rfl; (with_reducible repeat (first | refine fA ?_ _ | refine eY ?_ | refine dE ?_ _)); exact aK.1) : p := h
theorem vj {p : Prop} (h : p := by first | exact HK.out.1 | exact (show Kept w _ (fun k_ => (P1_0_ k_) ∨ k_ = g) from by repeat (first | (with_reducible first | exact HK.out | apply Kept.alloc | apply Kept.drewN | apply Kept.drew | refine Kept.setCell ?_ (.inl (.inr rfl)) _ | refine Kept.setCell ?_ (.inr gH.out) _ | refine Kept.setCell ?_ (.inr mP.out) _ | refine Kept.setCell ?_ (.inr RA.out) _) | exact HK.out)).1) : p := h
theorem gy {p : Prop} (h : p := by (with_reducible repeat (first | refine fA ?_ _ | refine eY ?_ | refine dE ?_ _)); refine dY ?_ gI.1 _; (with_reducible repeat (first | refine fA ?_ _ | refine eY ?_ | refine dE ?_ _)); refine dY ?_ gI.1 _; (with_reducible repeat (first | refine fA ?_ _ | refine eY ?_ | refine dE ?_ _)); exact a3.1) : p := h
theorem gz {p : Prop} (h : p := by (with_reducible repeat (first | refine fA ?_ _ | refine eY ?_ | refine dE ?_ _)); refine dY ?_ gZ.1 _; (with_reducible repeat (first | refine fA ?_ _ | refine eY ?_ | refine dE ?_ _)); refine dY ?_ gZ.1 _; (with_reducible repeat (first | refine fA ?_ _ | refine eY ?_ | refine dE ?_ _)); exact aK.1) : p := h
theorem Nv {p : Prop} (h : p := by (with_reducible repeat (first | refine fA ?_ _ | refine eY ?_ | refine dE ?_ _)); refine dY ?_ iN.1 _; (with_reducible repeat (first | refine fA ?_ _ | refine eY ?_ | refine dE ?_ _)); refine dY ?_ iN.1 _; (with_reducible repeat (first | refine fA ?_ _ | refine eY ?_ | refine dE ?_ _)); exact a3.1) : p := h
theorem Th {p : Prop} (h : p := by first | (rw [add_block]; exact Kd.p8 (aD.zG gJ.out bC.1 (by decide))) | (show (Addr.add _ _).block ≠ _; rw [add_block]; exact Kd.p8 (aD.zG gJ.out bC.1 (by decide))) | exact Kd.p8 (aD.zG gJ.out bC.1 (by decide)) | (dsimp only; exact Kd.p8 (aD.zG gJ.out bC.1 (by decide)))) : p := h
theorem Ny {p : Prop} (h : p := by first | exact HK.out.1 | exact (show Kept w _ (fun k_ => (P1_0_ k_) ∨ k_ = g) from by repeat (first | (with_reducible first | exact HK.out | apply Kept.alloc | apply Kept.drewN | apply Kept.drew | refine Kept.setCell ?_ (.inl (.inr rfl)) _ | refine Kept.setCell ?_ (.inr gH.out) _ | refine Kept.setCell ?_ (.inr mP.out) _) | exact HK.out)).1) : p := h
theorem gv {p : Prop} (h : p := by first | exact Kd.p8 (Kd.R_ne p9.1 jC.1 (by decide)) | (rw [add_block]; exact Kd.p8 (Kd.R_ne p9.1 jC.1 (by decide))) | (show (Addr.add _ _).block ≠ _; rw [add_block]; exact Kd.p8 (Kd.R_ne p9.1 jC.1 (by decide))) | (dsimp only; exact Kd.p8 (Kd.R_ne p9.1 jC.1 (by decide)))) : p := h
theorem VX {p : Prop} (h : p := by first | (rw [add_block]; exact (L8 (Kd.iV dW.1) (Kd.tV mH.1) (by decide) rfl)) | (show some (Addr.add _ _).block ≠ _; rw [add_block]; exact (L8 (Kd.iV dW.1) (Kd.tV mH.1) (by decide) rfl)) | exact (L8 (Kd.iV dW.1) (Kd.tV mH.1) (by decide) rfl)) : p := h
theorem gw {p : Prop} (h : p := by first | (rw [add_block]; exact (L8 (Kd.iV dW.1) (Kd.tV xS.1) (by decide) rfl)) | (show some (Addr.add _ _).block ≠ _; rw [add_block]; exact (L8 (Kd.iV dW.1) (Kd.tV xS.1) (by decide) rfl)) | exact (L8 (Kd.iV dW.1) (Kd.tV xS.1) (by decide) rfl)) : p := h
theorem gx {p : Prop} (h : p := by first | (rw [add_block]; exact (L8 (Kd.iV dW.1) (Kd.tV FV.1) (by decide) rfl)) | (show some (Addr.add _ _).block ≠ _; rw [add_block]; exact (L8 (Kd.iV dW.1) (Kd.tV FV.1) (by decide) rfl)) | exact (L8 (Kd.iV dW.1) (Kd.tV FV.1) (by decide) rfl)) : p := h
theorem KR {p : Prop} (h : p := by repeat (first | (with_reducible first | exact HK.out | apply Kept.alloc | apply Kept.drewN | apply Kept.drew | refine Kept.setCell ?_ (.inl (.inr rfl)) _ | refine Kept.setCell ?_ (.inr gH.out) _ | refine Kept.setCell ?_ (.inr mP.out) _ | refine Kept.setCell ?_ (.inr RA.out) _) | exact HK.out)) : p := h
theorem Ha {p : Prop} (h : p := by first | (rw [add_block]; exact Kd.p8 (aD.zG gJ.out bC.1 (by decide))) | (show (Addr.add _ _).block ≠ _; rw [add_block]; exact Kd.p8 (aD.zG gJ.out bC.1 (by decide))) | exact Kd.p8 (aD.zG gJ.out bC.1 (by decide))) : p := h
theorem Ti {p : Prop} (h : p := by rw [hg]; exact (pJ (w := w) (g := g) (row := none) (by repeat (first | (with_reducible first | exact HK.out | apply aW.set_ | apply o8 | apply jO | apply o7 | refine j6 ?_ gH.out _ | refine j6 ?_ mP.out _) | exact HK.out)))) : p := h
theorem uQ {p : Prop} (h : p := by repeat (first | (with_reducible first | exact HB.1 | apply cZ | apply bR | apply aV | refine bI ?_ (aD.ge gJ.out) | refine bI ?_ iE.1 | refine bI ?_ nX.1 | refine bI ?_ ms.1) | exact HB.1)) : p := h
theorem GF {p : Prop} (h : p := by repeat (first | (with_reducible first | exact HB.1 | apply cZ | apply bR | apply aV | refine bI ?_ (aD.ge gJ.out) | refine bI ?_ iE.1 | refine bI ?_ nX.1 | refine bI ?_ WT.1) | exact HB.1)) : p := h
theorem xZ {p : Prop} (h : p := by repeat (first | (with_reducible first | exact HB.1 | apply cZ | apply bR | apply aV | refine bI ?_ (aD.ge gJ.out) | refine bI ?_ iE.1 | refine bI ?_ nX.1 | refine bI ?_ MN.1) | exact HB.1)) : p := h
theorem qY {p : Prop} (h : p := by repeat (first | (with_reducible first | exact gJ.out | apply aD.alloc | apply aD.drewN | apply aD.drew | apply aD.FN | refine aD.far ?_ l7.1 _ | refine aD.far ?_ lZ.1 _ | refine aD.far ?_ xJ.1 _) | exact gJ.out)) : p := h
theorem wT {p : Prop} (h : p := by repeat (first | (with_reducible first | exact gJ.out | apply aD.alloc | apply aD.drewN | apply aD.drew | apply aD.FN | refine aD.far ?_ l7.1 _ | refine aD.far ?_ lZ.1 _ | refine aD.far ?_ z5.1 _) | exact gJ.out)) : p := h
theorem oD {p : Prop} (h : p := by repeat (first | (with_reducible first | exact gJ.out | apply aD.alloc | apply aD.drewN | apply aD.drew | apply aD.FN | refine aD.far ?_ l7.1 _ | refine aD.far ?_ lZ.1 _ | refine aD.far ?_ mY.1 _) | exact gJ.out)) : p := h
theorem a9K {p : Prop} (h : p := by rw [hg]; exact (aG (by repeat (first | (with_reducible first | exact HB.1 | apply cZ | apply bR | apply aV | refine bI ?_ iE.1 | refine bI ?_ nX.1 | refine bI ?_ I5.1) | exact HB.1)))) : p := h
theorem BH {p : Prop} (h : p := by repeat (first | (with_reducible first | exact HB.1 | apply cZ | apply bR | apply aV | refine bI ?_ iE.1 | refine bI ?_ nX.1 | refine bI ?_ I5.1 | refine bI ?_ Ug.1) | exact HB.1)) : p := h
theorem QQ {p : Prop} (h : p := by repeat (first | (with_reducible first | exact HK.out | apply Kept.alloc | apply Kept.drewN | apply Kept.drew | refine Kept.setCell ?_ (.inl (.inr rfl)) _ | refine Kept.setCell ?_ (.inr gH.out) _ | refine Kept.setCell ?_ (.inr mP.out) _) | exact HK.out)) : p := h
theorem Tj {p : Prop} (h : p := by (with_reducible repeat (first | refine fA ?_ _ | refine eY ?_ | refine dE ?_ _)); refine dY ?_ gI.1 _; (with_reducible repeat (first | refine fA ?_ _ | refine eY ?_ | refine dE ?_ _)); exact a3.1) : p := h
theorem Tk {p : Prop} (h : p := by (with_reducible repeat (first | refine fA ?_ _ | refine eY ?_ | refine dE ?_ _)); refine dY ?_ gZ.1 _; (with_reducible repeat (first | refine fA ?_ _ | refine eY ?_ | refine dE ?_ _)); exact aK.1) : p := h
theorem q9 {p : Prop} (h : p := by repeat (first | (with_reducible first | exact HK.out | apply aW.set_ | apply o8 | apply jO | apply o7 | refine j6 ?_ gH.out _ | refine j6 ?_ mP.out _ | refine j6 ?_ D2.out _) | exact HK.out)) : p := h
theorem tZ {p : Prop} (h : p := by repeat (first | (with_reducible first | exact HK.out | apply aW.set_ | apply o8 | apply jO | apply o7 | refine j6 ?_ gH.out _ | refine j6 ?_ mP.out _ | refine j6 ?_ MO.out _) | exact HK.out)) : p := h
theorem Hb {p : Prop} (h : p := by first | (rw [add_block]; exact (fun e_ => ((pO.out.1 _ e_.symm).1.2) rfl)) | (show some (Addr.add _ _).block ≠ _; rw [add_block]; exact (fun e_ => ((pO.out.1 _ e_.symm).1.2) rfl)) | exact (fun e_ => ((pO.out.1 _ e_.symm).1.2) rfl)) : p := h
theorem Hc {p : Prop} (h : p := by first | (rw [add_block]; exact (fun e_ => ((pP.out.1 _ e_.symm).1.2) rfl)) | (show some (Addr.add _ _).block ≠ _; rw [add_block]; exact (fun e_ => ((pP.out.1 _ e_.symm).1.2) rfl)) | exact (fun e_ => ((pP.out.1 _ e_.symm).1.2) rfl)) : p := h
theorem QR {p : Prop} (h : p := by rw [hg]; exact (pJ (w := w) (g := g) (row := none) (by repeat (first | (with_reducible first | exact HK.out | apply aW.set_ | apply o8 | apply jO | apply o7 | refine j6 ?_ gH.out _) | exact HK.out)))) : p := h
theorem a9M {p : Prop} (h : p := by rw [hg]; exact (aG (by repeat (first | (with_reducible first | exact HB.1 | apply cZ | apply bR | apply aV | refine bI ?_ (aD.ge l4.out) | refine bI ?_ iE.1) | exact HB.1)))) : p := h
theorem mX {p : Prop} (h : p := by repeat (first | (with_reducible first | exact HB.1 | apply cZ | apply bR | apply aV | refine bI ?_ (aD.ge l4.out) | refine bI ?_ iE.1 | refine bI ?_ mt.1) | exact HB.1)) : p := h
theorem xE {p : Prop} (h : p := by repeat (first | (with_reducible first | exact HB.1 | apply cZ | apply bR | apply aV | refine bI ?_ (aD.ge gJ.out) | refine bI ?_ iE.1 | refine bI ?_ nX.1) | exact HB.1)) : p := h
theorem JD {p : Prop} (h : p := by repeat (first | (with_reducible first | exact HB.1 | apply cZ | apply bR | apply aV | refine bI ?_ (aD.ge gJ.out) | refine bI ?_ iE.1 | refine bI ?_ MN.1) | exact HB.1)) : p := h
theorem qZ {p : Prop} (h : p := by repeat (first | (with_reducible first | exact l4.out | apply aD.alloc | apply aD.drewN | apply aD.drew | apply aD.FN | refine aD.far ?_ vI.1 _ | refine aD.far ?_ zN.1 _) | exact l4.out)) : p := h
theorem a9N {p : Prop} (h : p := by rw [hg]; exact (aG (by repeat (first | (with_reducible first | exact HB.1 | apply cZ | apply bR | apply aV | refine bI ?_ iE.1 | refine bI ?_ JL.1) | exact HB.1)))) : p := h
theorem Y7 {p : Prop} (h : p := by rw [hg]; exact (aG (by repeat (first | (with_reducible first | exact HB.1 | apply cZ | apply bR | apply aV | refine bI ?_ iE.1 | refine bI ?_ nX.1) | exact HB.1)))) : p := h
theorem Y8 {p : Prop} (h : p := by repeat (first | (with_reducible first | exact HB.1 | apply cZ | apply bR | apply aV | refine bI ?_ iE.1 | refine bI ?_ JL.1 | refine bI ?_ mu.1) | exact HB.1)) : p := h
theorem qG {p : Prop} (h : p := by repeat (first | (with_reducible first | exact gJ.out | apply aD.alloc | apply aD.drewN | apply aD.drew | apply aD.FN | refine aD.far ?_ l7.1 _ | refine aD.far ?_ lZ.1 _) | exact gJ.out)) : p := h
theorem VY {p : Prop} (h : p := by repeat (first | (with_reducible first | exact HB.1 | apply cZ | apply bR | apply aV | refine bI ?_ iE.1 | refine bI ?_ nX.1 | refine bI ?_ mr.1) | exact HB.1)) : p := h
theorem gG {p : Prop} (h : p := by repeat (first | (with_reducible first | exact HB.1 | apply cZ | apply bR | apply aV | refine bI ?_ iE.1 | refine bI ?_ nX.1 | refine bI ?_ I5.1) | exact HB.1)) : p := h
theorem zH {p : Prop} (h : p := by repeat (first | (with_reducible first | exact HB.1 | apply cZ | apply bR | apply aV | refine bI ?_ iE.1 | refine bI ?_ nX.1 | refine bI ?_ I4.1) | exact HB.1)) : p := h
theorem yF {p : Prop} (h : p := by repeat (first | (with_reducible first | exact gJ.out | apply aD.alloc | apply aD.drewN | apply aD.drew | apply aD.FN | refine aD.far ?_ l7.1 _ | refine aD.far ?_ mY.1 _) | exact gJ.out)) : p := h
theorem F5 {p : Prop} (h : p := by repeat (first | (with_reducible first | exact HK.out | apply aW.set_ | apply o8 | apply jO | apply o7 | refine j6 ?_ gH.out _ | refine j6 ?_ mP.out _) | exact HK.out)) : p := h
theorem wM {p : Prop} (h : p := by repeat (first | (with_reducible first | exact HK.out | apply aW.set_ | apply o8 | apply jO | apply o7 | refine j6 ?_ gH.out _ | refine j6 ?_ MO.out _) | exact HK.out)) : p := h
theorem QS {p : Prop} (h : p := by rw [hg]; exact (pJ (w := w) (g := g) (row := none) (by repeat (first | (with_reducible first | exact HK.out | apply aW.set_ | apply o8 | apply jO | apply o7) | exact HK.out)))) : p := h
theorem NS {p : Prop} (h : p := by repeat (first | (with_reducible first | exact HB.1 | apply cZ | apply bR | apply aV | refine bI ?_ (aD.ge l4.out) | refine bI ?_ iE.1) | exact HB.1)) : p := h
theorem VZ {p : Prop} (h : p := by repeat (first | (with_reducible first | exact HB.1 | apply cZ | apply bR | apply aV | refine bI ?_ (aD.ge gJ.out) | refine bI ?_ iE.1) | exact HB.1)) : p := h
theorem GG {p : Prop} (h : p := by rw [hg]; exact (aG (by repeat (first | (with_reducible first | exact HB.1 | apply cZ | apply bR | apply aV | refine bI ?_ iE.1) | exact HB.1)))) : p := h
theorem Bg {p : Prop} (h : p := by repeat (first | (with_reducible first | exact l4.out | apply aD.alloc | apply aD.drewN | apply aD.drew | apply aD.FN | refine aD.far ?_ vI.1 _) | exact l4.out)) : p := h
theorem AY {p : Prop} (h : p := by repeat (first | (with_reducible first | exact HB.1 | apply cZ | apply bR | apply aV | refine bI ?_ iE.1 | refine bI ?_ OX.1) | exact HB.1)) : p := h
theorem BI {p : Prop} (h : p := by repeat (first | (with_reducible first | exact HB.1 | apply cZ | apply bR | apply aV | refine bI ?_ iE.1 | refine bI ?_ JL.1) | exact HB.1)) : p := h
theorem QT {p : Prop} (h : p := by repeat (first | (with_reducible first | exact HB.1 | apply cZ | apply bR | apply aV | refine bI ?_ iE.1 | refine bI ?_ I4.1) | exact HB.1)) : p := h
theorem GH {p : Prop} (h : p := by repeat (first | (with_reducible first | exact HB.1 | apply cZ | apply bR | apply aV | refine bI ?_ iE.1 | refine bI ?_ R9.1) | exact HB.1)) : p := h
theorem nO {p : Prop} (h : p := by repeat (first | (with_reducible first | exact HB.1 | apply cZ | apply bR | apply aV | refine bI ?_ iE.1 | refine bI ?_ nX.1) | exact HB.1)) : p := h
theorem CW {p : Prop} (h : p := by repeat (first | (with_reducible first | exact gJ.out | apply aD.alloc | apply aD.drewN | apply aD.drew | apply aD.FN | refine aD.far ?_ l7.1 _) | exact gJ.out)) : p := h
theorem He {p : Prop} (h : p := by first | (rw [add_block]; exact Kd.S_lt bC.1 _ rfl) | (show (Addr.add _ _).block < _; rw [add_block]; exact Kd.S_lt bC.1 _ rfl) | exact Kd.S_lt bC.1 _ rfl) : p := h
theorem M9 {p : Prop} (h : p := by repeat (first | (with_reducible first | exact HK.out | apply aW.set_ | apply o8 | apply jO | apply o7 | refine j6 ?_ gH.out _) | exact HK.out)) : p := h
theorem BJ {p : Prop} (h : p := by repeat (first | (with_reducible first | exact HB.1 | apply cZ | apply bR | apply aV | refine bI ?_ (aD.ge gJ.out)) | exact HB.1)) : p := h
theorem u0 {p : Prop} (h : p := by rw [hg]; exact (aG (by repeat (first | (with_reducible first | exact HB.1 | apply cZ | apply bR | apply aV) | exact HB.1)))) : p := h
theorem dS {p : Prop} (h : p := by repeat (first | (with_reducible first | exact HB.1 | apply cZ | apply bR | apply aV | refine bI ?_ iE.1) | exact HB.1)) : p := h
theorem vB {p : Prop} (h : p := by repeat (first | (with_reducible first | exact HB.1 | apply cZ | apply bR | apply aV | refine bI ?_ R9.1) | exact HB.1)) : p := h
theorem W0 {p : Prop} (h : p := by repeat (first | (with_reducible first | exact HB.1 | apply cZ | apply bR | apply aV | refine bI ?_ mv.1) | exact HB.1)) : p := h
theorem tH {p : Prop} (h : p := by repeat (first | (with_reducible first | exact gJ.out | apply aD.alloc | apply aD.drewN | apply aD.drew | apply aD.FN) | exact gJ.out)) : p := h
theorem BK {p : Prop} (h : p := by repeat (first | (with_reducible first | exact HK.out | apply aW.set_ | apply o8 | apply jO | apply o7) | exact HK.out)) : p := h
theorem FO {p : Prop} (h : p := by (try simp only [List.map_toArray, List.map_cons, List.map_nil]); first | done | rfl | (simp only [List.length_drop, List.length_take]; rfl)) : p := h
theorem Hf {p : Prop} (h : p := by (with_reducible repeat (first | apply Kd.mD | apply Kd.mE | apply Kd.nU)); exact Kd.aM fX.1 (fun _ hk => hk.2)) : p := h
theorem eI {p : Prop} (h : p := by repeat (first | (with_reducible first | exact HB.1 | apply cZ | apply bR | apply aV) | exact HB.1)) : p := h
theorem aQ {p : Prop} (h : p := by (with_reducible repeat (first | refine fA ?_ _ | refine eY ?_ | refine dE ?_ _)); exact a3.1) : p := h
theorem IH {p : Prop} (h : p := by (with_reducible repeat (first | refine fA ?_ _ | refine eY ?_ | refine dE ?_ _)); exact jV.1) : p := h
theorem xX {p : Prop} (h : p := by (with_reducible repeat (first | refine fA ?_ _ | refine eY ?_ | refine dE ?_ _)); exact gL.1) : p := h
theorem cA {p : Prop} (h : p := by (with_reducible repeat (first | refine fA ?_ _ | refine eY ?_ | refine dE ?_ _)); exact aK.1) : p := h
theorem FL {p : Prop} (h : p := by (with_reducible repeat (first | refine fA ?_ _ | refine eY ?_ | refine dE ?_ _)); exact gK.1) : p := h
theorem II {p : Prop} (h : p := by (with_reducible repeat (first | refine fA ?_ _ | refine eY ?_ | refine dE ?_ _)); exact jC.1) : p := h
theorem Nw {p : Prop} (h : p := by (with_reducible repeat (first | refine fA ?_ _ | refine eY ?_ | refine dE ?_ _)); exact sI.1) : p := h
theorem jM {p : Prop} (h : p := by (with_reducible repeat (first | refine fA ?_ _ | refine eY ?_ | refine dE ?_ _)); exact bU.1) : p := h
theorem IJ {p : Prop} (h : p := by (with_reducible repeat (first | refine fA ?_ _ | refine eY ?_ | refine dE ?_ _)); exact pL.1) : p := h
theorem sN {p : Prop} (h : p := by (with_reducible repeat (first | refine fA ?_ _ | refine eY ?_ | refine dE ?_ _)); exact bZ.1) : p := h
theorem uP {p : Prop} (h : p := by (with_reducible repeat (first | refine fA ?_ _ | refine eY ?_ | refine dE ?_ _)); exact gM.1) : p := h
theorem NG {p : Prop} (h : p := by (with_reducible repeat (first | apply Kd.mD | apply Kd.mE | apply Kd.nU)); exact k3.1) : p := h
theorem AW {p : Prop} (h : p := by (with_reducible repeat (first | apply Kd.mD | apply Kd.mE | apply Kd.nU)); exact fD.1) : p := h
theorem FM {p : Prop} (h : p := by (with_reducible repeat (first | apply Kd.EJ | apply Kd.EK | apply Kd.FX)); exact eM.1) : p := h
theorem SR {p : Prop} (h : p := by (with_reducible repeat (first | apply Kd.mD | apply Kd.mE | apply Kd.nU)); exact tN.1) : p := h
theorem Nx {p : Prop} (h : p := by (with_reducible repeat (first | apply Kd.U0 | apply Kd.U2 | apply Kd.U1)); exact lU.1) : p := h
theorem lG {p : Prop} (h : p := by (with_reducible repeat (first | apply Kd.mD | apply Kd.mE | apply Kd.nU)); exact dA.1) : p := h
theorem sO {p : Prop} (h : p := by (with_reducible repeat (first | apply Kd.EJ | apply Kd.EK | apply Kd.FX)); exact bH.1) : p := h
theorem DL {p : Prop} (h : p := by (with_reducible repeat (first | apply Kd.mD | apply Kd.mE | apply Kd.nU)); exact jN.1) : p := h
theorem IK {p : Prop} (h : p := by (with_reducible repeat (first | apply Kd.EJ | apply Kd.EK | apply Kd.FX)); exact fE.1) : p := h
theorem qX {p : Prop} (h : p := by (with_reducible repeat (first | apply Kd.mD | apply Kd.mE | apply Kd.nU)); exact bT.1) : p := h
theorem DM {p : Prop} (h : p := by (with_reducible repeat (first | apply Kd.U0 | apply Kd.U2 | apply Kd.U1)); exact bC.1) : p := h
theorem rX {p : Prop} (h : p := by (with_reducible repeat (first | apply Kd.mD | apply Kd.mE | apply Kd.nU)); exact eZ.1) : p := h
theorem DN {p : Prop} (h : p := by (with_reducible repeat (first | apply Kd.EJ | apply Kd.EK | apply Kd.FX)); exact dW.1) : p := h
theorem DO {p : Prop} (h : p := by (with_reducible repeat (first | apply Kd.mD | apply Kd.mE | apply Kd.nU)); exact iY.1) : p := h
theorem IL {p : Prop} (h : p := by (with_reducible repeat (first | apply Kd.EJ | apply Kd.EK | apply Kd.FX)); exact iZ.1) : p := h
theorem NH {p : Prop} (h : p := by (with_reducible repeat (first | apply Kd.mD | apply Kd.mE | apply Kd.nU)); exact mG.1) : p := h
theorem KP {p : Prop} (h : p := by (with_reducible repeat (first | apply Kd.mD | apply Kd.mE | apply Kd.nU)); exact nS.1) : p := h
theorem NI {p : Prop} (h : p := by (with_reducible repeat (first | apply Kd.mD | apply Kd.mE | apply Kd.nU)); exact l5.1) : p := h
theorem sP {p : Prop} (h : p := by (with_reducible repeat (first | apply Kd.mD | apply Kd.mE | apply Kd.nU)); exact fX.1) : p := h
theorem tG {p : Prop} (h : p := by (with_reducible repeat (first | apply Kd.mD | apply Kd.mE | apply Kd.nU)); exact eG.1) : p := h
theorem wY {p : Prop} (h : p := by (with_reducible repeat (first | apply Kd.EJ | apply Kd.EK | apply Kd.FX)); exact fQ.1) : p := h
theorem KQ {p : Prop} (h : p := by (with_reducible repeat (first | apply Kd.mD | apply Kd.mE | apply Kd.nU)); exact vH.1) : p := h
theorem NJ {p : Prop} (h : p := by (with_reducible repeat (first | apply Kd.mD | apply Kd.mE | apply Kd.nU)); exact mH.1) : p := h
theorem DP {p : Prop} (h : p := by (with_reducible repeat (first | apply Kd.mD | apply Kd.mE | apply Kd.nU)); exact lE.1) : p := h
theorem NK {p : Prop} (h : p := by (with_reducible repeat (first | apply Kd.mD | apply Kd.mE | apply Kd.nU)); exact kE.1) : p := h
theorem yU {p : Prop} (h : p := by (with_reducible repeat (first | apply Kd.mD | apply Kd.mE | apply Kd.nU)); exact iL.1) : p := h
theorem DQ {p : Prop} (h : p := by (with_reducible repeat (first | apply Kd.mD | apply Kd.mE | apply Kd.nU)); exact lO.1) : p := h
theorem AX {p : Prop} (h : p := by (with_reducible repeat (first | apply Kd.mD | apply Kd.mE | apply Kd.nU)); exact p9.1) : p := h
theorem jU {p : Prop} (h : p := by (with_reducible repeat (first | apply Kd.mD | apply Kd.mE | apply Kd.nU)); exact gO.1) : p := h
theorem xY {p : Prop} (h : p := by simp only [CX, Act.put, List.setIfInBounds_toArray, List.set_cons_zero, List.set_cons_succ]) : p := h
theorem gN {p : Prop} (h : p := by repeat (first | exact kP.refl _ | apply kP.step)) : p := h
theorem yV {p : Prop} (h : p := by first | exact Kd.uZ rM | exact Kd.EN rM) : p := h
theorem dH {p : Prop} (h : p := by first | rfl | (simp; done) | (simp [*]; done)) : p := h
end
theorem am {p : Prop} (h : p) : aA p := ⟨h⟩
theorem bS {w W w2 : World} (h : Below w.heap.size w W) (k : Below W.heap.size W w2) : aA (Below w.heap.size w w2) := ⟨J5 h k⟩
theorem bB {w w1 : World} {g : Nat} {o : Obj} (h : w.heap[g]? = some o) (hb : Below w.heap.size w w1) : aA (w1.heap[g]? = some o) := ⟨dL h hb⟩
theorem nL {w : World} {g n : Nat} {o : Obj} (h : w.heap[g]? = some o) (e : n = w.heap.size) : aA (g ≠ n) := ⟨by rw [e]; exact Nat.ne_of_lt (yB h)⟩
theorem nG {w : World} {g n : Nat} {o : Obj} (h : w.heap[g]? = some o) (e : n = w.heap.size) : aA (n ≠ g) := ⟨by rw [e]; exact Nat.ne_of_gt (yB h)⟩
theorem cz2 {w : World} {g t : Nat} {a b : Value} (h : aA (w.heap[g]? = some (.cells #[a, b] t (0, 0)))) : w.cell? ⟨g, 0, none⟩ = some a ∧ w.cell? ⟨g, 1, none⟩ = some b ∧ w.frozen? ⟨g, 0, none⟩ = false ∧ w.frozen? ⟨g, 1, none⟩ = false := ⟨(bF h.1 0).trans rfl, (bF h.1 1).trans rfl, fV h.1 0, fV h.1 1⟩
theorem cz3 {w : World} {g t : Nat} {a b c : Value} (h : aA (w.heap[g]? = some (.cells #[a, b, c] t (0, 0)))) : w.cell? ⟨g, 0, none⟩ = some a ∧ w.cell? ⟨g, 1, none⟩ = some b ∧ w.cell? ⟨g, 2, none⟩ = some c ∧ w.frozen? ⟨g, 0, none⟩ = false ∧ w.frozen? ⟨g, 1, none⟩ = false ∧ w.frozen? ⟨g, 2, none⟩ = false := ⟨(bF h.1 0).trans rfl, (bF h.1 1).trans rfl, (bF h.1 2).trans rfl, fV h.1 0, fV h.1 1, fV h.1 2⟩
theorem bd {α β : Type} {o : Option α} {f : α → Option β} {r : β} (h : o.bind f = some r) : ∃ t, aA (o = some t) ∧ f t = some r := by
 obtain ⟨t, h1, h2⟩ := Option.bind_eq_some_iff.mp h
 exact ⟨t, ⟨h1⟩, h2⟩
theorem iT {α : Type} {a b c : α} (h : (if true = true then a else b) = c) : a = c := h
theorem iF {α : Type} {a b c : α} (h : (if false = true then a else b) = c) : b = c := h
theorem bY {α β : Type} {x : α} {f : α → Option β} {r : β} (h : (some x).bind f = some r) : ∃ y, aA (y = x) ∧ f y = some r := ⟨x, ⟨rfl⟩, h⟩
theorem yv {α : Type} (x : α) : ∃ y, aA (y = x) := ⟨x, ⟨rfl⟩⟩
theorem hX {w W : World} {p : Addr} {v : Value} (h : aA (Below w.heap.size w W)) (e : w.cell? p = some v) : W.cell? p = some v := (h.1.cell (World.block_lt_of_cell? w _ e)).trans e
theorem oT {p : Prop} {i : Decidable p} (h : decide p = true := by first | (with_reducible assumption) | assumption) : p := of_decide_eq_true h
theorem rR {p q : Prop} (x : q) (h : q → p := by (intro hx; (with_reducible repeat (first | apply Kd.mD | apply Kd.mE | apply Kd.nU)); exact hx)) : p := h x
theorem rN {p q : Prop} (x : q) (h : q → p := by (intro hx; (with_reducible repeat (first | apply Kd.EJ | apply Kd.EK | apply Kd.FX)); exact hx)) : p := h x
theorem rS {p q : Prop} (x : q) (h : q → p := by (intro hx; (with_reducible repeat (first | apply Kd.U0 | apply Kd.U2 | apply Kd.U1)); exact hx)) : p := h x
theorem rV {p q : Prop} (x : q) (h : q → p := by (intro hx; (with_reducible repeat (first | apply Kd.Rf | apply Kd.Rh | apply Kd.ZM)); exact hx)) : p := h x
theorem rB {p q : Prop} (x : q) (h : q → p := by (intro hx; (with_reducible repeat (first | refine fA ?_ _ | refine eY ?_ | refine dE ?_ _)); exact hx)) : p := h x
structure Hd (S : World → Prop) (w : World) : Prop where out : S w
section
variable {w W : World} {g t : Nat} {a b c : Value} {R : World → Prop}
theorem uA2 (h : aA (w.heap[g]? = some (.cells #[a, b] t (0, 0)))) : Hd (fun w' => w'.cell? ⟨g, 0, none⟩ = some a ∧ w'.cell? ⟨g, 1, none⟩ = some b) w := ⟨(cz2 h).1, (cz2 h).2.1⟩
theorem uA3 (h : aA (w.heap[g]? = some (.cells #[a, b, c] t (0, 0)))) : Hd (fun w' => w'.cell? ⟨g, 0, none⟩ = some a ∧ w'.cell? ⟨g, 1, none⟩ = some b ∧ w'.cell? ⟨g, 2, none⟩ = some c) w := ⟨(cz3 h).1, (cz3 h).2.1, (cz3 h).2.2.1⟩
theorem uB2 (h : aA (w.heap[g]? = some (.cells #[a, b] t (0, 0)))) (r : Hd R w) : Hd (fun w' => w'.cell? ⟨g, 0, none⟩ = some a ∧ w'.cell? ⟨g, 1, none⟩ = some b ∧ R w') w := ⟨(cz2 h).1, (cz2 h).2.1, r.1⟩
theorem uB3 (h : aA (w.heap[g]? = some (.cells #[a, b, c] t (0, 0)))) (r : Hd R w) : Hd (fun w' => w'.cell? ⟨g, 0, none⟩ = some a ∧ w'.cell? ⟨g, 1, none⟩ = some b ∧ w'.cell? ⟨g, 2, none⟩ = some c ∧ R w') w := ⟨(cz3 h).1, (cz3 h).2.1, (cz3 h).2.2.1, r.1⟩
theorem uAx {p : Addr} (h : aA (Below w.heap.size w W)) (e : w.cell? p = some a) : Hd (fun w' => w'.cell? p = some a) W := ⟨hX h e⟩
theorem uBx {p : Addr} (h : aA (Below w.heap.size w W)) (e : w.cell? p = some a) (r : Hd R W) : Hd (fun w' => w'.cell? p = some a ∧ R w') W := ⟨hX h e, r.1⟩
theorem uF3 {g2 : Nat} {t2 : Nat} {cs : Array Value} {u v x : Value} (e : W = ((w.setCell ⟨g, 0, none⟩ u).setCell ⟨g, 1, none⟩ v).setCell ⟨g, 2, none⟩ x) (h : aA (w.heap[g2]? = some (.cells cs t2 (0, 0)))) (n : aA (g2 ≠ g)) : aA (W.heap[g2]? = some (.cells cs t2 (0, 0))) := ⟨e ▸ dY (dY (dY h.1 n.1 _) n.1 _) n.1 _⟩
theorem uP3 {u v x : Value} (e : W = ((w.setCell ⟨g, 0, none⟩ u).setCell ⟨g, 1, none⟩ v).setCell ⟨g, 2, none⟩ x) (h : aA (w.heap[g]? = some (.cells #[a, b, c] t (0, 0)))) : aA (W.heap[g]? = some (.cells #[u, v, x] t (0, 0))) := ⟨e ▸ eH (cs := #[u, v, c]) (eH (cs := #[u, b, c]) (eH (cs := #[a, b, c]) h.1 0 u rfl) 1 v rfl) 2 x rfl⟩
theorem uC3 {w0 : World} {u v x : Value} (e : W = ((w.setCell ⟨g, 0, none⟩ u).setCell ⟨g, 1, none⟩ v).setCell ⟨g, 2, none⟩ x) (h : aA (Below w0.heap.size w0 w)) (n : aA (w0.heap.size ≤ g)) : aA (Below w0.heap.size w0 W) := ⟨e ▸ bI (bI (bI h.1 n.1) n.1) n.1⟩
end
theorem pB {α : Type} {d : Kd α} {w W : World} {A : Option Addr} {n : Nat} {l : List α} {p : Prop} (x : aA (Kd.C d w A n l)) (y : Below w.heap.size w W := by exact HB.1) (h : Kd.C d W A n l → p := by (intro hx; repeat (first | exact hx | (with_reducible refine Kd.gU ?_ _) | (with_reducible refine Kd.gV ?_ _) | (with_reducible refine Kd.iW ?_)))) : p := h (Kd.bK x.1 y)
section
variable {P : Program} {ops : Array Oper} {rest : List Oper} {o : Oper} {a : Act} {Q : Exit → Act → World → Prop} {W : World}
theorem bX (N : Tmp) (cs : Array Value) (t : TypeId)
    (h : ∀ g, g = W.heap.size → ∀ w1, w1.heap[g]? = some (.cells cs t (0, 0)) → Below W.heap.size W w1 → wpList P ops Q rest (a.put o.dst (.pointer (some ⟨g, 0, none⟩))) w1)
    (hd : o.dst = some N := by with_reducible rfl) (hgd : o.guard = none := by rfl)
    (hr : (execOp a.eval o).run P W = .ok (.value (.pointer (some ⟨W.heap.size, 0, none⟩))) (W.alloc (.cells cs t (0, 0))) := by first | (go_simp; done) | (go_simp; rfl)) : wpList P ops Q (o :: rest) a W := pI hgd hd hr h
theorem gC (f : FuncId) {as : Array Operand} {ts : Array TypeId} (h : wpList P ops Q (o :: rest) a W) (_ho : o.op = .call { callee := .value (.func f), args := as, argTypes := ts } := by with_reducible rfl) : wpList P ops Q (o :: rest) a W := h
theorem gD (N : Tmp) (h : wpList P ops Q (o :: rest) a W) (_ho : o.dst = some N := by with_reducible rfl) : wpList P ops Q (o :: rest) a W := h
theorem cE (N : Option Tmp) {f : FuncId} {fn : Func} {as : Array Operand} {ts : Array TypeId} {args : Array Value} {R : Ending → World → Prop} (hf : P.funcs[f]? = some fn) (hc : Calls P f args W R)
    (h : ∀ e w', R e w' → ∃ v, e = .returned v ∧ wpList P ops Q rest (a.put N v) w')
    (hop : o.op = .call { callee := .value (.func f), args := as, argTypes := ts } := by rfl) (hd : o.dst = N := by rfl) (hg : o.guard = none := by rfl)
    (hname : (fn.name == "runtime.NumGoroutine") = false := by kernel_rfl) (hb : fn.body.isSome = true := by rfl)
    (hargs : as.map a.eval = args := by ((try simp only [List.map_toArray, List.map_cons, List.map_nil]); first | done | rfl | (simp only [List.length_drop, List.length_take]; rfl))) : wpList P ops Q (o :: rest) a W :=
  wE N hd hg hf hname hb args hop hargs (hc.mono h)
theorem cQ (N : Option Tmp) {f : FuncId} {fn : Func} {as : Array Operand} {ts : Array TypeId} {args : Array Value} {v : Value} {R : World → Prop} (hf : P.funcs[f]? = some fn) (hc : Calls P f args W fun e w' => e = .returned v ∧ R w')
    (h : ∀ w', R w' → wpList P ops Q rest (a.put N v) w')
    (hop : o.op = .call { callee := .value (.func f), args := as, argTypes := ts } := by rfl) (hd : o.dst = N := by rfl) (hg : o.guard = none := by rfl)
    (hname : (fn.name == "runtime.NumGoroutine") = false := by kernel_rfl) (hb : fn.body.isSome = true := by rfl)
    (hargs : as.map a.eval = args := by ((try simp only [List.map_toArray, List.map_cons, List.map_nil]); first | done | rfl | (simp only [List.length_drop, List.length_take]; rfl))) : wpList P ops Q (o :: rest) a W :=
  wE N hd hg hf hname hb args hop hargs (hc.mono fun _ w' q => ⟨v, q.1, h w' q.2⟩)
theorem cM {f : FuncId} {args : Array Value} {v : Value} {R : World → Prop} {Q : Ending → World → Prop} (hc : Calls P f args W fun e w' => e = .returned v ∧ R w') (h : ∀ w', R w' → Q (.returned v) w') : Calls P f args W Q :=
  hc.mono fun _ w' q => q.1 ▸ h w' q.2
end
section
variable {P : Program} {ops : Array Oper} {Q : Exit → Act → World → Prop} {md : Region.Mode} {S : World → Prop} {ds : List Nat}
theorem nM {fuel : Nat} {l : Array Bool} {a a' : Act} {w : World} (h : bD P md ops Q S ds fuel l a' w) (ha : a = a' := by (show Act.put _ (some _) _ = _; simp only [pW]; rfl)) : bD P md ops Q S ds fuel l a w := rW ha h
theorem gE {K : Act → World → Prop} {oi : Oper} {N : Option Tmp} {a : Act} {w : World} {f : FuncId} {fn : Func} {as : Array Operand} {ts : Array TypeId} {args : Array Value} {R : Ending → World → Prop} (hf : P.funcs[f]? = some fn) (hc : Calls P f args w R)
    (h : ∀ e w', R e w' → ∃ v, e = .returned v ∧ K (a.put N v) w')
    (hw : Region.wanted oi (yielded ops a.tmps) = true := by rfl) (hN : oi.dst = N := by exact rfl) (hop : oi.op = .call { callee := .value (.func f), args := as, argTypes := ts } := by exact rfl)
    (hname : (fn.name == "runtime.NumGoroutine") = false := by kernel_rfl) (hb : fn.body.isSome = true := by rfl)
    (hargs : as.map a.eval = args := by ((try simp only [List.map_toArray, List.map_cons, List.map_nil]); first | done | rfl | (simp only [List.length_drop, List.length_take]; rfl))) : if Region.wanted oi (yielded ops a.tmps) = true then Oper.wp P oi a w K Q else K (a.put N undef) w :=
  wF hf hname hb args hw hN hop hargs (hc.mono h)
theorem gQ {K : Act → World → Prop} {oi : Oper} {N : Option Tmp} {a : Act} {w : World} {f : FuncId} {fn : Func} {as : Array Operand} {ts : Array TypeId} {args : Array Value} {v : Value} {R : World → Prop} (hf : P.funcs[f]? = some fn) (hc : Calls P f args w fun e w' => e = .returned v ∧ R w')
    (h : ∀ w', R w' → K (a.put N v) w')
    (hw : Region.wanted oi (yielded ops a.tmps) = true := by rfl) (hN : oi.dst = N := by exact rfl) (hop : oi.op = .call { callee := .value (.func f), args := as, argTypes := ts } := by exact rfl)
    (hname : (fn.name == "runtime.NumGoroutine") = false := by kernel_rfl) (hb : fn.body.isSome = true := by rfl)
    (hargs : as.map a.eval = args := by ((try simp only [List.map_toArray, List.map_cons, List.map_nil]); first | done | rfl | (simp only [List.length_drop, List.length_take]; rfl))) : if Region.wanted oi (yielded ops a.tmps) = true then Oper.wp P oi a w K Q else K (a.put N undef) w :=
  wF hf hname hb args hw hN hop hargs (hc.mono fun _ w' q => ⟨v, q.1, h w' q.2⟩)
theorem oN {oi : Oper} {fuel n m : Nat} {a : Act} {w : World} (i : Nat) (N : Option Tmp)
    (h : ∀ K : Act → World → Prop, Shut (∀ a' w', S w' → (S w' → bD P md ops Q S ds fuel (bz n (m + 2 ^ i)) a' w') → K a' w') → if Region.wanted oi (yielded ops a.tmps) = true then Oper.wp P oi a w K Q else K (a.put N undef) w)
    (hi : ops[i]? = some oi := by exact rfl) (hN : oi.dst = N := by exact rfl) (hc : F6 md ops (bz n m) (bz n (m + 2 ^ i)) i = true := by exact Bb HT_.out (by kernel_rfl)) (hd : i ∉ ds := by decide) :
    bD P md ops Q S ds (fuel + 1) (bz n m) a w := one_ _ hi hN hc hd h
theorem oM {oi : Oper} {fuel n m : Nat} {a : Act} {w : World} (i : Nat) (N : Option Tmp)
    (h : ∀ K : Act → World → Prop, Shut (∀ a' w', S w' → (S w' → bD P md ops Q S ds fuel (bz n (m + 2 ^ i)) a' w') → K a' w') → if Region.wanted oi (yielded ops a.tmps) = true then Oper.wp P oi a w K Q else K (a.put N undef) w)
    (hi : ops[i]? = some oi := by exact rfl) (hN : oi.dst = N := by exact rfl) (hc : F6 md ops (bz n m) (bz n (m + 2 ^ i)) i = true := by kernel_rfl) (hd : i ∉ ds := by decide) :
    bD P md ops Q S ds (fuel + 1) (bz n m) a w := one_ _ hi hN hc hd h
theorem sT {id : Nat} {a : Act} {w : World} {S : World → Prop} (ds : List Nat) (n : Nat) (hS : Hd S w.drew) (h : S w.drew → bD P .any ops Q S ds n (bz n 0) a w.drew)
    (hm : P.follows .mixedOrders = true := by kernel_rfl) (hn : ops.size = n := by rfl) (hl : Array.replicate n false = bz n 0 := by kernel_rfl) : (Code.region id ops true).wp P Q a w := iy _ hm hn hl hS.1 h
end
theorem cN {α : Type} {c : Prop} {i : Decidable c} {a : Option α} {r : α} (H : (if c then a else none) = some r) : decide c = true ∧ a = some r := by
 by_cases h : c
 ·rw [if_pos h] at H; exact ⟨decide_eq_true h, H⟩
 rw [if_neg h] at H; exact absurd H (by simp)
theorem ic {α : Type} {c : Prop} {i : Decidable c} {a b : Option α} {r : Option α} {Q : Prop} (H : (if c then a else b) = r) (h1 : decide c = true → a = r → Q) (h2 : decide c = false → b = r → Q) : Q := by
 by_cases h : c
 ·rw [if_pos h] at H; exact h1 (decide_eq_true h) H
 rw [if_neg h] at H; exact h2 (decide_eq_false h) H
theorem tC {α : Type} {t : Bool} {a b r : Option α} {Q : Prop} (H : (if t = true then a else b) = r) (h1 : t = true → a = r → Q) (h2 : t = false → b = r → Q) : Q := by
 cases t with
 | true => exact h1 rfl H
 | false => exact h2 rfl H
theorem eR {p : Prop} (h : p := by first | rfl | (simp [qR, qU] <;> rfl) | (simp [*, qR, qU] <;> rfl)) : p := h
theorem kb {w w1 : World} {g g' : Nat} {o : Obj} (hb : w.heap[g']? = some o) (h : aW w w1 g none) (n : aA (g' ≠ g)) : aA (w1.heap[g']? = some o) := ⟨aW.blk h hb n.1 (by simp)⟩
section
variable {α : Type} {d : Kd α} {e base g i t : Nat} {w : World} {ok : Nat → Prop} {v u : Value} {l : List α} {cs : Array Value}
theorem fR (h : Kd.R d e w base (fun k => ok k ∧ k ≠ g) v l) : Kd.R d e (w.setCell ⟨g, i, none⟩ u) base (fun k => ok k ∧ k ≠ g) v l := Kd.qO (p := ⟨g, i, none⟩) h (fun _ hk => hk.2) u
theorem fN (h : Kd.N d e w base (fun k => ok k ∧ k ≠ g) v l) : Kd.N d e (w.setCell ⟨g, i, none⟩ u) base (fun k => ok k ∧ k ≠ g) v l := Kd.BR (p := ⟨g, i, none⟩) h (fun _ hk => hk.2) u
theorem fS (h : Kd.S d e w base (fun k => ok k ∧ k ≠ g) v l) : Kd.S d e (w.setCell ⟨g, i, none⟩ u) base (fun k => ok k ∧ k ≠ g) v l := Kd.Vm (p := ⟨g, i, none⟩) h (fun _ hk => hk.2) u
theorem tR (h : aA (Kd.R d e w base ok v l)) (hb : aA (w.heap[g]? = some (.cells cs t (0, 0)))) (ht : ∀ q, q ∈ e :: d.E → q ≠ t := by decide) : Kd.R d e w base (fun k => ok k ∧ k ≠ g) v l := Kd.fK h.1 hb.1 ht
theorem tS (h : aA (Kd.S d e w base ok v l)) (hb : aA (w.heap[g]? = some (.cells cs t (0, 0)))) (ht : ∀ q, q ∈ e :: d.E → q ≠ t := by decide) : Kd.S d e w base (fun k => ok k ∧ k ≠ g) v l := Kd.O8 h.1 hb.1 ht
end
theorem bW {α β : Type} {x y : α} {f : α → Option β} {r : β} (e : aA (y = x)) (h : (some x).bind f = some r) : f y = some r := by rw [e.1]; exact h
theorem fB {w : World} {g : Nat} {o : Obj} (hb : w.heap[g]? = some o) (k : Nat) (hk : w.heap.size ≤ k) : k ≠ g := Kd.AP hb k hk
section
variable {α : Type} {d : Kd α} {e base g t : Nat} {w w1 W : World} {o : Obj} {ok : Nat → Prop} {v : Value} {l : List α} {cs : Array Value}
theorem gkR (h : w.heap[g]? = some o) (hg : w.grownBy w1 v.ownBlock) (ho : aA (Kd.R d e W base ok v l)) (hb : aA (W.heap[g]? = some (.cells cs t (0, 0)))) (ht : e ≠ t := by decide) : aA (w1.heap[g]? = some o) := ⟨vM h hg (Kd.R_ne ho.1 hb.1 ht)⟩
theorem gkN (h : w.heap[g]? = some o) (hg : w.grownBy w1 v.ownBlock) (ho : aA (Kd.N d e W base ok v l)) (hb : aA (W.heap[g]? = some (.cells cs t (0, 0)))) (ht : e ≠ t := by decide) : aA (w1.heap[g]? = some o) := ⟨vM h hg (Kd.N_ne ho.1 hb.1 ht)⟩
theorem gkS (h : w.heap[g]? = some o) (hg : w.grownBy w1 v.ownBlock) (ho : aA (Kd.S d e W base ok v l)) (hb : aA (W.heap[g]? = some (.cells cs t (0, 0)))) (ht : e ≠ t := by decide) : aA (w1.heap[g]? = some o) := ⟨vM h hg (Kd.S_ne ho.1 hb.1 ht)⟩
end
theorem cL {α : Type} {c : Prop} {i : Decidable c} {a : Option α} {r : α} (H : (if c then a else none) = some r) : aA c ∧ a = some r := ⟨⟨of_decide_eq_true (cN H).1⟩, (cN H).2⟩
theorem cP {α : Type} {c : Prop} {i : Decidable c} {a : Option α} {r : α} (H : (if c then a else none) = some r) : c = True ∧ decide c = true ∧ a = some r := ⟨eq_true (of_decide_eq_true (cN H).1), (cN H).1, (cN H).2⟩
theorem iq {α β : Type} [BEq β] [LawfulBEq β] {x y : β} {i : Decidable (x = y)} {a b r : Option α} {Q : Prop} (H : (if x = y then a else b) = r) (h1 : True → (x == y) = true → (x != y) = false → a = r → Q) (h2 : ¬ x = y → (x == y) = false → (x != y) = true → b = r → Q) : Q := by
 by_cases h : x = y
 ·rw [if_pos h] at H; exact h1 trivial (beq_iff_eq.mpr h) (bne_eq_false_iff_eq.mpr h) H
 rw [if_neg h] at H; exact h2 h (beq_eq_false_iff_ne.mpr h) (bne_iff_ne.mpr h) H
theorem tf (b : Bool) : b = true ∨ b = false := by cases b <;> simp
theorem b0 {w : World} : aA (Below w.heap.size w w) := ⟨Below.refl _ _⟩
theorem aS {w W : World} {A : Option Addr} {n : Nat} {xs : List ByteArray} (h : aA (Kd.C Kd.string w A n xs)) (hb : aA (Below w.heap.size w W)) (i : Int) (p : 0 ≤ i := by exact oT) (q : i < (n : Int) := by exact oT) :
  ∃ ad, A = some ad ∧ W.cell? (ad.add i.toNat) = some (.string (rdOf ByteArray.empty xs i)) ∧ (0 ≤ i) = True ∧ (i < (n : Int)) = True := by
 obtain ⟨ad, e, hx⟩ := Kd.DD h.1 i p q
 exact ⟨ad, e, hX hb hx, eq_true p, eq_true q⟩
theorem aSw {w W : World} {A : Option Addr} {n : Nat} {xs : List ByteArray} (h : aA (Kd.C Kd.string w A n xs)) (hb : aA (Below w.heap.size w W)) (i : Int) (p : 0 ≤ i := by exact oT) (q : i < (n : Int) := by exact oT) :
  ∃ ad, A = some ad ∧ w.cell? (ad.add i.toNat) = some (.string (rdOf ByteArray.empty xs i)) ∧ W.cell? (ad.add i.toNat) = some (.string (rdOf ByteArray.empty xs i)) ∧ (0 ≤ i) = True ∧ (i < (n : Int)) = True := by
 obtain ⟨ad, e, hx⟩ := Kd.DD h.1 i p q
 exact ⟨ad, e, hx, hX hb hx, eq_true p, eq_true q⟩
abbrev F10 (w : World) (v0 : Value) : Nat → Prop := fun k => w.heap.size ≤ k ∧ some k ≠ v0.ownBlock
abbrev F12 (w : World) (v0 : Value) (g0 g1 : Nat) : Nat → Prop := fun k => w.heap.size ≤ k ∧ some k ≠ v0.ownBlock ∧ k ≠ g0 ∧ k ≠ g1
abbrev F13 (w : World) (v0 : Value) (g0 g1 g2 : Nat) : Nat → Prop := fun k => w.heap.size ≤ k ∧ some k ≠ v0.ownBlock ∧ k ≠ g0 ∧ k ≠ g1 ∧ k ≠ g2
abbrev F14 (w : World) (v0 : Value) (g0 g1 g2 g3 : Nat) : Nat → Prop := fun k => w.heap.size ≤ k ∧ some k ≠ v0.ownBlock ∧ k ≠ g0 ∧ k ≠ g1 ∧ k ≠ g2 ∧ k ≠ g3
abbrev F20 (w : World) (v0 v1 : Value) : Nat → Prop := fun k => w.heap.size ≤ k ∧ some k ≠ v0.ownBlock ∧ some k ≠ v1.ownBlock
abbrev F23 (w : World) (v0 v1 : Value) (g0 g1 g2 : Nat) : Nat → Prop := fun k => w.heap.size ≤ k ∧ some k ≠ v0.ownBlock ∧ some k ≠ v1.ownBlock ∧ k ≠ g0 ∧ k ≠ g1 ∧ k ≠ g2
abbrev F30 (w : World) (v0 v1 v2 : Value) : Nat → Prop := fun k => w.heap.size ≤ k ∧ some k ≠ v0.ownBlock ∧ some k ≠ v1.ownBlock ∧ some k ≠ v2.ownBlock
abbrev F33 (w : World) (v0 v1 v2 : Value) (g0 g1 g2 : Nat) : Nat → Prop := fun k => w.heap.size ≤ k ∧ some k ≠ v0.ownBlock ∧ some k ≠ v1.ownBlock ∧ some k ≠ v2.ownBlock ∧ k ≠ g0 ∧ k ≠ g1 ∧ k ≠ g2
abbrev F34 (w : World) (v0 v1 v2 : Value) (g0 g1 g2 g3 : Nat) : Nat → Prop := fun k => w.heap.size ≤ k ∧ some k ≠ v0.ownBlock ∧ some k ≠ v1.ownBlock ∧ some k ≠ v2.ownBlock ∧ k ≠ g0 ∧ k ≠ g1 ∧ k ≠ g2 ∧ k ≠ g3
abbrev F43 (w : World) (v0 v1 v2 v3 : Value) (g0 g1 g2 : Nat) : Nat → Prop := fun k => w.heap.size ≤ k ∧ some k ≠ v0.ownBlock ∧ some k ≠ v1.ownBlock ∧ some k ≠ v2.ownBlock ∧ some k ≠ v3.ownBlock ∧ k ≠ g0 ∧ k ≠ g1 ∧ k ≠ g2
abbrev F44 (w : World) (v0 v1 v2 v3 : Value) (g0 g1 g2 g3 : Nat) : Nat → Prop := fun k => w.heap.size ≤ k ∧ some k ≠ v0.ownBlock ∧ some k ≠ v1.ownBlock ∧ some k ≠ v2.ownBlock ∧ some k ≠ v3.ownBlock ∧ k ≠ g0 ∧ k ≠ g1 ∧ k ≠ g2 ∧ k ≠ g3
abbrev F54 (w : World) (v0 v1 v2 v3 v4 : Value) (g0 g1 g2 g3 : Nat) : Nat → Prop := fun k => w.heap.size ≤ k ∧ some k ≠ v0.ownBlock ∧ some k ≠ v1.ownBlock ∧ some k ≠ v2.ownBlock ∧ some k ≠ v3.ownBlock ∧ some k ≠ v4.ownBlock ∧ k ≠ g0 ∧ k ≠ g1 ∧ k ≠ g2 ∧ k ≠ g3
section
theorem nZ1 {p q : Prop} (a : aA p) (b : aA q) : p ∧ q := ⟨a.1, b.1⟩
theorem nZ2 {p q r s : Prop} (a : aA p) (b : aA q) (c : aA r) (d : aA s) : p ∧ q ∧ r ∧ s := ⟨a.1, b.1, c.1, d.1⟩
theorem nZ3 {p q r s t u : Prop} (a : aA p) (b : aA q) (c : aA r) (d : aA s) (e : aA t) (f : aA u) : p ∧ q ∧ r ∧ s ∧ t ∧ u := ⟨a.1, b.1, c.1, d.1, e.1, f.1⟩
theorem dR {p : Prop} (h : p := by first | exact ⟨rfl, _, World.drewN_drewN _ _ _⟩ | exact ⟨rfl, _, Eq.trans (World.drewN_drewN _ _ _) (congrArg (World.drewN _) (Nat.add_assoc _ _ _))⟩) : p := h
theorem sZ2 {α β : Type} {a x : α} {b y : β} (h : some (a, b) = some (x, y)) : a = x ∧ b = y := by cases h; exact ⟨rfl, rfl⟩
theorem sZ3 {α β γ : Type} {a x : α} {b y : β} {c z : γ} (h : some (a, b, c) = some (x, y, z)) : a = x ∧ b = y ∧ c = z := by cases h; exact ⟨rfl, rfl, rfl⟩
theorem sj {A B : Option Addr} {n m c d : Nat} (h : Value.slice A n c = Value.slice B m d) : B = A ∧ d = c := by cases h; exact ⟨rfl, rfl⟩
theorem aB (b : ByteArray) (i : Int) (p : 0 ≤ i := by exact oT) (q : i < (b.size : Int) := by exact oT) : (∀ h : i.toNat < b.size, ((b[i.toNat]'h).toNat : Int) = bt b i) ∧ (0 ≤ i) = True ∧ (i < (b.size : Int)) = True := ⟨qp b i, eq_true p, eq_true q⟩
theorem put2 {w : World} {g t : Nat} {a b u v : Value} (h : w.heap[g]? = some (.cells #[a, b] t (0, 0))) : ((w.setCell ⟨g, 0, none⟩ u).setCell ⟨g, 1, none⟩ v).heap[g]? = some (.cells #[u, v] t (0, 0)) := eH (cs := #[u, b]) (eH (cs := #[a, b]) h 0 u rfl) 1 v rfl
theorem qP {p : Prop} {w : World} {g t : Nat} {a b : Value} (h : aA (w.heap[g]? = some (.cells #[a, b] t (0, 0)))) (q : w.heap[g]? = some (.cells #[a, b] t (0, 0)) → p := by (intro hx; refine rB ?_; first | (with_reducible exact put2 hx) | (apply eH; refine rB ?_; apply eH; refine rB ?_; exact hx; all_goals rfl))) : p := q h.1
theorem far1 {w : World} {g x i t : Nat} {cs : Array Value} {u : Value} (h : w.heap[g]? = some (.cells cs t (0, 0))) (n : g ≠ x) : (w.setCell ⟨x, i, none⟩ u).heap[g]? = some (.cells cs t (0, 0)) := dY h n u
theorem qF {p : Prop} {w : World} {g x : Nat} {o : Obj} (h : aA (w.heap[g]? = some o)) (n : aA (g ≠ x)) (q : w.heap[g]? = some o → g ≠ x → p := by (intro hx hn; refine rB ?_; (with_reducible repeat (first | exact hx | refine far1 ?_ hn)); try (refine rB ?_; (with_reducible repeat (first | exact hx | refine far1 ?_ hn)); try (refine rB ?_; exact hx)))) : p := q h.1 n.1
theorem eW3 (w : World) (g : Nat) (a b c : Value) : ∃ v, v = ((w.setCell ⟨g, 0, none⟩ a).setCell ⟨g, 1, none⟩ b).setCell ⟨g, 2, none⟩ c := ⟨_, rfl⟩
theorem eZ2 {w : World} {p : Addr} {A B : Option Addr} {n m c d : Nat} (h : w.cell? p = some (.slice A n c)) (k : w.cell? p = some (.slice B m d)) : A = B ∧ c = d := by
 have e := Option.some.inj (h.symm.trans k)
 injection e with a b c
 exact ⟨a, c⟩
theorem mZ2 {p q : Prop} (a : p) (b : q) : aA p ∧ aA q := ⟨⟨a⟩, ⟨b⟩⟩
abbrev FA (P : Nat → Prop) (v : Value) : Nat → Prop := fun k => P k ∧ some k ≠ v.ownBlock
section
variable {α : Type} {d : Kd α} {e base g t : Nat} {w w1 W : World} {ok : Nat → Prop} {v : Value} {l : List α} {cs : Array Value}
theorem mR {p : Prop} (h : aA (Kd.R d e w base ok v l)) (b : aA (w.heap[g]? = some (.cells cs t (0, 0)))) (ht : ∀ q, q ∈ e :: d.E → q ≠ t := by decide) (q : Kd.R d e w base (fun k => ok k ∧ k ≠ g) v l → p := by (intro hx; refine rR ?_; refine Kd.aM (by first | exact fR (fR hx) | exact fR hx | exact fR (fR (fR hx))) (fun _ hk => ?_); first | trivial | exact hk.1 | exact hk.1.1 | exact hk.1.1.1 | exact hk)) : p := q (Kd.fK h.1 b.1 ht)
theorem mS {p : Prop} (h : aA (Kd.S d e w base ok v l)) (b : aA (w.heap[g]? = some (.cells cs t (0, 0)))) (ht : ∀ q, q ∈ e :: d.E → q ≠ t := by decide) (q : Kd.S d e w base (fun k => ok k ∧ k ≠ g) v l → p := by (intro hx; refine rS ?_; refine Kd.CQ (by first | exact fS (fS hx) | exact fS hx | exact fS (fS (fS hx))) (fun _ hk => ?_); first | trivial | exact hk.1 | exact hk.1.1 | exact hk.1.1.1 | exact hk)) : p := q (Kd.O8 h.1 b.1 ht)
theorem RB (h : Kd.R d e w base ok v l) (hb : Below w.heap.size w w1) : aA (Kd.R d e w1 base ok v l) := ⟨Kd.jY h hb⟩
theorem SB (h : Kd.S d e w base ok v l) (hb : Below w.heap.size w w1) : aA (Kd.S d e w1 base ok v l) := ⟨Kd.JV h hb⟩
theorem NE (h : Kd.N d e w base ok v l) (hb : Below w.heap.size w w1) : aA (Kd.N d e w1 base ok v l) := ⟨Kd.iI h hb⟩
theorem RD (h : aA (Kd.R d e w base ok v l)) : aA (Kd.R d e w.drew base ok v l) := ⟨Kd.nU h.1⟩
theorem SD (h : aA (Kd.S d e w base ok v l)) : aA (Kd.S d e w.drew base ok v l) := ⟨Kd.U1 h.1⟩
theorem ND (h : aA (Kd.N d e w base ok v l)) : aA (Kd.N d e w.drew base ok v l) := ⟨Kd.FX h.1⟩
end
theorem BD {w : World} {g t : Nat} {cs : Array Value} (h : aA (w.heap[g]? = some (.cells cs t (0, 0)))) : aA (w.drew.heap[g]? = some (.cells cs t (0, 0))) := ⟨eY h.1⟩
theorem kT (w : World) (g : Nat) {W w1 : World} (h : aW w W g none) (k : aW W w1 g none) : aA (aW w w1 g none) := ⟨aW.trans h k (.inl rfl)⟩
theorem kU (w : World) (g : Nat) {W w1 : World} (h : aW w W g none) (k : Below W.heap.size W w1) : aA (aW w w1 g none) := ⟨aW.trans h (aW.of_below k g none) (.inl rfl)⟩
theorem kz (w : World) (g : Nat) {W : World} (h : aW w W g none) : w.heap.size ≤ W.heap.size := pJ h
theorem eN {p : Prop} (h : p := by first | exact Kd.zY _ _ _ _ _ | exact Kd.zV _ _ _ _ _ | exact Kd.zZ _ _ _ _ _ | exact Kd.zW _ _ _ _ _ | exact Kd.vJ _ _ _ _ _) : p := h
abbrev Ag0 : Value := .agg #[(.string ⟨#[]⟩), (.slice none 0 0), (.slice none 0 0)]
theorem Oe (w : World) (base : Nat) (ok : Nat → Prop) : ∀ xs : List ByteArray, Reps (Kd.M Kd.string w base ok) Kd.string.sz xs (xs.map Value.string)
  | [] => Reps.none _ _
  | a :: l => Reps.one (show Kd.M Kd.string _ _ _ a [.string a] from rfl) (Oe w base ok l)
end
section
variable {P : Program} {fn : Func} {R : Ending → World → Prop} {a : Act} {w : World} {p u : Tmp} {ty : TypeId} {d : TypeDesc}
theorem cT (g t : Nat) (cs : Array Value) (hg : w.heap[g]? = some (.cells cs t (0, 0))) (hu : P.underlying ty = some d) (hR : R (.returned (.tuple #[.agg cs, a.tmps.getD u undef])) w) (h : fn.results = #[.cell p ty, .tmp u] := by exact rfl) (hp : a.tmps.getD p undef = .pointer (some ⟨g, 0, none⟩) := by exact rfl) (hd : (match d with | .struct _ | .array _ _ => true | _ => false) = true := by exact rfl) (hi : (P.info? ty).map (·.size) = some cs.size := by kernel_rfl) (hf : a.defers = [] := by exact rfl) : bodyPost P fn R .ret a w :=
  bodyPost_ret (Bi h _ _ g t cs (0, 0) _ hp hg hu hd hi) hf hR
theorem cR (g t : Nat) (cs : Array Value) (hg : w.heap[g]? = some (.cells cs t (0, 0))) (hu : P.underlying ty = some d) (hR : R (.returned (.agg cs)) w) (h : fn.results = #[.cell p ty] := by exact rfl) (hp : a.tmps.getD p undef = .pointer (some ⟨g, 0, none⟩) := by exact rfl) (hd : (match d with | .struct _ | .array _ _ => true | _ => false) = true := by exact rfl) (hi : (P.info? ty).map (·.size) = some cs.size := by kernel_rfl) (hf : a.defers = [] := by exact rfl) : bodyPost P fn R .ret a w :=
  bodyPost_ret (results_cell_row h _ _ g t cs (0, 0) _ hp hg hu hd hi) hf hR
end
section
variable {P : Program} {ops : Array Oper} {rest : List Oper} {o : Oper} {a : Act} {Q : Exit → Act → World → Prop} {W : World} {Kc : Act → World → Prop}
theorem lS (e : Nat) (N : Tmp) {xs y : List ByteArray} (hy : aA (y = xs))
    (h : ∀ v1 w1, Kd.R Kd.string e w1 W.heap.size (fun _ => True) v1 y → Below W.heap.size W w1 → wpList P ops Q rest (a.put o.dst v1) w1) (hd : o.dst = some N := by rfl) (hg : o.guard = none := by rfl)
    (hr : (execOp a.eval o).run P W = .ok (.value (.slice (some ⟨W.heap.size, 0, none⟩) xs.length xs.length)) (W.alloc (.cells (xs.map Value.string).toArray e)) := by first | (go_simp; done) | (go_simp; rfl)) (hm : xs.length ≤ 9223372036854775807 := by simp) : wpList P ops Q (o :: rest) a W :=
  Kd.Dl Kd.string _ e hg hd hr (Oe _ _ (fun _ => True) xs) (fun _ hk => hk) trivial (Below.refl _ _) (Nat.le_refl _) hm (fun v w r b _ _ => h v w (hy.1 ▸ r) b)
theorem lT (e : Nat) (N : Tmp) {xs y : List ByteArray} (hy : aA (y = xs))
    (h : ∀ v1 w1, Kd.R Kd.string e w1 W.heap.size (fun _ => True) v1 y → Below W.heap.size W w1 → Kc (a.put o.dst v1) w1) (hd : o.dst = some N := by rfl) (hg : Region.wanted o (yielded ops a.tmps) = true := by rfl)
    (hr : (execOp a.eval o).run P W = .ok (.value (.slice (some ⟨W.heap.size, 0, none⟩) xs.length xs.length)) (W.alloc (.cells (xs.map Value.string).toArray e)) := by first | (go_simp; done) | (go_simp; rfl)) (hm : xs.length ≤ 9223372036854775807 := by simp) : if Region.wanted o (yielded ops a.tmps) = true then Oper.wp P o a W Kc Q else Kc (a.put o.dst undef) W :=
  Kd.J3 Kd.string _ e hg hd hr (Oe _ _ (fun _ => True) xs) (fun _ hk => hk) trivial (Below.refl _ _) (Nat.le_refl _) hm (fun v w r b _ _ => h v w (hy.1 ▸ r) b)
end
section
variable {P : Program} {ops : Array Oper} {Q : Exit → Act → World → Prop} {md : Region.Mode} {S : World → Prop} {ds : List Nat}
theorem dN {l : Array Bool} {a : Act} {w : World} {n : Nat} (h : Q .normal a w) (hr : (Region.ready md ops l == []) = true := by exact UK HT_.out (by kernel_rfl)) : bD P md ops Q S ds n l a w := JY hr h
theorem nK {fuel : Nat} {l : Array Bool} {a a' : Act} {w : World} {K : Act → World → Prop} (hK : Shut (∀ a' w', S w' → (S w' → bD P md ops Q S ds fuel l a' w') → K a' w')) (s : S w) (h : S w → bD P md ops Q S ds fuel l a' w) (ha : a = a' := by (show Act.put _ (some _) _ = _; simp only [pW]; rfl)) : K a w := hK.out _ _ s (fun hS => rW ha (h hS))
theorem lN {oi : Oper} {fuel n m : Nat} {a : Act} {w : World} (i : Nat) (N : Option Tmp)
    (h : ∀ K : Act → World → Prop, Shut (∀ a' w', bD P md ops Q S ds fuel (bz n (m + 2 ^ i)) a' w' → K a' w') → if Region.wanted oi (yielded ops a.tmps) = true then Oper.wp P oi a w K Q else K (a.put N undef) w)
    (hi : ops[i]? = some oi := by exact rfl) (hN : oi.dst = N := by exact rfl) (hc : F6 md ops (bz n m) (bz n (m + 2 ^ i)) i = true := by exact Bb HT_.out (by kernel_rfl)) (hd : i ∈ ds := by decide) : bD P md ops Q S ds (fuel + 1) (bz n m) a w := Ff _ hi hN hc hd h
def St (P : Program) (ops : Array Oper) (Q : Exit → Act → World → Prop) (md : Region.Mode) (S : World → Prop) (ds : List Nat) (n m i : Nat) (a b : Act) : Prop := ∀ f w, bD P md ops Q S ds f (bz n (m + 2 ^ i)) b w → bD P md ops Q S ds (f + 1) (bz n m) a w
section
variable {n m i : Nat} {oi : Oper} {N : Tmp} {a b : Act} {v : Value}
theorem uU (hi : ops[i]? = some oi := by exact rfl) (hN : oi.dst = some N := by exact rfl) (hc : anyB md ops (bz n m) (bz n (m + 2 ^ i)) i = true := by exact U4 HT_.out (by kernel_rfl)) (hQ : ∀ c a w, Q (.panic c) (a.put oi.dst v) w → Q (.panic c) a w := by exact (fun _ _ _ h => h)) (hy : Yields P ops oi v a := by exact Or.inl ⟨by rfl, by intro w'; go_simp; with_reducible rfl⟩) (ha : a.put (some N) v = b := by (simp only [pW]; rfl)) : St P ops Q md S ds n m i a b := fun _ _ h => pU i (some N) h hi hN hc hQ hy ha
theorem uV (hi : ops[i]? = some oi := by exact rfl) (hN : oi.dst = some N := by exact rfl) (hc : anyB md ops (bz n m) (bz n (m + 2 ^ i)) i = true := by exact U4 HT_.out (by kernel_rfl)) (hQ : ∀ c a w, Q (.panic c) (a.put oi.dst undef) w → Q (.panic c) a w := by exact (fun _ _ _ h => h)) (hy : Yields P ops oi undef a := by exact Or.inr ⟨by rfl, rfl⟩) (ha : a.put (some N) undef = b := by (simp only [pW]; rfl)) : St P ops Q md S ds n m i a b := fun _ _ h => pV i (some N) h hi hN hc hQ hy ha
end
variable {n m f : Nat} {a b : Act} {w : World}
theorem pU1 (i0 : Nat) (h : bD P md ops Q S ds f (bz n (m + 2 ^ i0)) b w) (c0 : St P ops Q md S ds n m i0 a b := by exact uU) : bD P md ops Q S ds (f + 1) (bz n m) a w := c0 _ _ h
theorem pU2 {b1 : Act} (i0 i1 : Nat) (h : bD P md ops Q S ds f (bz n (m + 2 ^ i0 + 2 ^ i1)) b w) (c0 : St P ops Q md S ds n m i0 a b1 := by exact uU) (c1 : St P ops Q md S ds n (m + 2 ^ i0) i1 b1 b := by exact uU) : bD P md ops Q S ds (f + 1 + 1) (bz n m) a w := c0 _ _ (c1 _ _ h)
theorem pU3 {b1 b2 : Act} (i0 i1 i2 : Nat) (h : bD P md ops Q S ds f (bz n (m + 2 ^ i0 + 2 ^ i1 + 2 ^ i2)) b w) (c0 : St P ops Q md S ds n m i0 a b1 := by exact uU) (c1 : St P ops Q md S ds n (m + 2 ^ i0) i1 b1 b2 := by exact uU) (c2 : St P ops Q md S ds n (m + 2 ^ i0 + 2 ^ i1) i2 b2 b := by exact uU) : bD P md ops Q S ds (f + 1 + 1 + 1) (bz n m) a w := c0 _ _ (c1 _ _ (c2 _ _ h))
theorem pU4 {b1 b2 b3 : Act} (i0 i1 i2 i3 : Nat) (h : bD P md ops Q S ds f (bz n (m + 2 ^ i0 + 2 ^ i1 + 2 ^ i2 + 2 ^ i3)) b w) (c0 : St P ops Q md S ds n m i0 a b1 := by exact uU) (c1 : St P ops Q md S ds n (m + 2 ^ i0) i1 b1 b2 := by exact uU) (c2 : St P ops Q md S ds n (m + 2 ^ i0 + 2 ^ i1) i2 b2 b3 := by exact uU) (c3 : St P ops Q md S ds n (m + 2 ^ i0 + 2 ^ i1 + 2 ^ i2) i3 b3 b := by exact uU) : bD P md ops Q S ds (f + 1 + 1 + 1 + 1) (bz n m) a w := c0 _ _ (c1 _ _ (c2 _ _ (c3 _ _ h)))
theorem pU5 {b1 b2 b3 b4 : Act} (i0 i1 i2 i3 i4 : Nat) (h : bD P md ops Q S ds f (bz n (m + 2 ^ i0 + 2 ^ i1 + 2 ^ i2 + 2 ^ i3 + 2 ^ i4)) b w) (c0 : St P ops Q md S ds n m i0 a b1 := by exact uU) (c1 : St P ops Q md S ds n (m + 2 ^ i0) i1 b1 b2 := by exact uU) (c2 : St P ops Q md S ds n (m + 2 ^ i0 + 2 ^ i1) i2 b2 b3 := by exact uU) (c3 : St P ops Q md S ds n (m + 2 ^ i0 + 2 ^ i1 + 2 ^ i2) i3 b3 b4 := by exact uU) (c4 : St P ops Q md S ds n (m + 2 ^ i0 + 2 ^ i1 + 2 ^ i2 + 2 ^ i3) i4 b4 b := by exact uU) : bD P md ops Q S ds (f + 1 + 1 + 1 + 1 + 1) (bz n m) a w := c0 _ _ (c1 _ _ (c2 _ _ (c3 _ _ (c4 _ _ h))))
theorem pU6 {b1 b2 b3 b4 b5 : Act} (i0 i1 i2 i3 i4 i5 : Nat) (h : bD P md ops Q S ds f (bz n (m + 2 ^ i0 + 2 ^ i1 + 2 ^ i2 + 2 ^ i3 + 2 ^ i4 + 2 ^ i5)) b w) (c0 : St P ops Q md S ds n m i0 a b1 := by exact uU) (c1 : St P ops Q md S ds n (m + 2 ^ i0) i1 b1 b2 := by exact uU) (c2 : St P ops Q md S ds n (m + 2 ^ i0 + 2 ^ i1) i2 b2 b3 := by exact uU) (c3 : St P ops Q md S ds n (m + 2 ^ i0 + 2 ^ i1 + 2 ^ i2) i3 b3 b4 := by exact uU) (c4 : St P ops Q md S ds n (m + 2 ^ i0 + 2 ^ i1 + 2 ^ i2 + 2 ^ i3) i4 b4 b5 := by exact uU) (c5 : St P ops Q md S ds n (m + 2 ^ i0 + 2 ^ i1 + 2 ^ i2 + 2 ^ i3 + 2 ^ i4) i5 b5 b := by exact uU) : bD P md ops Q S ds (f + 1 + 1 + 1 + 1 + 1 + 1) (bz n m) a w := c0 _ _ (c1 _ _ (c2 _ _ (c3 _ _ (c4 _ _ (c5 _ _ h)))))
theorem pU7 {b1 b2 b3 b4 b5 b6 : Act} (i0 i1 i2 i3 i4 i5 i6 : Nat) (h : bD P md ops Q S ds f (bz n (m + 2 ^ i0 + 2 ^ i1 + 2 ^ i2 + 2 ^ i3 + 2 ^ i4 + 2 ^ i5 + 2 ^ i6)) b w) (c0 : St P ops Q md S ds n m i0 a b1 := by exact uU) (c1 : St P ops Q md S ds n (m + 2 ^ i0) i1 b1 b2 := by exact uU) (c2 : St P ops Q md S ds n (m + 2 ^ i0 + 2 ^ i1) i2 b2 b3 := by exact uU) (c3 : St P ops Q md S ds n (m + 2 ^ i0 + 2 ^ i1 + 2 ^ i2) i3 b3 b4 := by exact uU) (c4 : St P ops Q md S ds n (m + 2 ^ i0 + 2 ^ i1 + 2 ^ i2 + 2 ^ i3) i4 b4 b5 := by exact uU) (c5 : St P ops Q md S ds n (m + 2 ^ i0 + 2 ^ i1 + 2 ^ i2 + 2 ^ i3 + 2 ^ i4) i5 b5 b6 := by exact uU) (c6 : St P ops Q md S ds n (m + 2 ^ i0 + 2 ^ i1 + 2 ^ i2 + 2 ^ i3 + 2 ^ i4 + 2 ^ i5) i6 b6 b := by exact uU) : bD P md ops Q S ds (f + 1 + 1 + 1 + 1 + 1 + 1 + 1) (bz n m) a w := c0 _ _ (c1 _ _ (c2 _ _ (c3 _ _ (c4 _ _ (c5 _ _ (c6 _ _ h))))))
theorem pU8 {b1 b2 b3 b4 b5 b6 b7 : Act} (i0 i1 i2 i3 i4 i5 i6 i7 : Nat) (h : bD P md ops Q S ds f (bz n (m + 2 ^ i0 + 2 ^ i1 + 2 ^ i2 + 2 ^ i3 + 2 ^ i4 + 2 ^ i5 + 2 ^ i6 + 2 ^ i7)) b w) (c0 : St P ops Q md S ds n m i0 a b1 := by exact uU) (c1 : St P ops Q md S ds n (m + 2 ^ i0) i1 b1 b2 := by exact uU) (c2 : St P ops Q md S ds n (m + 2 ^ i0 + 2 ^ i1) i2 b2 b3 := by exact uU) (c3 : St P ops Q md S ds n (m + 2 ^ i0 + 2 ^ i1 + 2 ^ i2) i3 b3 b4 := by exact uU) (c4 : St P ops Q md S ds n (m + 2 ^ i0 + 2 ^ i1 + 2 ^ i2 + 2 ^ i3) i4 b4 b5 := by exact uU) (c5 : St P ops Q md S ds n (m + 2 ^ i0 + 2 ^ i1 + 2 ^ i2 + 2 ^ i3 + 2 ^ i4) i5 b5 b6 := by exact uU) (c6 : St P ops Q md S ds n (m + 2 ^ i0 + 2 ^ i1 + 2 ^ i2 + 2 ^ i3 + 2 ^ i4 + 2 ^ i5) i6 b6 b7 := by exact uU) (c7 : St P ops Q md S ds n (m + 2 ^ i0 + 2 ^ i1 + 2 ^ i2 + 2 ^ i3 + 2 ^ i4 + 2 ^ i5 + 2 ^ i6) i7 b7 b := by exact uU) : bD P md ops Q S ds (f + 1 + 1 + 1 + 1 + 1 + 1 + 1 + 1) (bz n m) a w := c0 _ _ (c1 _ _ (c2 _ _ (c3 _ _ (c4 _ _ (c5 _ _ (c6 _ _ (c7 _ _ h)))))))
theorem pV1 (i0 : Nat) (h : bD P md ops Q S ds f (bz n (m + 2 ^ i0)) b w) (c0 : St P ops Q md S ds n m i0 a b := by exact uV) : bD P md ops Q S ds (f + 1) (bz n m) a w := c0 _ _ h
theorem pV2 {b1 : Act} (i0 i1 : Nat) (h : bD P md ops Q S ds f (bz n (m + 2 ^ i0 + 2 ^ i1)) b w) (c0 : St P ops Q md S ds n m i0 a b1 := by exact uV) (c1 : St P ops Q md S ds n (m + 2 ^ i0) i1 b1 b := by exact uV) : bD P md ops Q S ds (f + 1 + 1) (bz n m) a w := c0 _ _ (c1 _ _ h)
theorem pV4 {b1 b2 b3 : Act} (i0 i1 i2 i3 : Nat) (h : bD P md ops Q S ds f (bz n (m + 2 ^ i0 + 2 ^ i1 + 2 ^ i2 + 2 ^ i3)) b w) (c0 : St P ops Q md S ds n m i0 a b1 := by exact uV) (c1 : St P ops Q md S ds n (m + 2 ^ i0) i1 b1 b2 := by exact uV) (c2 : St P ops Q md S ds n (m + 2 ^ i0 + 2 ^ i1) i2 b2 b3 := by exact uV) (c3 : St P ops Q md S ds n (m + 2 ^ i0 + 2 ^ i1 + 2 ^ i2) i3 b3 b := by exact uV) : bD P md ops Q S ds (f + 1 + 1 + 1 + 1) (bz n m) a w := c0 _ _ (c1 _ _ (c2 _ _ (c3 _ _ h)))
theorem pV5 {b1 b2 b3 b4 : Act} (i0 i1 i2 i3 i4 : Nat) (h : bD P md ops Q S ds f (bz n (m + 2 ^ i0 + 2 ^ i1 + 2 ^ i2 + 2 ^ i3 + 2 ^ i4)) b w) (c0 : St P ops Q md S ds n m i0 a b1 := by exact uV) (c1 : St P ops Q md S ds n (m + 2 ^ i0) i1 b1 b2 := by exact uV) (c2 : St P ops Q md S ds n (m + 2 ^ i0 + 2 ^ i1) i2 b2 b3 := by exact uV) (c3 : St P ops Q md S ds n (m + 2 ^ i0 + 2 ^ i1 + 2 ^ i2) i3 b3 b4 := by exact uV) (c4 : St P ops Q md S ds n (m + 2 ^ i0 + 2 ^ i1 + 2 ^ i2 + 2 ^ i3) i4 b4 b := by exact uV) : bD P md ops Q S ds (f + 1 + 1 + 1 + 1 + 1) (bz n m) a w := c0 _ _ (c1 _ _ (c2 _ _ (c3 _ _ (c4 _ _ h))))
theorem pV6 {b1 b2 b3 b4 b5 : Act} (i0 i1 i2 i3 i4 i5 : Nat) (h : bD P md ops Q S ds f (bz n (m + 2 ^ i0 + 2 ^ i1 + 2 ^ i2 + 2 ^ i3 + 2 ^ i4 + 2 ^ i5)) b w) (c0 : St P ops Q md S ds n m i0 a b1 := by exact uV) (c1 : St P ops Q md S ds n (m + 2 ^ i0) i1 b1 b2 := by exact uV) (c2 : St P ops Q md S ds n (m + 2 ^ i0 + 2 ^ i1) i2 b2 b3 := by exact uV) (c3 : St P ops Q md S ds n (m + 2 ^ i0 + 2 ^ i1 + 2 ^ i2) i3 b3 b4 := by exact uV) (c4 : St P ops Q md S ds n (m + 2 ^ i0 + 2 ^ i1 + 2 ^ i2 + 2 ^ i3) i4 b4 b5 := by exact uV) (c5 : St P ops Q md S ds n (m + 2 ^ i0 + 2 ^ i1 + 2 ^ i2 + 2 ^ i3 + 2 ^ i4) i5 b5 b := by exact uV) : bD P md ops Q S ds (f + 1 + 1 + 1 + 1 + 1 + 1) (bz n m) a w := c0 _ _ (c1 _ _ (c2 _ _ (c3 _ _ (c4 _ _ (c5 _ _ h)))))
theorem pV7 {b1 b2 b3 b4 b5 b6 : Act} (i0 i1 i2 i3 i4 i5 i6 : Nat) (h : bD P md ops Q S ds f (bz n (m + 2 ^ i0 + 2 ^ i1 + 2 ^ i2 + 2 ^ i3 + 2 ^ i4 + 2 ^ i5 + 2 ^ i6)) b w) (c0 : St P ops Q md S ds n m i0 a b1 := by exact uV) (c1 : St P ops Q md S ds n (m + 2 ^ i0) i1 b1 b2 := by exact uV) (c2 : St P ops Q md S ds n (m + 2 ^ i0 + 2 ^ i1) i2 b2 b3 := by exact uV) (c3 : St P ops Q md S ds n (m + 2 ^ i0 + 2 ^ i1 + 2 ^ i2) i3 b3 b4 := by exact uV) (c4 : St P ops Q md S ds n (m + 2 ^ i0 + 2 ^ i1 + 2 ^ i2 + 2 ^ i3) i4 b4 b5 := by exact uV) (c5 : St P ops Q md S ds n (m + 2 ^ i0 + 2 ^ i1 + 2 ^ i2 + 2 ^ i3 + 2 ^ i4) i5 b5 b6 := by exact uV) (c6 : St P ops Q md S ds n (m + 2 ^ i0 + 2 ^ i1 + 2 ^ i2 + 2 ^ i3 + 2 ^ i4 + 2 ^ i5) i6 b6 b := by exact uV) : bD P md ops Q S ds (f + 1 + 1 + 1 + 1 + 1 + 1 + 1) (bz n m) a w := c0 _ _ (c1 _ _ (c2 _ _ (c3 _ _ (c4 _ _ (c5 _ _ (c6 _ _ h))))))
theorem pV8 {b1 b2 b3 b4 b5 b6 b7 : Act} (i0 i1 i2 i3 i4 i5 i6 i7 : Nat) (h : bD P md ops Q S ds f (bz n (m + 2 ^ i0 + 2 ^ i1 + 2 ^ i2 + 2 ^ i3 + 2 ^ i4 + 2 ^ i5 + 2 ^ i6 + 2 ^ i7)) b w) (c0 : St P ops Q md S ds n m i0 a b1 := by exact uV) (c1 : St P ops Q md S ds n (m + 2 ^ i0) i1 b1 b2 := by exact uV) (c2 : St P ops Q md S ds n (m + 2 ^ i0 + 2 ^ i1) i2 b2 b3 := by exact uV) (c3 : St P ops Q md S ds n (m + 2 ^ i0 + 2 ^ i1 + 2 ^ i2) i3 b3 b4 := by exact uV) (c4 : St P ops Q md S ds n (m + 2 ^ i0 + 2 ^ i1 + 2 ^ i2 + 2 ^ i3) i4 b4 b5 := by exact uV) (c5 : St P ops Q md S ds n (m + 2 ^ i0 + 2 ^ i1 + 2 ^ i2 + 2 ^ i3 + 2 ^ i4) i5 b5 b6 := by exact uV) (c6 : St P ops Q md S ds n (m + 2 ^ i0 + 2 ^ i1 + 2 ^ i2 + 2 ^ i3 + 2 ^ i4 + 2 ^ i5) i6 b6 b7 := by exact uV) (c7 : St P ops Q md S ds n (m + 2 ^ i0 + 2 ^ i1 + 2 ^ i2 + 2 ^ i3 + 2 ^ i4 + 2 ^ i5 + 2 ^ i6) i7 b7 b := by exact uV) : bD P md ops Q S ds (f + 1 + 1 + 1 + 1 + 1 + 1 + 1 + 1) (bz n m) a w := c0 _ _ (c1 _ _ (c2 _ _ (c3 _ _ (c4 _ _ (c5 _ _ (c6 _ _ (c7 _ _ h)))))))
end
section
end
end Go.Proofs.YtaofjgnhapnndaaW.PrintLast
