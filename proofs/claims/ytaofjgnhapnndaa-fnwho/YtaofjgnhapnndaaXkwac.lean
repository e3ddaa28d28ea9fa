/- Texts that the row needs: words on memory and rows, the contracts of the functions it reaches, and the plain lemmas on what they compute. -/
import Derived.Laws.StructEq
import Derived.Test.YtaofjgnhapnndaaXkwab
open Go.Proofs.YtaofjgnhapnndaaFkw
namespace Go.Proofs.YtaofjgnhapnndaaW.PrintLast
open Go.RowKit Go.Proofs.YtaofjgnhapnndaaW.PrintWords Go.Proofs.YtaofjgnhapnndaaW.PrintLast Go.Proofs.YtaofjgnhapnndaaW.PrintMore
section
variable {P : Program} {ops : Array Oper} {Q : Exit → Act → World → Prop} {md : Region.Mode} {S : World → Prop} {ds : List Nat}
theorem pW : (∀ (a : Act) (d : Tmp) (v : Value), a.put (some d) v = { a with tmps := a.tmps.setIfInBounds d v }) ∧ (∀ (a : Act) (v : Value), a.put none v = a) ∧ (∀ (l : List Value) (i : Nat) (v : Value), l.toArray.setIfInBounds i v = (l.set i v).toArray) ∧ (∀ (x y : Value) (l : List Value), (x :: l).set 0 y = y :: l) ∧ (∀ (x y : Value) (n : Nat) (l : List Value), (x :: l).set (n + 1) y = x :: l.set n y) ∧ (∀ n : Int, IntKind.i64.wrap n = Go.RowKit.wrap64 n) ∧ (∀ n : Int, IntKind.i32.wrap n = Go.RowKit.wrap32 n) := ⟨fun _ _ _ => rfl, fun _ _ => rfl, by intros; simp only [List.setIfInBounds_toArray], fun _ _ _ => rfl, fun _ _ _ _ => rfl, i64_w, i32_w⟩
def bzl : Nat → Nat → List Bool
  | 0, _ => []
  | n + 1, m => (m % 2 == 1) :: bzl n (m / 2)
def bz (n m : Nat) : Array Bool := ⟨bzl n m⟩
theorem pU {v : Value} {n m : Nat} {oi : Oper} {fuel : Nat} {a : Act} {w : World} (i : Nat) (N : Option Tmp) {a' : Act}
 (h : wpAnyLast P md ops Q S ds fuel (bz n (m + 2 ^ i)) a' w)
 (hi : ops[i]? = some oi := by exact rfl) (hN : oi.dst = N := by exact rfl)
 (hc : anyB md ops (bz n m) (bz n (m + 2 ^ i)) i = true := by exact any_of HT_.out (by kernel_rfl))
 (hQ : ∀ c a w, Q (.panic c) (a.put oi.dst v) w → Q (.panic c) a w := by exact (fun _ _ _ h => h))
 (hy : Yields P ops oi v a := by exact Or.inl ⟨by rfl, by intro w'; go_simp; with_reducible rfl⟩)
 (ha : a.put N v = a' := by (simp only [pW]; rfl)) :
 wpAnyLast P md ops Q S ds (fuel + 1) (bz n m) a w := pure_ _ hi hN hc hQ hy ha h
theorem pV {n m : Nat} {oi : Oper} {fuel : Nat} {a : Act} {w : World} (i : Nat) (N : Option Tmp) {a' : Act}
 (h : wpAnyLast P md ops Q S ds fuel (bz n (m + 2 ^ i)) a' w)
 (hi : ops[i]? = some oi := by exact rfl) (hN : oi.dst = N := by exact rfl)
 (hc : anyB md ops (bz n m) (bz n (m + 2 ^ i)) i = true := by exact any_of HT_.out (by kernel_rfl))
 (hQ : ∀ c a w, Q (.panic c) (a.put oi.dst undef) w → Q (.panic c) a w := by exact (fun _ _ _ h => h))
 (hy : Yields P ops oi undef a := by exact Or.inr ⟨by rfl, rfl⟩)
 (ha : a.put N undef = a' := by (simp only [pW]; rfl)) :
 wpAnyLast P md ops Q S ds (fuel + 1) (bz n m) a w := pure_ _ hi hN hc hQ hy ha h
theorem pU0 {v : Value} {n m : Nat} {oi : Oper} {fuel : Nat} {a : Act} {w : World} (i : Nat) (N : Option Tmp) {a' : Act}
 (h : wpAnyLast P md ops Q S ds fuel (bz n (m + 2 ^ i)) a' w)
 (hi : ops[i]? = some oi := by exact rfl) (hN : oi.dst = N := by exact rfl)
 (hc : anyB md ops (bz n m) (bz n (m + 2 ^ i)) i = true := by kernel_rfl)
 (hQ : ∀ c a w, Q (.panic c) (a.put oi.dst v) w → Q (.panic c) a w := by exact (fun _ _ _ h => h))
 (hy : Yields P ops oi v a := by exact Or.inl ⟨by rfl, by intro w'; go_simp; with_reducible rfl⟩)
 (ha : a.put N v = a' := by (simp only [pW]; rfl)) :
 wpAnyLast P md ops Q S ds (fuel + 1) (bz n m) a w := pure_ _ hi hN hc hQ hy ha h
theorem tK2 {v : Value} {n m : Nat} {oi : Oper} {fuel : Nat} {a : Act} {w : World} (i : Nat) (N : Option Tmp) {a' : Act}
 (h : wpAnyLast P md ops Q S ds fuel (bz n (m + 2 ^ i)) a' w)
 (hi : ops[i]? = some oi := by exact rfl) (hN : oi.dst = N := by exact rfl)
 (hc : takeB md ops ds (bz n m) (bz n (m + 2 ^ i)) i = true := by exact take_ofW HT_.out HW_.out (by kernel_rfl))
 (hQ : ∀ c a w, Q (.panic c) (a.put oi.dst v) w → Q (.panic c) a w := by exact (fun _ _ _ h => h))
 (hy : YieldsIf P ops S oi v a := by exact Or.inl ⟨by rfl, by rintro w' ⟨s0, s1⟩; go_simp; with_reducible rfl⟩) (hS : S w := by exact hHeld)
 (ha : a.put N v = a' := by (simp only [pW]; rfl)) :
 wpAnyLast P md ops Q S ds (fuel + 1) (bz n m) a w := take_ _ hi hN hc hQ hy hS ha h
theorem tK2_ {v : Value} {n m : Nat} {oi : Oper} {fuel : Nat} {a : Act} {w : World} (i : Nat) (N : Option Tmp) {a' : Act}
 (h : wpAnyLast P md ops Q S ds fuel (bz n (m + 2 ^ i)) a' w)
 (hi : ops[i]? = some oi := by exact rfl) (hN : oi.dst = N := by exact rfl)
 (hc : takeB md ops ds (bz n m) (bz n (m + 2 ^ i)) i = true := by kernel_rfl)
 (hQ : ∀ c a w, Q (.panic c) (a.put oi.dst v) w → Q (.panic c) a w := by exact (fun _ _ _ h => h))
 (hy : YieldsIf P ops S oi v a := by exact Or.inl ⟨by rfl, by rintro w' ⟨s0, s1⟩; go_simp; with_reducible rfl⟩) (hS : S w := by exact hHeld)
 (ha : a.put N v = a' := by (simp only [pW]; rfl)) :
 wpAnyLast P md ops Q S ds (fuel + 1) (bz n m) a w := take_ _ hi hN hc hQ hy hS ha h
theorem tK3 {v : Value} {n m : Nat} {oi : Oper} {fuel : Nat} {a : Act} {w : World} (i : Nat) (N : Option Tmp) {a' : Act}
 (h : wpAnyLast P md ops Q S ds fuel (bz n (m + 2 ^ i)) a' w)
 (hi : ops[i]? = some oi := by exact rfl) (hN : oi.dst = N := by exact rfl)
 (hc : takeB md ops ds (bz n m) (bz n (m + 2 ^ i)) i = true := by exact take_ofW HT_.out HW_.out (by kernel_rfl))
 (hQ : ∀ c a w, Q (.panic c) (a.put oi.dst v) w → Q (.panic c) a w := by exact (fun _ _ _ h => h))
 (hy : YieldsIf P ops S oi v a := by exact Or.inl ⟨by rfl, by rintro w' ⟨s0, s1, s2⟩; go_simp; with_reducible rfl⟩) (hS : S w := by exact hHeld)
 (ha : a.put N v = a' := by (simp only [pW]; rfl)) :
 wpAnyLast P md ops Q S ds (fuel + 1) (bz n m) a w := take_ _ hi hN hc hQ hy hS ha h
theorem tK4 {v : Value} {n m : Nat} {oi : Oper} {fuel : Nat} {a : Act} {w : World} (i : Nat) (N : Option Tmp) {a' : Act}
 (h : wpAnyLast P md ops Q S ds fuel (bz n (m + 2 ^ i)) a' w)
 (hi : ops[i]? = some oi := by exact rfl) (hN : oi.dst = N := by exact rfl)
 (hc : takeB md ops ds (bz n m) (bz n (m + 2 ^ i)) i = true := by exact take_ofW HT_.out HW_.out (by kernel_rfl))
 (hQ : ∀ c a w, Q (.panic c) (a.put oi.dst v) w → Q (.panic c) a w := by exact (fun _ _ _ h => h))
 (hy : YieldsIf P ops S oi v a := by exact Or.inl ⟨by rfl, by rintro w' ⟨s0, s1, s2, s3⟩; go_simp; with_reducible rfl⟩) (hS : S w := by exact hHeld)
 (ha : a.put N v = a' := by (simp only [pW]; rfl)) :
 wpAnyLast P md ops Q S ds (fuel + 1) (bz n m) a w := take_ _ hi hN hc hQ hy hS ha h
theorem tK5 {v : Value} {n m : Nat} {oi : Oper} {fuel : Nat} {a : Act} {w : World} (i : Nat) (N : Option Tmp) {a' : Act}
 (h : wpAnyLast P md ops Q S ds fuel (bz n (m + 2 ^ i)) a' w)
 (hi : ops[i]? = some oi := by exact rfl) (hN : oi.dst = N := by exact rfl)
 (hc : takeB md ops ds (bz n m) (bz n (m + 2 ^ i)) i = true := by exact take_ofW HT_.out HW_.out (by kernel_rfl))
 (hQ : ∀ c a w, Q (.panic c) (a.put oi.dst v) w → Q (.panic c) a w := by exact (fun _ _ _ h => h))
 (hy : YieldsIf P ops S oi v a := by exact Or.inl ⟨by rfl, by rintro w' ⟨s0, s1, s2, s3, s4⟩; go_simp; with_reducible rfl⟩) (hS : S w := by exact hHeld)
 (ha : a.put N v = a' := by (simp only [pW]; rfl)) :
 wpAnyLast P md ops Q S ds (fuel + 1) (bz n m) a w := take_ _ hi hN hc hQ hy hS ha h
theorem tK6 {v : Value} {n m : Nat} {oi : Oper} {fuel : Nat} {a : Act} {w : World} (i : Nat) (N : Option Tmp) {a' : Act}
 (h : wpAnyLast P md ops Q S ds fuel (bz n (m + 2 ^ i)) a' w)
 (hi : ops[i]? = some oi := by exact rfl) (hN : oi.dst = N := by exact rfl)
 (hc : takeB md ops ds (bz n m) (bz n (m + 2 ^ i)) i = true := by exact take_ofW HT_.out HW_.out (by kernel_rfl))
 (hQ : ∀ c a w, Q (.panic c) (a.put oi.dst v) w → Q (.panic c) a w := by exact (fun _ _ _ h => h))
 (hy : YieldsIf P ops S oi v a := by exact Or.inl ⟨by rfl, by rintro w' ⟨s0, s1, s2, s3, s4, s5⟩; go_simp; with_reducible rfl⟩) (hS : S w := by exact hHeld)
 (ha : a.put N v = a' := by (simp only [pW]; rfl)) :
 wpAnyLast P md ops Q S ds (fuel + 1) (bz n m) a w := take_ _ hi hN hc hQ hy hS ha h
theorem tK8 {v : Value} {n m : Nat} {oi : Oper} {fuel : Nat} {a : Act} {w : World} (i : Nat) (N : Option Tmp) {a' : Act}
 (h : wpAnyLast P md ops Q S ds fuel (bz n (m + 2 ^ i)) a' w)
 (hi : ops[i]? = some oi := by exact rfl) (hN : oi.dst = N := by exact rfl)
 (hc : takeB md ops ds (bz n m) (bz n (m + 2 ^ i)) i = true := by exact take_ofW HT_.out HW_.out (by kernel_rfl))
 (hQ : ∀ c a w, Q (.panic c) (a.put oi.dst v) w → Q (.panic c) a w := by exact (fun _ _ _ h => h))
 (hy : YieldsIf P ops S oi v a := by exact Or.inl ⟨by rfl, by rintro w' ⟨s0, s1, s2, s3, s4, s5, s6, s7⟩; go_simp; with_reducible rfl⟩) (hS : S w := by exact hHeld)
 (ha : a.put N v = a' := by (simp only [pW]; rfl)) :
 wpAnyLast P md ops Q S ds (fuel + 1) (bz n m) a w := take_ _ hi hN hc hQ hy hS ha h
theorem tK13 {v : Value} {n m : Nat} {oi : Oper} {fuel : Nat} {a : Act} {w : World} (i : Nat) (N : Option Tmp) {a' : Act}
 (h : wpAnyLast P md ops Q S ds fuel (bz n (m + 2 ^ i)) a' w)
 (hi : ops[i]? = some oi := by exact rfl) (hN : oi.dst = N := by exact rfl)
 (hc : takeB md ops ds (bz n m) (bz n (m + 2 ^ i)) i = true := by exact take_ofW HT_.out HW_.out (by kernel_rfl))
 (hQ : ∀ c a w, Q (.panic c) (a.put oi.dst v) w → Q (.panic c) a w := by exact (fun _ _ _ h => h))
 (hy : YieldsIf P ops S oi v a := by exact Or.inl ⟨by rfl, by rintro w' ⟨s0, s1, s2, s3, s4, s5, s6, s7, s8, s9, s10, s11, s12⟩; go_simp; with_reducible rfl⟩) (hS : S w := by exact hHeld)
 (ha : a.put N v = a' := by (simp only [pW]; rfl)) :
 wpAnyLast P md ops Q S ds (fuel + 1) (bz n m) a w := take_ _ hi hN hc hQ hy hS ha h
theorem pC {p q : Prop} (x : q) (h : q → p := by intro hx; repeat (first | exact hx | (with_reducible refine Kd.C_alloc ?_ _) | (with_reducible refine Kd.C_drewN ?_ _) | (with_reducible refine Kd.C_drew ?_))) : p := h x
theorem pY0 {p : Prop} (h : p := by (with_reducible repeat (first | refine blk_drewN ?_ _ | refine blk_drew ?_ | refine blk_alloc ?_ _)); refine blk_put (cs := #[.string ((rd_T56 y112 x79_4).f0), .slice A116_1 ((rd_T56 y112 x79_4).f1).length c116_1, .slice none 0 0]) ?_ 2 _ rfl; (with_reducible repeat (first | refine blk_drewN ?_ _ | refine blk_drew ?_ | refine blk_alloc ?_ _)); refine blk_put (cs := #[.string ((rd_T56 y112 x79_4).f0), .slice none 0 0, .slice none 0 0]) ?_ 1 _ rfl; (with_reducible repeat (first | refine blk_drewN ?_ _ | refine blk_drew ?_ | refine blk_alloc ?_ _)); refine blk_put (cs := #[.string (⟨#[]⟩ : ByteArray), .slice none 0 0, .slice none 0 0]) ?_ 0 _ rfl; (with_reducible repeat (first | refine blk_drewN ?_ _ | refine blk_drew ?_ | refine blk_alloc ?_ _)); exact BK117.1) : p := h
theorem pY6 {p : Prop} (h : p := by (with_reducible repeat (first | refine blk_drewN ?_ _ | refine blk_drew ?_ | refine blk_alloc ?_ _)); refine blk_put (cs := #[.slice none 0 0, .slice none 0 0]) ?_ 1 _ rfl; (with_reducible repeat (first | refine blk_drewN ?_ _ | refine blk_drew ?_ | refine blk_alloc ?_ _)); refine blk_put (cs := #[.slice none 0 0, .slice none 0 0]) ?_ 0 _ rfl; (with_reducible repeat (first | refine blk_drewN ?_ _ | refine blk_drew ?_ | refine blk_alloc ?_ _)); exact BK102.1) : p := h
theorem pY7 {p : Prop} (h : p := by first | exact HK.out.1 | exact (show Kept w _ (fun k_ => (P1_0_ k_) ∨ k_ = g) from by repeat (first | (with_reducible first | exact HK.out | apply Kept.alloc | apply Kept.drewN | apply Kept.drew | refine Kept.setCell ?_ (.inl (.inr rfl)) _ | refine Kept.setCell ?_ (.inr GW101.out) _ | refine Kept.setCell ?_ (.inr GW102.out) _ | refine Kept.setCell ?_ (.inr GW116.out) _) | exact HK.out)).1) : p := h
theorem pY8 {p : Prop} (h : p := by (with_reducible repeat (first | refine blk_drewN ?_ _ | refine blk_drew ?_ | refine blk_alloc ?_ _)); refine blk_far ?_ NB101_110.1 _; (with_reducible repeat (first | refine blk_drewN ?_ _ | refine blk_drew ?_ | refine blk_alloc ?_ _)); refine blk_far ?_ NB101_110.1 _; (with_reducible repeat (first | refine blk_drewN ?_ _ | refine blk_drew ?_ | refine blk_alloc ?_ _)); exact BK101.1) : p := h
theorem pY9 {p : Prop} (h : p := by (with_reducible repeat (first | refine blk_drewN ?_ _ | refine blk_drew ?_ | refine blk_alloc ?_ _)); refine blk_far ?_ NB102_110.1 _; (with_reducible repeat (first | refine blk_drewN ?_ _ | refine blk_drew ?_ | refine blk_alloc ?_ _)); refine blk_far ?_ NB102_110.1 _; (with_reducible repeat (first | refine blk_drewN ?_ _ | refine blk_drew ?_ | refine blk_alloc ?_ _)); exact BK102.1) : p := h
theorem pY10 {p : Prop} (h : p := by (with_reducible repeat (first | refine blk_drewN ?_ _ | refine blk_drew ?_ | refine blk_alloc ?_ _)); refine blk_far ?_ NB101_109.1 _; (with_reducible repeat (first | refine blk_drewN ?_ _ | refine blk_drew ?_ | refine blk_alloc ?_ _)); refine blk_far ?_ NB101_109.1 _; (with_reducible repeat (first | refine blk_drewN ?_ _ | refine blk_drew ?_ | refine blk_alloc ?_ _)); exact BK101.1) : p := h
theorem pY14 {p : Prop} (h : p := by first | (rw [add_block]; exact Kd.own_blk (IsS103.own_neS HI0.out HO_110001.1 (by decide))) | (show (Addr.add _ _).block ≠ _; rw [add_block]; exact Kd.own_blk (IsS103.own_neS HI0.out HO_110001.1 (by decide))) | exact Kd.own_blk (IsS103.own_neS HI0.out HO_110001.1 (by decide)) | (dsimp only; exact Kd.own_blk (IsS103.own_neS HI0.out HO_110001.1 (by decide)))) : p := h
theorem pY15 {p : Prop} (h : p := by first | exact HK.out.1 | exact (show Kept w _ (fun k_ => (P1_0_ k_) ∨ k_ = g) from by repeat (first | (with_reducible first | exact HK.out | apply Kept.alloc | apply Kept.drewN | apply Kept.drew | refine Kept.setCell ?_ (.inl (.inr rfl)) _ | refine Kept.setCell ?_ (.inr GW101.out) _ | refine Kept.setCell ?_ (.inr GW102.out) _) | exact HK.out)).1) : p := h
theorem pY16 {p : Prop} (h : p := by first | exact Kd.own_blk (Kd.R_ne HO_5.1 BK116.1 (by decide)) | (rw [add_block]; exact Kd.own_blk (Kd.R_ne HO_5.1 BK116.1 (by decide))) | (show (Addr.add _ _).block ≠ _; rw [add_block]; exact Kd.own_blk (Kd.R_ne HO_5.1 BK116.1 (by decide))) | (dsimp only; exact Kd.own_blk (Kd.R_ne HO_5.1 BK116.1 (by decide)))) : p := h
theorem pY17 {p : Prop} (h : p := by repeat (first | (with_reducible first | exact HK.out | apply Kept.alloc | apply Kept.drewN | apply Kept.drew | refine Kept.setCell ?_ (.inl (.inr rfl)) _ | refine Kept.setCell ?_ (.inr GW101.out) _ | refine Kept.setCell ?_ (.inr GW102.out) _ | refine Kept.setCell ?_ (.inr GW116.out) _) | exact HK.out)) : p := h
theorem pY18 {p : Prop} (h : p := by first | (rw [add_block]; exact Kd.own_blk (IsS103.own_neS HI0.out HO_110001.1 (by decide))) | (show (Addr.add _ _).block ≠ _; rw [add_block]; exact Kd.own_blk (IsS103.own_neS HI0.out HO_110001.1 (by decide))) | exact Kd.own_blk (IsS103.own_neS HI0.out HO_110001.1 (by decide))) : p := h
theorem pY19 {p : Prop} (h : p := by rw [hg]; exact (keep_size (w := w) (g := g) (row := none) (by repeat (first | (with_reducible first | exact HK.out | apply KeepBut.set_ | apply keep_drewN | apply keep_drew | apply keep_alloc | refine keep_far ?_ GW101.out _ | refine keep_far ?_ GW102.out _) | exact HK.out)))) : p := h
theorem pY22 {p : Prop} (h : p := by repeat (first | (with_reducible first | exact HB.1 | apply below_alloc | apply pw_below_drewN | apply below_drew1 | refine below_set ?_ (IsS103.ge HI0.out) | refine below_set ?_ GE101.1 | refine below_set ?_ GE102.1 | refine below_set ?_ GE108.1) | exact HB.1)) : p := h
theorem pY23 {p : Prop} (h : p := by repeat (first | (with_reducible first | exact HB.1 | apply below_alloc | apply pw_below_drewN | apply below_drew1 | refine below_set ?_ (IsS103.ge HI0.out) | refine below_set ?_ GE101.1 | refine below_set ?_ GE102.1 | refine below_set ?_ GE116.1) | exact HB.1)) : p := h
theorem pY24 {p : Prop} (h : p := by repeat (first | (with_reducible first | exact HB.1 | apply below_alloc | apply pw_below_drewN | apply below_drew1 | refine below_set ?_ (IsS103.ge HI0.out) | refine below_set ?_ GE101.1 | refine below_set ?_ GE102.1 | refine below_set ?_ GE109.1) | exact HB.1)) : p := h
theorem pY33 {p : Prop} (h : p := by repeat (first | (with_reducible first | exact HI0.out | apply IsS103.alloc | apply IsS103.drewN | apply IsS103.drew | apply IsS103.set_1 | refine IsS103.far ?_ NB0_101.1 _ | refine IsS103.far ?_ NB0_102.1 _ | refine IsS103.far ?_ NB0_108.1 _) | exact HI0.out)) : p := h
theorem pY34 {p : Prop} (h : p := by repeat (first | (with_reducible first | exact HI0.out | apply IsS103.alloc | apply IsS103.drewN | apply IsS103.drew | apply IsS103.set_1 | refine IsS103.far ?_ NB0_101.1 _ | refine IsS103.far ?_ NB0_102.1 _ | refine IsS103.far ?_ NB0_116.1 _) | exact HI0.out)) : p := h
theorem pY35 {p : Prop} (h : p := by repeat (first | (with_reducible first | exact HI0.out | apply IsS103.alloc | apply IsS103.drewN | apply IsS103.drew | apply IsS103.set_1 | refine IsS103.far ?_ NB0_101.1 _ | refine IsS103.far ?_ NB0_102.1 _ | refine IsS103.far ?_ NB0_109.1 _) | exact HI0.out)) : p := h
theorem pY36 {p : Prop} (h : p := by rw [hg]; exact (below_size (by repeat (first | (with_reducible first | exact HB.1 | apply below_alloc | apply pw_below_drewN | apply below_drew1 | refine below_set ?_ GE101.1 | refine below_set ?_ GE102.1 | refine below_set ?_ GE110.1) | exact HB.1)))) : p := h
theorem pY37 {p : Prop} (h : p := by repeat (first | (with_reducible first | exact HB.1 | apply below_alloc | apply pw_below_drewN | apply below_drew1 | refine below_set ?_ GE101.1 | refine below_set ?_ GE102.1 | refine below_set ?_ GE110.1 | refine below_set ?_ GE121.1) | exact HB.1)) : p := h
theorem pY45 {p : Prop} (h : p := by repeat (first | (with_reducible first | exact HK.out | apply Kept.alloc | apply Kept.drewN | apply Kept.drew | refine Kept.setCell ?_ (.inl (.inr rfl)) _ | refine Kept.setCell ?_ (.inr GW101.out) _ | refine Kept.setCell ?_ (.inr GW102.out) _) | exact HK.out)) : p := h
theorem pY48 {p : Prop} (h : p := by (with_reducible repeat (first | refine blk_drewN ?_ _ | refine blk_drew ?_ | refine blk_alloc ?_ _)); refine blk_far ?_ NB101_110.1 _; (with_reducible repeat (first | refine blk_drewN ?_ _ | refine blk_drew ?_ | refine blk_alloc ?_ _)); exact BK101.1) : p := h
theorem pY49 {p : Prop} (h : p := by (with_reducible repeat (first | refine blk_drewN ?_ _ | refine blk_drew ?_ | refine blk_alloc ?_ _)); refine blk_far ?_ NB102_110.1 _; (with_reducible repeat (first | refine blk_drewN ?_ _ | refine blk_drew ?_ | refine blk_alloc ?_ _)); exact BK102.1) : p := h
theorem pY50 {p : Prop} (h : p := by repeat (first | (with_reducible first | exact HK.out | apply KeepBut.set_ | apply keep_drewN | apply keep_drew | apply keep_alloc | refine keep_far ?_ GW101.out _ | refine keep_far ?_ GW102.out _ | refine keep_far ?_ GW108.out _) | exact HK.out)) : p := h
theorem pY51 {p : Prop} (h : p := by repeat (first | (with_reducible first | exact HK.out | apply KeepBut.set_ | apply keep_drewN | apply keep_drew | apply keep_alloc | refine keep_far ?_ GW101.out _ | refine keep_far ?_ GW102.out _ | refine keep_far ?_ GW109.out _) | exact HK.out)) : p := h
theorem pY52 {p : Prop} (h : p := by first | (rw [add_block]; exact (fun e_ => ((HL130_2.out.1 _ e_.symm).1.2) rfl)) | (show some (Addr.add _ _).block ≠ _; rw [add_block]; exact (fun e_ => ((HL130_2.out.1 _ e_.symm).1.2) rfl)) | exact (fun e_ => ((HL130_2.out.1 _ e_.symm).1.2) rfl)) : p := h
theorem pY53 {p : Prop} (h : p := by first | (rw [add_block]; exact (fun e_ => ((HL140_1.out.1 _ e_.symm).1.2) rfl)) | (show some (Addr.add _ _).block ≠ _; rw [add_block]; exact (fun e_ => ((HL140_1.out.1 _ e_.symm).1.2) rfl)) | exact (fun e_ => ((HL140_1.out.1 _ e_.symm).1.2) rfl)) : p := h
theorem pY54 {p : Prop} (h : p := by rw [hg]; exact (keep_size (w := w) (g := g) (row := none) (by repeat (first | (with_reducible first | exact HK.out | apply KeepBut.set_ | apply keep_drewN | apply keep_drew | apply keep_alloc | refine keep_far ?_ GW101.out _) | exact HK.out)))) : p := h
theorem pY55 {p : Prop} (h : p := by rw [hg]; exact (below_size (by repeat (first | (with_reducible first | exact HB.1 | apply below_alloc | apply pw_below_drewN | apply below_drew1 | refine below_set ?_ (IsS103.ge HI104.out) | refine below_set ?_ GE101.1) | exact HB.1)))) : p := h
theorem pY56 {p : Prop} (h : p := by repeat (first | (with_reducible first | exact HB.1 | apply below_alloc | apply pw_below_drewN | apply below_drew1 | refine below_set ?_ (IsS103.ge HI104.out) | refine below_set ?_ GE101.1 | refine below_set ?_ GE112.1) | exact HB.1)) : p := h
theorem pY57 {p : Prop} (h : p := by repeat (first | (with_reducible first | exact HB.1 | apply below_alloc | apply pw_below_drewN | apply below_drew1 | refine below_set ?_ (IsS103.ge HI0.out) | refine below_set ?_ GE101.1 | refine below_set ?_ GE102.1) | exact HB.1)) : p := h
theorem pY58 {p : Prop} (h : p := by repeat (first | (with_reducible first | exact HB.1 | apply below_alloc | apply pw_below_drewN | apply below_drew1 | refine below_set ?_ (IsS103.ge HI0.out) | refine below_set ?_ GE101.1 | refine below_set ?_ GE109.1) | exact HB.1)) : p := h
theorem pY59 {p : Prop} (h : p := by repeat (first | (with_reducible first | exact HI104.out | apply IsS103.alloc | apply IsS103.drewN | apply IsS103.drew | apply IsS103.set_1 | refine IsS103.far ?_ NB104_101.1 _ | refine IsS103.far ?_ NB104_112.1 _) | exact HI104.out)) : p := h
theorem pY64 {p : Prop} (h : p := by rw [hg]; exact (below_size (by repeat (first | (with_reducible first | exact HB.1 | apply below_alloc | apply pw_below_drewN | apply below_drew1 | refine below_set ?_ GE101.1 | refine below_set ?_ GE105.1) | exact HB.1)))) : p := h
theorem pY65 {p : Prop} (h : p := by rw [hg]; exact (below_size (by repeat (first | (with_reducible first | exact HB.1 | apply below_alloc | apply pw_below_drewN | apply below_drew1 | refine below_set ?_ GE101.1 | refine below_set ?_ GE102.1) | exact HB.1)))) : p := h
theorem pY66 {p : Prop} (h : p := by repeat (first | (with_reducible first | exact HB.1 | apply below_alloc | apply pw_below_drewN | apply below_drew1 | refine below_set ?_ GE101.1 | refine below_set ?_ GE105.1 | refine below_set ?_ GE117.1) | exact HB.1)) : p := h
theorem pY67 {p : Prop} (h : p := by repeat (first | (with_reducible first | exact HI0.out | apply IsS103.alloc | apply IsS103.drewN | apply IsS103.drew | apply IsS103.set_1 | refine IsS103.far ?_ NB0_101.1 _ | refine IsS103.far ?_ NB0_102.1 _) | exact HI0.out)) : p := h
theorem pY68 {p : Prop} (h : p := by repeat (first | (with_reducible first | exact HB.1 | apply below_alloc | apply pw_below_drewN | apply below_drew1 | refine below_set ?_ GE101.1 | refine below_set ?_ GE102.1 | refine below_set ?_ GE106.1) | exact HB.1)) : p := h
theorem pY69 {p : Prop} (h : p := by repeat (first | (with_reducible first | exact HB.1 | apply below_alloc | apply pw_below_drewN | apply below_drew1 | refine below_set ?_ GE101.1 | refine below_set ?_ GE102.1 | refine below_set ?_ GE110.1) | exact HB.1)) : p := h
theorem pY70 {p : Prop} (h : p := by repeat (first | (with_reducible first | exact HB.1 | apply below_alloc | apply pw_below_drewN | apply below_drew1 | refine below_set ?_ GE101.1 | refine below_set ?_ GE102.1 | refine below_set ?_ GE103.1) | exact HB.1)) : p := h
theorem pY71 {p : Prop} (h : p := by repeat (first | (with_reducible first | exact HI0.out | apply IsS103.alloc | apply IsS103.drewN | apply IsS103.drew | apply IsS103.set_1 | refine IsS103.far ?_ NB0_101.1 _ | refine IsS103.far ?_ NB0_109.1 _) | exact HI0.out)) : p := h
theorem pY72 {p : Prop} (h : p := by repeat (first | (with_reducible first | exact HK.out | apply KeepBut.set_ | apply keep_drewN | apply keep_drew | apply keep_alloc | refine keep_far ?_ GW101.out _ | refine keep_far ?_ GW102.out _) | exact HK.out)) : p := h
theorem pY73 {p : Prop} (h : p := by repeat (first | (with_reducible first | exact HK.out | apply KeepBut.set_ | apply keep_drewN | apply keep_drew | apply keep_alloc | refine keep_far ?_ GW101.out _ | refine keep_far ?_ GW109.out _) | exact HK.out)) : p := h
theorem pY74 {p : Prop} (h : p := by rw [hg]; exact (keep_size (w := w) (g := g) (row := none) (by repeat (first | (with_reducible first | exact HK.out | apply KeepBut.set_ | apply keep_drewN | apply keep_drew | apply keep_alloc) | exact HK.out)))) : p := h
theorem pY75 {p : Prop} (h : p := by repeat (first | (with_reducible first | exact HB.1 | apply below_alloc | apply pw_below_drewN | apply below_drew1 | refine below_set ?_ (IsS103.ge HI104.out) | refine below_set ?_ GE101.1) | exact HB.1)) : p := h
theorem pY76 {p : Prop} (h : p := by repeat (first | (with_reducible first | exact HB.1 | apply below_alloc | apply pw_below_drewN | apply below_drew1 | refine below_set ?_ (IsS103.ge HI0.out) | refine below_set ?_ GE101.1) | exact HB.1)) : p := h
theorem pY77 {p : Prop} (h : p := by rw [hg]; exact (below_size (by repeat (first | (with_reducible first | exact HB.1 | apply below_alloc | apply pw_below_drewN | apply below_drew1 | refine below_set ?_ GE101.1) | exact HB.1)))) : p := h
theorem pY78 {p : Prop} (h : p := by repeat (first | (with_reducible first | exact HI104.out | apply IsS103.alloc | apply IsS103.drewN | apply IsS103.drew | apply IsS103.set_1 | refine IsS103.far ?_ NB104_101.1 _) | exact HI104.out)) : p := h
theorem pY79 {p : Prop} (h : p := by repeat (first | (with_reducible first | exact HB.1 | apply below_alloc | apply pw_below_drewN | apply below_drew1 | refine below_set ?_ GE101.1 | refine below_set ?_ GE104.1) | exact HB.1)) : p := h
theorem pY80 {p : Prop} (h : p := by repeat (first | (with_reducible first | exact HB.1 | apply below_alloc | apply pw_below_drewN | apply below_drew1 | refine below_set ?_ GE101.1 | refine below_set ?_ GE105.1) | exact HB.1)) : p := h
theorem pY81 {p : Prop} (h : p := by repeat (first | (with_reducible first | exact HB.1 | apply below_alloc | apply pw_below_drewN | apply below_drew1 | refine below_set ?_ GE101.1 | refine below_set ?_ GE102.1) | exact HB.1)) : p := h
theorem pY85 {p : Prop} (h : p := by repeat (first | (with_reducible first | exact HI0.out | apply IsS103.alloc | apply IsS103.drewN | apply IsS103.drew | apply IsS103.set_1 | refine IsS103.far ?_ NB0_101.1 _) | exact HI0.out)) : p := h
theorem pY86 {p : Prop} (h : p := by first | (rw [add_block]; exact Kd.S_lt HO_110001.1 _ rfl) | (show (Addr.add _ _).block < _; rw [add_block]; exact Kd.S_lt HO_110001.1 _ rfl) | exact Kd.S_lt HO_110001.1 _ rfl) : p := h
theorem pY87 {p : Prop} (h : p := by repeat (first | (with_reducible first | exact HK.out | apply KeepBut.set_ | apply keep_drewN | apply keep_drew | apply keep_alloc | refine keep_far ?_ GW101.out _) | exact HK.out)) : p := h
theorem pY88 {p : Prop} (h : p := by repeat (first | (with_reducible first | exact HB.1 | apply below_alloc | apply pw_below_drewN | apply below_drew1 | refine below_set ?_ (IsS103.ge HI0.out)) | exact HB.1)) : p := h
theorem pY89 {p : Prop} (h : p := by rw [hg]; exact (below_size (by repeat (first | (with_reducible first | exact HB.1 | apply below_alloc | apply pw_below_drewN | apply below_drew1) | exact HB.1)))) : p := h
theorem pY90 {p : Prop} (h : p := by repeat (first | (with_reducible first | exact HB.1 | apply below_alloc | apply pw_below_drewN | apply below_drew1 | refine below_set ?_ GE101.1) | exact HB.1)) : p := h
theorem pY91 {p : Prop} (h : p := by repeat (first | (with_reducible first | exact HB.1 | apply below_alloc | apply pw_below_drewN | apply below_drew1 | refine below_set ?_ GE108.1) | exact HB.1)) : p := h
theorem pY92 {p : Prop} (h : p := by repeat (first | (with_reducible first | exact HI0.out | apply IsS103.alloc | apply IsS103.drewN | apply IsS103.drew | apply IsS103.set_1) | exact HI0.out)) : p := h
theorem pY93 {p : Prop} (h : p := by repeat (first | (with_reducible first | exact HK.out | apply KeepBut.set_ | apply keep_drewN | apply keep_drew | apply keep_alloc) | exact HK.out)) : p := h
theorem pY94 {p : Prop} (h : p := by (try simp only [List.map_toArray, List.map_cons, List.map_nil]); first | done | rfl | (simp only [List.length_drop, List.length_take]; rfl)) : p := h
theorem pY95 {p : Prop} (h : p := by repeat (first | (with_reducible first | exact HB.1 | apply below_alloc | apply pw_below_drewN | apply below_drew1) | exact HB.1)) : p := h
theorem pY98 {p : Prop} (h : p := by (with_reducible repeat (first | refine blk_drewN ?_ _ | refine blk_drew ?_ | refine blk_alloc ?_ _)); exact BK101.1) : p := h
theorem pY99 {p : Prop} (h : p := by (with_reducible repeat (first | refine blk_drewN ?_ _ | refine blk_drew ?_ | refine blk_alloc ?_ _)); exact BK102.1) : p := h
theorem pY100 {p : Prop} (h : p := by (with_reducible repeat (first | refine blk_drewN ?_ _ | refine blk_drew ?_ | refine blk_alloc ?_ _)); exact BK108.1) : p := h
theorem pY101 {p : Prop} (h : p := by (with_reducible repeat (first | refine blk_drewN ?_ _ | refine blk_drew ?_ | refine blk_alloc ?_ _)); exact BK116.1) : p := h
theorem pY102 {p : Prop} (h : p := by (with_reducible repeat (first | refine blk_drewN ?_ _ | refine blk_drew ?_ | refine blk_alloc ?_ _)); exact BK106.1) : p := h
theorem pY103 {p : Prop} (h : p := by (with_reducible repeat (first | refine blk_drewN ?_ _ | refine blk_drew ?_ | refine blk_alloc ?_ _)); exact BK110.1) : p := h
theorem pY104 {p : Prop} (h : p := by (with_reducible repeat (first | refine blk_drewN ?_ _ | refine blk_drew ?_ | refine blk_alloc ?_ _)); exact BK121.1) : p := h
theorem pY105 {p : Prop} (h : p := by (with_reducible repeat (first | refine blk_drewN ?_ _ | refine blk_drew ?_ | refine blk_alloc ?_ _)); exact BK103.1) : p := h
theorem pY106 {p : Prop} (h : p := by (with_reducible repeat (first | refine blk_drewN ?_ _ | refine blk_drew ?_ | refine blk_alloc ?_ _)); exact BK109.1) : p := h
theorem pY108 {p : Prop} (h : p := by (with_reducible repeat (first | apply Kd.R_alloc | apply Kd.R_drewN | apply Kd.R_drew)); exact HO_109002.1) : p := h
theorem pY109 {p : Prop} (h : p := by (with_reducible repeat (first | apply Kd.R_alloc | apply Kd.R_drewN | apply Kd.R_drew)); exact HO_102000.1) : p := h
theorem pY110 {p : Prop} (h : p := by (with_reducible repeat (first | apply Kd.N_alloc | apply Kd.N_drewN | apply Kd.N_drew)); exact HO_102001.1) : p := h
theorem pY111 {p : Prop} (h : p := by (with_reducible repeat (first | apply Kd.R_alloc | apply Kd.R_drewN | apply Kd.R_drew)); exact HO_107000.1) : p := h
theorem pY112 {p : Prop} (h : p := by (with_reducible repeat (first | apply Kd.S_alloc | apply Kd.S_drewN | apply Kd.S_drew)); exact HO_107001.1) : p := h
theorem pY113 {p : Prop} (h : p := by (with_reducible repeat (first | apply Kd.R_alloc | apply Kd.R_drewN | apply Kd.R_drew)); exact HO_111000.1) : p := h
theorem pY114 {p : Prop} (h : p := by (with_reducible repeat (first | apply Kd.N_alloc | apply Kd.N_drewN | apply Kd.N_drew)); exact HO_111001.1) : p := h
theorem pY115 {p : Prop} (h : p := by (with_reducible repeat (first | apply Kd.R_alloc | apply Kd.R_drewN | apply Kd.R_drew)); exact HO_122000.1) : p := h
theorem pY116 {p : Prop} (h : p := by (with_reducible repeat (first | apply Kd.N_alloc | apply Kd.N_drewN | apply Kd.N_drew)); exact HO_122001.1) : p := h
theorem pY117 {p : Prop} (h : p := by (with_reducible repeat (first | apply Kd.R_alloc | apply Kd.R_drewN | apply Kd.R_drew)); exact HO_110000.1) : p := h
theorem pY118 {p : Prop} (h : p := by (with_reducible repeat (first | apply Kd.S_alloc | apply Kd.S_drewN | apply Kd.S_drew)); exact HO_110001.1) : p := h
theorem pY120 {p : Prop} (h : p := by (with_reducible repeat (first | apply Kd.R_alloc | apply Kd.R_drewN | apply Kd.R_drew)); exact HO105.1) : p := h
theorem pY121 {p : Prop} (h : p := by (with_reducible repeat (first | apply Kd.R_alloc | apply Kd.R_drewN | apply Kd.R_drew)); exact HO106.1) : p := h
theorem pY122 {p : Prop} (h : p := by (with_reducible repeat (first | apply Kd.N_alloc | apply Kd.N_drewN | apply Kd.N_drew)); exact HO109.1) : p := h
theorem pY123 {p : Prop} (h : p := by (with_reducible repeat (first | apply Kd.R_alloc | apply Kd.R_drewN | apply Kd.R_drew)); exact HO112.1) : p := h
theorem pY124 {p : Prop} (h : p := by (with_reducible repeat (first | apply Kd.R_alloc | apply Kd.R_drewN | apply Kd.R_drew)); exact HO129.1) : p := h
theorem pY125 {p : Prop} (h : p := by (with_reducible repeat (first | apply Kd.R_alloc | apply Kd.R_drewN | apply Kd.R_drew)); exact HO104.1) : p := h
theorem pY128 {p : Prop} (h : p := by (with_reducible repeat (first | apply Kd.R_alloc | apply Kd.R_drewN | apply Kd.R_drew)); exact HO_4.1) : p := h
theorem pY129 {p : Prop} (h : p := by (with_reducible repeat (first | apply Kd.R_alloc | apply Kd.R_drewN | apply Kd.R_drew)); exact HO_5.1) : p := h
theorem pY130 {p : Prop} (h : p := by (with_reducible repeat (first | apply Kd.R_alloc | apply Kd.R_drewN | apply Kd.R_drew)); exact HO_6.1) : p := h
theorem pY132 {p : Prop} (h : p := by simp only [putAll, Act.put, List.setIfInBounds_toArray, List.set_cons_zero, List.set_cons_succ]) : p := h
theorem pY133 {p : Prop} (h : p := by repeat (first | exact Drawn0.refl _ | apply Drawn0.step)) : p := h
theorem pY134 {p : Prop} (h : p := by first | exact Kd.N_base ho1 | exact Kd.S_base ho1) : p := h
theorem pY136 {p : Prop} (h : p := by first | rfl | (simp; done) | (simp [*]; done)) : p := h
end
theorem am {p : Prop} (h : p) : Aside0 p := ⟨h⟩
theorem bS {w W w2 : World} (h : Below w.heap.size w W) (k : Below W.heap.size W w2) : Aside0 (Below w.heap.size w w2) := ⟨below_step h k⟩
theorem bB {w w1 : World} {g : Nat} {o : Obj} (h : w.heap[g]? = some o) (hb : Below w.heap.size w w1) : Aside0 (w1.heap[g]? = some o) := ⟨blk_below h hb⟩
theorem nL {w : World} {g n : Nat} {o : Obj} (h : w.heap[g]? = some o) (e : n = w.heap.size) : Aside0 (g ≠ n) := ⟨by rw [e]; exact Nat.ne_of_lt (blk_lt h)⟩
theorem nG {w : World} {g n : Nat} {o : Obj} (h : w.heap[g]? = some o) (e : n = w.heap.size) : Aside0 (n ≠ g) := ⟨by rw [e]; exact Nat.ne_of_gt (blk_lt h)⟩
theorem cz2 {w : World} {g t : Nat} {a b : Value} (h : Aside0 (w.heap[g]? = some (.cells #[a, b] t (0, 0)))) : w.cell? ⟨g, 0, none⟩ = some a ∧ w.cell? ⟨g, 1, none⟩ = some b ∧ w.frozen? ⟨g, 0, none⟩ = false ∧ w.frozen? ⟨g, 1, none⟩ = false := ⟨(blk_cell h.1 0).trans rfl, (blk_cell h.1 1).trans rfl, blk_frozen h.1 0, blk_frozen h.1 1⟩
theorem cz3 {w : World} {g t : Nat} {a b c : Value} (h : Aside0 (w.heap[g]? = some (.cells #[a, b, c] t (0, 0)))) : w.cell? ⟨g, 0, none⟩ = some a ∧ w.cell? ⟨g, 1, none⟩ = some b ∧ w.cell? ⟨g, 2, none⟩ = some c ∧ w.frozen? ⟨g, 0, none⟩ = false ∧ w.frozen? ⟨g, 1, none⟩ = false ∧ w.frozen? ⟨g, 2, none⟩ = false := ⟨(blk_cell h.1 0).trans rfl, (blk_cell h.1 1).trans rfl, (blk_cell h.1 2).trans rfl, blk_frozen h.1 0, blk_frozen h.1 1, blk_frozen h.1 2⟩
theorem bd {α β : Type} {o : Option α} {f : α → Option β} {r : β} (h : o.bind f = some r) : ∃ t, Aside0 (o = some t) ∧ f t = some r := by
  obtain ⟨t, h1, h2⟩ := Option.bind_eq_some_iff.mp h
  exact ⟨t, ⟨h1⟩, h2⟩
theorem iT {α : Type} {a b c : α} (h : (if true = true then a else b) = c) : a = c := h
theorem iF {α : Type} {a b c : α} (h : (if false = true then a else b) = c) : b = c := h
theorem bY {α β : Type} {x : α} {f : α → Option β} {r : β} (h : (some x).bind f = some r) : ∃ y, Aside0 (y = x) ∧ f y = some r := ⟨x, ⟨rfl⟩, h⟩
theorem yv {α : Type} (x : α) : ∃ y, Aside0 (y = x) := ⟨x, ⟨rfl⟩⟩
theorem hX {w W : World} {p : Addr} {v : Value} (h : Aside0 (Below w.heap.size w W)) (e : w.cell? p = some v) : W.cell? p = some v := (h.1.cell (World.block_lt_of_cell? w _ e)).trans e
theorem oT {p : Prop} {i : Decidable p} (h : decide p = true := by first | (with_reducible assumption) | assumption) : p := of_decide_eq_true h
theorem rR {p q : Prop} (x : q) (h : q → p := by (intro hx; (with_reducible repeat (first | apply Kd.R_alloc | apply Kd.R_drewN | apply Kd.R_drew)); exact hx)) : p := h x
theorem rN {p q : Prop} (x : q) (h : q → p := by (intro hx; (with_reducible repeat (first | apply Kd.N_alloc | apply Kd.N_drewN | apply Kd.N_drew)); exact hx)) : p := h x
theorem rS {p q : Prop} (x : q) (h : q → p := by (intro hx; (with_reducible repeat (first | apply Kd.S_alloc | apply Kd.S_drewN | apply Kd.S_drew)); exact hx)) : p := h x
theorem rV {p q : Prop} (x : q) (h : q → p := by (intro hx; (with_reducible repeat (first | apply Kd.V_alloc | apply Kd.V_drewN | apply Kd.V_drew)); exact hx)) : p := h x
theorem rB {p q : Prop} (x : q) (h : q → p := by (intro hx; (with_reducible repeat (first | refine blk_drewN ?_ _ | refine blk_drew ?_ | refine blk_alloc ?_ _)); exact hx)) : p := h x
structure Hd (S : World → Prop) (w : World) : Prop where out : S w
section
variable {w W : World} {g t : Nat} {a b c : Value} {R : World → Prop}
theorem uA2 (h : Aside0 (w.heap[g]? = some (.cells #[a, b] t (0, 0)))) : Hd (fun w' => w'.cell? ⟨g, 0, none⟩ = some a ∧ w'.cell? ⟨g, 1, none⟩ = some b) w := ⟨(cz2 h).1, (cz2 h).2.1⟩
theorem uA3 (h : Aside0 (w.heap[g]? = some (.cells #[a, b, c] t (0, 0)))) : Hd (fun w' => w'.cell? ⟨g, 0, none⟩ = some a ∧ w'.cell? ⟨g, 1, none⟩ = some b ∧ w'.cell? ⟨g, 2, none⟩ = some c) w := ⟨(cz3 h).1, (cz3 h).2.1, (cz3 h).2.2.1⟩
theorem uB2 (h : Aside0 (w.heap[g]? = some (.cells #[a, b] t (0, 0)))) (r : Hd R w) : Hd (fun w' => w'.cell? ⟨g, 0, none⟩ = some a ∧ w'.cell? ⟨g, 1, none⟩ = some b ∧ R w') w := ⟨(cz2 h).1, (cz2 h).2.1, r.1⟩
theorem uB3 (h : Aside0 (w.heap[g]? = some (.cells #[a, b, c] t (0, 0)))) (r : Hd R w) : Hd (fun w' => w'.cell? ⟨g, 0, none⟩ = some a ∧ w'.cell? ⟨g, 1, none⟩ = some b ∧ w'.cell? ⟨g, 2, none⟩ = some c ∧ R w') w := ⟨(cz3 h).1, (cz3 h).2.1, (cz3 h).2.2.1, r.1⟩
theorem uAx {p : Addr} (h : Aside0 (Below w.heap.size w W)) (e : w.cell? p = some a) : Hd (fun w' => w'.cell? p = some a) W := ⟨hX h e⟩
theorem uBx {p : Addr} (h : Aside0 (Below w.heap.size w W)) (e : w.cell? p = some a) (r : Hd R W) : Hd (fun w' => w'.cell? p = some a ∧ R w') W := ⟨hX h e, r.1⟩
theorem uF2 {g2 : Nat} {t2 : Nat} {cs : Array Value} {u v : Value} (e : W = (w.setCell ⟨g, 0, none⟩ u).setCell ⟨g, 1, none⟩ v) (h : Aside0 (w.heap[g2]? = some (.cells cs t2 (0, 0)))) (n : Aside0 (g2 ≠ g)) : Aside0 (W.heap[g2]? = some (.cells cs t2 (0, 0))) := ⟨e ▸ blk_far (blk_far h.1 n.1 _) n.1 _⟩
theorem uF3 {g2 : Nat} {t2 : Nat} {cs : Array Value} {u v x : Value} (e : W = ((w.setCell ⟨g, 0, none⟩ u).setCell ⟨g, 1, none⟩ v).setCell ⟨g, 2, none⟩ x) (h : Aside0 (w.heap[g2]? = some (.cells cs t2 (0, 0)))) (n : Aside0 (g2 ≠ g)) : Aside0 (W.heap[g2]? = some (.cells cs t2 (0, 0))) := ⟨e ▸ blk_far (blk_far (blk_far h.1 n.1 _) n.1 _) n.1 _⟩
theorem uP2 {u v : Value} (e : W = (w.setCell ⟨g, 0, none⟩ u).setCell ⟨g, 1, none⟩ v) (h : Aside0 (w.heap[g]? = some (.cells #[a, b] t (0, 0)))) : Aside0 (W.heap[g]? = some (.cells #[u, v] t (0, 0))) := ⟨e ▸ blk_put (cs := #[u, b]) (blk_put (cs := #[a, b]) h.1 0 u rfl) 1 v rfl⟩
theorem uP3 {u v x : Value} (e : W = ((w.setCell ⟨g, 0, none⟩ u).setCell ⟨g, 1, none⟩ v).setCell ⟨g, 2, none⟩ x) (h : Aside0 (w.heap[g]? = some (.cells #[a, b, c] t (0, 0)))) : Aside0 (W.heap[g]? = some (.cells #[u, v, x] t (0, 0))) := ⟨e ▸ blk_put (cs := #[u, v, c]) (blk_put (cs := #[u, b, c]) (blk_put (cs := #[a, b, c]) h.1 0 u rfl) 1 v rfl) 2 x rfl⟩
theorem uC2 {w0 : World} {u v : Value} (e : W = (w.setCell ⟨g, 0, none⟩ u).setCell ⟨g, 1, none⟩ v) (h : Aside0 (Below w0.heap.size w0 w)) (n : Aside0 (w0.heap.size ≤ g)) : Aside0 (Below w0.heap.size w0 W) := ⟨e ▸ below_set (below_set h.1 n.1) n.1⟩
theorem uC3 {w0 : World} {u v x : Value} (e : W = ((w.setCell ⟨g, 0, none⟩ u).setCell ⟨g, 1, none⟩ v).setCell ⟨g, 2, none⟩ x) (h : Aside0 (Below w0.heap.size w0 w)) (n : Aside0 (w0.heap.size ≤ g)) : Aside0 (Below w0.heap.size w0 W) := ⟨e ▸ below_set (below_set (below_set h.1 n.1) n.1) n.1⟩
end
theorem pB {α : Type} {d : Kd α} {w W : World} {A : Option Addr} {n : Nat} {l : List α} {p : Prop} (x : Aside0 (Kd.C d w A n l)) (y : Below w.heap.size w W := by exact HB.1) (h : Kd.C d W A n l → p := by (intro hx; repeat (first | exact hx | (with_reducible refine Kd.C_alloc ?_ _) | (with_reducible refine Kd.C_drewN ?_ _) | (with_reducible refine Kd.C_drew ?_)))) : p := h (Kd.C_below x.1 y)
section
variable {P : Program} {ops : Array Oper} {rest : List Oper} {o : Oper} {a : Act} {Q : Exit → Act → World → Prop} {W : World}
theorem bX (N : Tmp) (cs : Array Value) (t : TypeId)
    (h : ∀ g, g = W.heap.size → ∀ w1, w1.heap[g]? = some (.cells cs t (0, 0)) → Below W.heap.size W w1 → wpList P ops Q rest (a.put o.dst (.pointer (some ⟨g, 0, none⟩))) w1)
    (hd : o.dst = some N := by with_reducible rfl) (hgd : o.guard = none := by rfl)
    (hr : (execOp a.eval o).run P W = .ok (.value (.pointer (some ⟨W.heap.size, 0, none⟩))) (W.alloc (.cells cs t (0, 0))) := by first | (go_simp; done) | (go_simp; rfl)) : wpList P ops Q (o :: rest) a W := box_event hgd hd hr h
theorem gC (f : FuncId) {as : Array Operand} {ts : Array TypeId} (h : wpList P ops Q (o :: rest) a W) (ho : o.op = .call { callee := .value (.func f), args := as, argTypes := ts } := by with_reducible rfl) : wpList P ops Q (o :: rest) a W := h
theorem gD (N : Tmp) (h : wpList P ops Q (o :: rest) a W) (ho : o.dst = some N := by with_reducible rfl) : wpList P ops Q (o :: rest) a W := h
theorem cE (N : Option Tmp) {f : FuncId} {fn : Func} {as : Array Operand} {ts : Array TypeId} {args : Array Value} {R : Ending → World → Prop} (hf : P.funcs[f]? = some fn) (hc : Calls P f args W R)
    (h : ∀ e w', R e w' → ∃ v, e = .returned v ∧ wpList P ops Q rest (a.put N v) w')
    (hop : o.op = .call { callee := .value (.func f), args := as, argTypes := ts } := by rfl) (hd : o.dst = N := by rfl) (hg : o.guard = none := by rfl)
    (hname : (fn.name == "runtime.NumGoroutine") = false := by kernel_rfl) (hb : fn.body.isSome = true := by rfl)
    (hargs : as.map a.eval = args := by ((try simp only [List.map_toArray, List.map_cons, List.map_nil]); first | done | rfl | (simp only [List.length_drop, List.length_take]; rfl))) : wpList P ops Q (o :: rest) a W :=
  goesL_ N hd hg hf hname hb args hop hargs (hc.mono h)
theorem cQ (N : Option Tmp) {f : FuncId} {fn : Func} {as : Array Operand} {ts : Array TypeId} {args : Array Value} {v : Value} {R : World → Prop} (hf : P.funcs[f]? = some fn) (hc : Calls P f args W fun e w' => e = .returned v ∧ R w')
    (h : ∀ w', R w' → wpList P ops Q rest (a.put N v) w')
    (hop : o.op = .call { callee := .value (.func f), args := as, argTypes := ts } := by rfl) (hd : o.dst = N := by rfl) (hg : o.guard = none := by rfl)
    (hname : (fn.name == "runtime.NumGoroutine") = false := by kernel_rfl) (hb : fn.body.isSome = true := by rfl)
    (hargs : as.map a.eval = args := by ((try simp only [List.map_toArray, List.map_cons, List.map_nil]); first | done | rfl | (simp only [List.length_drop, List.length_take]; rfl))) : wpList P ops Q (o :: rest) a W :=
  goesL_ N hd hg hf hname hb args hop hargs (hc.mono fun _ w' q => ⟨v, q.1, h w' q.2⟩)
theorem cM {f : FuncId} {args : Array Value} {v : Value} {R : World → Prop} {Q : Ending → World → Prop} (hc : Calls P f args W fun e w' => e = .returned v ∧ R w') (h : ∀ w', R w' → Q (.returned v) w') : Calls P f args W Q :=
  hc.mono fun _ w' q => q.1 ▸ h w' q.2
end
section
variable {P : Program} {ops : Array Oper} {Q : Exit → Act → World → Prop} {md : Region.Mode} {S : World → Prop} {ds : List Nat}
theorem nM {fuel : Nat} {l : Array Bool} {a a' : Act} {w : World} (h : wpAnyLast P md ops Q S ds fuel l a' w) (ha : a = a' := by (show Act.put _ (some _) _ = _; simp only [pW]; rfl)) : wpAnyLast P md ops Q S ds fuel l a w := norm_ ha h
theorem gE {K : Act → World → Prop} {oi : Oper} {N : Option Tmp} {a : Act} {w : World} {f : FuncId} {fn : Func} {as : Array Operand} {ts : Array TypeId} {args : Array Value} {R : Ending → World → Prop} (hf : P.funcs[f]? = some fn) (hc : Calls P f args w R)
    (h : ∀ e w', R e w' → ∃ v, e = .returned v ∧ K (a.put N v) w')
    (hw : Region.wanted oi (yielded ops a.tmps) = true := by rfl) (hN : oi.dst = N := by exact rfl) (hop : oi.op = .call { callee := .value (.func f), args := as, argTypes := ts } := by exact rfl)
    (hname : (fn.name == "runtime.NumGoroutine") = false := by kernel_rfl) (hb : fn.body.isSome = true := by rfl)
    (hargs : as.map a.eval = args := by ((try simp only [List.map_toArray, List.map_cons, List.map_nil]); first | done | rfl | (simp only [List.length_drop, List.length_take]; rfl))) : if Region.wanted oi (yielded ops a.tmps) = true then Oper.wp P oi a w K Q else K (a.put N undef) w :=
  goes_ hf hname hb args hw hN hop hargs (hc.mono h)
theorem gQ {K : Act → World → Prop} {oi : Oper} {N : Option Tmp} {a : Act} {w : World} {f : FuncId} {fn : Func} {as : Array Operand} {ts : Array TypeId} {args : Array Value} {v : Value} {R : World → Prop} (hf : P.funcs[f]? = some fn) (hc : Calls P f args w fun e w' => e = .returned v ∧ R w')
    (h : ∀ w', R w' → K (a.put N v) w')
    (hw : Region.wanted oi (yielded ops a.tmps) = true := by rfl) (hN : oi.dst = N := by exact rfl) (hop : oi.op = .call { callee := .value (.func f), args := as, argTypes := ts } := by exact rfl)
    (hname : (fn.name == "runtime.NumGoroutine") = false := by kernel_rfl) (hb : fn.body.isSome = true := by rfl)
    (hargs : as.map a.eval = args := by ((try simp only [List.map_toArray, List.map_cons, List.map_nil]); first | done | rfl | (simp only [List.length_drop, List.length_take]; rfl))) : if Region.wanted oi (yielded ops a.tmps) = true then Oper.wp P oi a w K Q else K (a.put N undef) w :=
  goes_ hf hname hb args hw hN hop hargs (hc.mono fun _ w' q => ⟨v, q.1, h w' q.2⟩)
theorem oN {oi : Oper} {fuel n m : Nat} {a : Act} {w : World} (i : Nat) (N : Option Tmp)
    (h : ∀ K : Act → World → Prop, Shut (∀ a' w', S w' → (S w' → wpAnyLast P md ops Q S ds fuel (bz n (m + 2 ^ i)) a' w') → K a' w') → if Region.wanted oi (yielded ops a.tmps) = true then Oper.wp P oi a w K Q else K (a.put N undef) w)
    (hi : ops[i]? = some oi := by exact rfl) (hN : oi.dst = N := by exact rfl) (hc : readyB md ops (bz n m) (bz n (m + 2 ^ i)) i = true := by exact one_of HT_.out (by kernel_rfl)) (hd : i ∉ ds := by decide) :
    wpAnyLast P md ops Q S ds (fuel + 1) (bz n m) a w := one_ _ hi hN hc hd h
theorem oM {oi : Oper} {fuel n m : Nat} {a : Act} {w : World} (i : Nat) (N : Option Tmp)
    (h : ∀ K : Act → World → Prop, Shut (∀ a' w', S w' → (S w' → wpAnyLast P md ops Q S ds fuel (bz n (m + 2 ^ i)) a' w') → K a' w') → if Region.wanted oi (yielded ops a.tmps) = true then Oper.wp P oi a w K Q else K (a.put N undef) w)
    (hi : ops[i]? = some oi := by exact rfl) (hN : oi.dst = N := by exact rfl) (hc : readyB md ops (bz n m) (bz n (m + 2 ^ i)) i = true := by kernel_rfl) (hd : i ∉ ds := by decide) :
    wpAnyLast P md ops Q S ds (fuel + 1) (bz n m) a w := one_ _ hi hN hc hd h
theorem sT {id : Nat} {a : Act} {w : World} {S : World → Prop} (ds : List Nat) (n : Nat) (hS : Hd S w.drew) (h : S w.drew → wpAnyLast P .any ops Q S ds n (bz n 0) a w.drew)
    (hm : P.follows .mixedOrders = true := by kernel_rfl) (hn : ops.size = n := by rfl) (hl : Array.replicate n false = bz n 0 := by kernel_rfl) : (Code.region id ops true).wp P Q a w := start_ _ hm hn hl hS.1 h
end
theorem cN {α : Type} {c : Prop} {i : Decidable c} {a : Option α} {r : α} (H : (if c then a else none) = some r) : decide c = true ∧ a = some r := by
  by_cases h : c
  · rw [if_pos h] at H; exact ⟨decide_eq_true h, H⟩
  · rw [if_neg h] at H; exact absurd H (by simp)
theorem ic {α : Type} {c : Prop} {i : Decidable c} {a b : Option α} {r : Option α} {Q : Prop} (H : (if c then a else b) = r) (h1 : decide c = true → a = r → Q) (h2 : decide c = false → b = r → Q) : Q := by
  by_cases h : c
  · rw [if_pos h] at H; exact h1 (decide_eq_true h) H
  · rw [if_neg h] at H; exact h2 (decide_eq_false h) H
theorem tC {α : Type} {t : Bool} {a b r : Option α} {Q : Prop} (H : (if t = true then a else b) = r) (h1 : t = true → a = r → Q) (h2 : t = false → b = r → Q) : Q := by
  cases t with
  | true => exact h1 rfl H
  | false => exact h2 rfl H
theorem eR {p : Prop} (h : p := by first | rfl | (simp [errW_none, errW_some] <;> rfl) | (simp [*, errW_none, errW_some] <;> rfl)) : p := h
theorem kb {w w1 : World} {g g' : Nat} {o : Obj} (hb : w.heap[g']? = some o) (h : KeepBut w w1 g none) (n : Aside0 (g' ≠ g)) : Aside0 (w1.heap[g']? = some o) := ⟨KeepBut.blk h hb n.1 (by simp)⟩
section
variable {α : Type} {d : Kd α} {e base g i t : Nat} {w : World} {ok : Nat → Prop} {v u : Value} {l : List α} {cs : Array Value}
theorem fR (h : Kd.R d e w base (fun k => ok k ∧ k ≠ g) v l) : Kd.R d e (w.setCell ⟨g, i, none⟩ u) base (fun k => ok k ∧ k ≠ g) v l := Kd.R_far (p := ⟨g, i, none⟩) h (fun _ hk => hk.2) u
theorem fN (h : Kd.N d e w base (fun k => ok k ∧ k ≠ g) v l) : Kd.N d e (w.setCell ⟨g, i, none⟩ u) base (fun k => ok k ∧ k ≠ g) v l := Kd.N_far (p := ⟨g, i, none⟩) h (fun _ hk => hk.2) u
theorem fS (h : Kd.S d e w base (fun k => ok k ∧ k ≠ g) v l) : Kd.S d e (w.setCell ⟨g, i, none⟩ u) base (fun k => ok k ∧ k ≠ g) v l := Kd.S_far (p := ⟨g, i, none⟩) h (fun _ hk => hk.2) u
theorem tR (h : Aside0 (Kd.R d e w base ok v l)) (hb : Aside0 (w.heap[g]? = some (.cells cs t (0, 0)))) (ht : ∀ q, q ∈ e :: d.E → q ≠ t := by decide) : Kd.R d e w base (fun k => ok k ∧ k ≠ g) v l := Kd.R_types h.1 hb.1 ht
theorem tS (h : Aside0 (Kd.S d e w base ok v l)) (hb : Aside0 (w.heap[g]? = some (.cells cs t (0, 0)))) (ht : ∀ q, q ∈ e :: d.E → q ≠ t := by decide) : Kd.S d e w base (fun k => ok k ∧ k ≠ g) v l := Kd.S_types h.1 hb.1 ht
end
theorem bW {α β : Type} {x y : α} {f : α → Option β} {r : β} (e : Aside0 (y = x)) (h : (some x).bind f = some r) : f y = some r := by rw [e.1]; exact h
theorem fB {w : World} {g : Nat} {o : Obj} (hb : w.heap[g]? = some o) (k : Nat) (hk : w.heap.size ≤ k) : k ≠ g := Kd.freshB hb k hk
section
variable {α : Type} {d : Kd α} {e base g t : Nat} {w w1 W : World} {o : Obj} {ok : Nat → Prop} {v : Value} {l : List α} {cs : Array Value}
theorem gR (h : w.heap[g]? = some o) (hg : w.grownBy w1 v.ownBlock) (ho : Aside0 (Kd.R d e W base ok v l)) (hb : Aside0 (W.heap[g]? = some (.cells cs t (0, 0)))) (ht : e ≠ t := by decide) : Aside0 (w1.heap[g]? = some o) := ⟨blk_grown h hg (Kd.R_ne ho.1 hb.1 ht)⟩
theorem gN (h : w.heap[g]? = some o) (hg : w.grownBy w1 v.ownBlock) (ho : Aside0 (Kd.N d e W base ok v l)) (hb : Aside0 (W.heap[g]? = some (.cells cs t (0, 0)))) (ht : e ≠ t := by decide) : Aside0 (w1.heap[g]? = some o) := ⟨blk_grown h hg (Kd.N_ne ho.1 hb.1 ht)⟩
theorem gS (h : w.heap[g]? = some o) (hg : w.grownBy w1 v.ownBlock) (ho : Aside0 (Kd.S d e W base ok v l)) (hb : Aside0 (W.heap[g]? = some (.cells cs t (0, 0)))) (ht : e ≠ t := by decide) : Aside0 (w1.heap[g]? = some o) := ⟨blk_grown h hg (Kd.S_ne ho.1 hb.1 ht)⟩
end
theorem tf (b : Bool) : b = true ∨ b = false := by cases b <;> simp
theorem b0 {w : World} : Aside0 (Below w.heap.size w w) := ⟨Below.refl _ _⟩
theorem aS {w W : World} {A : Option Addr} {n : Nat} {xs : List ByteArray} (h : Aside0 (Kd.C Kd.string w A n xs)) (hb : Aside0 (Below w.heap.size w W)) (i : Int) (p : 0 ≤ i := by exact oT) (q : i < (n : Int) := by exact oT) :
    ∃ ad, A = some ad ∧ W.cell? (ad.add i.toNat) = some (.string (rdOf ByteArray.empty xs i)) ∧ (0 ≤ i) = True ∧ (i < (n : Int)) = True := by
  obtain ⟨ad, e, hx⟩ := Kd.at_string h.1 i p q
  exact ⟨ad, e, hX hb hx, eq_true p, eq_true q⟩
theorem aSw {w W : World} {A : Option Addr} {n : Nat} {xs : List ByteArray} (h : Aside0 (Kd.C Kd.string w A n xs)) (hb : Aside0 (Below w.heap.size w W)) (i : Int) (p : 0 ≤ i := by exact oT) (q : i < (n : Int) := by exact oT) :
    ∃ ad, A = some ad ∧ w.cell? (ad.add i.toNat) = some (.string (rdOf ByteArray.empty xs i)) ∧ W.cell? (ad.add i.toNat) = some (.string (rdOf ByteArray.empty xs i)) ∧ (0 ≤ i) = True ∧ (i < (n : Int)) = True := by
  obtain ⟨ad, e, hx⟩ := Kd.at_string h.1 i p q
  exact ⟨ad, e, hx, hX hb hx, eq_true p, eq_true q⟩
section
end
end Go.Proofs.YtaofjgnhapnndaaW.PrintLast
