/- Texts that the row needs: words on memory and rows, the contracts of the functions it reaches, and the plain lemmas on what they compute. -/
import Derived.Below
import Derived.Deep.Draws
import Derived.Deep.AppendLies
import Derived.Maps.AppendAt
import Derived.OwnWalk
import Derived.Laws.BytesArg
import Derived.Laws.MakeOwn
import Derived.Laws.OwnMore
import Derived.Deep.OwnRows
import Derived.Tactics
import Derived.Lib.ConvBytes
import Derived.Laws.Slices
import Derived.WalkKit
import Derived.KernelRfl
import Derived.RowKit3
import Derived.Deep.LoopGhost
import Derived.Deep.QuietTactic
import Derived.BigQuiet
import Derived.WideLaws
import Derived.Deep.DeepCutAuto
import Derived.Deep.CutBlock
import Derived.Deep.RegionHeld3
import Derived.Laws.Rows
import Derived.Lib.AppendStr
import Derived.ArgAppend
import Derived.Laws.IdiomCopy
import Derived.RowKit
import Derived.OrdersHeld
import Derived.Laws.BitsLemmas
import Derived.Laws.StructEq
import Derived.Test.YtaofjgnhapnndaaXKaa
import Derived.Test.YtaofjgnhapnndaaXKab
open Go.Proofs.YtaofjgnhapnndaaFK
namespace Go.Proofs.YtaofjgnhapnndaaW.PrintLast
open Go.RowKit Go.Proofs.YtaofjgnhapnndaaW.PrintWords Go.Proofs.YtaofjgnhapnndaaW.PrintLast Go.Proofs.YtaofjgnhapnndaaW.PrintMore
section
variable {P : Program} {ops : Array Oper} {Q : Exit → Act → World → Prop} {md : Region.Mode} {S : World → Prop} {ds : List Nat}
theorem pW : (∀ (a : Act) (d : Tmp) (v : Value), a.put (some d) v = { a with tmps := a.tmps.setIfInBounds d v }) ∧ (∀ (a : Act) (v : Value), a.put none v = a) ∧ (∀ (l : List Value) (i : Nat) (v : Value), l.toArray.setIfInBounds i v = (l.set i v).toArray) ∧ (∀ (x y : Value) (l : List Value), (x :: l).set 0 y = y :: l) ∧ (∀ (x y : Value) (n : Nat) (l : List Value), (x :: l).set (n + 1) y = x :: l.set n y) ∧ (∀ n : Int, IntKind.i64.wrap n = Go.RowKit.wrap64 n) ∧ (∀ n : Int, IntKind.i32.wrap n = Go.RowKit.wrap32 n) := ⟨fun _ _ _ => rfl, fun _ _ => rfl, by intros; simp only [List.setIfInBounds_toArray], fun _ _ _ => rfl, fun _ _ _ _ => rfl, i64_w, i32_w⟩
def bzl : Nat → Nat → List Bool
  | 0, _ => []
  | n + 1, m => (m % 2 == 1) :: bzl n (m / 2)
def bz (n m : Nat) : Array Bool := ⟨bzl n m⟩
theorem pU {v : Value} {n m : Nat} {oi : Oper} {fuel : Nat} {a : Act} {w : World} (i : Nat) (N : Option Tmp) {a' : Act}
 (h : wpAnyLast P md ops Q S ds fuel (bz n (m + 2 ^ i)) a' w)
 (hi : ops[i]? = some oi := by exact rfl) (hN : oi.dst = N := by exact rfl)
 (hc : anyB md ops (bz n m) (bz n (m + 2 ^ i)) i = true := by exact any_of HT_.out (by kernel_rfl))
 (hQ : ∀ c a w, Q (.panic c) (a.put oi.dst v) w → Q (.panic c) a w := by exact (fun _ _ _ h => h))
 (hy : Yields P ops oi v a := by exact Or.inl ⟨by rfl, by intro w'; go_simp; with_reducible rfl⟩)
 (ha : a.put N v = a' := by (simp only [pW]; rfl)) :
 wpAnyLast P md ops Q S ds (fuel + 1) (bz n m) a w := pure_ _ hi hN hc hQ hy ha h
theorem pV {n m : Nat} {oi : Oper} {fuel : Nat} {a : Act} {w : World} (i : Nat) (N : Option Tmp) {a' : Act}
 (h : wpAnyLast P md ops Q S ds fuel (bz n (m + 2 ^ i)) a' w)
 (hi : ops[i]? = some oi := by exact rfl) (hN : oi.dst = N := by exact rfl)
 (hc : anyB md ops (bz n m) (bz n (m + 2 ^ i)) i = true := by exact any_of HT_.out (by kernel_rfl))
 (hQ : ∀ c a w, Q (.panic c) (a.put oi.dst undef) w → Q (.panic c) a w := by exact (fun _ _ _ h => h))
 (hy : Yields P ops oi undef a := by exact Or.inr ⟨by rfl, rfl⟩)
 (ha : a.put N undef = a' := by (simp only [pW]; rfl)) :
 wpAnyLast P md ops Q S ds (fuel + 1) (bz n m) a w := pure_ _ hi hN hc hQ hy ha h
theorem pU0 {v : Value} {n m : Nat} {oi : Oper} {fuel : Nat} {a : Act} {w : World} (i : Nat) (N : Option Tmp) {a' : Act}
 (h : wpAnyLast P md ops Q S ds fuel (bz n (m + 2 ^ i)) a' w)
 (hi : ops[i]? = some oi := by exact rfl) (hN : oi.dst = N := by exact rfl)
 (hc : anyB md ops (bz n m) (bz n (m + 2 ^ i)) i = true := by kernel_rfl)
 (hQ : ∀ c a w, Q (.panic c) (a.put oi.dst v) w → Q (.panic c) a w := by exact (fun _ _ _ h => h))
 (hy : Yields P ops oi v a := by exact Or.inl ⟨by rfl, by intro w'; go_simp; with_reducible rfl⟩)
 (ha : a.put N v = a' := by (simp only [pW]; rfl)) :
 wpAnyLast P md ops Q S ds (fuel + 1) (bz n m) a w := pure_ _ hi hN hc hQ hy ha h
theorem tK1_ {v : Value} {n m : Nat} {oi : Oper} {fuel : Nat} {a : Act} {w : World} (i : Nat) (N : Option Tmp) {a' : Act}
 (h : wpAnyLast P md ops Q S ds fuel (bz n (m + 2 ^ i)) a' w)
 (hi : ops[i]? = some oi := by exact rfl) (hN : oi.dst = N := by exact rfl)
 (hc : takeB md ops ds (bz n m) (bz n (m + 2 ^ i)) i = true := by kernel_rfl)
 (hQ : ∀ c a w, Q (.panic c) (a.put oi.dst v) w → Q (.panic c) a w := by exact (fun _ _ _ h => h))
 (hy : YieldsIf P ops S oi v a := by exact Or.inl ⟨by rfl, by intro w' s0; go_simp; with_reducible rfl⟩) (hS : S w := by exact hHeld)
 (ha : a.put N v = a' := by (simp only [pW]; rfl)) :
 wpAnyLast P md ops Q S ds (fuel + 1) (bz n m) a w := take_ _ hi hN hc hQ hy hS ha h
theorem tK2 {v : Value} {n m : Nat} {oi : Oper} {fuel : Nat} {a : Act} {w : World} (i : Nat) (N : Option Tmp) {a' : Act}
 (h : wpAnyLast P md ops Q S ds fuel (bz n (m + 2 ^ i)) a' w)
 (hi : ops[i]? = some oi := by exact rfl) (hN : oi.dst = N := by exact rfl)
 (hc : takeB md ops ds (bz n m) (bz n (m + 2 ^ i)) i = true := by exact take_ofW HT_.out HW_.out (by kernel_rfl))
 (hQ : ∀ c a w, Q (.panic c) (a.put oi.dst v) w → Q (.panic c) a w := by exact (fun _ _ _ h => h))
 (hy : YieldsIf P ops S oi v a := by exact Or.inl ⟨by rfl, by rintro w' ⟨s0, s1⟩; go_simp; with_reducible rfl⟩) (hS : S w := by exact hHeld)
 (ha : a.put N v = a' := by (simp only [pW]; rfl)) :
 wpAnyLast P md ops Q S ds (fuel + 1) (bz n m) a w := take_ _ hi hN hc hQ hy hS ha h
theorem tK3 {v : Value} {n m : Nat} {oi : Oper} {fuel : Nat} {a : Act} {w : World} (i : Nat) (N : Option Tmp) {a' : Act}
 (h : wpAnyLast P md ops Q S ds fuel (bz n (m + 2 ^ i)) a' w)
 (hi : ops[i]? = some oi := by exact rfl) (hN : oi.dst = N := by exact rfl)
 (hc : takeB md ops ds (bz n m) (bz n (m + 2 ^ i)) i = true := by exact take_ofW HT_.out HW_.out (by kernel_rfl))
 (hQ : ∀ c a w, Q (.panic c) (a.put oi.dst v) w → Q (.panic c) a w := by exact (fun _ _ _ h => h))
 (hy : YieldsIf P ops S oi v a := by exact Or.inl ⟨by rfl, by rintro w' ⟨s0, s1, s2⟩; go_simp; with_reducible rfl⟩) (hS : S w := by exact hHeld)
 (ha : a.put N v = a' := by (simp only [pW]; rfl)) :
 wpAnyLast P md ops Q S ds (fuel + 1) (bz n m) a w := take_ _ hi hN hc hQ hy hS ha h
theorem tK4_ {v : Value} {n m : Nat} {oi : Oper} {fuel : Nat} {a : Act} {w : World} (i : Nat) (N : Option Tmp) {a' : Act}
 (h : wpAnyLast P md ops Q S ds fuel (bz n (m + 2 ^ i)) a' w)
 (hi : ops[i]? = some oi := by exact rfl) (hN : oi.dst = N := by exact rfl)
 (hc : takeB md ops ds (bz n m) (bz n (m + 2 ^ i)) i = true := by kernel_rfl)
 (hQ : ∀ c a w, Q (.panic c) (a.put oi.dst v) w → Q (.panic c) a w := by exact (fun _ _ _ h => h))
 (hy : YieldsIf P ops S oi v a := by exact Or.inl ⟨by rfl, by rintro w' ⟨s0, s1, s2, s3⟩; go_simp; with_reducible rfl⟩) (hS : S w := by exact hHeld)
 (ha : a.put N v = a' := by (simp only [pW]; rfl)) :
 wpAnyLast P md ops Q S ds (fuel + 1) (bz n m) a w := take_ _ hi hN hc hQ hy hS ha h
theorem tK5 {v : Value} {n m : Nat} {oi : Oper} {fuel : Nat} {a : Act} {w : World} (i : Nat) (N : Option Tmp) {a' : Act}
 (h : wpAnyLast P md ops Q S ds fuel (bz n (m + 2 ^ i)) a' w)
 (hi : ops[i]? = some oi := by exact rfl) (hN : oi.dst = N := by exact rfl)
 (hc : takeB md ops ds (bz n m) (bz n (m + 2 ^ i)) i = true := by exact take_ofW HT_.out HW_.out (by kernel_rfl))
 (hQ : ∀ c a w, Q (.panic c) (a.put oi.dst v) w → Q (.panic c) a w := by exact (fun _ _ _ h => h))
 (hy : YieldsIf P ops S oi v a := by exact Or.inl ⟨by rfl, by rintro w' ⟨s0, s1, s2, s3, s4⟩; go_simp; with_reducible rfl⟩) (hS : S w := by exact hHeld)
 (ha : a.put N v = a' := by (simp only [pW]; rfl)) :
 wpAnyLast P md ops Q S ds (fuel + 1) (bz n m) a w := take_ _ hi hN hc hQ hy hS ha h
theorem tK6 {v : Value} {n m : Nat} {oi : Oper} {fuel : Nat} {a : Act} {w : World} (i : Nat) (N : Option Tmp) {a' : Act}
 (h : wpAnyLast P md ops Q S ds fuel (bz n (m + 2 ^ i)) a' w)
 (hi : ops[i]? = some oi := by exact rfl) (hN : oi.dst = N := by exact rfl)
 (hc : takeB md ops ds (bz n m) (bz n (m + 2 ^ i)) i = true := by exact take_ofW HT_.out HW_.out (by kernel_rfl))
 (hQ : ∀ c a w, Q (.panic c) (a.put oi.dst v) w → Q (.panic c) a w := by exact (fun _ _ _ h => h))
 (hy : YieldsIf P ops S oi v a := by exact Or.inl ⟨by rfl, by rintro w' ⟨s0, s1, s2, s3, s4, s5⟩; go_simp; with_reducible rfl⟩) (hS : S w := by exact hHeld)
 (ha : a.put N v = a' := by (simp only [pW]; rfl)) :
 wpAnyLast P md ops Q S ds (fuel + 1) (bz n m) a w := take_ _ hi hN hc hQ hy hS ha h
theorem tK8 {v : Value} {n m : Nat} {oi : Oper} {fuel : Nat} {a : Act} {w : World} (i : Nat) (N : Option Tmp) {a' : Act}
 (h : wpAnyLast P md ops Q S ds fuel (bz n (m + 2 ^ i)) a' w)
 (hi : ops[i]? = some oi := by exact rfl) (hN : oi.dst = N := by exact rfl)
 (hc : takeB md ops ds (bz n m) (bz n (m + 2 ^ i)) i = true := by exact take_ofW HT_.out HW_.out (by kernel_rfl))
 (hQ : ∀ c a w, Q (.panic c) (a.put oi.dst v) w → Q (.panic c) a w := by exact (fun _ _ _ h => h))
 (hy : YieldsIf P ops S oi v a := by exact Or.inl ⟨by rfl, by rintro w' ⟨s0, s1, s2, s3, s4, s5, s6, s7⟩; go_simp; with_reducible rfl⟩) (hS : S w := by exact hHeld)
 (ha : a.put N v = a' := by (simp only [pW]; rfl)) :
 wpAnyLast P md ops Q S ds (fuel + 1) (bz n m) a w := take_ _ hi hN hc hQ hy hS ha h
theorem tK13 {v : Value} {n m : Nat} {oi : Oper} {fuel : Nat} {a : Act} {w : World} (i : Nat) (N : Option Tmp) {a' : Act}
 (h : wpAnyLast P md ops Q S ds fuel (bz n (m + 2 ^ i)) a' w)
 (hi : ops[i]? = some oi := by exact rfl) (hN : oi.dst = N := by exact rfl)
 (hc : takeB md ops ds (bz n m) (bz n (m + 2 ^ i)) i = true := by exact take_ofW HT_.out HW_.out (by kernel_rfl))
 (hQ : ∀ c a w, Q (.panic c) (a.put oi.dst v) w → Q (.panic c) a w := by exact (fun _ _ _ h => h))
 (hy : YieldsIf P ops S oi v a := by exact Or.inl ⟨by rfl, by rintro w' ⟨s0, s1, s2, s3, s4, s5, s6, s7, s8, s9, s10, s11, s12⟩; go_simp; with_reducible rfl⟩) (hS : S w := by exact hHeld)
 (ha : a.put N v = a' := by (simp only [pW]; rfl)) :
 wpAnyLast P md ops Q S ds (fuel + 1) (bz n m) a w := take_ _ hi hN hc hQ hy hS ha h
theorem pC {p q : Prop} (x : q) (h : q → p := by intro hx; repeat (first | exact hx | (with_reducible refine Kd.C_alloc ?_ _) | (with_reducible refine Kd.C_drewN ?_ _) | (with_reducible refine Kd.C_drew ?_))) : p := h x
theorem pY0 {p : Prop} (h : p := by (with_reducible repeat (first | refine blk_drewN ?_ _ | refine blk_drew ?_ | refine blk_alloc ?_ _)); refine blk_put (cs := #[.string ((rd_T56 y112 x79_4).f0), .slice A116_1 ((rd_T56 y112 x79_4).f1).length c116_1, .slice none 0 0]) ?_ 2 _ rfl; (with_reducible repeat (first | refine blk_drewN ?_ _ | refine blk_drew ?_ | refine blk_alloc ?_ _)); refine blk_put (cs := #[.string ((rd_T56 y112 x79_4).f0), .slice none 0 0, .slice none 0 0]) ?_ 1 _ rfl; (with_reducible repeat (first | refine blk_drewN ?_ _ | refine blk_drew ?_ | refine blk_alloc ?_ _)); refine blk_put (cs := #[.string (⟨#[]⟩ : ByteArray), .slice none 0 0, .slice none 0 0]) ?_ 0 _ rfl; (with_reducible repeat (first | refine blk_drewN ?_ _ | refine blk_drew ?_ | refine blk_alloc ?_ _)); exact BK117.1) : p := h
theorem pY1 {p : Prop} (h : p := by (with_reducible repeat (first | refine blk_drewN ?_ _ | refine blk_drew ?_ | refine blk_alloc ?_ _)); refine blk_put (cs := #[.string ((rd_T56 l0_1 x23_2).f0), .slice A106_1 ((rd_T56 l0_1 x23_2).f1).length c106_1, .slice none 0 0]) ?_ 2 _ rfl; (with_reducible repeat (first | refine blk_drewN ?_ _ | refine blk_drew ?_ | refine blk_alloc ?_ _)); refine blk_put (cs := #[.string ((rd_T56 l0_1 x23_2).f0), .slice none 0 0, .slice none 0 0]) ?_ 1 _ rfl; (with_reducible repeat (first | refine blk_drewN ?_ _ | refine blk_drew ?_ | refine blk_alloc ?_ _)); refine blk_put (cs := #[.string (⟨#[]⟩ : ByteArray), .slice none 0 0, .slice none 0 0]) ?_ 0 _ rfl; (with_reducible repeat (first | refine blk_drewN ?_ _ | refine blk_drew ?_ | refine blk_alloc ?_ _)); exact BK107.1) : p := h
theorem pY3 {p : Prop} (h : p := by (with_reducible repeat (first | refine blk_drewN ?_ _ | refine blk_drew ?_ | refine blk_alloc ?_ _)); refine blk_put (cs := #[.string ((rd_T56 l0_1 x41_1).f0), .slice A114_1 ((rd_T56 l0_1 x41_1).f1).length c114_1, .slice none 0 0]) ?_ 2 _ rfl; (with_reducible repeat (first | refine blk_drewN ?_ _ | refine blk_drew ?_ | refine blk_alloc ?_ _)); refine blk_put (cs := #[.string ((rd_T56 l0_1 x41_1).f0), .slice none 0 0, .slice none 0 0]) ?_ 1 _ rfl; (with_reducible repeat (first | refine blk_drewN ?_ _ | refine blk_drew ?_ | refine blk_alloc ?_ _)); refine blk_put (cs := #[.string (⟨#[]⟩ : ByteArray), .slice none 0 0, .slice none 0 0]) ?_ 0 _ rfl; (with_reducible repeat (first | refine blk_drewN ?_ _ | refine blk_drew ?_ | refine blk_alloc ?_ _)); exact BK115.1) : p := h
theorem pY4 {p : Prop} (h : p := by (with_reducible repeat (first | refine blk_drewN ?_ _ | refine blk_drew ?_ | refine blk_alloc ?_ _)); refine blk_far ?_ NB101_107.1 _; (with_reducible repeat (first | refine blk_drewN ?_ _ | refine blk_drew ?_ | refine blk_alloc ?_ _)); refine blk_far ?_ NB101_107.1 _; (with_reducible repeat (first | refine blk_drewN ?_ _ | refine blk_drew ?_ | refine blk_alloc ?_ _)); refine blk_far ?_ NB101_107.1 _; (with_reducible repeat (first | refine blk_drewN ?_ _ | refine blk_drew ?_ | refine blk_alloc ?_ _)); exact BK101.1) : p := h
theorem pY5 {p : Prop} (h : p := by (with_reducible repeat (first | refine blk_drewN ?_ _ | refine blk_drew ?_ | refine blk_alloc ?_ _)); refine blk_put (cs := #[.slice Ao17 t104.length co17, .slice none 0 0]) ?_ 1 _ rfl; (with_reducible repeat (first | refine blk_drewN ?_ _ | refine blk_drew ?_ | refine blk_alloc ?_ _)); refine blk_put (cs := #[.slice none 0 0, .slice none 0 0]) ?_ 0 _ rfl; (with_reducible repeat (first | refine blk_drewN ?_ _ | refine blk_drew ?_ | refine blk_alloc ?_ _)); exact BK110.1) : p := h
theorem pY6 {p : Prop} (h : p := by (with_reducible repeat (first | refine blk_drewN ?_ _ | refine blk_drew ?_ | refine blk_alloc ?_ _)); refine blk_put (cs := #[.slice Ao17 t104.length co17, .slice none 0 0]) ?_ 1 _ rfl; (with_reducible repeat (first | refine blk_drewN ?_ _ | refine blk_drew ?_ | refine blk_alloc ?_ _)); refine blk_put (cs := #[.slice none 0 0, .slice none 0 0]) ?_ 0 _ rfl; (with_reducible repeat (first | refine blk_drewN ?_ _ | refine blk_drew ?_ | refine blk_alloc ?_ _)); exact BK102.1) : p := h
theorem pY7 {p : Prop} (h : p := by (with_reducible repeat (first | apply Kd.R_alloc | apply Kd.R_drewN | apply Kd.R_drew)); exact (Kd.R_mono (Kd.R_far (p := ⟨gb107, 2, none⟩) (Kd.R_far (p := ⟨gb107, 1, none⟩) (Kd.R_far (p := ⟨gb107, 0, none⟩) (Kd.R_types HO_4.1 BK107.1 (by decide)) (fun _ hk => hk.2) (.string ((rd_T56 l0_1 x23_2).f0))) (fun _ hk => hk.2) (.slice A106_1 ((rd_T56 l0_1 x23_2).f1).length c106_1)) (fun _ hk => hk.2) (.slice A106_2 ((rd_T56 l0_1 x23_2).f2).length c106_2)) (fun _ h_ => h_.1))) : p := h
theorem pY9 {p : Prop} (h : p := by (with_reducible repeat (first | refine blk_drewN ?_ _ | refine blk_drew ?_ | refine blk_alloc ?_ _)); refine blk_put (cs := #[.slice none 0 0, .slice none 0 0]) ?_ 1 _ rfl; (with_reducible repeat (first | refine blk_drewN ?_ _ | refine blk_drew ?_ | refine blk_alloc ?_ _)); refine blk_put (cs := #[.slice none 0 0, .slice none 0 0]) ?_ 0 _ rfl; (with_reducible repeat (first | refine blk_drewN ?_ _ | refine blk_drew ?_ | refine blk_alloc ?_ _)); exact BK102.1) : p := h
theorem pY10 {p : Prop} (h : p := by (with_reducible repeat (first | refine blk_drewN ?_ _ | refine blk_drew ?_ | refine blk_alloc ?_ _)); refine blk_far ?_ NB101_110.1 _; (with_reducible repeat (first | refine blk_drewN ?_ _ | refine blk_drew ?_ | refine blk_alloc ?_ _)); refine blk_far ?_ NB101_110.1 _; (with_reducible repeat (first | refine blk_drewN ?_ _ | refine blk_drew ?_ | refine blk_alloc ?_ _)); exact BK101.1) : p := h
theorem pY11 {p : Prop} (h : p := by (with_reducible repeat (first | refine blk_drewN ?_ _ | refine blk_drew ?_ | refine blk_alloc ?_ _)); refine blk_far ?_ NB102_110.1 _; (with_reducible repeat (first | refine blk_drewN ?_ _ | refine blk_drew ?_ | refine blk_alloc ?_ _)); refine blk_far ?_ NB102_110.1 _; (with_reducible repeat (first | refine blk_drewN ?_ _ | refine blk_drew ?_ | refine blk_alloc ?_ _)); exact BK102.1) : p := h
theorem pY12 {p : Prop} (h : p := by (with_reducible repeat (first | refine blk_drewN ?_ _ | refine blk_drew ?_ | refine blk_alloc ?_ _)); refine blk_far ?_ NB101_123.1 _; (with_reducible repeat (first | refine blk_drewN ?_ _ | refine blk_drew ?_ | refine blk_alloc ?_ _)); refine blk_far ?_ NB101_123.1 _; (with_reducible repeat (first | refine blk_drewN ?_ _ | refine blk_drew ?_ | refine blk_alloc ?_ _)); exact BK101.1) : p := h
theorem pY13 {p : Prop} (h : p := by (with_reducible repeat (first | refine blk_drewN ?_ _ | refine blk_drew ?_ | refine blk_alloc ?_ _)); refine blk_far ?_ NB102_123.1 _; (with_reducible repeat (first | refine blk_drewN ?_ _ | refine blk_drew ?_ | refine blk_alloc ?_ _)); refine blk_far ?_ NB102_123.1 _; (with_reducible repeat (first | refine blk_drewN ?_ _ | refine blk_drew ?_ | refine blk_alloc ?_ _)); exact BK102.1) : p := h
theorem pY14 {p : Prop} (h : p := by (with_reducible repeat (first | refine blk_drewN ?_ _ | refine blk_drew ?_ | refine blk_alloc ?_ _)); refine blk_far ?_ NB110_123.1 _; (with_reducible repeat (first | refine blk_drewN ?_ _ | refine blk_drew ?_ | refine blk_alloc ?_ _)); refine blk_far ?_ NB110_123.1 _; (with_reducible repeat (first | refine blk_drewN ?_ _ | refine blk_drew ?_ | refine blk_alloc ?_ _)); exact BK110.1) : p := h
theorem pY15 {p : Prop} (h : p := by (with_reducible repeat (first | apply Kd.R_alloc | apply Kd.R_drewN | apply Kd.R_drew)); exact (Kd.R_mono (Kd.R_far (p := ⟨gb110, 1, none⟩) (Kd.R_far (p := ⟨gb110, 0, none⟩) (Kd.R_types HO106.1 BK110.1 (by decide)) (fun _ hk => hk.2) (.slice Ao17 t104.length co17)) (fun _ hk => hk.2) (.slice Ao21 t107.length co21)) (fun _ h_ => h_.1))) : p := h
theorem pY26 {p : Prop} (h : p := by rw [hg]; exact (below_size (by repeat (first | (with_reducible first | exact HB.1 | apply below_alloc | apply pw_below_drewN | apply below_drew1 | refine below_set ?_ GE101.1 | refine below_set ?_ GE102.1 | refine below_set ?_ GE110.1) | exact HB.1)))) : p := h
theorem pY27 {p : Prop} (h : p := by repeat (first | (with_reducible first | exact HB.1 | apply below_alloc | apply pw_below_drewN | apply below_drew1 | refine below_set ?_ GE101.1 | refine below_set ?_ GE102.1 | refine below_set ?_ GE110.1 | refine below_set ?_ GE121.1) | exact HB.1)) : p := h
theorem pY28 {p : Prop} (h : p := by repeat (first | (with_reducible first | exact HB.1 | apply below_alloc | apply pw_below_drewN | apply below_drew1 | refine below_set ?_ GE101.1 | refine below_set ?_ GE102.1 | refine below_set ?_ GE106.1 | refine below_set ?_ GE108.1) | exact HB.1)) : p := h
theorem pY29 {p : Prop} (h : p := by repeat (first | (with_reducible first | exact HB.1 | apply below_alloc | apply pw_below_drewN | apply below_drew1 | refine below_set ?_ GE101.1 | refine below_set ?_ GE102.1 | refine below_set ?_ GE110.1 | refine below_set ?_ GE115.1) | exact HB.1)) : p := h
theorem pY30 {p : Prop} (h : p := by repeat (first | (with_reducible first | exact HB.1 | apply below_alloc | apply pw_below_drewN | apply below_drew1 | refine below_set ?_ GE101.1 | refine below_set ?_ GE102.1 | refine below_set ?_ GE110.1 | refine below_set ?_ GE123.1) | exact HB.1)) : p := h
theorem pY39 {p : Prop} (h : p := by rw [hg]; exact (below_size (by repeat (first | (with_reducible first | exact HB.1 | apply below_alloc | apply pw_below_drewN | apply below_drew1 | refine below_set ?_ GE101.1 | refine below_set ?_ GE102.1) | exact HB.1)))) : p := h
theorem pY40 {p : Prop} (h : p := by rw [hg]; exact (below_size (by repeat (first | (with_reducible first | exact HB.1 | apply below_alloc | apply pw_below_drewN | apply below_drew1 | refine below_set ?_ GE101.1 | refine below_set ?_ GE105.1) | exact HB.1)))) : p := h
theorem pY41 {p : Prop} (h : p := by repeat (first | (with_reducible first | exact HB.1 | apply below_alloc | apply pw_below_drewN | apply below_drew1 | refine below_set ?_ GE101.1 | refine below_set ?_ GE102.1 | refine below_set ?_ GE103.1) | exact HB.1)) : p := h
theorem pY42 {p : Prop} (h : p := by repeat (first | (with_reducible first | exact HB.1 | apply below_alloc | apply pw_below_drewN | apply below_drew1 | refine below_set ?_ GE101.1 | refine below_set ?_ GE102.1 | refine below_set ?_ GE106.1) | exact HB.1)) : p := h
theorem pY43 {p : Prop} (h : p := by repeat (first | (with_reducible first | exact HB.1 | apply below_alloc | apply pw_below_drewN | apply below_drew1 | refine below_set ?_ GE101.1 | refine below_set ?_ GE102.1 | refine below_set ?_ GE110.1) | exact HB.1)) : p := h
theorem pY44 {p : Prop} (h : p := by repeat (first | (with_reducible first | exact HB.1 | apply below_alloc | apply pw_below_drewN | apply below_drew1 | refine below_set ?_ GE101.1 | refine below_set ?_ GE105.1 | refine below_set ?_ GE117.1) | exact HB.1)) : p := h
theorem pY45 {p : Prop} (h : p := by rw [hg]; exact (below_size (by repeat (first | (with_reducible first | exact HB.1 | apply below_alloc | apply pw_below_drewN | apply below_drew1 | refine below_set ?_ GE101.1) | exact HB.1)))) : p := h
theorem pY46 {p : Prop} (h : p := by repeat (first | (with_reducible first | exact HB.1 | apply below_alloc | apply pw_below_drewN | apply below_drew1 | refine below_set ?_ GE101.1 | refine below_set ?_ GE102.1) | exact HB.1)) : p := h
theorem pY47 {p : Prop} (h : p := by repeat (first | (with_reducible first | exact HB.1 | apply below_alloc | apply pw_below_drewN | apply below_drew1 | refine below_set ?_ GE101.1 | refine below_set ?_ GE104.1) | exact HB.1)) : p := h
theorem pY48 {p : Prop} (h : p := by repeat (first | (with_reducible first | exact HB.1 | apply below_alloc | apply pw_below_drewN | apply below_drew1 | refine below_set ?_ GE101.1 | refine below_set ?_ GE105.1) | exact HB.1)) : p := h
theorem pY49 {p : Prop} (h : p := by repeat (first | (with_reducible first | exact HB.1 | apply below_alloc | apply pw_below_drewN | apply below_drew1 | refine below_set ?_ GE101.1 | refine below_set ?_ GE103.1) | exact HB.1)) : p := h
theorem pY50 {p : Prop} (h : p := by repeat (first | (with_reducible first | exact HB.1 | apply below_alloc | apply pw_below_drewN | apply below_drew1 | refine below_set ?_ GE101.1 | refine below_set ?_ GE107.1) | exact HB.1)) : p := h
theorem pY52 {p : Prop} (h : p := by rw [hg]; exact (below_size (by repeat (first | (with_reducible first | exact HB.1 | apply below_alloc | apply pw_below_drewN | apply below_drew1) | exact HB.1)))) : p := h
theorem pY53 {p : Prop} (h : p := by repeat (first | (with_reducible first | exact HB.1 | apply below_alloc | apply pw_below_drewN | apply below_drew1 | refine below_set ?_ GE101.1) | exact HB.1)) : p := h
theorem pY54 {p : Prop} (h : p := by (try simp only [List.map_toArray, List.map_cons, List.map_nil]); first | done | rfl | (simp only [List.length_drop, List.length_take]; rfl)) : p := h
theorem pY55 {p : Prop} (h : p := by repeat (first | (with_reducible first | exact HB.1 | apply below_alloc | apply pw_below_drewN | apply below_drew1) | exact HB.1)) : p := h
theorem pY56 {p : Prop} (h : p := by first | (rw [add_block]; exact hn124_0) | (show (Addr.add _ _).block ≠ _; rw [add_block]; exact hn124_0) | exact hn124_0) : p := h
theorem pY57 {p : Prop} (h : p := by first | (rw [add_block]; exact hn124_1) | (show (Addr.add _ _).block ≠ _; rw [add_block]; exact hn124_1) | exact hn124_1) : p := h
theorem pY58 {p : Prop} (h : p := by (with_reducible repeat (first | refine blk_drewN ?_ _ | refine blk_drew ?_ | refine blk_alloc ?_ _)); exact BK101.1) : p := h
theorem pY59 {p : Prop} (h : p := by (with_reducible repeat (first | refine blk_drewN ?_ _ | refine blk_drew ?_ | refine blk_alloc ?_ _)); exact BK102.1) : p := h
theorem pY60 {p : Prop} (h : p := by (with_reducible repeat (first | refine blk_drewN ?_ _ | refine blk_drew ?_ | refine blk_alloc ?_ _)); exact BK106.1) : p := h
theorem pY61 {p : Prop} (h : p := by (with_reducible repeat (first | refine blk_drewN ?_ _ | refine blk_drew ?_ | refine blk_alloc ?_ _)); exact BK110.1) : p := h
theorem pY62 {p : Prop} (h : p := by (with_reducible repeat (first | refine blk_drewN ?_ _ | refine blk_drew ?_ | refine blk_alloc ?_ _)); exact BK121.1) : p := h
theorem pY63 {p : Prop} (h : p := by (with_reducible repeat (first | refine blk_drewN ?_ _ | refine blk_drew ?_ | refine blk_alloc ?_ _)); exact BK108.1) : p := h
theorem pY64 {p : Prop} (h : p := by (with_reducible repeat (first | refine blk_drewN ?_ _ | refine blk_drew ?_ | refine blk_alloc ?_ _)); exact BK123.1) : p := h
theorem pY65 {p : Prop} (h : p := by (with_reducible repeat (first | apply Kd.R_alloc | apply Kd.R_drewN | apply Kd.R_drew)); exact HO_107000.1) : p := h
theorem pY66 {p : Prop} (h : p := by (with_reducible repeat (first | apply Kd.S_alloc | apply Kd.S_drewN | apply Kd.S_drew)); exact HO_107001.1) : p := h
theorem pY67 {p : Prop} (h : p := by (with_reducible repeat (first | apply Kd.R_alloc | apply Kd.R_drewN | apply Kd.R_drew)); exact HO_111000.1) : p := h
theorem pY68 {p : Prop} (h : p := by (with_reducible repeat (first | apply Kd.N_alloc | apply Kd.N_drewN | apply Kd.N_drew)); exact HO_111001.1) : p := h
theorem pY69 {p : Prop} (h : p := by (with_reducible repeat (first | apply Kd.R_alloc | apply Kd.R_drewN | apply Kd.R_drew)); exact HO_122000.1) : p := h
theorem pY70 {p : Prop} (h : p := by (with_reducible repeat (first | apply Kd.N_alloc | apply Kd.N_drewN | apply Kd.N_drew)); exact HO_122001.1) : p := h
theorem pY71 {p : Prop} (h : p := by (with_reducible repeat (first | apply Kd.S_alloc | apply Kd.S_drewN | apply Kd.S_drew)); exact HO_111001.1) : p := h
theorem pY72 {p : Prop} (h : p := by (with_reducible repeat (first | apply Kd.R_alloc | apply Kd.R_drewN | apply Kd.R_drew)); exact HO112.1) : p := h
theorem pY73 {p : Prop} (h : p := by (with_reducible repeat (first | apply Kd.R_alloc | apply Kd.R_drewN | apply Kd.R_drew)); exact HO129.1) : p := h
theorem pY74 {p : Prop} (h : p := by (with_reducible repeat (first | apply Kd.R_alloc | apply Kd.R_drewN | apply Kd.R_drew)); exact HO106.1) : p := h
theorem pY75 {p : Prop} (h : p := by (with_reducible repeat (first | apply Kd.N_alloc | apply Kd.N_drewN | apply Kd.N_drew)); exact HO109.1) : p := h
theorem pY76 {p : Prop} (h : p := by (with_reducible repeat (first | apply Kd.R_alloc | apply Kd.R_drewN | apply Kd.R_drew)); exact HO119.1) : p := h
theorem pY77 {p : Prop} (h : p := by (with_reducible repeat (first | apply Kd.S_alloc | apply Kd.S_drewN | apply Kd.S_drew)); exact HO122.1) : p := h
theorem pY78 {p : Prop} (h : p := by (with_reducible repeat (first | apply Kd.R_alloc | apply Kd.R_drewN | apply Kd.R_drew)); exact HO_4.1) : p := h
theorem pY80 {p : Prop} (h : p := by repeat (first | exact Drawn0.refl _ | apply Drawn0.step)) : p := h
theorem pY81 {p : Prop} (h : p := by first | exact Kd.N_base ho1 | exact Kd.S_base ho1) : p := h
theorem pY82 {p : Prop} (h : p := by first | (with_reducible assumption) | assumption) : p := h
theorem pY83 {p : Prop} (h : p := by first | rfl | (simp; done) | (simp [*]; done)) : p := h
end
theorem am {p : Prop} (h : p) : Aside0 p := ⟨h⟩
theorem bS {w W w2 : World} (h : Below w.heap.size w W) (k : Below W.heap.size W w2) : Aside0 (Below w.heap.size w w2) := ⟨below_step h k⟩
theorem bB {w w1 : World} {g : Nat} {o : Obj} (h : w.heap[g]? = some o) (hb : Below w.heap.size w w1) : Aside0 (w1.heap[g]? = some o) := ⟨blk_below h hb⟩
theorem nL {w : World} {g n : Nat} {o : Obj} (h : w.heap[g]? = some o) (e : n = w.heap.size) : Aside0 (g ≠ n) := ⟨by rw [e]; exact Nat.ne_of_lt (blk_lt h)⟩
theorem nG {w : World} {g n : Nat} {o : Obj} (h : w.heap[g]? = some o) (e : n = w.heap.size) : Aside0 (n ≠ g) := ⟨by rw [e]; exact Nat.ne_of_gt (blk_lt h)⟩
theorem cz2 {w : World} {g t : Nat} {a b : Value} (h : Aside0 (w.heap[g]? = some (.cells #[a, b] t (0, 0)))) : w.cell? ⟨g, 0, none⟩ = some a ∧ w.cell? ⟨g, 1, none⟩ = some b ∧ w.frozen? ⟨g, 0, none⟩ = false ∧ w.frozen? ⟨g, 1, none⟩ = false := ⟨(blk_cell h.1 0).trans rfl, (blk_cell h.1 1).trans rfl, blk_frozen h.1 0, blk_frozen h.1 1⟩
theorem cz3 {w : World} {g t : Nat} {a b c : Value} (h : Aside0 (w.heap[g]? = some (.cells #[a, b, c] t (0, 0)))) : w.cell? ⟨g, 0, none⟩ = some a ∧ w.cell? ⟨g, 1, none⟩ = some b ∧ w.cell? ⟨g, 2, none⟩ = some c ∧ w.frozen? ⟨g, 0, none⟩ = false ∧ w.frozen? ⟨g, 1, none⟩ = false ∧ w.frozen? ⟨g, 2, none⟩ = false := ⟨(blk_cell h.1 0).trans rfl, (blk_cell h.1 1).trans rfl, (blk_cell h.1 2).trans rfl, blk_frozen h.1 0, blk_frozen h.1 1, blk_frozen h.1 2⟩
theorem bd {α β : Type} {o : Option α} {f : α → Option β} {r : β} (h : o.bind f = some r) : ∃ t, Aside0 (o = some t) ∧ f t = some r := by
  obtain ⟨t, h1, h2⟩ := Option.bind_eq_some_iff.mp h
  exact ⟨t, ⟨h1⟩, h2⟩
theorem iT {α : Type} {a b c : α} (h : (if true = true then a else b) = c) : a = c := h
theorem iF {α : Type} {a b c : α} (h : (if false = true then a else b) = c) : b = c := h
theorem bY {α β : Type} {x : α} {f : α → Option β} {r : β} (h : (some x).bind f = some r) : ∃ y, Aside0 (y = x) ∧ f y = some r := ⟨x, ⟨rfl⟩, h⟩
theorem bZ {α β : Type} (x : α) {f : α → Option β} {r : β} (h : (some x).bind f = some r) : ∃ y, Aside0 (y = x) ∧ f y = some r := ⟨x, ⟨rfl⟩, h⟩
theorem yv {α : Type} (x : α) : ∃ y, Aside0 (y = x) := ⟨x, ⟨rfl⟩⟩
theorem hX {w W : World} {p : Addr} {v : Value} (h : Aside0 (Below w.heap.size w W)) (e : w.cell? p = some v) : W.cell? p = some v := (h.1.cell (World.block_lt_of_cell? w _ e)).trans e
theorem rR {p q : Prop} (x : q) (h : q → p := by (intro hx; (with_reducible repeat (first | apply Kd.R_alloc | apply Kd.R_drewN | apply Kd.R_drew)); exact hx)) : p := h x
theorem rN {p q : Prop} (x : q) (h : q → p := by (intro hx; (with_reducible repeat (first | apply Kd.N_alloc | apply Kd.N_drewN | apply Kd.N_drew)); exact hx)) : p := h x
theorem rS {p q : Prop} (x : q) (h : q → p := by (intro hx; (with_reducible repeat (first | apply Kd.S_alloc | apply Kd.S_drewN | apply Kd.S_drew)); exact hx)) : p := h x
theorem rV {p q : Prop} (x : q) (h : q → p := by (intro hx; (with_reducible repeat (first | apply Kd.V_alloc | apply Kd.V_drewN | apply Kd.V_drew)); exact hx)) : p := h x
theorem rB {p q : Prop} (x : q) (h : q → p := by (intro hx; (with_reducible repeat (first | refine blk_drewN ?_ _ | refine blk_drew ?_ | refine blk_alloc ?_ _)); exact hx)) : p := h x
theorem kB {W W2 : World} {g : Nat} {o : Obj} (h : Aside0 (W.heap[g]? = some o)) (hk : Kept W W2 (fun _ => False)) : Aside0 (W2.heap[g]? = some o) := ⟨blk_kept h.1 hk (fun h => h)⟩
structure Hd (S : World → Prop) (w : World) : Prop where out : S w
section
variable {w W : World} {g t : Nat} {a b c : Value} {R : World → Prop}
theorem uA2 (h : Aside0 (w.heap[g]? = some (.cells #[a, b] t (0, 0)))) : Hd (fun w' => w'.cell? ⟨g, 0, none⟩ = some a ∧ w'.cell? ⟨g, 1, none⟩ = some b) w := ⟨(cz2 h).1, (cz2 h).2.1⟩
theorem uA3 (h : Aside0 (w.heap[g]? = some (.cells #[a, b, c] t (0, 0)))) : Hd (fun w' => w'.cell? ⟨g, 0, none⟩ = some a ∧ w'.cell? ⟨g, 1, none⟩ = some b ∧ w'.cell? ⟨g, 2, none⟩ = some c) w := ⟨(cz3 h).1, (cz3 h).2.1, (cz3 h).2.2.1⟩
theorem uB2 (h : Aside0 (w.heap[g]? = some (.cells #[a, b] t (0, 0)))) (r : Hd R w) : Hd (fun w' => w'.cell? ⟨g, 0, none⟩ = some a ∧ w'.cell? ⟨g, 1, none⟩ = some b ∧ R w') w := ⟨(cz2 h).1, (cz2 h).2.1, r.1⟩
theorem uB3 (h : Aside0 (w.heap[g]? = some (.cells #[a, b, c] t (0, 0)))) (r : Hd R w) : Hd (fun w' => w'.cell? ⟨g, 0, none⟩ = some a ∧ w'.cell? ⟨g, 1, none⟩ = some b ∧ w'.cell? ⟨g, 2, none⟩ = some c ∧ R w') w := ⟨(cz3 h).1, (cz3 h).2.1, (cz3 h).2.2.1, r.1⟩
theorem uAx {p : Addr} (h : Aside0 (Below w.heap.size w W)) (e : w.cell? p = some a) : Hd (fun w' => w'.cell? p = some a) W := ⟨hX h e⟩
theorem uBx {p : Addr} (h : Aside0 (Below w.heap.size w W)) (e : w.cell? p = some a) (r : Hd R W) : Hd (fun w' => w'.cell? p = some a ∧ R w') W := ⟨hX h e, r.1⟩
theorem uF3 {g2 : Nat} {t2 : Nat} {cs : Array Value} {u v x : Value} (e : W = ((w.setCell ⟨g, 0, none⟩ u).setCell ⟨g, 1, none⟩ v).setCell ⟨g, 2, none⟩ x) (h : Aside0 (w.heap[g2]? = some (.cells cs t2 (0, 0)))) (n : Aside0 (g2 ≠ g)) : Aside0 (W.heap[g2]? = some (.cells cs t2 (0, 0))) := ⟨e ▸ blk_far (blk_far (blk_far h.1 n.1 _) n.1 _) n.1 _⟩
theorem uP3 {u v x : Value} (e : W = ((w.setCell ⟨g, 0, none⟩ u).setCell ⟨g, 1, none⟩ v).setCell ⟨g, 2, none⟩ x) (h : Aside0 (w.heap[g]? = some (.cells #[a, b, c] t (0, 0)))) : Aside0 (W.heap[g]? = some (.cells #[u, v, x] t (0, 0))) := ⟨e ▸ blk_put (cs := #[u, v, c]) (blk_put (cs := #[u, b, c]) (blk_put (cs := #[a, b, c]) h.1 0 u rfl) 1 v rfl) 2 x rfl⟩
theorem uC3 {w0 : World} {u v x : Value} (e : W = ((w.setCell ⟨g, 0, none⟩ u).setCell ⟨g, 1, none⟩ v).setCell ⟨g, 2, none⟩ x) (h : Aside0 (Below w0.heap.size w0 w)) (n : Aside0 (w0.heap.size ≤ g)) : Aside0 (Below w0.heap.size w0 W) := ⟨e ▸ below_set (below_set (below_set h.1 n.1) n.1) n.1⟩
end
theorem pB {α : Type} {d : Kd α} {w W : World} {A : Option Addr} {n : Nat} {l : List α} {p : Prop} (x : Aside0 (Kd.C d w A n l)) (y : Below w.heap.size w W := by exact HB.1) (h : Kd.C d W A n l → p := by (intro hx; repeat (first | exact hx | (with_reducible refine Kd.C_alloc ?_ _) | (with_reducible refine Kd.C_drewN ?_ _) | (with_reducible refine Kd.C_drew ?_)))) : p := h (Kd.C_below x.1 y)
section
variable {P : Program} {ops : Array Oper} {rest : List Oper} {o : Oper} {a : Act} {Q : Exit → Act → World → Prop} {W : World}
theorem bX (N : Tmp) (cs : Array Value) (t : TypeId)
    (h : ∀ g, g = W.heap.size → ∀ w1, w1.heap[g]? = some (.cells cs t (0, 0)) → Below W.heap.size W w1 → wpList P ops Q rest (a.put o.dst (.pointer (some ⟨g, 0, none⟩))) w1)
    (hd : o.dst = some N := by with_reducible rfl) (hgd : o.guard = none := by rfl)
    (hr : (execOp a.eval o).run P W = .ok (.value (.pointer (some ⟨W.heap.size, 0, none⟩))) (W.alloc (.cells cs t (0, 0))) := by first | (go_simp; done) | (go_simp; rfl)) : wpList P ops Q (o :: rest) a W := box_event hgd hd hr h
theorem cM {f : FuncId} {args : Array Value} {v : Value} {R : World → Prop} {Q : Ending → World → Prop} (hc : Calls P f args W fun e w' => e = .returned v ∧ R w') (h : ∀ w', R w' → Q (.returned v) w') : Calls P f args W Q :=
  hc.mono fun _ w' q => q.1 ▸ h w' q.2
end
section
variable {P : Program} {ops : Array Oper} {Q : Exit → Act → World → Prop} {md : Region.Mode} {S : World → Prop} {ds : List Nat}
theorem nM {fuel : Nat} {l : Array Bool} {a a' : Act} {w : World} (h : wpAnyLast P md ops Q S ds fuel l a' w) (ha : a = a' := by (show Act.put _ (some _) _ = _; simp only [pW]; rfl)) : wpAnyLast P md ops Q S ds fuel l a w := norm_ ha h
theorem oN {oi : Oper} {fuel n m : Nat} {a : Act} {w : World} (i : Nat) (N : Option Tmp)
    (h : ∀ K : Act → World → Prop, Shut (∀ a' w', S w' → (S w' → wpAnyLast P md ops Q S ds fuel (bz n (m + 2 ^ i)) a' w') → K a' w') → if Region.wanted oi (yielded ops a.tmps) = true then Oper.wp P oi a w K Q else K (a.put N undef) w)
    (hi : ops[i]? = some oi := by exact rfl) (hN : oi.dst = N := by exact rfl) (hc : readyB md ops (bz n m) (bz n (m + 2 ^ i)) i = true := by exact one_of HT_.out (by kernel_rfl)) (hd : i ∉ ds := by decide) :
    wpAnyLast P md ops Q S ds (fuel + 1) (bz n m) a w := one_ _ hi hN hc hd h
theorem oM {oi : Oper} {fuel n m : Nat} {a : Act} {w : World} (i : Nat) (N : Option Tmp)
    (h : ∀ K : Act → World → Prop, Shut (∀ a' w', S w' → (S w' → wpAnyLast P md ops Q S ds fuel (bz n (m + 2 ^ i)) a' w') → K a' w') → if Region.wanted oi (yielded ops a.tmps) = true then Oper.wp P oi a w K Q else K (a.put N undef) w)
    (hi : ops[i]? = some oi := by exact rfl) (hN : oi.dst = N := by exact rfl) (hc : readyB md ops (bz n m) (bz n (m + 2 ^ i)) i = true := by kernel_rfl) (hd : i ∉ ds := by decide) :
    wpAnyLast P md ops Q S ds (fuel + 1) (bz n m) a w := one_ _ hi hN hc hd h
theorem sT {id : Nat} {a : Act} {w : World} {S : World → Prop} (ds : List Nat) (n : Nat) (hS : Hd S w.drew) (h : S w.drew → wpAnyLast P .any ops Q S ds n (bz n 0) a w.drew)
    (hm : P.follows .mixedOrders = true := by kernel_rfl) (hn : ops.size = n := by rfl) (hl : Array.replicate n false = bz n 0 := by kernel_rfl) : (Code.region id ops true).wp P Q a w := start_ _ hm hn hl hS.1 h
end
section
end
end Go.Proofs.YtaofjgnhapnndaaW.PrintLast
