/- Texts that the row needs: words on memory and rows, the contracts of the functions it reaches, and the plain lemmas on what they compute. -/
import Derived.Laws.StructEq
import Derived.Test.YtaofjgnhapnndaaGreatDoorXksab
open Go.Proofs.YtaofjgnhapnndaaGreatDoorFks
namespace Go.Proofs.YtaofjgnhapnndaaGreatDoorW.PrintLast
open Go.RowKit Go.Proofs.YtaofjgnhapnndaaGreatDoorW.PrintWords Go.Proofs.YtaofjgnhapnndaaGreatDoorW.PrintLast Go.Proofs.YtaofjgnhapnndaaGreatDoorW.PrintMore
section
variable {P : Program} {ops : Array Oper} {Q : Exit → Act → World → Prop} {md : Region.Mode} {S : World → Prop} {ds : List Nat}
theorem pW : (∀ (a : Act) (d : Tmp) (v : Value), a.put (some d) v = { a with tmps := a.tmps.setIfInBounds d v }) ∧ (∀ (a : Act) (v : Value), a.put none v = a) ∧ (∀ (l : List Value) (i : Nat) (v : Value), l.toArray.setIfInBounds i v = (l.set i v).toArray) ∧ (∀ (x y : Value) (l : List Value), (x :: l).set 0 y = y :: l) ∧ (∀ (x y : Value) (n : Nat) (l : List Value), (x :: l).set (n + 1) y = x :: l.set n y) ∧ (∀ n : Int, IntKind.i64.wrap n = Go.RowKit.wrap64 n) ∧ (∀ n : Int, IntKind.i32.wrap n = Go.RowKit.wrap32 n) := ⟨fun _ _ _ => rfl, fun _ _ => rfl, by intros; simp only [List.setIfInBounds_toArray], fun _ _ _ => rfl, fun _ _ _ _ => rfl, rZ, xP⟩
def bzl : Nat → Nat → List Bool
  | 0, _ => []
  | n + 1, m => (m % 2 == 1) :: bzl n (m / 2)
def bz (n m : Nat) : Array Bool := ⟨bzl n m⟩
theorem pU {v : Value} {n m : Nat} {oi : Oper} {fuel : Nat} {a : Act} {w : World} (i : Nat) (N : Option Tmp) {a' : Act}
 (h : bC P md ops Q S ds fuel (bz n (m + 2 ^ i)) a' w)
 (hi : ops[i]? = some oi := by exact rfl) (hN : oi.dst = N := by exact rfl)
 (hc : anyB md ops (bz n m) (bz n (m + 2 ^ i)) i = true := by exact TA HT_.out (by kernel_rfl))
 (hQ : ∀ c a w, Q (.panic c) (a.put oi.dst v) w → Q (.panic c) a w := by exact (fun _ _ _ h => h))
 (hy : Yields P ops oi v a := by exact Or.inl ⟨by rfl, by intro w'; go_simp; with_reducible rfl⟩)
 (ha : a.put N v = a' := by (simp only [pW]; rfl)) :
 bC P md ops Q S ds (fuel + 1) (bz n m) a w := Kl _ hi hN hc hQ hy ha h
theorem pV {n m : Nat} {oi : Oper} {fuel : Nat} {a : Act} {w : World} (i : Nat) (N : Option Tmp) {a' : Act}
 (h : bC P md ops Q S ds fuel (bz n (m + 2 ^ i)) a' w)
 (hi : ops[i]? = some oi := by exact rfl) (hN : oi.dst = N := by exact rfl)
 (hc : anyB md ops (bz n m) (bz n (m + 2 ^ i)) i = true := by exact TA HT_.out (by kernel_rfl))
 (hQ : ∀ c a w, Q (.panic c) (a.put oi.dst undef) w → Q (.panic c) a w := by exact (fun _ _ _ h => h))
 (hy : Yields P ops oi undef a := by exact Or.inr ⟨by rfl, rfl⟩)
 (ha : a.put N undef = a' := by (simp only [pW]; rfl)) :
 bC P md ops Q S ds (fuel + 1) (bz n m) a w := Kl _ hi hN hc hQ hy ha h
theorem pU0 {v : Value} {n m : Nat} {oi : Oper} {fuel : Nat} {a : Act} {w : World} (i : Nat) (N : Option Tmp) {a' : Act}
 (h : bC P md ops Q S ds fuel (bz n (m + 2 ^ i)) a' w)
 (hi : ops[i]? = some oi := by exact rfl) (hN : oi.dst = N := by exact rfl)
 (hc : anyB md ops (bz n m) (bz n (m + 2 ^ i)) i = true := by kernel_rfl)
 (hQ : ∀ c a w, Q (.panic c) (a.put oi.dst v) w → Q (.panic c) a w := by exact (fun _ _ _ h => h))
 (hy : Yields P ops oi v a := by exact Or.inl ⟨by rfl, by intro w'; go_simp; with_reducible rfl⟩)
 (ha : a.put N v = a' := by (simp only [pW]; rfl)) :
 bC P md ops Q S ds (fuel + 1) (bz n m) a w := Kl _ hi hN hc hQ hy ha h
theorem tK2 {v : Value} {n m : Nat} {oi : Oper} {fuel : Nat} {a : Act} {w : World} (i : Nat) (N : Option Tmp) {a' : Act}
 (h : bC P md ops Q S ds fuel (bz n (m + 2 ^ i)) a' w)
 (hi : ops[i]? = some oi := by exact rfl) (hN : oi.dst = N := by exact rfl)
 (hc : takeB md ops ds (bz n m) (bz n (m + 2 ^ i)) i = true := by exact AP HT_.out HW_.out (by kernel_rfl))
 (hQ : ∀ c a w, Q (.panic c) (a.put oi.dst v) w → Q (.panic c) a w := by exact (fun _ _ _ h => h))
 (hy : YieldsIf P ops S oi v a := by exact Or.inl ⟨by rfl, by rintro w' ⟨s0, s1⟩; go_simp; with_reducible rfl⟩) (hS : S w := by exact hHeld)
 (ha : a.put N v = a' := by (simp only [pW]; rfl)) :
 bC P md ops Q S ds (fuel + 1) (bz n m) a w := DJ _ hi hN hc hQ hy hS ha h
theorem tK2_ {v : Value} {n m : Nat} {oi : Oper} {fuel : Nat} {a : Act} {w : World} (i : Nat) (N : Option Tmp) {a' : Act}
 (h : bC P md ops Q S ds fuel (bz n (m + 2 ^ i)) a' w)
 (hi : ops[i]? = some oi := by exact rfl) (hN : oi.dst = N := by exact rfl)
 (hc : takeB md ops ds (bz n m) (bz n (m + 2 ^ i)) i = true := by kernel_rfl)
 (hQ : ∀ c a w, Q (.panic c) (a.put oi.dst v) w → Q (.panic c) a w := by exact (fun _ _ _ h => h))
 (hy : YieldsIf P ops S oi v a := by exact Or.inl ⟨by rfl, by rintro w' ⟨s0, s1⟩; go_simp; with_reducible rfl⟩) (hS : S w := by exact hHeld)
 (ha : a.put N v = a' := by (simp only [pW]; rfl)) :
 bC P md ops Q S ds (fuel + 1) (bz n m) a w := DJ _ hi hN hc hQ hy hS ha h
theorem tK3 {v : Value} {n m : Nat} {oi : Oper} {fuel : Nat} {a : Act} {w : World} (i : Nat) (N : Option Tmp) {a' : Act}
 (h : bC P md ops Q S ds fuel (bz n (m + 2 ^ i)) a' w)
 (hi : ops[i]? = some oi := by exact rfl) (hN : oi.dst = N := by exact rfl)
 (hc : takeB md ops ds (bz n m) (bz n (m + 2 ^ i)) i = true := by exact AP HT_.out HW_.out (by kernel_rfl))
 (hQ : ∀ c a w, Q (.panic c) (a.put oi.dst v) w → Q (.panic c) a w := by exact (fun _ _ _ h => h))
 (hy : YieldsIf P ops S oi v a := by exact Or.inl ⟨by rfl, by rintro w' ⟨s0, s1, s2⟩; go_simp; with_reducible rfl⟩) (hS : S w := by exact hHeld)
 (ha : a.put N v = a' := by (simp only [pW]; rfl)) :
 bC P md ops Q S ds (fuel + 1) (bz n m) a w := DJ _ hi hN hc hQ hy hS ha h
theorem tK3_ {v : Value} {n m : Nat} {oi : Oper} {fuel : Nat} {a : Act} {w : World} (i : Nat) (N : Option Tmp) {a' : Act}
 (h : bC P md ops Q S ds fuel (bz n (m + 2 ^ i)) a' w)
 (hi : ops[i]? = some oi := by exact rfl) (hN : oi.dst = N := by exact rfl)
 (hc : takeB md ops ds (bz n m) (bz n (m + 2 ^ i)) i = true := by kernel_rfl)
 (hQ : ∀ c a w, Q (.panic c) (a.put oi.dst v) w → Q (.panic c) a w := by exact (fun _ _ _ h => h))
 (hy : YieldsIf P ops S oi v a := by exact Or.inl ⟨by rfl, by rintro w' ⟨s0, s1, s2⟩; go_simp; with_reducible rfl⟩) (hS : S w := by exact hHeld)
 (ha : a.put N v = a' := by (simp only [pW]; rfl)) :
 bC P md ops Q S ds (fuel + 1) (bz n m) a w := DJ _ hi hN hc hQ hy hS ha h
theorem tK4_ {v : Value} {n m : Nat} {oi : Oper} {fuel : Nat} {a : Act} {w : World} (i : Nat) (N : Option Tmp) {a' : Act}
 (h : bC P md ops Q S ds fuel (bz n (m + 2 ^ i)) a' w)
 (hi : ops[i]? = some oi := by exact rfl) (hN : oi.dst = N := by exact rfl)
 (hc : takeB md ops ds (bz n m) (bz n (m + 2 ^ i)) i = true := by kernel_rfl)
 (hQ : ∀ c a w, Q (.panic c) (a.put oi.dst v) w → Q (.panic c) a w := by exact (fun _ _ _ h => h))
 (hy : YieldsIf P ops S oi v a := by exact Or.inl ⟨by rfl, by rintro w' ⟨s0, s1, s2, s3⟩; go_simp; with_reducible rfl⟩) (hS : S w := by exact hHeld)
 (ha : a.put N v = a' := by (simp only [pW]; rfl)) :
 bC P md ops Q S ds (fuel + 1) (bz n m) a w := DJ _ hi hN hc hQ hy hS ha h
theorem tK5 {v : Value} {n m : Nat} {oi : Oper} {fuel : Nat} {a : Act} {w : World} (i : Nat) (N : Option Tmp) {a' : Act}
 (h : bC P md ops Q S ds fuel (bz n (m + 2 ^ i)) a' w)
 (hi : ops[i]? = some oi := by exact rfl) (hN : oi.dst = N := by exact rfl)
 (hc : takeB md ops ds (bz n m) (bz n (m + 2 ^ i)) i = true := by exact AP HT_.out HW_.out (by kernel_rfl))
 (hQ : ∀ c a w, Q (.panic c) (a.put oi.dst v) w → Q (.panic c) a w := by exact (fun _ _ _ h => h))
 (hy : YieldsIf P ops S oi v a := by exact Or.inl ⟨by rfl, by rintro w' ⟨s0, s1, s2, s3, s4⟩; go_simp; with_reducible rfl⟩) (hS : S w := by exact hHeld)
 (ha : a.put N v = a' := by (simp only [pW]; rfl)) :
 bC P md ops Q S ds (fuel + 1) (bz n m) a w := DJ _ hi hN hc hQ hy hS ha h
theorem tK6 {v : Value} {n m : Nat} {oi : Oper} {fuel : Nat} {a : Act} {w : World} (i : Nat) (N : Option Tmp) {a' : Act}
 (h : bC P md ops Q S ds fuel (bz n (m + 2 ^ i)) a' w)
 (hi : ops[i]? = some oi := by exact rfl) (hN : oi.dst = N := by exact rfl)
 (hc : takeB md ops ds (bz n m) (bz n (m + 2 ^ i)) i = true := by exact AP HT_.out HW_.out (by kernel_rfl))
 (hQ : ∀ c a w, Q (.panic c) (a.put oi.dst v) w → Q (.panic c) a w := by exact (fun _ _ _ h => h))
 (hy : YieldsIf P ops S oi v a := by exact Or.inl ⟨by rfl, by rintro w' ⟨s0, s1, s2, s3, s4, s5⟩; go_simp; with_reducible rfl⟩) (hS : S w := by exact hHeld)
 (ha : a.put N v = a' := by (simp only [pW]; rfl)) :
 bC P md ops Q S ds (fuel + 1) (bz n m) a w := DJ _ hi hN hc hQ hy hS ha h
theorem tK8 {v : Value} {n m : Nat} {oi : Oper} {fuel : Nat} {a : Act} {w : World} (i : Nat) (N : Option Tmp) {a' : Act}
 (h : bC P md ops Q S ds fuel (bz n (m + 2 ^ i)) a' w)
 (hi : ops[i]? = some oi := by exact rfl) (hN : oi.dst = N := by exact rfl)
 (hc : takeB md ops ds (bz n m) (bz n (m + 2 ^ i)) i = true := by exact AP HT_.out HW_.out (by kernel_rfl))
 (hQ : ∀ c a w, Q (.panic c) (a.put oi.dst v) w → Q (.panic c) a w := by exact (fun _ _ _ h => h))
 (hy : YieldsIf P ops S oi v a := by exact Or.inl ⟨by rfl, by rintro w' ⟨s0, s1, s2, s3, s4, s5, s6, s7⟩; go_simp; with_reducible rfl⟩) (hS : S w := by exact hHeld)
 (ha : a.put N v = a' := by (simp only [pW]; rfl)) :
 bC P md ops Q S ds (fuel + 1) (bz n m) a w := DJ _ hi hN hc hQ hy hS ha h
theorem tK13 {v : Value} {n m : Nat} {oi : Oper} {fuel : Nat} {a : Act} {w : World} (i : Nat) (N : Option Tmp) {a' : Act}
 (h : bC P md ops Q S ds fuel (bz n (m + 2 ^ i)) a' w)
 (hi : ops[i]? = some oi := by exact rfl) (hN : oi.dst = N := by exact rfl)
 (hc : takeB md ops ds (bz n m) (bz n (m + 2 ^ i)) i = true := by exact AP HT_.out HW_.out (by kernel_rfl))
 (hQ : ∀ c a w, Q (.panic c) (a.put oi.dst v) w → Q (.panic c) a w := by exact (fun _ _ _ h => h))
 (hy : YieldsIf P ops S oi v a := by exact Or.inl ⟨by rfl, by rintro w' ⟨s0, s1, s2, s3, s4, s5, s6, s7, s8, s9, s10, s11, s12⟩; go_simp; with_reducible rfl⟩) (hS : S w := by exact hHeld)
 (ha : a.put N v = a' := by (simp only [pW]; rfl)) :
 bC P md ops Q S ds (fuel + 1) (bz n m) a w := DJ _ hi hN hc hQ hy hS ha h
theorem pC {p q : Prop} (x : q) (h : q → p := by intro hx; repeat (first | exact hx | (with_reducible refine Kd.l7 ?_ _) | (with_reducible refine Kd.l8 ?_ _) | (with_reducible refine Kd.mK ?_))) : p := h x
theorem pY0 {p : Prop} (h : p := by (with_reducible repeat (first | refine dJ ?_ _ | refine dM ?_ | refine bP ?_ _)); refine bD (cs := #[.string ((aA C0 vR).f0), .slice S3 ((aA C0 vR).f1).length TG, .slice none 0 0]) ?_ 2 _ rfl; (with_reducible repeat (first | refine dJ ?_ _ | refine dM ?_ | refine bP ?_ _)); refine bD (cs := #[.string ((aA C0 vR).f0), .slice none 0 0, .slice none 0 0]) ?_ 1 _ rfl; (with_reducible repeat (first | refine dJ ?_ _ | refine dM ?_ | refine bP ?_ _)); refine bD (cs := #[.string (⟨#[]⟩ : ByteArray), .slice none 0 0, .slice none 0 0]) ?_ 0 _ rfl; (with_reducible repeat (first | refine dJ ?_ _ | refine dM ?_ | refine bP ?_ _)); exact ZS.1) : p := h
theorem ri {p : Prop} (h : p := by (with_reducible repeat (first | refine dJ ?_ _ | refine dM ?_ | refine bP ?_ _)); refine bD (cs := #[.string ((aA aE iH).f0), .slice mI ((aA aE iH).f1).length mM, .slice none 0 0]) ?_ 2 _ rfl; (with_reducible repeat (first | refine dJ ?_ _ | refine dM ?_ | refine bP ?_ _)); refine bD (cs := #[.string ((aA aE iH).f0), .slice none 0 0, .slice none 0 0]) ?_ 1 _ rfl; (with_reducible repeat (first | refine dJ ?_ _ | refine dM ?_ | refine bP ?_ _)); refine bD (cs := #[.string (⟨#[]⟩ : ByteArray), .slice none 0 0, .slice none 0 0]) ?_ 0 _ rfl; (with_reducible repeat (first | refine dJ ?_ _ | refine dM ?_ | refine bP ?_ _)); exact iE.1) : p := h
theorem pY2 {p : Prop} (h : p := by (with_reducible repeat (first | refine dJ ?_ _ | refine dM ?_ | refine bP ?_ _)); refine bD (cs := #[.string ((aA aE jH).f0), .slice mI ((aA aE jH).f1).length mM, .slice none 0 0]) ?_ 2 _ rfl; (with_reducible repeat (first | refine dJ ?_ _ | refine dM ?_ | refine bP ?_ _)); refine bD (cs := #[.string ((aA aE jH).f0), .slice none 0 0, .slice none 0 0]) ?_ 1 _ rfl; (with_reducible repeat (first | refine dJ ?_ _ | refine dM ?_ | refine bP ?_ _)); refine bD (cs := #[.string (⟨#[]⟩ : ByteArray), .slice none 0 0, .slice none 0 0]) ?_ 0 _ rfl; (with_reducible repeat (first | refine dJ ?_ _ | refine dM ?_ | refine bP ?_ _)); exact iE.1) : p := h
theorem pY3 {p : Prop} (h : p := by (with_reducible repeat (first | refine dJ ?_ _ | refine dM ?_ | refine bP ?_ _)); refine bD (cs := #[.string ((aA aE uJ).f0), .slice FE ((aA aE uJ).f1).length FO, .slice none 0 0]) ?_ 2 _ rfl; (with_reducible repeat (first | refine dJ ?_ _ | refine dM ?_ | refine bP ?_ _)); refine bD (cs := #[.string ((aA aE uJ).f0), .slice none 0 0, .slice none 0 0]) ?_ 1 _ rfl; (with_reducible repeat (first | refine dJ ?_ _ | refine dM ?_ | refine bP ?_ _)); refine bD (cs := #[.string (⟨#[]⟩ : ByteArray), .slice none 0 0, .slice none 0 0]) ?_ 0 _ rfl; (with_reducible repeat (first | refine dJ ?_ _ | refine dM ?_ | refine bP ?_ _)); exact N0.1) : p := h
theorem rn {p : Prop} (h : p := by (with_reducible repeat (first | refine dJ ?_ _ | refine dM ?_ | refine bP ?_ _)); refine bD (cs := #[.string ((aA aE eH).f0), .slice mI ((aA aE eH).f1).length mM, .slice none 0 0]) ?_ 2 _ rfl; (with_reducible repeat (first | refine dJ ?_ _ | refine dM ?_ | refine bP ?_ _)); refine bD (cs := #[.string ((aA aE eH).f0), .slice none 0 0, .slice none 0 0]) ?_ 1 _ rfl; (with_reducible repeat (first | refine dJ ?_ _ | refine dM ?_ | refine bP ?_ _)); refine bD (cs := #[.string (⟨#[]⟩ : ByteArray), .slice none 0 0, .slice none 0 0]) ?_ 0 _ rfl; (with_reducible repeat (first | refine dJ ?_ _ | refine dM ?_ | refine bP ?_ _)); exact iE.1) : p := h
theorem Sl {p : Prop} (h : p := by (with_reducible repeat (first | refine dJ ?_ _ | refine dM ?_ | refine bP ?_ _)); refine eX ?_ j3.1 _; (with_reducible repeat (first | refine dJ ?_ _ | refine dM ?_ | refine bP ?_ _)); refine eX ?_ j3.1 _; (with_reducible repeat (first | refine dJ ?_ _ | refine dM ?_ | refine bP ?_ _)); refine eX ?_ j3.1 _; (with_reducible repeat (first | refine dJ ?_ _ | refine dM ?_ | refine bP ?_ _)); exact aC.1) : p := h
theorem Mb {p : Prop} (h : p := by (with_reducible repeat (first | apply Kd.o6 | apply Kd.o7 | apply Kd.qM)); exact (Kd.bG (Kd.uL (p := ⟨mE, 2, none⟩) (Kd.uL (p := ⟨mE, 1, none⟩) (Kd.uL (p := ⟨mE, 0, none⟩) (Kd.iX lW.1 iE.1 (by decide)) (fun _ hk => hk.2) (.string ((aA aE iH).f0))) (fun _ hk => hk.2) (.slice mI ((aA aE iH).f1).length mM)) (fun _ hk => hk.2) (.slice oD ((aA aE iH).f2).length oI)) (fun _ h_ => h_.1))) : p := h
theorem ro {p : Prop} (h : p := by (with_reducible repeat (first | apply Kd.o6 | apply Kd.o7 | apply Kd.qM)); exact Kd.bG (Kd.uL (p := ⟨mE, 2, none⟩) (Kd.uL (p := ⟨mE, 1, none⟩) (Kd.uL (p := ⟨mE, 0, none⟩) (Kd.iX jT.1 iE.1 (by decide)) (fun _ hk => hk.2) (.string ((aA aE eH).f0))) (fun _ hk => hk.2) (.slice mI ((aA aE eH).f1).length mM)) (fun _ hk => hk.2) (.slice oD ((aA aE eH).f2).length oI)) (fun _ hk => trivial)) : p := h
theorem jm {p : Prop} (h : p := by (with_reducible repeat (first | refine dJ ?_ _ | refine dM ?_ | refine bP ?_ _)); refine bD (cs := #[.slice none 0 0, .slice none 0 0]) ?_ 1 _ rfl; (with_reducible repeat (first | refine dJ ?_ _ | refine dM ?_ | refine bP ?_ _)); refine bD (cs := #[.slice none 0 0, .slice none 0 0]) ?_ 0 _ rfl; (with_reducible repeat (first | refine dJ ?_ _ | refine dM ?_ | refine bP ?_ _)); exact aT.1) : p := h
theorem Pk {p : Prop} (h : p := by (with_reducible repeat (first | refine dJ ?_ _ | refine dM ?_ | refine bP ?_ _)); refine eX ?_ eZ.1 _; (with_reducible repeat (first | refine dJ ?_ _ | refine dM ?_ | refine bP ?_ _)); refine eX ?_ eZ.1 _; (with_reducible repeat (first | refine dJ ?_ _ | refine dM ?_ | refine bP ?_ _)); exact aC.1) : p := h
theorem UA {p : Prop} (h : p := by (with_reducible repeat (first | refine dJ ?_ _ | refine dM ?_ | refine bP ?_ _)); refine eX ?_ fI.1 _; (with_reducible repeat (first | refine dJ ?_ _ | refine dM ?_ | refine bP ?_ _)); refine eX ?_ fI.1 _; (with_reducible repeat (first | refine dJ ?_ _ | refine dM ?_ | refine bP ?_ _)); exact aT.1) : p := h
theorem rj {p : Prop} (h : p := by (with_reducible repeat (first | refine dJ ?_ _ | refine dM ?_ | refine bP ?_ _)); refine eX ?_ JH.1 _; (with_reducible repeat (first | refine dJ ?_ _ | refine dM ?_ | refine bP ?_ _)); refine eX ?_ JH.1 _; (with_reducible repeat (first | refine dJ ?_ _ | refine dM ?_ | refine bP ?_ _)); exact aC.1) : p := h
theorem rk {p : Prop} (h : p := by (with_reducible repeat (first | refine dJ ?_ _ | refine dM ?_ | refine bP ?_ _)); refine eX ?_ JI.1 _; (with_reducible repeat (first | refine dJ ?_ _ | refine dM ?_ | refine bP ?_ _)); refine eX ?_ JI.1 _; (with_reducible repeat (first | refine dJ ?_ _ | refine dM ?_ | refine bP ?_ _)); exact aT.1) : p := h
theorem rl {p : Prop} (h : p := by (with_reducible repeat (first | refine dJ ?_ _ | refine dM ?_ | refine bP ?_ _)); refine eX ?_ JO.1 _; (with_reducible repeat (first | refine dJ ?_ _ | refine dM ?_ | refine bP ?_ _)); refine eX ?_ JO.1 _; (with_reducible repeat (first | refine dJ ?_ _ | refine dM ?_ | refine bP ?_ _)); exact aY.1) : p := h
theorem Xy {p : Prop} (h : p := by rw [hg]; exact (aK (by repeat (first | (with_reducible first | exact HB.1 | apply dZ | apply bK | apply aU | refine aJ ?_ iL.1 | refine aJ ?_ pM.1 | refine aJ ?_ wH.1) | exact HB.1)))) : p := h
theorem Z0 {p : Prop} (h : p := by repeat (first | (with_reducible first | exact HB.1 | apply dZ | apply bK | apply aU | refine aJ ?_ iL.1 | refine aJ ?_ pM.1 | refine aJ ?_ Fy.1 | refine aJ ?_ N9.1) | exact HB.1)) : p := h
theorem y4 {p : Prop} (h : p := by repeat (first | (with_reducible first | exact HB.1 | apply dZ | apply bK | apply aU | refine aJ ?_ iL.1 | refine aJ ?_ pM.1 | refine aJ ?_ wH.1 | refine aJ ?_ Qi.1) | exact HB.1)) : p := h
theorem UB {p : Prop} (h : p := by repeat (first | (with_reducible first | exact HB.1 | apply dZ | apply bK | apply aU | refine aJ ?_ iL.1 | refine aJ ?_ pM.1 | refine aJ ?_ wH.1 | refine aJ ?_ Zu.1) | exact HB.1)) : p := h
theorem CZ {p : Prop} (h : p := by repeat (first | (with_reducible first | exact HB.1 | apply dZ | apply bK | apply aU | refine aJ ?_ iL.1 | refine aJ ?_ pM.1 | refine aJ ?_ wH.1 | refine aJ ?_ ZV.1) | exact HB.1)) : p := h
theorem Pi {p : Prop} (h : p := by (with_reducible repeat (first | refine dJ ?_ _ | refine dM ?_ | refine bP ?_ _)); refine eX ?_ eZ.1 _; (with_reducible repeat (first | refine dJ ?_ _ | refine dM ?_ | refine bP ?_ _)); exact aC.1) : p := h
theorem Pj {p : Prop} (h : p := by (with_reducible repeat (first | refine dJ ?_ _ | refine dM ?_ | refine bP ?_ _)); refine eX ?_ fI.1 _; (with_reducible repeat (first | refine dJ ?_ _ | refine dM ?_ | refine bP ?_ _)); exact aT.1) : p := h
theorem rm {p : Prop} (h : p := by rw [hg]; exact (aK (by repeat (first | (with_reducible first | exact HB.1 | apply dZ | apply bK | apply aU | refine aJ ?_ iL.1 | refine aJ ?_ GV.1) | exact HB.1)))) : p := h
theorem UC {p : Prop} (h : p := by rw [hg]; exact (aK (by repeat (first | (with_reducible first | exact HB.1 | apply dZ | apply bK | apply aU | refine aJ ?_ iL.1 | refine aJ ?_ pM.1) | exact HB.1)))) : p := h
theorem WX {p : Prop} (h : p := by repeat (first | (with_reducible first | exact HB.1 | apply dZ | apply bK | apply aU | refine aJ ?_ iL.1 | refine aJ ?_ GV.1 | refine aJ ?_ Zv.1) | exact HB.1)) : p := h
theorem K4 {p : Prop} (h : p := by repeat (first | (with_reducible first | exact HB.1 | apply dZ | apply bK | apply aU | refine aJ ?_ iL.1 | refine aJ ?_ pM.1 | refine aJ ?_ Fy.1) | exact HB.1)) : p := h
theorem fE {p : Prop} (h : p := by repeat (first | (with_reducible first | exact HB.1 | apply dZ | apply bK | apply aU | refine aJ ?_ iL.1 | refine aJ ?_ pM.1 | refine aJ ?_ wH.1) | exact HB.1)) : p := h
theorem vA {p : Prop} (h : p := by rw [hg]; exact (aK (by repeat (first | (with_reducible first | exact HB.1 | apply dZ | apply bK | apply aU | refine aJ ?_ iL.1) | exact HB.1)))) : p := h
theorem vB {p : Prop} (h : p := by repeat (first | (with_reducible first | exact HB.1 | apply dZ | apply bK | apply aU | refine aJ ?_ iL.1 | refine aJ ?_ KJ.1) | exact HB.1)) : p := h
theorem y5 {p : Prop} (h : p := by repeat (first | (with_reducible first | exact HB.1 | apply dZ | apply bK | apply aU | refine aJ ?_ iL.1 | refine aJ ?_ GV.1) | exact HB.1)) : p := h
theorem jY {p : Prop} (h : p := by repeat (first | (with_reducible first | exact HB.1 | apply dZ | apply bK | apply aU | refine aJ ?_ iL.1 | refine aJ ?_ pM.1) | exact HB.1)) : p := h
theorem PV {p : Prop} (h : p := by repeat (first | (with_reducible first | exact HB.1 | apply dZ | apply bK | apply aU | refine aJ ?_ iL.1 | refine aJ ?_ V2.1) | exact HB.1)) : p := h
theorem m3 {p : Prop} (h : p := by repeat (first | (with_reducible first | exact HB.1 | apply dZ | apply bK | apply aU | refine aJ ?_ iL.1 | refine aJ ?_ KL.1) | exact HB.1)) : p := h
theorem Z1 {p : Prop} (h : p := by repeat (first | (with_reducible first | exact HB.1 | apply dZ | apply bK | apply aU | refine aJ ?_ iL.1 | refine aJ ?_ N9.1) | exact HB.1)) : p := h
theorem nS {p : Prop} (h : p := by rw [hg]; exact (aK (by repeat (first | (with_reducible first | exact HB.1 | apply dZ | apply bK | apply aU) | exact HB.1)))) : p := h
theorem dQ {p : Prop} (h : p := by repeat (first | (with_reducible first | exact HB.1 | apply dZ | apply bK | apply aU | refine aJ ?_ iL.1) | exact HB.1)) : p := h
theorem UD {p : Prop} (h : p := by repeat (first | (with_reducible first | exact HB.1 | apply dZ | apply bK | apply aU | refine aJ ?_ GE9.1) | exact HB.1)) : p := h
theorem n7 {p : Prop} (h : p := by (try simp only [List.map_toArray, List.map_cons, List.map_nil]); first | done | rfl | (simp only [List.length_drop, List.length_take]; rfl)) : p := h
theorem gL {p : Prop} (h : p := by repeat (first | (with_reducible first | exact HB.1 | apply dZ | apply bK | apply aU) | exact HB.1)) : p := h
theorem Xz {p : Prop} (h : p := by first | (rw [add_block]; exact hn124_0) | (show (Addr.add _ _).block ≠ _; rw [add_block]; exact hn124_0) | exact hn124_0) : p := h
theorem Ya {p : Prop} (h : p := by first | (rw [add_block]; exact hn124_1) | (show (Addr.add _ _).block ≠ _; rw [add_block]; exact hn124_1) | exact hn124_1) : p := h
theorem bJ {p : Prop} (h : p := by (with_reducible repeat (first | refine dJ ?_ _ | refine dM ?_ | refine bP ?_ _)); exact aC.1) : p := h
theorem fF {p : Prop} (h : p := by (with_reducible repeat (first | refine dJ ?_ _ | refine dM ?_ | refine bP ?_ _)); exact aT.1) : p := h
theorem UE {p : Prop} (h : p := by (with_reducible repeat (first | refine dJ ?_ _ | refine dM ?_ | refine bP ?_ _)); exact j5.1) : p := h
theorem ZA {p : Prop} (h : p := by (with_reducible repeat (first | refine dJ ?_ _ | refine dM ?_ | refine bP ?_ _)); exact j6.1) : p := h
theorem UF {p : Prop} (h : p := by (with_reducible repeat (first | refine dJ ?_ _ | refine dM ?_ | refine bP ?_ _)); exact iE.1) : p := h
theorem jO {p : Prop} (h : p := by (with_reducible repeat (first | refine dJ ?_ _ | refine dM ?_ | refine bP ?_ _)); exact aY.1) : p := h
theorem PW {p : Prop} (h : p := by (with_reducible repeat (first | refine dJ ?_ _ | refine dM ?_ | refine bP ?_ _)); exact nJ.1) : p := h
theorem PX {p : Prop} (h : p := by (with_reducible repeat (first | refine dJ ?_ _ | refine dM ?_ | refine bP ?_ _)); exact iS.1) : p := h
theorem K5 {p : Prop} (h : p := by (with_reducible repeat (first | apply Kd.o6 | apply Kd.o7 | apply Kd.qM)); exact j7.1) : p := h
theorem ZB {p : Prop} (h : p := by (with_reducible repeat (first | apply Kd.MK | apply Kd.ML | apply Kd.NL)); exact fC.1) : p := h
theorem kS {p : Prop} (h : p := by (with_reducible repeat (first | apply Kd.o6 | apply Kd.o7 | apply Kd.qM)); exact aX.1) : p := h
theorem wW {p : Prop} (h : p := by (with_reducible repeat (first | apply Kd.MH | apply Kd.MJ | apply Kd.NH)); exact aN.1) : p := h
theorem K6 {p : Prop} (h : p := by (with_reducible repeat (first | apply Kd.o6 | apply Kd.o7 | apply Kd.qM)); exact iZ.1) : p := h
theorem PY {p : Prop} (h : p := by (with_reducible repeat (first | apply Kd.MH | apply Kd.MJ | apply Kd.NH)); exact eY.1) : p := h
theorem UG {p : Prop} (h : p := by (with_reducible repeat (first | apply Kd.MK | apply Kd.ML | apply Kd.NL)); exact aN.1) : p := h
theorem wC {p : Prop} (h : p := by (with_reducible repeat (first | apply Kd.o6 | apply Kd.o7 | apply Kd.qM)); exact fQ.1) : p := h
theorem CD {p : Prop} (h : p := by (with_reducible repeat (first | apply Kd.MH | apply Kd.MJ | apply Kd.NH)); exact eU.1) : p := h
theorem UH {p : Prop} (h : p := by (with_reducible repeat (first | apply Kd.o6 | apply Kd.o7 | apply Kd.qM)); exact sQ.1) : p := h
theorem UI {p : Prop} (h : p := by (with_reducible repeat (first | apply Kd.o6 | apply Kd.o7 | apply Kd.qM)); exact xE.1) : p := h
theorem PZ {p : Prop} (h : p := by (with_reducible repeat (first | apply Kd.o6 | apply Kd.o7 | apply Kd.qM)); exact iN.1) : p := h
theorem Ee {p : Prop} (h : p := by (with_reducible repeat (first | apply Kd.MK | apply Kd.ML | apply Kd.NL)); exact eA.1) : p := h
theorem OP {p : Prop} (h : p := by (with_reducible repeat (first | apply Kd.o6 | apply Kd.o7 | apply Kd.qM)); exact lW.1) : p := h
theorem CE {p : Prop} (h : p := by (with_reducible repeat (first | apply Kd.o6 | apply Kd.o7 | apply Kd.qM)); exact jT.1) : p := h
theorem WY {p : Prop} (h : p := by (with_reducible repeat (first | apply Kd.o6 | apply Kd.o7 | apply Kd.qM)); exact yY.1) : p := h
theorem LS {p : Prop} (h : p := by simp only [D7, Act.put, List.setIfInBounds_toArray, List.set_cons_zero, List.set_cons_succ]) : p := h
theorem jI {p : Prop} (h : p := by repeat (first | exact jA.refl _ | apply jA.step)) : p := h
theorem EK {p : Prop} (h : p := by first | exact Kd.vV pP | exact Kd.zA pP) : p := h
theorem eS {p : Prop} (h : p := by first | rfl | (simp; done) | (simp [*]; done)) : p := h
end
theorem am {p : Prop} (h : p) : aD p := ⟨h⟩
theorem bS {w W w2 : World} (h : Below w.heap.size w W) (k : Below W.heap.size W w2) : aD (Below w.heap.size w w2) := ⟨dG h k⟩
theorem bB {w w1 : World} {g : Nat} {o : Obj} (h : w.heap[g]? = some o) (hb : Below w.heap.size w w1) : aD (w1.heap[g]? = some o) := ⟨aV h hb⟩
theorem nL {w : World} {g n : Nat} {o : Obj} (h : w.heap[g]? = some o) (e : n = w.heap.size) : aD (g ≠ n) := ⟨by rw [e]; exact Nat.ne_of_lt (dU h)⟩
theorem nG {w : World} {g n : Nat} {o : Obj} (h : w.heap[g]? = some o) (e : n = w.heap.size) : aD (n ≠ g) := ⟨by rw [e]; exact Nat.ne_of_gt (dU h)⟩
theorem cz1 {w : World} {g t : Nat} {a : Value} (h : aD (w.heap[g]? = some (.cells #[a] t (0, 0)))) : w.cell? ⟨g, 0, none⟩ = some a ∧ w.frozen? ⟨g, 0, none⟩ = false := ⟨(aH h.1 0).trans rfl, bL h.1 0⟩
theorem cz2 {w : World} {g t : Nat} {a b : Value} (h : aD (w.heap[g]? = some (.cells #[a, b] t (0, 0)))) : w.cell? ⟨g, 0, none⟩ = some a ∧ w.cell? ⟨g, 1, none⟩ = some b ∧ w.frozen? ⟨g, 0, none⟩ = false ∧ w.frozen? ⟨g, 1, none⟩ = false := ⟨(aH h.1 0).trans rfl, (aH h.1 1).trans rfl, bL h.1 0, bL h.1 1⟩
theorem cz3 {w : World} {g t : Nat} {a b c : Value} (h : aD (w.heap[g]? = some (.cells #[a, b, c] t (0, 0)))) : w.cell? ⟨g, 0, none⟩ = some a ∧ w.cell? ⟨g, 1, none⟩ = some b ∧ w.cell? ⟨g, 2, none⟩ = some c ∧ w.frozen? ⟨g, 0, none⟩ = false ∧ w.frozen? ⟨g, 1, none⟩ = false ∧ w.frozen? ⟨g, 2, none⟩ = false := ⟨(aH h.1 0).trans rfl, (aH h.1 1).trans rfl, (aH h.1 2).trans rfl, bL h.1 0, bL h.1 1, bL h.1 2⟩
theorem bd {α β : Type} {o : Option α} {f : α → Option β} {r : β} (h : o.bind f = some r) : ∃ t, aD (o = some t) ∧ f t = some r := by
 obtain ⟨t, h1, h2⟩ := Option.bind_eq_some_iff.mp h
 exact ⟨t, ⟨h1⟩, h2⟩
theorem bY {α β : Type} {x : α} {f : α → Option β} {r : β} (h : (some x).bind f = some r) : ∃ y, aD (y = x) ∧ f y = some r := ⟨x, ⟨rfl⟩, h⟩
theorem yv {α : Type} (x : α) : ∃ y, aD (y = x) := ⟨x, ⟨rfl⟩⟩
theorem hX {w W : World} {p : Addr} {v : Value} (h : aD (Below w.heap.size w W)) (e : w.cell? p = some v) : W.cell? p = some v := (h.1.cell (World.block_lt_of_cell? w _ e)).trans e
theorem oT {p : Prop} {i : Decidable p} (h : decide p = true := by first | (with_reducible assumption) | assumption) : p := of_decide_eq_true h
theorem rR {p q : Prop} (x : q) (h : q → p := by (intro hx; (with_reducible repeat (first | apply Kd.o6 | apply Kd.o7 | apply Kd.qM)); exact hx)) : p := h x
theorem rN {p q : Prop} (x : q) (h : q → p := by (intro hx; (with_reducible repeat (first | apply Kd.MH | apply Kd.MJ | apply Kd.NH)); exact hx)) : p := h x
theorem rS {p q : Prop} (x : q) (h : q → p := by (intro hx; (with_reducible repeat (first | apply Kd.MK | apply Kd.ML | apply Kd.NL)); exact hx)) : p := h x
theorem rV {p q : Prop} (x : q) (h : q → p := by (intro hx; (with_reducible repeat (first | apply Kd.Ng | apply Kd.Nh | apply Kd.SQ)); exact hx)) : p := h x
theorem rB {p q : Prop} (x : q) (h : q → p := by (intro hx; (with_reducible repeat (first | refine dJ ?_ _ | refine dM ?_ | refine bP ?_ _)); exact hx)) : p := h x
theorem kB {W W2 : World} {g : Nat} {o : Obj} (h : aD (W.heap[g]? = some o)) (hk : Kept W W2 (fun _ => False)) : aD (W2.heap[g]? = some o) := ⟨dO h.1 hk (fun h => h)⟩
theorem nn {p q : Prop} (h : aD p) (x : q) : aD (q ∧ p) := ⟨x, h.1⟩
structure Hd (S : World → Prop) (w : World) : Prop where out : S w
section
variable {w W : World} {g t : Nat} {a b c : Value} {R : World → Prop}
theorem uA2 (h : aD (w.heap[g]? = some (.cells #[a, b] t (0, 0)))) : Hd (fun w' => w'.cell? ⟨g, 0, none⟩ = some a ∧ w'.cell? ⟨g, 1, none⟩ = some b) w := ⟨(cz2 h).1, (cz2 h).2.1⟩
theorem uA3 (h : aD (w.heap[g]? = some (.cells #[a, b, c] t (0, 0)))) : Hd (fun w' => w'.cell? ⟨g, 0, none⟩ = some a ∧ w'.cell? ⟨g, 1, none⟩ = some b ∧ w'.cell? ⟨g, 2, none⟩ = some c) w := ⟨(cz3 h).1, (cz3 h).2.1, (cz3 h).2.2.1⟩
theorem uB2 (h : aD (w.heap[g]? = some (.cells #[a, b] t (0, 0)))) (r : Hd R w) : Hd (fun w' => w'.cell? ⟨g, 0, none⟩ = some a ∧ w'.cell? ⟨g, 1, none⟩ = some b ∧ R w') w := ⟨(cz2 h).1, (cz2 h).2.1, r.1⟩
theorem uB3 (h : aD (w.heap[g]? = some (.cells #[a, b, c] t (0, 0)))) (r : Hd R w) : Hd (fun w' => w'.cell? ⟨g, 0, none⟩ = some a ∧ w'.cell? ⟨g, 1, none⟩ = some b ∧ w'.cell? ⟨g, 2, none⟩ = some c ∧ R w') w := ⟨(cz3 h).1, (cz3 h).2.1, (cz3 h).2.2.1, r.1⟩
theorem uAx {p : Addr} (h : aD (Below w.heap.size w W)) (e : w.cell? p = some a) : Hd (fun w' => w'.cell? p = some a) W := ⟨hX h e⟩
theorem uBx {p : Addr} (h : aD (Below w.heap.size w W)) (e : w.cell? p = some a) (r : Hd R W) : Hd (fun w' => w'.cell? p = some a ∧ R w') W := ⟨hX h e, r.1⟩
theorem uF3 {g2 : Nat} {t2 : Nat} {cs : Array Value} {u v x : Value} (e : W = ((w.setCell ⟨g, 0, none⟩ u).setCell ⟨g, 1, none⟩ v).setCell ⟨g, 2, none⟩ x) (h : aD (w.heap[g2]? = some (.cells cs t2 (0, 0)))) (n : aD (g2 ≠ g)) : aD (W.heap[g2]? = some (.cells cs t2 (0, 0))) := ⟨e ▸ eX (eX (eX h.1 n.1 _) n.1 _) n.1 _⟩
theorem uP3 {u v x : Value} (e : W = ((w.setCell ⟨g, 0, none⟩ u).setCell ⟨g, 1, none⟩ v).setCell ⟨g, 2, none⟩ x) (h : aD (w.heap[g]? = some (.cells #[a, b, c] t (0, 0)))) : aD (W.heap[g]? = some (.cells #[u, v, x] t (0, 0))) := ⟨e ▸ bD (cs := #[u, v, c]) (bD (cs := #[u, b, c]) (bD (cs := #[a, b, c]) h.1 0 u rfl) 1 v rfl) 2 x rfl⟩
theorem uC3 {w0 : World} {u v x : Value} (e : W = ((w.setCell ⟨g, 0, none⟩ u).setCell ⟨g, 1, none⟩ v).setCell ⟨g, 2, none⟩ x) (h : aD (Below w0.heap.size w0 w)) (n : aD (w0.heap.size ≤ g)) : aD (Below w0.heap.size w0 W) := ⟨e ▸ aJ (aJ (aJ h.1 n.1) n.1) n.1⟩
end
theorem pB {α : Type} {d : Kd α} {w W : World} {A : Option Addr} {n : Nat} {l : List α} {p : Prop} (x : aD (Kd.C d w A n l)) (y : Below w.heap.size w W := by exact HB.1) (h : Kd.C d W A n l → p := by (intro hx; repeat (first | exact hx | (with_reducible refine Kd.l7 ?_ _) | (with_reducible refine Kd.l8 ?_ _) | (with_reducible refine Kd.mK ?_)))) : p := h (Kd.aM x.1 y)
section
variable {P : Program} {ops : Array Oper} {rest : List Oper} {o : Oper} {a : Act} {Q : Exit → Act → World → Prop} {W : World}
theorem bX (N : Tmp) (cs : Array Value) (t : TypeId)
    (h : ∀ g, g = W.heap.size → ∀ w1, w1.heap[g]? = some (.cells cs t (0, 0)) → Below W.heap.size W w1 → wpList P ops Q rest (a.put o.dst (.pointer (some ⟨g, 0, none⟩))) w1)
    (hd : o.dst = some N := by with_reducible rfl) (hgd : o.guard = none := by rfl)
    (hr : (execOp a.eval o).run P W = .ok (.value (.pointer (some ⟨W.heap.size, 0, none⟩))) (W.alloc (.cells cs t (0, 0))) := by first | (go_simp; done) | (go_simp; rfl)) : wpList P ops Q (o :: rest) a W := dX hgd hd hr h
theorem gC (f : FuncId) {as : Array Operand} {ts : Array TypeId} (h : wpList P ops Q (o :: rest) a W) (_ho : o.op = .call { callee := .value (.func f), args := as, argTypes := ts } := by with_reducible rfl) : wpList P ops Q (o :: rest) a W := h
theorem gD (N : Tmp) (h : wpList P ops Q (o :: rest) a W) (_ho : o.dst = some N := by with_reducible rfl) : wpList P ops Q (o :: rest) a W := h
theorem cE (N : Option Tmp) {f : FuncId} {fn : Func} {as : Array Operand} {ts : Array TypeId} {args : Array Value} {R : Ending → World → Prop} (hf : P.funcs[f]? = some fn) (hc : Calls P f args W R)
    (h : ∀ e w', R e w' → ∃ v, e = .returned v ∧ wpList P ops Q rest (a.put N v) w')
    (hop : o.op = .call { callee := .value (.func f), args := as, argTypes := ts } := by rfl) (hd : o.dst = N := by rfl) (hg : o.guard = none := by rfl)
    (hname : (fn.name == "runtime.NumGoroutine") = false := by kernel_rfl) (hb : fn.body.isSome = true := by rfl)
    (hargs : as.map a.eval = args := by ((try simp only [List.map_toArray, List.map_cons, List.map_nil]); first | done | rfl | (simp only [List.length_drop, List.length_take]; rfl))) : wpList P ops Q (o :: rest) a W :=
  BK N hd hg hf hname hb args hop hargs (hc.mono h)
theorem cQ (N : Option Tmp) {f : FuncId} {fn : Func} {as : Array Operand} {ts : Array TypeId} {args : Array Value} {v : Value} {R : World → Prop} (hf : P.funcs[f]? = some fn) (hc : Calls P f args W fun e w' => e = .returned v ∧ R w')
    (h : ∀ w', R w' → wpList P ops Q rest (a.put N v) w')
    (hop : o.op = .call { callee := .value (.func f), args := as, argTypes := ts } := by rfl) (hd : o.dst = N := by rfl) (hg : o.guard = none := by rfl)
    (hname : (fn.name == "runtime.NumGoroutine") = false := by kernel_rfl) (hb : fn.body.isSome = true := by rfl)
    (hargs : as.map a.eval = args := by ((try simp only [List.map_toArray, List.map_cons, List.map_nil]); first | done | rfl | (simp only [List.length_drop, List.length_take]; rfl))) : wpList P ops Q (o :: rest) a W :=
  BK N hd hg hf hname hb args hop hargs (hc.mono fun _ w' q => ⟨v, q.1, h w' q.2⟩)
theorem cM {f : FuncId} {args : Array Value} {v : Value} {R : World → Prop} {Q : Ending → World → Prop} (hc : Calls P f args W fun e w' => e = .returned v ∧ R w') (h : ∀ w', R w' → Q (.returned v) w') : Calls P f args W Q :=
  hc.mono fun _ w' q => q.1 ▸ h w' q.2
end
section
variable {P : Program} {ops : Array Oper} {Q : Exit → Act → World → Prop} {md : Region.Mode} {S : World → Prop} {ds : List Nat}
theorem nM {fuel : Nat} {l : Array Bool} {a a' : Act} {w : World} (h : bC P md ops Q S ds fuel l a' w) (ha : a = a' := by (show Act.put _ (some _) _ = _; simp only [pW]; rfl)) : bC P md ops Q S ds fuel l a w := uN ha h
theorem gE {K : Act → World → Prop} {oi : Oper} {N : Option Tmp} {a : Act} {w : World} {f : FuncId} {fn : Func} {as : Array Operand} {ts : Array TypeId} {args : Array Value} {R : Ending → World → Prop} (hf : P.funcs[f]? = some fn) (hc : Calls P f args w R)
    (h : ∀ e w', R e w' → ∃ v, e = .returned v ∧ K (a.put N v) w')
    (hw : Region.wanted oi (yielded ops a.tmps) = true := by rfl) (hN : oi.dst = N := by exact rfl) (hop : oi.op = .call { callee := .value (.func f), args := as, argTypes := ts } := by exact rfl)
    (hname : (fn.name == "runtime.NumGoroutine") = false := by kernel_rfl) (hb : fn.body.isSome = true := by rfl)
    (hargs : as.map a.eval = args := by ((try simp only [List.map_toArray, List.map_cons, List.map_nil]); first | done | rfl | (simp only [List.length_drop, List.length_take]; rfl))) : if Region.wanted oi (yielded ops a.tmps) = true then Oper.wp P oi a w K Q else K (a.put N undef) w :=
  kF hf hname hb args hw hN hop hargs (hc.mono h)
theorem gQ {K : Act → World → Prop} {oi : Oper} {N : Option Tmp} {a : Act} {w : World} {f : FuncId} {fn : Func} {as : Array Operand} {ts : Array TypeId} {args : Array Value} {v : Value} {R : World → Prop} (hf : P.funcs[f]? = some fn) (hc : Calls P f args w fun e w' => e = .returned v ∧ R w')
    (h : ∀ w', R w' → K (a.put N v) w')
    (hw : Region.wanted oi (yielded ops a.tmps) = true := by rfl) (hN : oi.dst = N := by exact rfl) (hop : oi.op = .call { callee := .value (.func f), args := as, argTypes := ts } := by exact rfl)
    (hname : (fn.name == "runtime.NumGoroutine") = false := by kernel_rfl) (hb : fn.body.isSome = true := by rfl)
    (hargs : as.map a.eval = args := by ((try simp only [List.map_toArray, List.map_cons, List.map_nil]); first | done | rfl | (simp only [List.length_drop, List.length_take]; rfl))) : if Region.wanted oi (yielded ops a.tmps) = true then Oper.wp P oi a w K Q else K (a.put N undef) w :=
  kF hf hname hb args hw hN hop hargs (hc.mono fun _ w' q => ⟨v, q.1, h w' q.2⟩)
theorem oN {oi : Oper} {fuel n m : Nat} {a : Act} {w : World} (i : Nat) (N : Option Tmp)
    (h : ∀ K : Act → World → Prop, Shut (∀ a' w', S w' → (S w' → bC P md ops Q S ds fuel (bz n (m + 2 ^ i)) a' w') → K a' w') → if Region.wanted oi (yielded ops a.tmps) = true then Oper.wp P oi a w K Q else K (a.put N undef) w)
    (hi : ops[i]? = some oi := by exact rfl) (hN : oi.dst = N := by exact rfl) (hc : BS md ops (bz n m) (bz n (m + 2 ^ i)) i = true := by exact Ka HT_.out (by kernel_rfl)) (hd : i ∉ ds := by decide) :
    bC P md ops Q S ds (fuel + 1) (bz n m) a w := one_ _ hi hN hc hd h
theorem oM {oi : Oper} {fuel n m : Nat} {a : Act} {w : World} (i : Nat) (N : Option Tmp)
    (h : ∀ K : Act → World → Prop, Shut (∀ a' w', S w' → (S w' → bC P md ops Q S ds fuel (bz n (m + 2 ^ i)) a' w') → K a' w') → if Region.wanted oi (yielded ops a.tmps) = true then Oper.wp P oi a w K Q else K (a.put N undef) w)
    (hi : ops[i]? = some oi := by exact rfl) (hN : oi.dst = N := by exact rfl) (hc : BS md ops (bz n m) (bz n (m + 2 ^ i)) i = true := by kernel_rfl) (hd : i ∉ ds := by decide) :
    bC P md ops Q S ds (fuel + 1) (bz n m) a w := one_ _ hi hN hc hd h
theorem sT {id : Nat} {a : Act} {w : World} {S : World → Prop} (ds : List Nat) (n : Nat) (hS : Hd S w.drew) (h : S w.drew → bC P .any ops Q S ds n (bz n 0) a w.drew)
    (hm : P.follows .mixedOrders = true := by kernel_rfl) (hn : ops.size = n := by rfl) (hl : Array.replicate n false = bz n 0 := by kernel_rfl) : (Code.region id ops true).wp P Q a w := Yg _ hm hn hl hS.1 h
end
theorem cN {α : Type} {c : Prop} {i : Decidable c} {a : Option α} {r : α} (H : (if c then a else none) = some r) : decide c = true ∧ a = some r := by
 by_cases h : c
 ·rw [if_pos h] at H; exact ⟨decide_eq_true h, H⟩
 rw [if_neg h] at H; exact absurd H (by simp)
theorem ic {α : Type} {c : Prop} {i : Decidable c} {a b : Option α} {r : Option α} {Q : Prop} (H : (if c then a else b) = r) (h1 : decide c = true → a = r → Q) (h2 : decide c = false → b = r → Q) : Q := by
 by_cases h : c
 ·rw [if_pos h] at H; exact h1 (decide_eq_true h) H
 rw [if_neg h] at H; exact h2 (decide_eq_false h) H
theorem tC {α : Type} {t : Bool} {a b r : Option α} {Q : Prop} (H : (if t = true then a else b) = r) (h1 : t = true → a = r → Q) (h2 : t = false → b = r → Q) : Q := by
 cases t with
 | true => exact h1 rfl H
 | false => exact h2 rfl H
theorem eR {p : Prop} (h : p := by first | rfl | (simp [zU, zV] <;> rfl) | (simp [*, zU, zV] <;> rfl)) : p := h
section
variable {α : Type} {d : Kd α} {e base g i t : Nat} {w : World} {ok : Nat → Prop} {v u : Value} {l : List α} {cs : Array Value}
theorem fR (h : Kd.R d e w base (fun k => ok k ∧ k ≠ g) v l) : Kd.R d e (w.setCell ⟨g, i, none⟩ u) base (fun k => ok k ∧ k ≠ g) v l := Kd.uL (p := ⟨g, i, none⟩) h (fun _ hk => hk.2) u
theorem fN (h : Kd.N d e w base (fun k => ok k ∧ k ≠ g) v l) : Kd.N d e (w.setCell ⟨g, i, none⟩ u) base (fun k => ok k ∧ k ≠ g) v l := Kd.Gn (p := ⟨g, i, none⟩) h (fun _ hk => hk.2) u
theorem fS (h : Kd.S d e w base (fun k => ok k ∧ k ≠ g) v l) : Kd.S d e (w.setCell ⟨g, i, none⟩ u) base (fun k => ok k ∧ k ≠ g) v l := Kd.Ap (p := ⟨g, i, none⟩) h (fun _ hk => hk.2) u
theorem tR (h : aD (Kd.R d e w base ok v l)) (hb : aD (w.heap[g]? = some (.cells cs t (0, 0)))) (ht : ∀ q, q ∈ e :: d.E → q ≠ t := by decide) : Kd.R d e w base (fun k => ok k ∧ k ≠ g) v l := Kd.iX h.1 hb.1 ht
theorem tS (h : aD (Kd.S d e w base ok v l)) (hb : aD (w.heap[g]? = some (.cells cs t (0, 0)))) (ht : ∀ q, q ∈ e :: d.E → q ≠ t := by decide) : Kd.S d e w base (fun k => ok k ∧ k ≠ g) v l := Kd.Aq h.1 hb.1 ht
end
theorem bW {α β : Type} {x y : α} {f : α → Option β} {r : β} (e : aD (y = x)) (h : (some x).bind f = some r) : f y = some r := by rw [e.1]; exact h
theorem fB {w : World} {g : Nat} {o : Obj} (hb : w.heap[g]? = some o) (k : Nat) (hk : w.heap.size ≤ k) : k ≠ g := Kd.FR hb k hk
section
variable {α : Type} {d : Kd α} {e base g t : Nat} {w w1 W : World} {o : Obj} {ok : Nat → Prop} {v : Value} {l : List α} {cs : Array Value}
theorem gkR (h : w.heap[g]? = some o) (hg : w.grownBy w1 v.ownBlock) (ho : aD (Kd.R d e W base ok v l)) (hb : aD (W.heap[g]? = some (.cells cs t (0, 0)))) (ht : e ≠ t := by decide) : aD (w1.heap[g]? = some o) := ⟨mG h hg (Kd.R_ne ho.1 hb.1 ht)⟩
theorem gkN (h : w.heap[g]? = some o) (hg : w.grownBy w1 v.ownBlock) (ho : aD (Kd.N d e W base ok v l)) (hb : aD (W.heap[g]? = some (.cells cs t (0, 0)))) (ht : e ≠ t := by decide) : aD (w1.heap[g]? = some o) := ⟨mG h hg (Kd.N_ne ho.1 hb.1 ht)⟩
theorem gkS (h : w.heap[g]? = some o) (hg : w.grownBy w1 v.ownBlock) (ho : aD (Kd.S d e W base ok v l)) (hb : aD (W.heap[g]? = some (.cells cs t (0, 0)))) (ht : e ≠ t := by decide) : aD (w1.heap[g]? = some o) := ⟨mG h hg (Kd.S_ne ho.1 hb.1 ht)⟩
end
theorem cL {α : Type} {c : Prop} {i : Decidable c} {a : Option α} {r : α} (H : (if c then a else none) = some r) : aD c ∧ a = some r := ⟨⟨of_decide_eq_true (cN H).1⟩, (cN H).2⟩
theorem cP {α : Type} {c : Prop} {i : Decidable c} {a : Option α} {r : α} (H : (if c then a else none) = some r) : c = True ∧ decide c = true ∧ a = some r := ⟨eq_true (of_decide_eq_true (cN H).1), (cN H).1, (cN H).2⟩
theorem iq {α β : Type} [BEq β] [LawfulBEq β] {x y : β} {i : Decidable (x = y)} {a b r : Option α} {Q : Prop} (H : (if x = y then a else b) = r) (h1 : True → (x == y) = true → (x != y) = false → a = r → Q) (h2 : ¬ x = y → (x == y) = false → (x != y) = true → b = r → Q) : Q := by
 by_cases h : x = y
 ·rw [if_pos h] at H; exact h1 trivial (beq_iff_eq.mpr h) (bne_eq_false_iff_eq.mpr h) H
 rw [if_neg h] at H; exact h2 h (beq_eq_false_iff_ne.mpr h) (bne_iff_ne.mpr h) H
theorem b0 {w : World} : aD (Below w.heap.size w w) := ⟨Below.refl _ _⟩
theorem aS {w W : World} {A : Option Addr} {n : Nat} {xs : List ByteArray} (h : aD (Kd.C Kd.string w A n xs)) (hb : aD (Below w.heap.size w W)) (i : Int) (p : 0 ≤ i := by exact oT) (q : i < (n : Int) := by exact oT) :
  ∃ ad, A = some ad ∧ W.cell? (ad.add i.toNat) = some (.string (rdOf ByteArray.empty xs i)) ∧ (0 ≤ i) = True ∧ (i < (n : Int)) = True := by
 obtain ⟨ad, e, hx⟩ := Kd.uX h.1 i p q
 exact ⟨ad, e, hX hb hx, eq_true p, eq_true q⟩
theorem aSw {w W : World} {A : Option Addr} {n : Nat} {xs : List ByteArray} (h : aD (Kd.C Kd.string w A n xs)) (hb : aD (Below w.heap.size w W)) (i : Int) (p : 0 ≤ i := by exact oT) (q : i < (n : Int) := by exact oT) :
  ∃ ad, A = some ad ∧ w.cell? (ad.add i.toNat) = some (.string (rdOf ByteArray.empty xs i)) ∧ W.cell? (ad.add i.toNat) = some (.string (rdOf ByteArray.empty xs i)) ∧ (0 ≤ i) = True ∧ (i < (n : Int)) = True := by
 obtain ⟨ad, e, hx⟩ := Kd.uX h.1 i p q
 exact ⟨ad, e, hx, hX hb hx, eq_true p, eq_true q⟩
abbrev F10 (w : World) (v0 : Value) : Nat → Prop := fun k => w.heap.size ≤ k ∧ some k ≠ v0.ownBlock
abbrev F12 (w : World) (v0 : Value) (g0 g1 : Nat) : Nat → Prop := fun k => w.heap.size ≤ k ∧ some k ≠ v0.ownBlock ∧ k ≠ g0 ∧ k ≠ g1
abbrev F13 (w : World) (v0 : Value) (g0 g1 g2 : Nat) : Nat → Prop := fun k => w.heap.size ≤ k ∧ some k ≠ v0.ownBlock ∧ k ≠ g0 ∧ k ≠ g1 ∧ k ≠ g2
abbrev F23 (w : World) (v0 v1 : Value) (g0 g1 g2 : Nat) : Nat → Prop := fun k => w.heap.size ≤ k ∧ some k ≠ v0.ownBlock ∧ some k ≠ v1.ownBlock ∧ k ≠ g0 ∧ k ≠ g1 ∧ k ≠ g2
abbrev F33 (w : World) (v0 v1 v2 : Value) (g0 g1 g2 : Nat) : Nat → Prop := fun k => w.heap.size ≤ k ∧ some k ≠ v0.ownBlock ∧ some k ≠ v1.ownBlock ∧ some k ≠ v2.ownBlock ∧ k ≠ g0 ∧ k ≠ g1 ∧ k ≠ g2
abbrev F34 (w : World) (v0 v1 v2 : Value) (g0 g1 g2 g3 : Nat) : Nat → Prop := fun k => w.heap.size ≤ k ∧ some k ≠ v0.ownBlock ∧ some k ≠ v1.ownBlock ∧ some k ≠ v2.ownBlock ∧ k ≠ g0 ∧ k ≠ g1 ∧ k ≠ g2 ∧ k ≠ g3
abbrev F43 (w : World) (v0 v1 v2 v3 : Value) (g0 g1 g2 : Nat) : Nat → Prop := fun k => w.heap.size ≤ k ∧ some k ≠ v0.ownBlock ∧ some k ≠ v1.ownBlock ∧ some k ≠ v2.ownBlock ∧ some k ≠ v3.ownBlock ∧ k ≠ g0 ∧ k ≠ g1 ∧ k ≠ g2
abbrev F44 (w : World) (v0 v1 v2 v3 : Value) (g0 g1 g2 g3 : Nat) : Nat → Prop := fun k => w.heap.size ≤ k ∧ some k ≠ v0.ownBlock ∧ some k ≠ v1.ownBlock ∧ some k ≠ v2.ownBlock ∧ some k ≠ v3.ownBlock ∧ k ≠ g0 ∧ k ≠ g1 ∧ k ≠ g2 ∧ k ≠ g3
abbrev F54 (w : World) (v0 v1 v2 v3 v4 : Value) (g0 g1 g2 g3 : Nat) : Nat → Prop := fun k => w.heap.size ≤ k ∧ some k ≠ v0.ownBlock ∧ some k ≠ v1.ownBlock ∧ some k ≠ v2.ownBlock ∧ some k ≠ v3.ownBlock ∧ some k ≠ v4.ownBlock ∧ k ≠ g0 ∧ k ≠ g1 ∧ k ≠ g2 ∧ k ≠ g3
section
theorem nZ1 {p q : Prop} (a : aD p) (b : aD q) : p ∧ q := ⟨a.1, b.1⟩
theorem nZ2 {p q r s : Prop} (a : aD p) (b : aD q) (c : aD r) (d : aD s) : p ∧ q ∧ r ∧ s := ⟨a.1, b.1, c.1, d.1⟩
theorem nZ3 {p q r s t u : Prop} (a : aD p) (b : aD q) (c : aD r) (d : aD s) (e : aD t) (f : aD u) : p ∧ q ∧ r ∧ s ∧ t ∧ u := ⟨a.1, b.1, c.1, d.1, e.1, f.1⟩
theorem dR {p : Prop} (h : p := by first | exact ⟨rfl, _, World.drewN_drewN _ _ _⟩ | exact ⟨rfl, _, Eq.trans (World.drewN_drewN _ _ _) (congrArg (World.drewN _) (Nat.add_assoc _ _ _))⟩) : p := h
theorem sZ2 {α β : Type} {a x : α} {b y : β} (h : some (a, b) = some (x, y)) : a = x ∧ b = y := by cases h; exact ⟨rfl, rfl⟩
theorem sZ3 {α β γ : Type} {a x : α} {b y : β} {c z : γ} (h : some (a, b, c) = some (x, y, z)) : a = x ∧ b = y ∧ c = z := by cases h; exact ⟨rfl, rfl, rfl⟩
theorem sj {A B : Option Addr} {n m c d : Nat} (h : Value.slice A n c = Value.slice B m d) : B = A ∧ d = c := by cases h; exact ⟨rfl, rfl⟩
theorem aB (b : ByteArray) (i : Int) (p : 0 ≤ i := by exact oT) (q : i < (b.size : Int) := by exact oT) : (∀ h : i.toNat < b.size, ((b[i.toNat]'h).toNat : Int) = bt b i) ∧ (0 ≤ i) = True ∧ (i < (b.size : Int)) = True := ⟨fe b i, eq_true p, eq_true q⟩
theorem put2 {w : World} {g t : Nat} {a b u v : Value} (h : w.heap[g]? = some (.cells #[a, b] t (0, 0))) : ((w.setCell ⟨g, 0, none⟩ u).setCell ⟨g, 1, none⟩ v).heap[g]? = some (.cells #[u, v] t (0, 0)) := bD (cs := #[u, b]) (bD (cs := #[a, b]) h 0 u rfl) 1 v rfl
theorem qP {p : Prop} {w : World} {g t : Nat} {a b : Value} (h : aD (w.heap[g]? = some (.cells #[a, b] t (0, 0)))) (q : w.heap[g]? = some (.cells #[a, b] t (0, 0)) → p := by (intro hx; refine rB ?_; first | (with_reducible exact put2 hx) | (apply bD; refine rB ?_; apply bD; refine rB ?_; exact hx; all_goals rfl))) : p := q h.1
theorem far1 {w : World} {g x i t : Nat} {cs : Array Value} {u : Value} (h : w.heap[g]? = some (.cells cs t (0, 0))) (n : g ≠ x) : (w.setCell ⟨x, i, none⟩ u).heap[g]? = some (.cells cs t (0, 0)) := eX h n u
theorem qF {p : Prop} {w : World} {g x : Nat} {o : Obj} (h : aD (w.heap[g]? = some o)) (n : aD (g ≠ x)) (q : w.heap[g]? = some o → g ≠ x → p := by (intro hx hn; refine rB ?_; (with_reducible repeat (first | exact hx | refine far1 ?_ hn)); try (refine rB ?_; (with_reducible repeat (first | exact hx | refine far1 ?_ hn)); try (refine rB ?_; exact hx)))) : p := q h.1 n.1
theorem eW3 (w : World) (g : Nat) (a b c : Value) : ∃ v, v = ((w.setCell ⟨g, 0, none⟩ a).setCell ⟨g, 1, none⟩ b).setCell ⟨g, 2, none⟩ c := ⟨_, rfl⟩
theorem eZ2 {w : World} {p : Addr} {A B : Option Addr} {n m c d : Nat} (h : w.cell? p = some (.slice A n c)) (k : w.cell? p = some (.slice B m d)) : A = B ∧ c = d := by
 have e := Option.some.inj (h.symm.trans k)
 injection e with a b c
 exact ⟨a, c⟩
theorem mZ2 {p q : Prop} (a : p) (b : q) : aD p ∧ aD q := ⟨⟨a⟩, ⟨b⟩⟩
abbrev FA (P : Nat → Prop) (v : Value) : Nat → Prop := fun k => P k ∧ some k ≠ v.ownBlock
section
variable {α : Type} {d : Kd α} {e base g t : Nat} {w w1 W : World} {ok : Nat → Prop} {v : Value} {l : List α} {cs : Array Value}
theorem mR {p : Prop} (h : aD (Kd.R d e w base ok v l)) (b : aD (w.heap[g]? = some (.cells cs t (0, 0)))) (ht : ∀ q, q ∈ e :: d.E → q ≠ t := by decide) (q : Kd.R d e w base (fun k => ok k ∧ k ≠ g) v l → p := by (intro hx; refine rR ?_; refine Kd.bG (by first | exact fR (fR hx) | exact fR hx | exact fR (fR (fR hx))) (fun _ hk => ?_); first | trivial | exact hk.1 | exact hk.1.1 | exact hk.1.1.1 | exact hk)) : p := q (Kd.iX h.1 b.1 ht)
theorem mS {p : Prop} (h : aD (Kd.S d e w base ok v l)) (b : aD (w.heap[g]? = some (.cells cs t (0, 0)))) (ht : ∀ q, q ∈ e :: d.E → q ≠ t := by decide) (q : Kd.S d e w base (fun k => ok k ∧ k ≠ g) v l → p := by (intro hx; refine rS ?_; refine Kd.fU (by first | exact fS (fS hx) | exact fS hx | exact fS (fS (fS hx))) (fun _ hk => ?_); first | trivial | exact hk.1 | exact hk.1.1 | exact hk.1.1.1 | exact hk)) : p := q (Kd.Aq h.1 b.1 ht)
theorem RB (h : Kd.R d e w base ok v l) (hb : Below w.heap.size w w1) : aD (Kd.R d e w1 base ok v l) := ⟨Kd.iI h hb⟩
theorem SB (h : Kd.S d e w base ok v l) (hb : Below w.heap.size w w1) : aD (Kd.S d e w1 base ok v l) := ⟨Kd.rA h hb⟩
theorem NE (h : Kd.N d e w base ok v l) (hb : Below w.heap.size w w1) : aD (Kd.N d e w1 base ok v l) := ⟨Kd.l9 h hb⟩
theorem RD (h : aD (Kd.R d e w base ok v l)) : aD (Kd.R d e w.drew base ok v l) := ⟨Kd.qM h.1⟩
theorem SD (h : aD (Kd.S d e w base ok v l)) : aD (Kd.S d e w.drew base ok v l) := ⟨Kd.NL h.1⟩
theorem ND (h : aD (Kd.N d e w base ok v l)) : aD (Kd.N d e w.drew base ok v l) := ⟨Kd.NH h.1⟩
end
theorem BD {w : World} {g t : Nat} {cs : Array Value} (h : aD (w.heap[g]? = some (.cells cs t (0, 0)))) : aD (w.drew.heap[g]? = some (.cells cs t (0, 0))) := ⟨dM h.1⟩
theorem eN {p : Prop} (h : p := by first | exact Kd.tX _ _ _ _ _ | exact Kd.wI _ _ _ _ _ | exact Kd.sS _ _ _ _ _ | exact Kd.wK _ _ _ _ _ | exact Kd.oQ _ _ _ _ _) : p := h
abbrev Ag0 : Value := .agg #[(.string ⟨#[]⟩), (.slice none 0 0), (.slice none 0 0)]
theorem Kr (w : World) (base : Nat) (ok : Nat → Prop) : ∀ xs : List ByteArray, Reps (Kd.M Kd.string w base ok) Kd.string.sz xs (xs.map Value.string)
  | [] => Reps.none _ _
  | a :: l => Reps.one (show Kd.M Kd.string _ _ _ a [.string a] from rfl) (Kr w base ok l)
end
section
variable {P : Program} {fn : Func} {R : Ending → World → Prop} {a : Act} {w : World} {p u : Tmp} {ty : TypeId} {d : TypeDesc}
theorem cT (g t : Nat) (cs : Array Value) (hg : w.heap[g]? = some (.cells cs t (0, 0))) (hu : P.underlying ty = some d) (hR : R (.returned (.tuple #[.agg cs, a.tmps.getD u undef])) w) (h : fn.results = #[.cell p ty, .tmp u] := by exact rfl) (hp : a.tmps.getD p undef = .pointer (some ⟨g, 0, none⟩) := by exact rfl) (hd : (match d with | .struct _ | .array _ _ => true | _ => false) = true := by exact rfl) (hi : (P.info? ty).map (·.size) = some cs.size := by kernel_rfl) (hf : a.defers = [] := by exact rfl) : bodyPost P fn R .ret a w :=
  bodyPost_ret (ZF h _ _ g t cs (0, 0) _ hp hg hu hd hi) hf hR
theorem cR (g t : Nat) (cs : Array Value) (hg : w.heap[g]? = some (.cells cs t (0, 0))) (hu : P.underlying ty = some d) (hR : R (.returned (.agg cs)) w) (h : fn.results = #[.cell p ty] := by exact rfl) (hp : a.tmps.getD p undef = .pointer (some ⟨g, 0, none⟩) := by exact rfl) (hd : (match d with | .struct _ | .array _ _ => true | _ => false) = true := by exact rfl) (hi : (P.info? ty).map (·.size) = some cs.size := by kernel_rfl) (hf : a.defers = [] := by exact rfl) : bodyPost P fn R .ret a w :=
  bodyPost_ret (results_cell_row h _ _ g t cs (0, 0) _ hp hg hu hd hi) hf hR
end
section
variable {P : Program} {ops : Array Oper} {rest : List Oper} {o : Oper} {a : Act} {Q : Exit → Act → World → Prop} {W : World} {Kc : Act → World → Prop}
theorem lS (e : Nat) (N : Tmp) {xs y : List ByteArray} (hy : aD (y = xs))
    (h : ∀ v1 w1, Kd.R Kd.string e w1 W.heap.size (fun _ => True) v1 y → Below W.heap.size W w1 → wpList P ops Q rest (a.put o.dst v1) w1) (hd : o.dst = some N := by rfl) (hg : o.guard = none := by rfl)
    (hr : (execOp a.eval o).run P W = .ok (.value (.slice (some ⟨W.heap.size, 0, none⟩) xs.length xs.length)) (W.alloc (.cells (xs.map Value.string).toArray e)) := by first | (go_simp; done) | (go_simp; rfl)) (hm : xs.length ≤ 9223372036854775807 := by simp) : wpList P ops Q (o :: rest) a W :=
  Kd.H6 Kd.string _ e hg hd hr (Kr _ _ (fun _ => True) xs) (fun _ hk => hk) trivial (Below.refl _ _) (Nat.le_refl _) hm (fun v w r b _ _ => h v w (hy.1 ▸ r) b)
theorem lT (e : Nat) (N : Tmp) {xs y : List ByteArray} (hy : aD (y = xs))
    (h : ∀ v1 w1, Kd.R Kd.string e w1 W.heap.size (fun _ => True) v1 y → Below W.heap.size W w1 → Kc (a.put o.dst v1) w1) (hd : o.dst = some N := by rfl) (hg : Region.wanted o (yielded ops a.tmps) = true := by rfl)
    (hr : (execOp a.eval o).run P W = .ok (.value (.slice (some ⟨W.heap.size, 0, none⟩) xs.length xs.length)) (W.alloc (.cells (xs.map Value.string).toArray e)) := by first | (go_simp; done) | (go_simp; rfl)) (hm : xs.length ≤ 9223372036854775807 := by simp) : if Region.wanted o (yielded ops a.tmps) = true then Oper.wp P o a W Kc Q else Kc (a.put o.dst undef) W :=
  Kd.FL Kd.string _ e hg hd hr (Kr _ _ (fun _ => True) xs) (fun _ hk => hk) trivial (Below.refl _ _) (Nat.le_refl _) hm (fun v w r b _ _ => h v w (hy.1 ▸ r) b)
end
section
variable {P : Program} {ops : Array Oper} {Q : Exit → Act → World → Prop} {md : Region.Mode} {S : World → Prop} {ds : List Nat}
theorem dN {l : Array Bool} {a : Act} {w : World} {n : Nat} (h : Q .normal a w) (hr : (Region.ready md ops l == []) = true := by exact Nz HT_.out (by kernel_rfl)) : bC P md ops Q S ds n l a w := qO hr h
theorem nK {fuel : Nat} {l : Array Bool} {a a' : Act} {w : World} {K : Act → World → Prop} (hK : Shut (∀ a' w', S w' → (S w' → bC P md ops Q S ds fuel l a' w') → K a' w')) (s : S w) (h : S w → bC P md ops Q S ds fuel l a' w) (ha : a = a' := by (show Act.put _ (some _) _ = _; simp only [pW]; rfl)) : K a w := hK.out _ _ s (fun hS => uN ha (h hS))
theorem lN {oi : Oper} {fuel n m : Nat} {a : Act} {w : World} (i : Nat) (N : Option Tmp)
    (h : ∀ K : Act → World → Prop, Shut (∀ a' w', bC P md ops Q S ds fuel (bz n (m + 2 ^ i)) a' w' → K a' w') → if Region.wanted oi (yielded ops a.tmps) = true then Oper.wp P oi a w K Q else K (a.put N undef) w)
    (hi : ops[i]? = some oi := by exact rfl) (hN : oi.dst = N := by exact rfl) (hc : BS md ops (bz n m) (bz n (m + 2 ^ i)) i = true := by exact Ka HT_.out (by kernel_rfl)) (hd : i ∈ ds := by decide) : bC P md ops Q S ds (fuel + 1) (bz n m) a w := R9 _ hi hN hc hd h
def St (P : Program) (ops : Array Oper) (Q : Exit → Act → World → Prop) (md : Region.Mode) (S : World → Prop) (ds : List Nat) (n m i : Nat) (a b : Act) : Prop := ∀ f w, bC P md ops Q S ds f (bz n (m + 2 ^ i)) b w → bC P md ops Q S ds (f + 1) (bz n m) a w
section
variable {n m i : Nat} {oi : Oper} {N : Tmp} {a b : Act} {v : Value}
theorem uU (hi : ops[i]? = some oi := by exact rfl) (hN : oi.dst = some N := by exact rfl) (hc : anyB md ops (bz n m) (bz n (m + 2 ^ i)) i = true := by exact TA HT_.out (by kernel_rfl)) (hQ : ∀ c a w, Q (.panic c) (a.put oi.dst v) w → Q (.panic c) a w := by exact (fun _ _ _ h => h)) (hy : Yields P ops oi v a := by exact Or.inl ⟨by rfl, by intro w'; go_simp; with_reducible rfl⟩) (ha : a.put (some N) v = b := by (simp only [pW]; rfl)) : St P ops Q md S ds n m i a b := fun _ _ h => pU i (some N) h hi hN hc hQ hy ha
theorem uV (hi : ops[i]? = some oi := by exact rfl) (hN : oi.dst = some N := by exact rfl) (hc : anyB md ops (bz n m) (bz n (m + 2 ^ i)) i = true := by exact TA HT_.out (by kernel_rfl)) (hQ : ∀ c a w, Q (.panic c) (a.put oi.dst undef) w → Q (.panic c) a w := by exact (fun _ _ _ h => h)) (hy : Yields P ops oi undef a := by exact Or.inr ⟨by rfl, rfl⟩) (ha : a.put (some N) undef = b := by (simp only [pW]; rfl)) : St P ops Q md S ds n m i a b := fun _ _ h => pV i (some N) h hi hN hc hQ hy ha
end
variable {n m f : Nat} {a b : Act} {w : World}
theorem pU1 (i0 : Nat) (h : bC P md ops Q S ds f (bz n (m + 2 ^ i0)) b w) (c0 : St P ops Q md S ds n m i0 a b := by exact uU) : bC P md ops Q S ds (f + 1) (bz n m) a w := c0 _ _ h
theorem pU2 {b1 : Act} (i0 i1 : Nat) (h : bC P md ops Q S ds f (bz n (m + 2 ^ i0 + 2 ^ i1)) b w) (c0 : St P ops Q md S ds n m i0 a b1 := by exact uU) (c1 : St P ops Q md S ds n (m + 2 ^ i0) i1 b1 b := by exact uU) : bC P md ops Q S ds (f + 1 + 1) (bz n m) a w := c0 _ _ (c1 _ _ h)
theorem pU3 {b1 b2 : Act} (i0 i1 i2 : Nat) (h : bC P md ops Q S ds f (bz n (m + 2 ^ i0 + 2 ^ i1 + 2 ^ i2)) b w) (c0 : St P ops Q md S ds n m i0 a b1 := by exact uU) (c1 : St P ops Q md S ds n (m + 2 ^ i0) i1 b1 b2 := by exact uU) (c2 : St P ops Q md S ds n (m + 2 ^ i0 + 2 ^ i1) i2 b2 b := by exact uU) : bC P md ops Q S ds (f + 1 + 1 + 1) (bz n m) a w := c0 _ _ (c1 _ _ (c2 _ _ h))
theorem pU4 {b1 b2 b3 : Act} (i0 i1 i2 i3 : Nat) (h : bC P md ops Q S ds f (bz n (m + 2 ^ i0 + 2 ^ i1 + 2 ^ i2 + 2 ^ i3)) b w) (c0 : St P ops Q md S ds n m i0 a b1 := by exact uU) (c1 : St P ops Q md S ds n (m + 2 ^ i0) i1 b1 b2 := by exact uU) (c2 : St P ops Q md S ds n (m + 2 ^ i0 + 2 ^ i1) i2 b2 b3 := by exact uU) (c3 : St P ops Q md S ds n (m + 2 ^ i0 + 2 ^ i1 + 2 ^ i2) i3 b3 b := by exact uU) : bC P md ops Q S ds (f + 1 + 1 + 1 + 1) (bz n m) a w := c0 _ _ (c1 _ _ (c2 _ _ (c3 _ _ h)))
theorem pU5 {b1 b2 b3 b4 : Act} (i0 i1 i2 i3 i4 : Nat) (h : bC P md ops Q S ds f (bz n (m + 2 ^ i0 + 2 ^ i1 + 2 ^ i2 + 2 ^ i3 + 2 ^ i4)) b w) (c0 : St P ops Q md S ds n m i0 a b1 := by exact uU) (c1 : St P ops Q md S ds n (m + 2 ^ i0) i1 b1 b2 := by exact uU) (c2 : St P ops Q md S ds n (m + 2 ^ i0 + 2 ^ i1) i2 b2 b3 := by exact uU) (c3 : St P ops Q md S ds n (m + 2 ^ i0 + 2 ^ i1 + 2 ^ i2) i3 b3 b4 := by exact uU) (c4 : St P ops Q md S ds n (m + 2 ^ i0 + 2 ^ i1 + 2 ^ i2 + 2 ^ i3) i4 b4 b := by exact uU) : bC P md ops Q S ds (f + 1 + 1 + 1 + 1 + 1) (bz n m) a w := c0 _ _ (c1 _ _ (c2 _ _ (c3 _ _ (c4 _ _ h))))
theorem pU6 {b1 b2 b3 b4 b5 : Act} (i0 i1 i2 i3 i4 i5 : Nat) (h : bC P md ops Q S ds f (bz n (m + 2 ^ i0 + 2 ^ i1 + 2 ^ i2 + 2 ^ i3 + 2 ^ i4 + 2 ^ i5)) b w) (c0 : St P ops Q md S ds n m i0 a b1 := by exact uU) (c1 : St P ops Q md S ds n (m + 2 ^ i0) i1 b1 b2 := by exact uU) (c2 : St P ops Q md S ds n (m + 2 ^ i0 + 2 ^ i1) i2 b2 b3 := by exact uU) (c3 : St P ops Q md S ds n (m + 2 ^ i0 + 2 ^ i1 + 2 ^ i2) i3 b3 b4 := by exact uU) (c4 : St P ops Q md S ds n (m + 2 ^ i0 + 2 ^ i1 + 2 ^ i2 + 2 ^ i3) i4 b4 b5 := by exact uU) (c5 : St P ops Q md S ds n (m + 2 ^ i0 + 2 ^ i1 + 2 ^ i2 + 2 ^ i3 + 2 ^ i4) i5 b5 b := by exact uU) : bC P md ops Q S ds (f + 1 + 1 + 1 + 1 + 1 + 1) (bz n m) a w := c0 _ _ (c1 _ _ (c2 _ _ (c3 _ _ (c4 _ _ (c5 _ _ h)))))
theorem pU7 {b1 b2 b3 b4 b5 b6 : Act} (i0 i1 i2 i3 i4 i5 i6 : Nat) (h : bC P md ops Q S ds f (bz n (m + 2 ^ i0 + 2 ^ i1 + 2 ^ i2 + 2 ^ i3 + 2 ^ i4 + 2 ^ i5 + 2 ^ i6)) b w) (c0 : St P ops Q md S ds n m i0 a b1 := by exact uU) (c1 : St P ops Q md S ds n (m + 2 ^ i0) i1 b1 b2 := by exact uU) (c2 : St P ops Q md S ds n (m + 2 ^ i0 + 2 ^ i1) i2 b2 b3 := by exact uU) (c3 : St P ops Q md S ds n (m + 2 ^ i0 + 2 ^ i1 + 2 ^ i2) i3 b3 b4 := by exact uU) (c4 : St P ops Q md S ds n (m + 2 ^ i0 + 2 ^ i1 + 2 ^ i2 + 2 ^ i3) i4 b4 b5 := by exact uU) (c5 : St P ops Q md S ds n (m + 2 ^ i0 + 2 ^ i1 + 2 ^ i2 + 2 ^ i3 + 2 ^ i4) i5 b5 b6 := by exact uU) (c6 : St P ops Q md S ds n (m + 2 ^ i0 + 2 ^ i1 + 2 ^ i2 + 2 ^ i3 + 2 ^ i4 + 2 ^ i5) i6 b6 b := by exact uU) : bC P md ops Q S ds (f + 1 + 1 + 1 + 1 + 1 + 1 + 1) (bz n m) a w := c0 _ _ (c1 _ _ (c2 _ _ (c3 _ _ (c4 _ _ (c5 _ _ (c6 _ _ h))))))
theorem pU8 {b1 b2 b3 b4 b5 b6 b7 : Act} (i0 i1 i2 i3 i4 i5 i6 i7 : Nat) (h : bC P md ops Q S ds f (bz n (m + 2 ^ i0 + 2 ^ i1 + 2 ^ i2 + 2 ^ i3 + 2 ^ i4 + 2 ^ i5 + 2 ^ i6 + 2 ^ i7)) b w) (c0 : St P ops Q md S ds n m i0 a b1 := by exact uU) (c1 : St P ops Q md S ds n (m + 2 ^ i0) i1 b1 b2 := by exact uU) (c2 : St P ops Q md S ds n (m + 2 ^ i0 + 2 ^ i1) i2 b2 b3 := by exact uU) (c3 : St P ops Q md S ds n (m + 2 ^ i0 + 2 ^ i1 + 2 ^ i2) i3 b3 b4 := by exact uU) (c4 : St P ops Q md S ds n (m + 2 ^ i0 + 2 ^ i1 + 2 ^ i2 + 2 ^ i3) i4 b4 b5 := by exact uU) (c5 : St P ops Q md S ds n (m + 2 ^ i0 + 2 ^ i1 + 2 ^ i2 + 2 ^ i3 + 2 ^ i4) i5 b5 b6 := by exact uU) (c6 : St P ops Q md S ds n (m + 2 ^ i0 + 2 ^ i1 + 2 ^ i2 + 2 ^ i3 + 2 ^ i4 + 2 ^ i5) i6 b6 b7 := by exact uU) (c7 : St P ops Q md S ds n (m + 2 ^ i0 + 2 ^ i1 + 2 ^ i2 + 2 ^ i3 + 2 ^ i4 + 2 ^ i5 + 2 ^ i6) i7 b7 b := by exact uU) : bC P md ops Q S ds (f + 1 + 1 + 1 + 1 + 1 + 1 + 1 + 1) (bz n m) a w := c0 _ _ (c1 _ _ (c2 _ _ (c3 _ _ (c4 _ _ (c5 _ _ (c6 _ _ (c7 _ _ h)))))))
theorem pV1 (i0 : Nat) (h : bC P md ops Q S ds f (bz n (m + 2 ^ i0)) b w) (c0 : St P ops Q md S ds n m i0 a b := by exact uV) : bC P md ops Q S ds (f + 1) (bz n m) a w := c0 _ _ h
theorem pV2 {b1 : Act} (i0 i1 : Nat) (h : bC P md ops Q S ds f (bz n (m + 2 ^ i0 + 2 ^ i1)) b w) (c0 : St P ops Q md S ds n m i0 a b1 := by exact uV) (c1 : St P ops Q md S ds n (m + 2 ^ i0) i1 b1 b := by exact uV) : bC P md ops Q S ds (f + 1 + 1) (bz n m) a w := c0 _ _ (c1 _ _ h)
theorem pV5 {b1 b2 b3 b4 : Act} (i0 i1 i2 i3 i4 : Nat) (h : bC P md ops Q S ds f (bz n (m + 2 ^ i0 + 2 ^ i1 + 2 ^ i2 + 2 ^ i3 + 2 ^ i4)) b w) (c0 : St P ops Q md S ds n m i0 a b1 := by exact uV) (c1 : St P ops Q md S ds n (m + 2 ^ i0) i1 b1 b2 := by exact uV) (c2 : St P ops Q md S ds n (m + 2 ^ i0 + 2 ^ i1) i2 b2 b3 := by exact uV) (c3 : St P ops Q md S ds n (m + 2 ^ i0 + 2 ^ i1 + 2 ^ i2) i3 b3 b4 := by exact uV) (c4 : St P ops Q md S ds n (m + 2 ^ i0 + 2 ^ i1 + 2 ^ i2 + 2 ^ i3) i4 b4 b := by exact uV) : bC P md ops Q S ds (f + 1 + 1 + 1 + 1 + 1) (bz n m) a w := c0 _ _ (c1 _ _ (c2 _ _ (c3 _ _ (c4 _ _ h))))
theorem pV6 {b1 b2 b3 b4 b5 : Act} (i0 i1 i2 i3 i4 i5 : Nat) (h : bC P md ops Q S ds f (bz n (m + 2 ^ i0 + 2 ^ i1 + 2 ^ i2 + 2 ^ i3 + 2 ^ i4 + 2 ^ i5)) b w) (c0 : St P ops Q md S ds n m i0 a b1 := by exact uV) (c1 : St P ops Q md S ds n (m + 2 ^ i0) i1 b1 b2 := by exact uV) (c2 : St P ops Q md S ds n (m + 2 ^ i0 + 2 ^ i1) i2 b2 b3 := by exact uV) (c3 : St P ops Q md S ds n (m + 2 ^ i0 + 2 ^ i1 + 2 ^ i2) i3 b3 b4 := by exact uV) (c4 : St P ops Q md S ds n (m + 2 ^ i0 + 2 ^ i1 + 2 ^ i2 + 2 ^ i3) i4 b4 b5 := by exact uV) (c5 : St P ops Q md S ds n (m + 2 ^ i0 + 2 ^ i1 + 2 ^ i2 + 2 ^ i3 + 2 ^ i4) i5 b5 b := by exact uV) : bC P md ops Q S ds (f + 1 + 1 + 1 + 1 + 1 + 1) (bz n m) a w := c0 _ _ (c1 _ _ (c2 _ _ (c3 _ _ (c4 _ _ (c5 _ _ h)))))
theorem pV8 {b1 b2 b3 b4 b5 b6 b7 : Act} (i0 i1 i2 i3 i4 i5 i6 i7 : Nat) (h : bC P md ops Q S ds f (bz n (m + 2 ^ i0 + 2 ^ i1 + 2 ^ i2 + 2 ^ i3 + 2 ^ i4 + 2 ^ i5 + 2 ^ i6 + 2 ^ i7)) b w) (c0 : St P ops Q md S ds n m i0 a b1 := by exact uV) (c1 : St P ops Q md S ds n (m + 2 ^ i0) i1 b1 b2 := by exact uV) (c2 : St P ops Q md S ds n (m + 2 ^ i0 + 2 ^ i1) i2 b2 b3 := by exact uV) (c3 : St P ops Q md S ds n (m + 2 ^ i0 + 2 ^ i1 + 2 ^ i2) i3 b3 b4 := by exact uV) (c4 : St P ops Q md S ds n (m + 2 ^ i0 + 2 ^ i1 + 2 ^ i2 + 2 ^ i3) i4 b4 b5 := by exact uV) (c5 : St P ops Q md S ds n (m + 2 ^ i0 + 2 ^ i1 + 2 ^ i2 + 2 ^ i3 + 2 ^ i4) i5 b5 b6 := by exact uV) (c6 : St P ops Q md S ds n (m + 2 ^ i0 + 2 ^ i1 + 2 ^ i2 + 2 ^ i3 + 2 ^ i4 + 2 ^ i5) i6 b6 b7 := by exact uV) (c7 : St P ops Q md S ds n (m + 2 ^ i0 + 2 ^ i1 + 2 ^ i2 + 2 ^ i3 + 2 ^ i4 + 2 ^ i5 + 2 ^ i6) i7 b7 b := by exact uV) : bC P md ops Q S ds (f + 1 + 1 + 1 + 1 + 1 + 1 + 1 + 1) (bz n m) a w := c0 _ _ (c1 _ _ (c2 _ _ (c3 _ _ (c4 _ _ (c5 _ _ (c6 _ _ (c7 _ _ h)))))))
end
section
end
end Go.Proofs.YtaofjgnhapnndaaGreatDoorW.PrintLast
