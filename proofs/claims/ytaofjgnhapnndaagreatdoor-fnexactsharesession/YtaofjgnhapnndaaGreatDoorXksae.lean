/- Texts that the row needs: words on memory and rows, the contracts of the functions it reaches, and the plain lemmas on what they compute. -/
import Derived.Test.YtaofjgnhapnndaaGreatDoorRows
import Derived.ProofKit
import Derived.Test.YtaofjgnhapnndaaGreatDoorXksad
open Go.Proofs.YtaofjgnhapnndaaGreatDoorFks
namespace Go.Proofs.YtaofjgnhapnndaaGreatDoor.Q
open Go.RowKit Go.Proofs.YtaofjgnhapnndaaGreatDoorW.PrintWords Go.Proofs.YtaofjgnhapnndaaGreatDoorW.PrintLast Go.Proofs.YtaofjgnhapnndaaGreatDoorW.PrintMore
set_option linter.unusedVariables false
set_option linter.unusedSimpArgs false
theorem sJ : ∀ (w r : List Char), (∀ c ∈ w, c ≠ Char.ofNat 32) → wordsSigns (w ++ Char.ofNat 32 :: r) = w :: wordsSigns r
  | [], r, _ => rfl
  | c :: w, r, h => by
    have ih := sJ w r (fun d hd => h d (List.mem_cons_of_mem _ hd))
    have hc : c ≠ Char.ofNat 32 := h c List.mem_cons_self
    rw [List.cons_append, wordsSigns.eq_3 _ _ (fun e => hc e), ih]
theorem Ux {a b : Bool} (ha : a = true) (hb : b = true) : (a && b) = true := by rw [ha, hb]; rfl
noncomputable def qV : List Char := List.map Char.ofNat [104, 97, 114, 110, 101, 115, 115, 32, 100, 53, 100, 51, 56, 51, 97, 55, 53, 102, 48, 100, 99, 53, 99, 99, 54, 54, 53, 57, 100, 55, 53, 57, 97, 54, 55, 55, 52, 98, 99, 48, 49, 101, 51, 99, 100, 54, 100, 52, 99, 100, 54, 98, 54, 51, 98, 98, 102, 56, 99, 49, 97, 57, 48, 97, 101, 49, 48, 56, 48, 54, 51, 52, 32, 99, 117, 116, 32, 97, 116, 32, 108, 111, 111, 112, 46, 101, 120, 97, 109, 112, 108, 101, 47, 109, 97, 108, 116, 115, 104, 97, 114, 101, 47, 108, 97, 119, 115, 46, 70, 110, 69, 120, 97, 99, 116, 83, 104, 97, 114, 101, 83, 101, 115, 115, 105, 111, 110, 32, 108, 111, 111, 112, 46, 101, 120, 97, 109, 112, 108, 101, 47, 109, 97, 108, 116, 115, 104, 97, 114, 101, 47, 108, 97, 119, 115, 46, 70, 110, 76, 105, 110, 101, 115]
theorem Kb : Tryz.prog.initOrder = String.ofList qV := by kernel_rfl
theorem YV : Tryz.prog.initOrder.toList = qV := (congrArg String.toList Kb).trans String.toList_ofList
noncomputable def CV : List Char := (qV.drop 8).take 64
theorem head_eq : qV = "harness".toList ++ Char.ofNat 32 :: (CV ++ Char.ofNat 32 :: ("cut".toList ++ Char.ofNat 32 :: qV.drop 77)) := by kernel_rfl
theorem TT : (CV.all fun c => c != Char.ofNat 32) = true := by kernel_rfl
theorem TU : isSumSigns CV = true := by kernel_rfl
theorem K3 : ∃ R, behindMainWord (wordsSigns Tryz.prog.initOrder.toList) = "cut".toList :: R := by
 refine ⟨wordsSigns (qV.drop 77), ?_⟩
 have h1 : ∀ c ∈ "harness".toList, c ≠ Char.ofNat 32 := by decide
 have h3 : ∀ c ∈ "cut".toList, c ≠ Char.ofNat 32 := by decide
 have h2 : ∀ c ∈ CV, c ≠ Char.ofNat 32 := fun c hc => by
   have := List.all_eq_true.1 TT c hc
   simpa using this
 have e : wordsSigns Tryz.prog.initOrder.toList = "harness".toList :: CV :: "cut".toList :: wordsSigns (qV.drop 77) :=
   (congrArg wordsSigns (YV.trans head_eq)).trans (by rw [sJ _ _ h1, sJ _ _ h2, sJ _ _ h3])
 rw [e]
 generalize wordsSigns (qV.drop 77) = R
 unfold behindMainWord
 exact if_pos (by rw [TU, beq_self_eq_true]; rfl)
theorem Ca : "cut".toList = [Char.ofNat 99, Char.ofNat 117, Char.ofNat 116] := (String.toList_ofList : (String.ofList [Char.ofNat 99, Char.ofNat 117, Char.ofNat 116]).toList = _)
theorem l_gc : "gc".toList = [Char.ofNat 103, Char.ofNat 99] := (String.toList_ofList : (String.ofList [Char.ofNat 103, Char.ofNat 99]).toList = _)
theorem Xr : "spec".toList = [Char.ofNat 115, Char.ofNat 112, Char.ofNat 101, Char.ofNat 99] := (String.toList_ofList : (String.ofList [Char.ofNat 115, Char.ofNat 112, Char.ofNat 101, Char.ofNat 99]).toList = _)
theorem R8 : "carried".toList = [Char.ofNat 99, Char.ofNat 97, Char.ofNat 114, Char.ofNat 114, Char.ofNat 105, Char.ofNat 101, Char.ofNat 100] := (String.toList_ofList : (String.ofList [Char.ofNat 99, Char.ofNat 97, Char.ofNat 114, Char.ofNat 114, Char.ofNat 105, Char.ofNat 101, Char.ofNat 100]).toList = _)
theorem n_gc : ("cut".toList == "gc".toList) = false := by rw [Ca, l_gc]; decide
theorem Jv : ("cut".toList == "spec".toList) = false := by rw [Ca, Xr]; decide
theorem Eb : ("cut".toList == "carried".toList) = false := by rw [Ca, R8]; decide
theorem kg : ("cut".toList == "cut".toList) = true := beq_self_eq_true _
theorem YS (R : List (List Char)) : (("cut".toList :: R).head? == some "carried".toList) = false := by
 rw [List.head?_cons, Ca, R8]; decide
theorem Yw (R : List (List Char)) : (("cut".toList :: R).head? == some "cut".toList) = true := by rw [List.head?_cons]; exact beq_self_eq_true _
theorem RQ (R : List (List Char)) : stripLifts liftWords ("cut".toList :: R) = ([], "cut".toList :: R) := by rfl
theorem U5 : Tryz.prog.laysLater = false := by kernel_rfl
theorem LP : Tryz.prog.bearsReflect = false := by kernel_rfl
theorem TK : Tryz.prog.doorFits [] = true := by kernel_rfl
theorem WU (P : Program) (R : List (List Char)) (h : behindMainWord (wordsSigns P.initOrder.toList) = "cut".toList :: R) (h1 : P.laysLater = false) (h2 : P.bearsReflect = false) (h3 : P.doorFits [] = true) : P.mayEnter = true := by
 unfold Program.mayEnter
 rw [h]
 simp only [RQ, h1, h2, h3, n_gc, Jv, Eb, Yw]
 rfl
theorem TS (P : Program) (R : List (List Char)) (h : behindMainWord (wordsSigns P.initOrder.toList) = "cut".toList :: R) : P.headLifts = [] := by
 unfold Program.headLifts
 rw [h, RQ]
 exact ite_self _
theorem PS (P : Program) (R : List (List Char)) (h : behindMainWord (wordsSigns P.initOrder.toList) = "cut".toList :: R) : P.liftsFinal = false := by
 unfold Program.liftsFinal
 rw [TS P R h, h]
 simp only [YS]
 rfl
theorem Pe (P : Program) (R : List (List Char)) (h : behindMainWord (wordsSigns P.initOrder.toList) = "cut".toList :: R) : P.make = some .cut := by
 unfold Program.make
 rw [h]
 simp only [n_gc, Jv, kg]
 rfl
theorem U7 : Tryz.prog.mayEnter = true := by
 obtain ⟨R, h⟩ := K3
 exact WU _ R h U5 LP TK
theorem PR : Tryz.prog.liftsFinal = false := by
 obtain ⟨R, h⟩ := K3
 exact PS _ R h
theorem Jt : Tryz.prog.make = some .cut := by
 obtain ⟨R, h⟩ := K3
 exact Pe _ R h
abbrev MB := S66
abbrev KB := k66
def BkS (w0 w : World) (lo hi : Nat) (v0 v1 : Value) (l0 : List ByteArray) (l1 : List MB) : Prop :=
  Kd.R Kd.string 9 w w0.heap.size (fun k => lo ≤ k ∧ k < hi) v0 l0 ∧ Kd.S KB 66 w w0.heap.size (fun k => (lo ≤ k ∧ k < hi) ∧ some k ≠ v0.ownBlock) v1 l1
def RwS (w0 w : World) (lo hi : Nat) (v : Value) (l : List ByteArray) : Prop := Kd.R Kd.string 9 w w0.heap.size (fun k => lo ≤ k ∧ k < hi) v l
section
variable {w0 w w' : World} {lo hi n : Nat} {v0 v1 v : Value} {l0 l r1 : List ByteArray} {l1 r2 : List MB} {S : Nat → Prop}
theorem BkS.kept (h : BkS w0 w lo hi v0 v1 l0 l1) (hk : Kept w w' S) (hS : ∀ k, lo ≤ k → k < hi → ¬ S k) : BkS w0 w' lo hi v0 v1 l0 l1 :=
  ⟨Kd.sK h.1 hk (fun k e => hS k e.1 e.2), Kd.SL h.2 hk (fun k e => hS k e.1.1 e.1.2)⟩
theorem RwS.kept (h : RwS w0 w lo hi v l) (hk : Kept w w' S) (hS : ∀ k, lo ≤ k → k < hi → ¬ S k) : RwS w0 w' lo hi v l := Kd.sK h hk (fun k e => hS k e.1 e.2)
theorem BkS.made (hD : Kd.R Kd.string 9 w' w.heap.size (fun _ => True) v0 r1) (pP : Kd.S KB 66 w' w.heap.size (fun k => some k ≠ v0.ownBlock) v1 r2) (h0 : w0.heap.size ≤ n) (hn : n ≤ w.heap.size) : BkS w0 w' n w'.heap.size v0 v1 r1 r2 :=
  ⟨Kd.eF (Kd.bG (Kd.lL hD) (fun k h => ⟨Nat.le_trans hn h.2.1, h.2.2.1⟩)) (Nat.le_trans h0 hn), Kd.SN (Kd.fU (Kd.lC pP) (fun k h => ⟨⟨Nat.le_trans hn h.2.1, h.2.2.1⟩, h.1⟩)) (Nat.le_trans h0 hn)⟩
theorem RwS.made (hD : Kd.R Kd.string 9 w' w.heap.size (fun _ => True) v l) (h0 : w0.heap.size ≤ n) (hn : n ≤ w.heap.size) : RwS w0 w' n w'.heap.size v l :=
  Kd.eF (Kd.bG (Kd.lL hD) (fun k h => ⟨Nat.le_trans hn h.2.1, h.2.2.1⟩)) (Nat.le_trans h0 hn)
theorem BkS.slices (h : BkS w0 w lo hi v0 v1 l0 l1) : ∃ A0 c0 A1 c1, v0 = .slice A0 l0.length c0 ∧ v1 = .slice A1 l1.length c1 := by
 obtain ⟨A0, c0, e0⟩ := Kd.cB h.1
 obtain ⟨A1, c1, e1⟩ := Kd.yH h.2
 exact ⟨A0, c0, A1, c1, e0, e1⟩
theorem RwS.slices (h : RwS w0 w lo hi v l) : ∃ A0 c0, v = .slice A0 l.length c0 := Kd.cB h
end
theorem WL {α : Type} {c : Prop} [Decidable c] {a : Option α} {b : α} (h : (if c then a else none) = some b) : c ∧ a = some b := by
 by_cases hc : c
 ·rw [if_pos hc] at h; exact ⟨hc, h⟩
 rw [if_neg hc] at h; cases h
theorem Kept.noth {w w' : World} (h : Below w.heap.size w w') : Kept w w' (fun _ => False) := Kept.of_below h _
theorem Kept.two {w : World} {g : Nat} (a b : Nat) (u v : Value) : Kept w ((w.setCell ⟨g, a, none⟩ u).setCell ⟨g, b, none⟩ v) (fun k => k = g) :=
  Kept.setCell (p := ⟨g, b, none⟩) (Kept.setCell (p := ⟨g, a, none⟩) (Kept.refl w (fun k => k = g)) (Or.inl rfl) u) (Or.inl rfl) v
end Go.Proofs.YtaofjgnhapnndaaGreatDoor.Q
