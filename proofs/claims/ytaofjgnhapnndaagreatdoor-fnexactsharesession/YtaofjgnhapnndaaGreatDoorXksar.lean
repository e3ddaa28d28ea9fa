/- Texts that the row needs: words on memory and rows, the contracts of the functions it reaches, and the plain lemmas on what they compute. -/
import Derived.Shelf.Strings.OnBuilder
import Derived.Test.YtaofjgnhapnndaaGreatDoorXksaq
set_option maxHeartbeats 8000000
set_option maxRecDepth 100000
open Go.Proofs.YtaofjgnhapnndaaGreatDoorFks
namespace Go.Proofs.YtaofjgnhapnndaaGreatDoor.Q
open Go.RowKit Go.Proofs.YtaofjgnhapnndaaGreatDoorW.PrintWords Go.Proofs.YtaofjgnhapnndaaGreatDoorW.PrintLast Go.Proofs.YtaofjgnhapnndaaGreatDoorW.PrintMore
set_option linter.unusedVariables false
set_option linter.unusedSimpArgs false
open Go.Shelf Go.Lib
def lD : Go.Shelf.Ren :=
{
  f := fun x =>
    match x with
    | 156 => 82
    | 165 => 100
    | 166 => 101
    | 169 => 102
    | 240 => 129
    | 241 => 130
    | 276 => 151
    | 277 => 152
    | n => n,
  t := fun x =>
    match x with
    | 31 => 27
    | 9 => 9
    | 3 => 3
    | 4 => 4
    | 0 => 0
    | 20 => 20
    | 72 => 113
    | 76 => 117
    | 70 => 111
    | 37 => 24
    | 75 => 116
    | 127 => 137
    | 164 => 98
    | 5 => 5
    | 80 => 119
    | n => n,
  g := fun x => x }
theorem WQ : Go.Proofs.Lays.n156 Tryz.prog lD :=
{ mixed := Eq.refl true, f156 := Eq.trans Tryz.func82 (congrArg some (Eq.refl (Body.n156 lD))),
  f165 := Eq.trans Tryz.func100 (congrArg some (Eq.refl (Body.n165 lD))),
  f166 := Eq.trans Tryz.func101 (congrArg some (Eq.refl (Body.n166 lD))),
  f169 := Eq.trans Tryz.func102 (congrArg some (Eq.refl (Body.n169 lD))),
  f240 := Eq.trans Tryz.func129 (congrArg some (Eq.refl (Body.n240 lD))),
  f241 := Eq.trans Tryz.func130 (congrArg some (Eq.refl (Body.n241 lD))),
  f276 := Eq.trans Tryz.func151 (congrArg some (Eq.refl (Body.n276 lD))),
  f277 := Eq.trans Tryz.func152 (congrArg some (Eq.refl (Body.n277 lD))), t0 := Tryz.underlying0,
  a0 := Tryz.isAgg0, z0 := Tryz.sizeOf0, v0 := Tryz.zeroValue0, t3 := Tryz.underlying3, a3 := Tryz.isAgg3,
  z3 := Tryz.sizeOf3, v3 := Tryz.zeroValue3, t4 := Tryz.underlying4, a4 := Tryz.isAgg4, z4 := Tryz.sizeOf4,
  v4 := Tryz.zeroValue4, t9 := Tryz.underlying9, a9 := Tryz.isAgg9, z9 := Tryz.sizeOf9, v9 := Tryz.zeroValue9,
  t20 := Tryz.underlying20, a20 := Tryz.isAgg20, z20 := Tryz.sizeOf20, v20 := Tryz.zeroValue20,
  t31 := Tryz.underlying27, a31 := Tryz.isAgg27, z31 := Tryz.sizeOf27, v31 := Tryz.zeroValue27,
  t37 := Tryz.underlying24, a37 := Tryz.isAgg24, z37 := Tryz.sizeOf24, v37 := Tryz.zeroValue24,
  t70 := Tryz.underlying111, a70 := Tryz.isAgg111, z70 := Tryz.sizeOf111, v70 := Tryz.zeroValue111,
  t72 := Tryz.underlying113, a72 := Tryz.isAgg113, z72 := Tryz.sizeOf113, v72 := Tryz.zeroValue113,
  t75 := Tryz.underlying116, a75 := Tryz.isAgg116, z75 := Tryz.sizeOf116, v75 := Tryz.zeroValue116,
  t76 := Tryz.underlying117, a76 := Tryz.isAgg117, z76 := Tryz.sizeOf117, v76 := Tryz.zeroValue117,
  t127 := Tryz.underlying137, a127 := Tryz.isAgg137, z127 := Tryz.sizeOf137, v127 := Tryz.zeroValue137,
  t164 := Tryz.underlying98, a164 := Tryz.isAgg98, z164 := Tryz.sizeOf98, v164 := Tryz.zeroValue98 }
def AA (l : List ByteArray) (sep : ByteArray) : ByteArray := ⟨(Lib.join (l.map (·.data.toList)) sep.data.toList).toArray⟩
theorem OD : Builder.Extra Tryz.prog lD where
 sizeBuilder := by kernel_rfl
 liesBuilder := by kernel_rfl
 t5 := by kernel_rfl
 a5 := Tryz.isAgg5
 z5 := Tryz.sizeOf5
 v5 := Tryz.zeroValue5
 infoByte := by kernel_rfl
 cellsByte := by kernel_rfl
 sizeByte := by kernel_rfl
 neB5 := by decide
def strings_Join.f (l0 : List ByteArray) (a1 : ByteArray) : Option ByteArray := if l0.length ≤ 1048576 ∧ (Lib.join (l0.map (·.data.toList)) a1.data.toList).length ≤ 140737488355328 then some (AA l0 a1) else none
theorem strings_Join.calls (A0 : Option Addr) (c0 : Nat) (l0 : List ByteArray) (a1 : ByteArray) (r : ByteArray) (w : World) (mO : Kd.C Kd.string w A0 l0.length l0) (nE : l0.length ≤ c0) (h : strings_Join.f l0 a1 = some r) :
  Calls Tryz.prog 82 #[.slice A0 l0.length c0, .string a1] w fun e w' => e = .returned (.string r) ∧ Below w.heap.size w w' := by
 unfold strings_Join.f at h
 split at h
 ·rename_i hc
  obtain rfl := Option.some.inj h
  cases l0 with
  | nil =>
   have c := Any.strings_Join_none WQ OD A0 c0 a1 w
   change Calls Tryz.prog 82 _ _ _ at c
   refine c.mono ?_
   rintro e w' ⟨rfl, rfl⟩
   exact ⟨rfl, Below.refl _ _⟩
  | cons x xs =>
   have hlen : (x :: xs).length ≠ 0 := by simp
   obtain ⟨ad, e, _⟩ := Kd.uX mO 0 (by omega) (by omega)
   obtain ⟨b, o, s⟩ := ad
   have cell : ∀ j y, (x :: xs)[j]? = some y → w.cell? ((⟨b, o, s⟩ : Addr).add j) = some (.string y) := by
    intro j y hj
    obtain ⟨hjl, rfl⟩ := List.getElem?_eq_some_iff.1 hj
    obtain ⟨ad, e2, hx⟩ := Kd.uX mO (j : Int) (by omega) (by omega)
    rw [e] at e2
    obtain rfl := Option.some.inj e2
    rw [Int.toNat_natCast] at hx
    rw [hx]
    congr 2
    unfold rdOf
    rw [Int.toNat_natCast, List.getD_eq_getElem?_getD, hj]; rfl
   have h0 := cell 0 x rfl
   have hs : s = none := by simpa [Addr.add] using World.cell?_spot h0
   subst hs
   subst e
   have c := Any.strings_Join WQ OD b o c0 (x :: xs) a1 w (fun j y hj => by have h9 := cell j y hj; simp only [Addr.add] at h9; split at h9; (· rename_i hz; subst hz; exact h9); exact h9) (World.block_lt_of_cell? w _ h0) (by omega) nE hc.2
   change Calls Tryz.prog 82 _ _ _ at c
   exact c
 cases h
def zZ.f (l0 : List ByteArray) : Option (ByteArray) := if (l0.length : Int) = 0 then (some (⟨#[110, 111, 110, 101]⟩ : ByteArray)) else ((strings_Join.f l0 (⟨#[32]⟩ : ByteArray)).bind fun a => (some a))
theorem zZ.calls (A0 : Option Addr) (c0 : Nat) (l0 : List ByteArray) (r : ByteArray) (w : World) (mO : Kd.C Kd.string w A0 l0.length l0) (nE : l0.length ≤ c0) (h : zZ.f l0 = some r) :
  Calls Tryz.prog 43 #[.slice A0 l0.length c0] w fun e w' => e = .returned (.string r) ∧ Below w.heap.size w w' := by
 obtain ⟨lH, uR⟩ := mZ2 mO nE
 clear mO nE
 have HB := am (Below.refl w.heap.size w)
 unfold zZ.f at h
 have H := h
 clear h
 refine iq H ?_ ?_ <;> clear H <;> intro c2 VM Vh H
 ·obtain rfl := Option.some.inj H
  repeat clear H
  go_enter Tryz.func43, Tryz.ntmps43
  go_wp2
  go_ret
  exact ⟨eR, gL⟩
 have a4R : ¬ (l0 = []) := fun h_ => c2 (by rw [h_]; rfl)
 obtain ⟨Ew, A3, H⟩ := bd H
 obtain rfl := Option.some.inj H
 repeat clear H
 go_enter Tryz.func43, Tryz.ntmps43
 go_wp2_with (first | ((with_reducible refine gC 82 ?_); refine cQ (some 7) Tryz.func82 (strings_Join.calls _ _ l0 (⟨#[32]⟩ : ByteArray) Ew _ (pC lH.1) uR.1 A3.out) ?_; rintro w4 hb; replace HB := bS gL hb; clear hb))
 go_ret
 exact ⟨eR, gL⟩
theorem enter_at {l0 : List ByteArray} {l1 : List MB} (hb : Bd l0 l1) (n : ByteArray) {t : List ByteArray} (ht : t.length ≤ 1048576) {A0 A1 A2 : Option Addr} {c0 c1 c2 : Nat} {w : World} (mO : Kd.C Kd.string w A0 l0.length l0) (nE : l0.length ≤ c0) (sG : Kd.C KB w A1 l1.length l1) (nY : l1.length ≤ c1) (rP : Kd.C Kd.string w A2 t.length t) (mH : t.length ≤ c2) :
  Calls Tryz.prog 38 #[.agg #[.slice A0 l0.length c0, .slice A1 l1.length c1], .string n, .slice A2 t.length c2] w fun e w' => ∃ v0 v1 : Value, e = .returned (.tuple #[.agg #[v0, v1], .int .i64 (jL l0 l1 n t).2.2]) ∧ NewB w w' v0 v1 (jL l0 l1 n t).1 (jL l0 l1 n t).2.1 ∧ Below w.heap.size w w' := by
 obtain ⟨K, hK⟩ := FW l0 l1 n t hb.w ht
 refine (nH.calls K _ _ l0 _ _ l1 n _ _ t _ _ _ w mO nE sG nY rP mH (hK K (Nat.le_refl _))).mono ?_
 rintro e w' ⟨v0, v1, rfl, h0, h1, hbb⟩
 exact ⟨v0, v1, rfl, ⟨h0, h1⟩, hbb⟩
theorem Uy {l0 : List ByteArray} {l1 : List MB} (hb : Bd l0 l1) (n : ByteArray) {t : List ByteArray} (ht : t.length ≤ 1048576) {A0 A1 A2 : Option Addr} {c0 c1 c2 : Nat} {w : World} (mO : Kd.C Kd.string w A0 l0.length l0) (nE : l0.length ≤ c0) (sG : Kd.C KB w A1 l1.length l1) (nY : l1.length ≤ c1) (rP : Kd.C Kd.string w A2 t.length t) (mH : t.length ≤ c2) :
  Calls Tryz.prog 39 #[.agg #[.slice A0 l0.length c0, .slice A1 l1.length c1], .string n, .slice A2 t.length c2] w fun e w' => ∃ v0 v1 : Value, e = .returned (.tuple #[.agg #[v0, v1], .int .i64 (askB l0 l1 n t).2.2]) ∧ NewB w w' v0 v1 (askB l0 l1 n t).1 (askB l0 l1 n t).2.1 ∧ Below w.heap.size w w' := by
 obtain ⟨K, hK⟩ := JY l0 l1 n t hb.w ht
 refine (eB.calls K _ _ l0 _ _ l1 n _ _ t _ _ _ w mO nE sG nY rP mH (hK K (Nat.le_refl _))).mono ?_
 rintro e w' ⟨v0, v1, rfl, h0, h1, hbb⟩
 exact ⟨v0, v1, rfl, ⟨h0, h1⟩, hbb⟩
theorem Pd {l0 : List ByteArray} {l1 : List MB} (hb : Bd l0 l1) (n : ByteArray) {t : List ByteArray} (ht : t.length ≤ 1048576) {A0 A1 A2 : Option Addr} {c0 c1 c2 : Nat} {w : World} (mO : Kd.C Kd.string w A0 l0.length l0) (nE : l0.length ≤ c0) (sG : Kd.C KB w A1 l1.length l1) (nY : l1.length ≤ c1) (rP : Kd.C Kd.string w A2 t.length t) (mH : t.length ≤ c2) :
  Calls Tryz.prog 40 #[.agg #[.slice A0 l0.length c0, .slice A1 l1.length c1], .string n, .slice A2 t.length c2] w fun e w' => ∃ v0 v1 : Value, e = .returned (.tuple #[.agg #[v0, v1], .int .i64 (lI l0 l1 n t).2.2]) ∧ NewB w w' v0 v1 (lI l0 l1 n t).1 (lI l0 l1 n t).2.1 ∧ Below w.heap.size w w' := by
 obtain ⟨K, hK⟩ := IY l0 l1 n t hb.w ht
 refine (oK.calls K _ _ l0 _ _ l1 n _ _ t _ _ _ w mO nE sG nY rP mH (hK K (Nat.le_refl _))).mono ?_
 rintro e w' ⟨v0, v1, rfl, h0, h1, hbb⟩
 exact ⟨v0, v1, rfl, ⟨h0, h1⟩, hbb⟩
theorem Js {l0 : List ByteArray} {l1 : List MB} (hb : Bd l0 l1) (n : ByteArray) {A0 A1 : Option Addr} {c0 c1 : Nat} {w : World} (mO : Kd.C Kd.string w A0 l0.length l0) (nE : l0.length ≤ c0) (sG : Kd.C KB w A1 l1.length l1) (nY : l1.length ≤ c1) :
  Calls Tryz.prog 41 #[.agg #[.slice A0 l0.length c0, .slice A1 l1.length c1], .string n] w fun e w' => ∃ v0 v1 : Value, e = .returned (.tuple #[.agg #[v0, v1], .int .i64 (jN l0 l1 n).2.2]) ∧ NewB w w' v0 v1 (jN l0 l1 n).1 (jN l0 l1 n).2.1 ∧ Below w.heap.size w w' := by
 obtain ⟨K, hK⟩ := FX l0 l1 n hb.bz
 refine (nI.calls K _ _ l0 _ _ l1 n _ _ _ w mO nE sG nY (hK K (Nat.le_refl _))).mono ?_
 rintro e w' ⟨v0, v1, rfl, h0, h1, hbb⟩
 exact ⟨v0, v1, rfl, ⟨h0, h1⟩, hbb⟩
theorem EF {w w0 w1 w2 : World} {g : Nat} {l0 r1 : List ByteArray} {l1 r2 : List MB} {B0 B1 : Option Addr} {d0 d1 : Nat} {c : Int} (hS : Sess w g l0 l1) (hB : Below w.heap.size w w0) (hb : Below w0.heap.size w0 w1) (hg : g < w.heap.size) (hn : NewB w0 w1 (.slice B0 r1.length d0) (.slice B1 r2.length d1) r1 r2)
  (he : Came w1 w2 g c #[.slice B0 r1.length d0, .slice B1 r2.length d1]) (hs : c ≠ 0 → r1 = l0 ∧ r2 = l1) : Sess w2 g r1 r2 ∧ Below g w w2 := by
 have h1 := dG hB hb
 have h1g := h1.mono (Nat.le_of_lt hg)
 rcases he with ⟨hc, he, hk, hk2⟩ | ⟨hc, hk⟩
 ·exact ⟨hn.sess (Nat.lt_of_lt_of_le hg hB.size) hk he, h1g.trans hk2⟩
 obtain ⟨rfl, rfl⟩ := hs hc
 have h2 := dG h1 hk
 exact ⟨hS.below h2, h2.mono (Nat.le_of_lt hg)⟩
section
variable {ts : List ByteArray} {bs : List IB}
theorem Bd.lt (h : Bd ts bs) : ts.length ≤ 9223372036854775807 := by have := h.things; omega
theorem Bd.lb (h : Bd ts bs) : bs.length ≤ 9223372036854775807 := by have := h.five; omega
theorem Bd.bok (h : Bd ts bs) : Bok bs := h.bz.bok
end
theorem WV {l0 : List ByteArray} {l1 : List MB} (hb : Bd l0 l1) {A0 A1 : Option Addr} {c0 c1 : Nat} {w : World} (mO : Kd.C Kd.string w A0 l0.length l0) (nE : l0.length ≤ c0) (sG : Kd.C KB w A1 l1.length l1) (nY : l1.length ≤ c1) :
  Calls Tryz.prog 44 #[.agg #[.slice A0 l0.length c0, .slice A1 l1.length c1]] w fun e w' => ∃ v : Value, e = .returned (.tuple #[v, .bool (jS l0 l1).2]) ∧ Kd.R Kd.string 9 w' w.heap.size (fun _ => True) v (jS l0 l1).1 ∧ Below w.heap.size w w' := by
 obtain ⟨K, hK⟩ := xQ l0 l1 hb.lt hb.lb hb.bok
 exact dP.calls K _ _ l0 _ _ l1 _ _ w mO nE sG nY (hK K (Nat.le_refl _))
theorem Ju {l0 : List ByteArray} {l1 : List MB} (hb : Bd l0 l1) {A0 A1 : Option Addr} {c0 c1 : Nat} {w : World} (mO : Kd.C Kd.string w A0 l0.length l0) (nE : l0.length ≤ c0) (sG : Kd.C KB w A1 l1.length l1) (nY : l1.length ≤ c1) :
  Calls Tryz.prog 45 #[.agg #[.slice A0 l0.length c0, .slice A1 l1.length c1]] w fun e w' => ∃ v : Value, e = .returned v ∧ Kd.R Kd.string 9 w' w.heap.size (fun _ => True) v (qB l0 l1) ∧ Below w.heap.size w w' := by
 obtain ⟨K, hK⟩ := FY l0 l1 hb.lt hb.lb hb.bok
 exact gM.calls K _ _ l0 _ _ l1 _ w mO nE sG nY (hK K (Nat.le_refl _))
theorem Ll {l0 : List ByteArray} {l1 : List MB} (hb : Bd l0 l1) (n : ByteArray) {A0 A1 : Option Addr} {c0 c1 : Nat} {w : World} (mO : Kd.C Kd.string w A0 l0.length l0) (nE : l0.length ≤ c0) (sG : Kd.C KB w A1 l1.length l1) (nY : l1.length ≤ c1) :
  Calls Tryz.prog 46 #[.agg #[.slice A0 l0.length c0, .slice A1 l1.length c1], .string n] w fun e w' => ∃ v : Value, e = .returned v ∧ Kd.R Kd.string 9 w' w.heap.size (fun _ => True) v (mD l0 l1 n) ∧ Below w.heap.size w w' := by
 obtain ⟨K, hK⟩ := FZ l0 l1 n hb.lt hb.lb hb.bok
 exact bN.calls K _ _ l0 _ _ l1 n _ w mO nE sG nY (hK K (Nat.le_refl _))
theorem Cm {l0 : List ByteArray} {l1 : List MB} (hb : Bd l0 l1) (n : ByteArray) {A0 A1 : Option Addr} {c0 c1 : Nat} {w : World} (mO : Kd.C Kd.string w A0 l0.length l0) (nE : l0.length ≤ c0) (sG : Kd.C KB w A1 l1.length l1) (nY : l1.length ≤ c1) :
  Calls Tryz.prog 47 #[.agg #[.slice A0 l0.length c0, .slice A1 l1.length c1], .string n] w fun e w' => e = .returned (.string (whoB l0 l1 n)) ∧ Below w.heap.size w w' := by
 obtain ⟨K, hK⟩ := JZ l0 l1 n hb.lt hb.lb hb.bok
 exact iP.calls K _ _ l0 _ _ l1 n _ w mO nE sG nY (hK K (Nat.le_refl _))
theorem Nq {l0 : List ByteArray} {l1 : List MB} (h0 : l0.length ≤ 9223372036854775807) (h1 : l1.length ≤ 9223372036854775807) (hb : Bok l1) {A0 A1 : Option Addr} {c0 c1 : Nat} {w : World} (mO : Kd.C Kd.string w A0 l0.length l0) (nE : l0.length ≤ c0) (sG : Kd.C KB w A1 l1.length l1) (nY : l1.length ≤ c1) :
  Calls Tryz.prog 36 #[.agg #[.slice A0 l0.length c0, .slice A1 l1.length c1]] w fun e w' => e = .returned (.bool (iY l0 l1)) ∧ Below w.heap.size w w' := by
 obtain ⟨K, hK⟩ := iV l0 l1 h0 h1 hb
 exact aI.calls K _ _ l0 _ _ l1 _ w mO nE sG nY (hK K (Nat.le_refl _))
theorem VP {l : List ByteArray} (h : l.length ≤ 1048576) {A : Option Addr} {c : Nat} {w : World} (hr : Kd.C Kd.string w A l.length l) (hc : l.length ≤ c) :
  Calls Tryz.prog 35 #[.slice A l.length c] w fun e w' => ∃ (A2 : Option Addr) (c2 : Nat), e = .returned (.slice A2 l.length c2) ∧ Kd.R Kd.string 9 w' w.heap.size (fun _ => True) (.slice A2 l.length c2) l ∧ Below w.heap.size w w' := by
 refine (bU.calls A c l l w hr hc (by unfold bU.f; rw [if_pos (by omega)])).mono ?_
 rintro e w' ⟨v, rfl, h0, hb⟩
 obtain ⟨A2, c2, rfl⟩ := Kd.cB h0
 exact ⟨A2, c2, rfl, h0, hb⟩
def qI (l : List ByteArray) : ByteArray := if l.length = 0 then (⟨#[110, 111, 110, 101]⟩ : ByteArray) else AA l ⟨#[32]⟩
def Few (l : List ByteArray) : Prop := l.length ≤ 64 ∧ ∀ s ∈ l, s.size ≤ 16
theorem WT : ∀ {l : List ByteArray}, (∀ s ∈ l, s.size ≤ 16) → Lib.lens (l.map (·.data.toList)) ≤ 16 * l.length
  | [], _ => by simp [Lib.lens]
  | a :: r, h => by
    have h1 := WT (l := r) fun s hs => h s (List.mem_cons_of_mem _ hs)
    have h2 := h a (List.mem_cons_self ..)
    have h3 : a.data.toList.length = a.size := by rw [Array.length_toList]; rfl
    unfold Lib.lens at h1 ⊢
    rw [List.map_cons, List.map_cons, List.sum_cons, List.length_cons, h3]; omega
theorem OE {l : List ByteArray} (h : Few l) : (Lib.join (l.map (·.data.toList)) [32]).length ≤ 2000 := by
 have h1 := WT h.2
 have h2 := h.1
 cases l with
 | nil => simp [Lib.join_nil]
 | cons a r =>
  rw [List.map_cons] at h1 ⊢
  rw [Lib.join_length, List.length_map]
  simp only [List.length_cons, List.length_nil] at *; omega
theorem J3 {l : List ByteArray} (h : Few l) {A : Option Addr} {c : Nat} {w : World} (hr : Kd.C Kd.string w A l.length l) (hc : l.length ≤ c) :
  Calls Tryz.prog 43 #[.slice A l.length c] w fun e w' => e = .returned (.string (qI l)) ∧ Below w.heap.size w w' := by
 refine zZ.calls A c l _ w hr hc ?_
 unfold zZ.f qI
 by_cases h0 : l.length = 0
 ·rw [if_pos (by omega), if_pos h0]
 rw [if_neg (by omega), if_neg h0]
 have hj := OE h
 have hl := h.1
 unfold strings_Join.f
 rw [if_pos ⟨by omega, by show (Lib.join _ [32]).length ≤ _; omega⟩]; rfl
theorem RG {w2 w3 : World} {base gb c : Nat} {A : Option Addr} {l : List ByteArray} {u v : Value} (h : Kd.R Kd.string 9 w3 base (fun k => k < w2.heap.size) (.slice A l.length c) l) (hg : w2.heap.size ≤ gb) :
  Kd.C Kd.string ((w3.setCell ⟨gb, 0, none⟩ u).setCell ⟨gb, 1, none⟩ v) A l.length l ∧ l.length ≤ c := by
 have h2 := Kd.sK h (Kept.two (w := w3) (g := gb) 0 1 u v) (fun k hk e => by omega)
 exact ⟨(Kd.bI h2).2.2, (Kd.bI h2).2.1⟩
theorem XC {w2 w3 w4 : World} {base g gb c n0 n1 : Nat} {A : Option Addr} {a0 a1 : Option Addr} {m0 m1 : Nat} {l : List ByteArray} {u v : Value} (hg : g < base) (h : Kd.R Kd.string 9 w3 base (fun k => k < w2.heap.size) (.slice A l.length c) l) (hgb : w2.heap.size ≤ gb)
  (hb : Below ((w3.setCell ⟨gb, 0, none⟩ u).setCell ⟨gb, 1, none⟩ v).heap.size ((w3.setCell ⟨gb, 0, none⟩ u).setCell ⟨gb, 1, none⟩ v) w4) (he : w4.heap[g]? = some (.cells #[.slice a0 n0 m0, .slice a1 n1 m1] 37 (0, 0))) :
  Sess ((w4.setCell ⟨g, 0, none⟩ (.slice A l.length c)).setCell ⟨g, 1, none⟩ (.slice none 0 0)) g l [] := by
 have h2 := Kd.sK h (Kept.two (w := w3) (g := gb) 0 1 u v) (fun k hk e => by omega)
 have h3 := Kd.iI h2 hb
 have h4 := Kd.sK (Kd.bG (Kd.lL h3) (fun k hk => hk.2.1)) (Kept.two (w := w4) (g := g) 0 1 (.slice A l.length c) (.slice none 0 0)) (fun k hk e => by omega)
 exact ⟨A, c, none, 0, bD (cs := #[.slice A l.length c, .slice a1 n1 m1]) (bD (cs := #[.slice a0 n0 m0, .slice a1 n1 m1]) he 0 _ rfl) 1 _ rfl, ⟨(Kd.bI h4).2.2, (Kd.bI h4).2.1⟩, Kd.CJ _ _, Nat.le_refl _⟩
theorem VI {t1 : List ByteArray} (h : t1.length ≤ 1048576) {A : Option Addr} {c : Nat} {w : World} (hr : Kd.C Kd.string w A t1.length t1 ∧ t1.length ≤ c) :
    Calls Tryz.prog 36 #[.agg #[.slice A t1.length c, .slice none 0 0]] w fun e w' => e = .returned (.bool (iY t1 [])) ∧ Below w.heap.size w w' :=
  Nq (l0 := t1) (l1 := []) (A1 := none) (c1 := 0) (by omega) (by simp) (fun _ h => by simp at h) hr.1 hr.2 (Kd.CJ _ _) (Nat.le_refl _)
set_option maxHeartbeats 4000000 in
theorem XU {g : Nat} {l0 : List ByteArray} {l1 : List MB} {s : ByteArray} {ws : List ByteArray} {w : World} (hS : Sess w g l0 l1) (hm : jJ w) (hs : s.size < 4294967281) (hw : pieces s ⟨#[32]⟩ = ws) (hbd : Bd l0 l1) (t_things : IsW ws [116, 104, 105, 110, 103, 115] false) (t_enter : IsW ws [101, 110, 116, 101, 114] false) (t_ask : IsW ws [97, 115, 107] true)  (hl : 1 < ws.length) (ht : (ws.drop 2).length ≤ 1048576) :
  Calls Tryz.prog 11 #[.pointer (some ⟨g, 0, none⟩), .string s] w (Ans w g (askB l0 l1 (gS ws 1) (ws.drop 2)).1 (askB l0 l1 (gS ws 1) (ws.drop 2)).2.1 (nR (askB l0 l1 (gS ws 1) (ws.drop 2)).2.2)) := by
 unfold IsW at t_things t_enter t_ask
 obtain ⟨⟨r1, r2, cc⟩, hr⟩ : ∃ r, r = askB l0 l1 (gS ws 1) (ws.drop 2) := ⟨_, rfl⟩
 have hok := XY hbd.ok (gS ws 1) (ws.drop 2)
 rw [← hr] at hok ⊢
 dsimp only at hok ⊢
 obtain ⟨_, nY, mH, hsame⟩ := hok
 have HOK := am (show (0 ≤ cc ∧ cc < 10) ∧ (cc ≠ 0 → r1 = l0 ∧ r2 = l1) from ⟨⟨nY, mH⟩, hsame⟩)
 have NR := am hr
 have HBD := am hbd
 have HN1 := am hl
 have hn0 : 0 < ws.length := by omega
 have HT := am ht
 clear ht
 clear nY mH hsame hbd hr
 obtain ⟨n1, n1', q1, q1'⟩ := AB hl
 clear hl
 obtain ⟨A0, c0, A1, c1, HG, lH, uR, rU, rW⟩ := lQ hS
 have HSP := am (hw ▸ jV s 32 w hm hs)
 clear hS hm hs hw
 have hu31 := Tryz.underlying31
 have hu37 := Tryz.underlying37
 have hu27 := Tryz.underlying27
 have HN0 := am hn0
 obtain ⟨n0, n0', q0, q0'⟩ := oP hn0
 clear hn0
 go_enter Tryz.func11, Tryz.ntmps11
 try go_wp2_with ((go_at_call 10; refine HSP.out.mono ?_; rintro e_ w1 ⟨b, c, rfl, hws, _, hb⟩; obtain ⟨HWS, HB1, HG1, x0, y0, y1, f0, f1⟩ := nT hws hb HG HN0; clear hws hb))
 have HG2 := am (dM HG1.out)
 have HW2 := am (show WsAt w1.drew b c ws from HWS.out.below (aU (Below.refl _ _)))
 have HB2 := am (aU HB1.out)
 clear HG1 HWS HB1 x0 y0 y1 f0 f1
 obtain ⟨A2, c2, hcut_, rP, mH⟩ := HW2.out.cut 2 HN1.out
 have hcut : ∀ W : World, (Instr.slice 27 (.slice (some ⟨b, 0, none⟩) ws.length c) (some (.int .i64 2)) none none).run Tryz.prog W = .ok (.slice A2 (ws.drop 2).length c2) W := hcut_
 have pL := am rP
 have pK := am mH
 have q2 : ((2 : Int) ≤ (ws.length : Int)) = True := eq_true (by have := HN1.out; omega)
 clear hcut_ rP mH
 refine sT (S := fun w' => w'.cell? ⟨g, 0, none⟩ = some (.slice A0 l0.length c0) ∧ w'.cell? ⟨g, 1, none⟩ = some (.slice A1 l1.length c1) ∧ w'.cell? ⟨b, 1, none⟩ = some (.string (gS ws 1))) [13] 15 ⟨⟨(aH HG2.out 0).trans rfl, (aH HG2.out 1).trans rfl, HW2.out.cell 1 HN1.out⟩⟩ (fun hHeld => ?_)
 generalize w1.drew = w2 at HG2 HW2 HB2 pL hHeld ⊢
 refine pU0 0 (some 67) ?_
 refine pU0 1 (some 68) ?_
 refine pU0 2 (some 69) ?_
 refine pU0 3 (some 70) ?_
 refine tK3_ 4 (some 71) ?_
 refine pU0 5 (some 72) ?_
 refine pU0 6 (some 73) ?_
 refine tK3_ 7 (some 74) ?_
 refine pU0 8 (some 75) ?_
 refine pU0 9 (some 76) ?_
 refine oM 10 (some 77) fun K hK => ?_
 refine kF Tryz.func39 (by kernel_rfl) rfl #[.agg #[.slice A0 l0.length c0, .slice A1 l1.length c1], .string (gS ws 1), .slice A2 (ws.drop 2).length c2] (by rfl) rfl rfl n7 ?_
 have hE := Uy HBD.out (gS ws 1) HT.out (Kd.aM lH.1 HB2.out) uR.1 (Kd.aM rU.1 HB2.out) rW.1 pL.1 pK.1
 rw [← NR.out] at hE
 dsimp only at hE
 refine hE.mono ?_
 clear hE
 rintro e_ w3 ⟨v0, v1, rfl, hn, hb⟩
 obtain ⟨B0, d0, B1, d1, rfl, rfl⟩ := hn.slices
 have HNB := am hn
 have HG3 := am (aV HG2.out hb)
 have HW3 := am (HW2.out.below hb)
 have HB3 := am hb
 clear hn hb
 refine ⟨_, rfl, ?_⟩
 refine hK.out _ _ ⟨(aH HG3.out 0).trans rfl, (aH HG3.out 1).trans rfl, HW3.out.cell 1 HN1.out⟩ (fun hHeld => ?_)
 clear hK K
 refine nM ?_
 refine pU0 11 (some 78) ?_
 refine pU0 12 (some 79) ?_
 refine R9 (i := 13) (N := some 80) (bz 15 16383) rfl rfl (by kernel_rfl) (by decide) (fun K hK => ?_)
 refine kF Tryz.func37 (by kernel_rfl) rfl #[.pointer (some ⟨g, 0, none⟩), .agg #[.slice B0 r1.length d0, .slice B1 r2.length d1], .int .i64 cc] (by rfl) rfl rfl n7 ?_
 refine (BA HOK.1.1 HG3.out).mono ?_
 rintro e_ w4 ⟨rfl, hcm⟩
 have HCM := am hcm
 clear hcm
 refine ⟨_, rfl, ?_⟩
 refine hK.out _ _ ?_
 clear hK K
 refine nM ?_
 refine pU0 14 (some 4) ?_
 refine qO (by kernel_rfl) ?_
 go_wp2
 go_ret
 obtain ⟨z1, z2⟩ := EF ⟨A0, c0, A1, c1, HG.out, ⟨lH.1, uR.1⟩, rU.1, rW.1⟩ HB2.out HB3.out (dU HG.out) HNB.out HCM.1 HOK.1.2
 exact ⟨rfl, z1, z2⟩
set_option maxHeartbeats 4000000 in
theorem nZ {g : Nat} {l0 : List ByteArray} {l1 : List MB} {s : ByteArray} {ws : List ByteArray} {w : World} (hS : Sess w g l0 l1) (hm : jJ w) (hs : s.size < 4294967281) (hw : pieces s ⟨#[32]⟩ = ws) (hn0 : 0 < ws.length)  (y_show : IsL s [115, 104, 111, 119] false) (y_order : IsL s [111, 114, 100, 101, 114] false) (y_moves : IsL s [109, 111, 118, 101, 115] false) (hq : (IsW ws [116, 104, 105, 110, 103, 115] false ∧ IsW ws [101, 110, 116, 101, 114] false ∧ IsW ws [97, 115, 107] false ∧ IsW ws [108, 101, 115, 115] false ∧ IsW ws [108, 101, 97, 118, 101] false ∧ IsW ws [119, 97, 105, 116, 115] false ∧ IsW ws [119, 104, 111] false ∧ True ∧ True) ∨ (IsW ws [116, 104, 105, 110, 103, 115] false ∧ IsW ws [101, 110, 116, 101, 114] true ∧ IsW ws [97, 115, 107] false ∧ IsW ws [108, 101, 115, 115] false ∧ IsW ws [108, 101, 97, 118, 101] false ∧ IsW ws [119, 97, 105, 116, 115] false ∧ IsW ws [119, 104, 111] false ∧ decide (1 < (ws.length : Int)) = false ∧ decide (1 < ws.length) = false) ∨ (IsW ws [116, 104, 105, 110, 103, 115] false ∧ IsW ws [101, 110, 116, 101, 114] false ∧ IsW ws [97, 115, 107] true ∧ IsW ws [108, 101, 115, 115] false ∧ IsW ws [108, 101, 97, 118, 101] false ∧ IsW ws [119, 97, 105, 116, 115] false ∧ IsW ws [119, 104, 111] false ∧ decide (1 < (ws.length : Int)) = false ∧ decide (1 < ws.length) = false) ∨ (IsW ws [116, 104, 105, 110, 103, 115] false ∧ IsW ws [101, 110, 116, 101, 114] false ∧ IsW ws [97, 115, 107] false ∧ IsW ws [108, 101, 115, 115] true ∧ IsW ws [108, 101, 97, 118, 101] false ∧ IsW ws [119, 97, 105, 116, 115] false ∧ IsW ws [119, 104, 111] false ∧ decide (1 < (ws.length : Int)) = false ∧ decide (1 < ws.length) = false) ∨ (IsW ws [116, 104, 105, 110, 103, 115] false ∧ IsW ws [101, 110, 116, 101, 114] false ∧ IsW ws [97, 115, 107] false ∧ IsW ws [108, 101, 115, 115] false ∧ IsW ws [108, 101, 97, 118, 101] true ∧ IsW ws [119, 97, 105, 116, 115] false ∧ IsW ws [119, 104, 111] false ∧ ((ws.length : Int) == 2) = false ∧ decide (ws.length = 2) = false) ∨ (IsW ws [116, 104, 105, 110, 103, 115] false ∧ IsW ws [101, 110, 116, 101, 114] false ∧ IsW ws [97, 115, 107] false ∧ IsW ws [108, 101, 115, 115] false ∧ IsW ws [108, 101, 97, 118, 101] false ∧ IsW ws [119, 97, 105, 116, 115] true ∧ IsW ws [119, 104, 111] false ∧ ((ws.length : Int) == 2) = false ∧ decide (ws.length = 2) = false) ∨ (IsW ws [116, 104, 105, 110, 103, 115] false ∧ IsW ws [101, 110, 116, 101, 114] false ∧ IsW ws [97, 115, 107] false ∧ IsW ws [108, 101, 115, 115] false ∧ IsW ws [108, 101, 97, 118, 101] false ∧ IsW ws [119, 97, 105, 116, 115] false ∧ IsW ws [119, 104, 111] true ∧ ((ws.length : Int) == 2) = false ∧ decide (ws.length = 2) = false)) :
    Calls Tryz.prog 11 #[.pointer (some ⟨g, 0, none⟩), .string s] w (Ans w g l0 l1 (⟨#[98, 97, 100]⟩ : ByteArray)) := by
 unfold IsL at y_show y_order y_moves
 obtain ⟨A0, c0, A1, c1, HG, lH, uR, rU, rW⟩ := lQ hS
 have HSP := am (hw ▸ jV s 32 w hm hs)
 clear hS hm hs hw
 have hu31 := Tryz.underlying31
 have hu37 := Tryz.underlying37
 have hu27 := Tryz.underlying27
 have HN0 := am hn0
 obtain ⟨n0, n0', q0, q0'⟩ := oP hn0
 clear hn0
 rcases hq with ⟨t_things, t_enter, t_ask, t_less, t_leave, t_waits, t_who, m1, m2⟩ | ⟨t_things, t_enter, t_ask, t_less, t_leave, t_waits, t_who, m1, m2⟩ | ⟨t_things, t_enter, t_ask, t_less, t_leave, t_waits, t_who, m1, m2⟩ | ⟨t_things, t_enter, t_ask, t_less, t_leave, t_waits, t_who, m1, m2⟩ | ⟨t_things, t_enter, t_ask, t_less, t_leave, t_waits, t_who, m1, m2⟩ | ⟨t_things, t_enter, t_ask, t_less, t_leave, t_waits, t_who, m1, m2⟩ | ⟨t_things, t_enter, t_ask, t_less, t_leave, t_waits, t_who, m1, m2⟩
 all_goals
  unfold IsW at t_things t_enter t_ask t_less t_leave t_waits t_who
  go_enter Tryz.func11, Tryz.ntmps11
  go_wp2_with ((go_at_call 10; refine HSP.out.mono ?_; rintro e_ w1 ⟨b, c, rfl, hws, _, hb⟩; obtain ⟨HWS, HB1, HG1, x0, y0, y1, f0, f1⟩ := nT hws hb HG HN0; clear hws hb))
  go_ret
  exact rC ⟨A0, c0, A1, c1, HG.out, ⟨lH.1, uR.1⟩, rU.1, rW.1⟩ HB1.out
set_option maxHeartbeats 4000000 in
theorem SS {g : Nat} {l0 : List ByteArray} {l1 : List MB} {s : ByteArray} {ws : List ByteArray} {w : World} (hS : Sess w g l0 l1) (hm : jJ w) (hs : s.size < 4294967281) (hw : pieces s ⟨#[32]⟩ = ws) (hbd : Bd l0 l1) (t_things : IsW ws [116, 104, 105, 110, 103, 115] false) (t_enter : IsW ws [101, 110, 116, 101, 114] true)  (hl : 1 < ws.length) (ht : (ws.drop 2).length ≤ 1048576) :
  Calls Tryz.prog 11 #[.pointer (some ⟨g, 0, none⟩), .string s] w (Ans w g (jL l0 l1 (gS ws 1) (ws.drop 2)).1 (jL l0 l1 (gS ws 1) (ws.drop 2)).2.1 (nR (jL l0 l1 (gS ws 1) (ws.drop 2)).2.2)) := by
 unfold IsW at t_things t_enter
 obtain ⟨⟨r1, r2, cc⟩, hr⟩ : ∃ r, r = jL l0 l1 (gS ws 1) (ws.drop 2) := ⟨_, rfl⟩
 have hok := O0 hbd.ok (gS ws 1) (ws.drop 2)
 rw [← hr] at hok ⊢
 dsimp only at hok ⊢
 obtain ⟨_, nY, mH, hsame⟩ := hok
 have HOK := am (show (0 ≤ cc ∧ cc < 10) ∧ (cc ≠ 0 → r1 = l0 ∧ r2 = l1) from ⟨⟨nY, mH⟩, hsame⟩)
 have NR := am hr
 have HBD := am hbd
 have HN1 := am hl
 have hn0 : 0 < ws.length := by omega
 have HT := am ht
 clear ht
 clear nY mH hsame hbd hr
 obtain ⟨n1, n1', q1, q1'⟩ := AB hl
 clear hl
 obtain ⟨A0, c0, A1, c1, HG, lH, uR, rU, rW⟩ := lQ hS
 have HSP := am (hw ▸ jV s 32 w hm hs)
 clear hS hm hs hw
 have hu31 := Tryz.underlying31
 have hu37 := Tryz.underlying37
 have hu27 := Tryz.underlying27
 have HN0 := am hn0
 obtain ⟨n0, n0', q0, q0'⟩ := oP hn0
 clear hn0
 go_enter Tryz.func11, Tryz.ntmps11
 try go_wp2_with ((go_at_call 10; refine HSP.out.mono ?_; rintro e_ w1 ⟨b, c, rfl, hws, _, hb⟩; obtain ⟨HWS, HB1, HG1, x0, y0, y1, f0, f1⟩ := nT hws hb HG HN0; clear hws hb))
 have HG2 := am (dM HG1.out)
 have HW2 := am (show WsAt w1.drew b c ws from HWS.out.below (aU (Below.refl _ _)))
 have HB2 := am (aU HB1.out)
 clear HG1 HWS HB1 x0 y0 y1 f0 f1
 obtain ⟨A2, c2, hcut_, rP, mH⟩ := HW2.out.cut 2 HN1.out
 have hcut : ∀ W : World, (Instr.slice 27 (.slice (some ⟨b, 0, none⟩) ws.length c) (some (.int .i64 2)) none none).run Tryz.prog W = .ok (.slice A2 (ws.drop 2).length c2) W := hcut_
 have pL := am rP
 have pK := am mH
 have q2 : ((2 : Int) ≤ (ws.length : Int)) = True := eq_true (by have := HN1.out; omega)
 clear hcut_ rP mH
 refine sT (S := fun w' => w'.cell? ⟨g, 0, none⟩ = some (.slice A0 l0.length c0) ∧ w'.cell? ⟨g, 1, none⟩ = some (.slice A1 l1.length c1) ∧ w'.cell? ⟨b, 1, none⟩ = some (.string (gS ws 1))) [13] 15 ⟨⟨(aH HG2.out 0).trans rfl, (aH HG2.out 1).trans rfl, HW2.out.cell 1 HN1.out⟩⟩ (fun hHeld => ?_)
 generalize w1.drew = w2 at HG2 HW2 HB2 pL hHeld ⊢
 refine pU0 0 (some 43) ?_
 refine pU0 1 (some 44) ?_
 refine pU0 2 (some 45) ?_
 refine pU0 3 (some 46) ?_
 refine tK3_ 4 (some 47) ?_
 refine pU0 5 (some 48) ?_
 refine pU0 6 (some 49) ?_
 refine tK3_ 7 (some 50) ?_
 refine pU0 8 (some 51) ?_
 refine pU0 9 (some 52) ?_
 refine oM 10 (some 53) fun K hK => ?_
 refine kF Tryz.func38 (by kernel_rfl) rfl #[.agg #[.slice A0 l0.length c0, .slice A1 l1.length c1], .string (gS ws 1), .slice A2 (ws.drop 2).length c2] (by rfl) rfl rfl n7 ?_
 have hE := enter_at HBD.out (gS ws 1) HT.out (Kd.aM lH.1 HB2.out) uR.1 (Kd.aM rU.1 HB2.out) rW.1 pL.1 pK.1
 rw [← NR.out] at hE
 dsimp only at hE
 refine hE.mono ?_
 clear hE
 rintro e_ w3 ⟨v0, v1, rfl, hn, hb⟩
 obtain ⟨B0, d0, B1, d1, rfl, rfl⟩ := hn.slices
 have HNB := am hn
 have HG3 := am (aV HG2.out hb)
 have HW3 := am (HW2.out.below hb)
 have HB3 := am hb
 clear hn hb
 refine ⟨_, rfl, ?_⟩
 refine hK.out _ _ ⟨(aH HG3.out 0).trans rfl, (aH HG3.out 1).trans rfl, HW3.out.cell 1 HN1.out⟩ (fun hHeld => ?_)
 clear hK K
 refine nM ?_
 refine pU0 11 (some 54) ?_
 refine pU0 12 (some 55) ?_
 refine R9 (i := 13) (N := some 56) (bz 15 16383) rfl rfl (by kernel_rfl) (by decide) (fun K hK => ?_)
 refine kF Tryz.func37 (by kernel_rfl) rfl #[.pointer (some ⟨g, 0, none⟩), .agg #[.slice B0 r1.length d0, .slice B1 r2.length d1], .int .i64 cc] (by rfl) rfl rfl n7 ?_
 refine (BA HOK.1.1 HG3.out).mono ?_
 rintro e_ w4 ⟨rfl, hcm⟩
 have HCM := am hcm
 clear hcm
 refine ⟨_, rfl, ?_⟩
 refine hK.out _ _ ?_
 clear hK K
 refine nM ?_
 refine pU0 14 (some 4) ?_
 refine qO (by kernel_rfl) ?_
 go_wp2
 go_ret
 obtain ⟨z1, z2⟩ := EF ⟨A0, c0, A1, c1, HG.out, ⟨lH.1, uR.1⟩, rU.1, rW.1⟩ HB2.out HB3.out (dU HG.out) HNB.out HCM.1 HOK.1.2
 exact ⟨rfl, z1, z2⟩
set_option maxHeartbeats 4000000 in
theorem SV {g : Nat} {l0 : List ByteArray} {l1 : List MB} {s : ByteArray} {ws : List ByteArray} {w : World} (hS : Sess w g l0 l1) (hm : jJ w) (hs : s.size < 4294967281) (hw : pieces s ⟨#[32]⟩ = ws) (hbd : Bd l0 l1) (t_things : IsW ws [116, 104, 105, 110, 103, 115] false) (t_enter : IsW ws [101, 110, 116, 101, 114] false) (t_ask : IsW ws [97, 115, 107] false) (t_less : IsW ws [108, 101, 115, 115] false) (t_leave : IsW ws [108, 101, 97, 118, 101] true)  (hl : 1 < ws.length) (m1 : ((ws.length : Int) == 2) = true) (m2 : decide (ws.length = 2) = true) :
  Calls Tryz.prog 11 #[.pointer (some ⟨g, 0, none⟩), .string s] w (Ans w g (jN l0 l1 (gS ws 1)).1 (jN l0 l1 (gS ws 1)).2.1 (nR (jN l0 l1 (gS ws 1)).2.2)) := by
 unfold IsW at t_things t_enter t_ask t_less t_leave
 obtain ⟨⟨r1, r2, cc⟩, hr⟩ : ∃ r, r = jN l0 l1 (gS ws 1) := ⟨_, rfl⟩
 have hok := OH hbd.ok (gS ws 1)
 rw [← hr] at hok ⊢
 dsimp only at hok ⊢
 obtain ⟨_, nY, mH, hsame⟩ := hok
 have HOK := am (show (0 ≤ cc ∧ cc < 10) ∧ (cc ≠ 0 → r1 = l0 ∧ r2 = l1) from ⟨⟨nY, mH⟩, hsame⟩)
 have NR := am hr
 have HBD := am hbd
 have HN1 := am hl
 have hn0 : 0 < ws.length := by omega
 clear nY mH hsame hbd hr
 obtain ⟨n1, n1', q1, q1'⟩ := AB hl
 clear hl
 obtain ⟨A0, c0, A1, c1, HG, lH, uR, rU, rW⟩ := lQ hS
 have HSP := am (hw ▸ jV s 32 w hm hs)
 clear hS hm hs hw
 have hu31 := Tryz.underlying31
 have hu37 := Tryz.underlying37
 have hu27 := Tryz.underlying27
 have HN0 := am hn0
 obtain ⟨n0, n0', q0, q0'⟩ := oP hn0
 clear hn0
 go_enter Tryz.func11, Tryz.ntmps11
 try go_wp2_with ((go_at_call 10; refine HSP.out.mono ?_; rintro e_ w1 ⟨b, c, rfl, hws, _, hb⟩; obtain ⟨HWS, HB1, HG1, x0, y0, y1, f0, f1⟩ := nT hws hb HG HN0; clear hws hb))
 have HG2 := am (dM HG1.out)
 have HW2 := am (show WsAt w1.drew b c ws from HWS.out.below (aU (Below.refl _ _)))
 have HB2 := am (aU HB1.out)
 clear HG1 HWS HB1 x0 y0 y1 f0 f1
 refine sT (S := fun w' => w'.cell? ⟨g, 0, none⟩ = some (.slice A0 l0.length c0) ∧ w'.cell? ⟨g, 1, none⟩ = some (.slice A1 l1.length c1) ∧ w'.cell? ⟨b, 1, none⟩ = some (.string (gS ws 1))) [11] 13 ⟨⟨(aH HG2.out 0).trans rfl, (aH HG2.out 1).trans rfl, HW2.out.cell 1 HN1.out⟩⟩ (fun hHeld => ?_)
 generalize w1.drew = w2 at HG2 HW2 HB2 hHeld ⊢
 refine pU0 0 (some 115) ?_
 refine pU0 1 (some 116) ?_
 refine pU0 2 (some 117) ?_
 refine pU0 3 (some 118) ?_
 refine tK3_ 4 (some 119) ?_
 refine pU0 5 (some 120) ?_
 refine pU0 6 (some 121) ?_
 refine tK3_ 7 (some 122) ?_
 refine oM 8 (some 123) fun K hK => ?_
 refine kF Tryz.func41 (by kernel_rfl) rfl #[.agg #[.slice A0 l0.length c0, .slice A1 l1.length c1], .string (gS ws 1)] (by rfl) rfl rfl n7 ?_
 have hE := Js HBD.out (gS ws 1) (Kd.aM lH.1 HB2.out) uR.1 (Kd.aM rU.1 HB2.out) rW.1
 rw [← NR.out] at hE
 dsimp only at hE
 refine hE.mono ?_
 clear hE
 rintro e_ w3 ⟨v0, v1, rfl, hn, hb⟩
 obtain ⟨B0, d0, B1, d1, rfl, rfl⟩ := hn.slices
 have HNB := am hn
 have HG3 := am (aV HG2.out hb)
 have HW3 := am (HW2.out.below hb)
 have HB3 := am hb
 clear hn hb
 refine ⟨_, rfl, ?_⟩
 refine hK.out _ _ ⟨(aH HG3.out 0).trans rfl, (aH HG3.out 1).trans rfl, HW3.out.cell 1 HN1.out⟩ (fun hHeld => ?_)
 clear hK K
 refine nM ?_
 refine pU0 9 (some 124) ?_
 refine pU0 10 (some 125) ?_
 refine R9 (i := 11) (N := some 126) (bz 13 4095) rfl rfl (by kernel_rfl) (by decide) (fun K hK => ?_)
 refine kF Tryz.func37 (by kernel_rfl) rfl #[.pointer (some ⟨g, 0, none⟩), .agg #[.slice B0 r1.length d0, .slice B1 r2.length d1], .int .i64 cc] (by rfl) rfl rfl n7 ?_
 refine (BA HOK.1.1 HG3.out).mono ?_
 rintro e_ w4 ⟨rfl, hcm⟩
 have HCM := am hcm
 clear hcm
 refine ⟨_, rfl, ?_⟩
 refine hK.out _ _ ?_
 clear hK K
 refine nM ?_
 refine pU0 12 (some 4) ?_
 refine qO (by kernel_rfl) ?_
 go_wp2
 go_ret
 obtain ⟨z1, z2⟩ := EF ⟨A0, c0, A1, c1, HG.out, ⟨lH.1, uR.1⟩, rU.1, rW.1⟩ HB2.out HB3.out (dU HG.out) HNB.out HCM.1 HOK.1.2
 exact ⟨rfl, z1, z2⟩
set_option maxHeartbeats 4000000 in
theorem VD {g : Nat} {l0 : List ByteArray} {l1 : List MB} {s : ByteArray} {ws : List ByteArray} {w : World} (hS : Sess w g l0 l1) (hm : jJ w) (hs : s.size < 4294967281) (hw : pieces s ⟨#[32]⟩ = ws) (hbd : Bd l0 l1) (t_things : IsW ws [116, 104, 105, 110, 103, 115] false) (t_enter : IsW ws [101, 110, 116, 101, 114] false) (t_ask : IsW ws [97, 115, 107] false) (t_less : IsW ws [108, 101, 115, 115] true)  (hl : 1 < ws.length) (ht : (ws.drop 2).length ≤ 1048576) :
  Calls Tryz.prog 11 #[.pointer (some ⟨g, 0, none⟩), .string s] w (Ans w g (lI l0 l1 (gS ws 1) (ws.drop 2)).1 (lI l0 l1 (gS ws 1) (ws.drop 2)).2.1 (nR (lI l0 l1 (gS ws 1) (ws.drop 2)).2.2)) := by
 unfold IsW at t_things t_enter t_ask t_less
 obtain ⟨⟨r1, r2, cc⟩, hr⟩ : ∃ r, r = lI l0 l1 (gS ws 1) (ws.drop 2) := ⟨_, rfl⟩
 have hok := U6 hbd.ok (gS ws 1) (ws.drop 2)
 rw [← hr] at hok ⊢
 dsimp only at hok ⊢
 obtain ⟨_, nY, mH, hsame⟩ := hok
 have HOK := am (show (0 ≤ cc ∧ cc < 10) ∧ (cc ≠ 0 → r1 = l0 ∧ r2 = l1) from ⟨⟨nY, mH⟩, hsame⟩)
 have NR := am hr
 have HBD := am hbd
 have HN1 := am hl
 have hn0 : 0 < ws.length := by omega
 have HT := am ht
 clear ht
 clear nY mH hsame hbd hr
 obtain ⟨n1, n1', q1, q1'⟩ := AB hl
 clear hl
 obtain ⟨A0, c0, A1, c1, HG, lH, uR, rU, rW⟩ := lQ hS
 have HSP := am (hw ▸ jV s 32 w hm hs)
 clear hS hm hs hw
 have hu31 := Tryz.underlying31
 have hu37 := Tryz.underlying37
 have hu27 := Tryz.underlying27
 have HN0 := am hn0
 obtain ⟨n0, n0', q0, q0'⟩ := oP hn0
 clear hn0
 go_enter Tryz.func11, Tryz.ntmps11
 try go_wp2_with ((go_at_call 10; refine HSP.out.mono ?_; rintro e_ w1 ⟨b, c, rfl, hws, _, hb⟩; obtain ⟨HWS, HB1, HG1, x0, y0, y1, f0, f1⟩ := nT hws hb HG HN0; clear hws hb))
 have HG2 := am (dM HG1.out)
 have HW2 := am (show WsAt w1.drew b c ws from HWS.out.below (aU (Below.refl _ _)))
 have HB2 := am (aU HB1.out)
 clear HG1 HWS HB1 x0 y0 y1 f0 f1
 obtain ⟨A2, c2, hcut_, rP, mH⟩ := HW2.out.cut 2 HN1.out
 have hcut : ∀ W : World, (Instr.slice 27 (.slice (some ⟨b, 0, none⟩) ws.length c) (some (.int .i64 2)) none none).run Tryz.prog W = .ok (.slice A2 (ws.drop 2).length c2) W := hcut_
 have pL := am rP
 have pK := am mH
 have q2 : ((2 : Int) ≤ (ws.length : Int)) = True := eq_true (by have := HN1.out; omega)
 clear hcut_ rP mH
 refine sT (S := fun w' => w'.cell? ⟨g, 0, none⟩ = some (.slice A0 l0.length c0) ∧ w'.cell? ⟨g, 1, none⟩ = some (.slice A1 l1.length c1) ∧ w'.cell? ⟨b, 1, none⟩ = some (.string (gS ws 1))) [13] 15 ⟨⟨(aH HG2.out 0).trans rfl, (aH HG2.out 1).trans rfl, HW2.out.cell 1 HN1.out⟩⟩ (fun hHeld => ?_)
 generalize w1.drew = w2 at HG2 HW2 HB2 pL hHeld ⊢
 refine pU0 0 (some 91) ?_
 refine pU0 1 (some 92) ?_
 refine pU0 2 (some 93) ?_
 refine pU0 3 (some 94) ?_
 refine tK3_ 4 (some 95) ?_
 refine pU0 5 (some 96) ?_
 refine pU0 6 (some 97) ?_
 refine tK3_ 7 (some 98) ?_
 refine pU0 8 (some 99) ?_
 refine pU0 9 (some 100) ?_
 refine oM 10 (some 101) fun K hK => ?_
 refine kF Tryz.func40 (by kernel_rfl) rfl #[.agg #[.slice A0 l0.length c0, .slice A1 l1.length c1], .string (gS ws 1), .slice A2 (ws.drop 2).length c2] (by rfl) rfl rfl n7 ?_
 have hE := Pd HBD.out (gS ws 1) HT.out (Kd.aM lH.1 HB2.out) uR.1 (Kd.aM rU.1 HB2.out) rW.1 pL.1 pK.1
 rw [← NR.out] at hE
 dsimp only at hE
 refine hE.mono ?_
 clear hE
 rintro e_ w3 ⟨v0, v1, rfl, hn, hb⟩
 obtain ⟨B0, d0, B1, d1, rfl, rfl⟩ := hn.slices
 have HNB := am hn
 have HG3 := am (aV HG2.out hb)
 have HW3 := am (HW2.out.below hb)
 have HB3 := am hb
 clear hn hb
 refine ⟨_, rfl, ?_⟩
 refine hK.out _ _ ⟨(aH HG3.out 0).trans rfl, (aH HG3.out 1).trans rfl, HW3.out.cell 1 HN1.out⟩ (fun hHeld => ?_)
 clear hK K
 refine nM ?_
 refine pU0 11 (some 102) ?_
 refine pU0 12 (some 103) ?_
 refine R9 (i := 13) (N := some 104) (bz 15 16383) rfl rfl (by kernel_rfl) (by decide) (fun K hK => ?_)
 refine kF Tryz.func37 (by kernel_rfl) rfl #[.pointer (some ⟨g, 0, none⟩), .agg #[.slice B0 r1.length d0, .slice B1 r2.length d1], .int .i64 cc] (by rfl) rfl rfl n7 ?_
 refine (BA HOK.1.1 HG3.out).mono ?_
 rintro e_ w4 ⟨rfl, hcm⟩
 have HCM := am hcm
 clear hcm
 refine ⟨_, rfl, ?_⟩
 refine hK.out _ _ ?_
 clear hK K
 refine nM ?_
 refine pU0 14 (some 4) ?_
 refine qO (by kernel_rfl) ?_
 go_wp2
 go_ret
 obtain ⟨z1, z2⟩ := EF ⟨A0, c0, A1, c1, HG.out, ⟨lH.1, uR.1⟩, rU.1, rW.1⟩ HB2.out HB3.out (dU HG.out) HNB.out HCM.1 HOK.1.2
 exact ⟨rfl, z1, z2⟩
set_option maxHeartbeats 4000000 in
theorem LK {g : Nat} {l0 : List ByteArray} {l1 : List MB} {s : ByteArray} {ws : List ByteArray} {w : World} (hS : Sess w g l0 l1) (hm : jJ w) (hs : s.size < 4294967281) (hw : pieces s ⟨#[32]⟩ = ws) (hn0 : 0 < ws.length) (hbd : Bd l0 l1) (t_things : IsW ws [116, 104, 105, 110, 103, 115] false) (t_enter : IsW ws [101, 110, 116, 101, 114] false) (t_ask : IsW ws [97, 115, 107] false) (t_less : IsW ws [108, 101, 115, 115] false) (t_leave : IsW ws [108, 101, 97, 118, 101] false) (y_show : IsL s [115, 104, 111, 119] false) (y_order : IsL s [111, 114, 100, 101, 114] true) (hf : Few (jS l0 l1).1) (ho : (jS l0 l1).2 = false) :
  Calls Tryz.prog 11 #[.pointer (some ⟨g, 0, none⟩), .string s] w (Ans w g l0 l1 (⟨#[110, 111]⟩ : ByteArray)) := by
 unfold IsW at t_things t_enter t_ask t_less t_leave
 unfold IsL at y_show y_order
 have HBD := am hbd
 have HFW := am hf
 clear hbd hf
 obtain ⟨A0, c0, A1, c1, HG, lH, uR, rU, rW⟩ := lQ hS
 have HSP := am (hw ▸ jV s 32 w hm hs)
 clear hS hm hs hw
 have hu31 := Tryz.underlying31
 have hu37 := Tryz.underlying37
 have hu27 := Tryz.underlying27
 have HN0 := am hn0
 obtain ⟨n0, n0', q0, q0'⟩ := oP hn0
 clear hn0
 go_enter Tryz.func11, Tryz.ntmps11
 go_wp2_with (first | (go_at_call 10; refine HSP.out.mono ?_; rintro e_ w1 ⟨b, c, rfl, hws, _, hb⟩; obtain ⟨HWS, HB1, HG1, x0, y0, y1, f0, f1⟩ := nT hws hb HG HN0; clear hws hb) | (go_at_call 44; refine (WV HBD.out (Kd.aM lH.1 HB1.out) uR.1 (Kd.aM rU.1 HB1.out) rW.1).mono ?_; rintro e_ w2 ⟨v, rfl, hr, hb⟩; obtain ⟨AL, cL, rfl⟩ := Kd.cB hr; have HRL := am (Kd.bI hr).2.2; have HCL := am (Kd.bI hr).2.1; have HB2 := am hb; clear hr hb) | (go_at_call 43; refine cM (J3 HFW.out HRL.1 HCL.1) ?_; rintro w3 hb; have HB3 := am hb; clear hb))
 go_ret
 exact rC ⟨A0, c0, A1, c1, HG.out, ⟨lH.1, uR.1⟩, rU.1, rW.1⟩ (dG HB1.out HB2.out)
set_option maxHeartbeats 4000000 in
theorem SY {g : Nat} {l0 : List ByteArray} {l1 : List MB} {s : ByteArray} {ws : List ByteArray} {w : World} (hS : Sess w g l0 l1) (hm : jJ w) (hs : s.size < 4294967281) (hw : pieces s ⟨#[32]⟩ = ws) (hn0 : 0 < ws.length) (hbd : Bd l0 l1) (t_things : IsW ws [116, 104, 105, 110, 103, 115] false) (t_enter : IsW ws [101, 110, 116, 101, 114] false) (t_ask : IsW ws [97, 115, 107] false) (t_less : IsW ws [108, 101, 115, 115] false) (t_leave : IsW ws [108, 101, 97, 118, 101] false) (y_show : IsL s [115, 104, 111, 119] false) (y_order : IsL s [111, 114, 100, 101, 114] true) (hf : Few (jS l0 l1).1) (ho : (jS l0 l1).2 = true) :
  Calls Tryz.prog 11 #[.pointer (some ⟨g, 0, none⟩), .string s] w (Ans w g l0 l1 (qI (jS l0 l1).1)) := by
 unfold IsW at t_things t_enter t_ask t_less t_leave
 unfold IsL at y_show y_order
 have HBD := am hbd
 have HFW := am hf
 clear hbd hf
 obtain ⟨A0, c0, A1, c1, HG, lH, uR, rU, rW⟩ := lQ hS
 have HSP := am (hw ▸ jV s 32 w hm hs)
 clear hS hm hs hw
 have hu31 := Tryz.underlying31
 have hu37 := Tryz.underlying37
 have hu27 := Tryz.underlying27
 have HN0 := am hn0
 obtain ⟨n0, n0', q0, q0'⟩ := oP hn0
 clear hn0
 go_enter Tryz.func11, Tryz.ntmps11
 go_wp2_with (first | (go_at_call 10; refine HSP.out.mono ?_; rintro e_ w1 ⟨b, c, rfl, hws, _, hb⟩; obtain ⟨HWS, HB1, HG1, x0, y0, y1, f0, f1⟩ := nT hws hb HG HN0; clear hws hb) | (go_at_call 44; refine (WV HBD.out (Kd.aM lH.1 HB1.out) uR.1 (Kd.aM rU.1 HB1.out) rW.1).mono ?_; rintro e_ w2 ⟨v, rfl, hr, hb⟩; obtain ⟨AL, cL, rfl⟩ := Kd.cB hr; have HRL := am (Kd.bI hr).2.2; have HCL := am (Kd.bI hr).2.1; have HB2 := am hb; clear hr hb) | (go_at_call 43; refine cM (J3 HFW.out HRL.1 HCL.1) ?_; rintro w3 hb; have HB3 := am hb; clear hb))
 go_ret
 exact rC ⟨A0, c0, A1, c1, HG.out, ⟨lH.1, uR.1⟩, rU.1, rW.1⟩ (dG (dG HB1.out HB2.out) HB3.out)
set_option maxHeartbeats 4000000 in
theorem SX {g : Nat} {l0 : List ByteArray} {l1 : List MB} {s : ByteArray} {ws : List ByteArray} {w : World} (hS : Sess w g l0 l1) (hm : jJ w) (hs : s.size < 4294967281) (hw : pieces s ⟨#[32]⟩ = ws) (hn0 : 0 < ws.length) (hbd : Bd l0 l1) (t_things : IsW ws [116, 104, 105, 110, 103, 115] false) (t_enter : IsW ws [101, 110, 116, 101, 114] false) (t_ask : IsW ws [97, 115, 107] false) (t_less : IsW ws [108, 101, 115, 115] false) (t_leave : IsW ws [108, 101, 97, 118, 101] false) (y_show : IsL s [115, 104, 111, 119] false) (y_order : IsL s [111, 114, 100, 101, 114] false) (y_moves : IsL s [109, 111, 118, 101, 115] true) (hf : Few (qB l0 l1)) :
  Calls Tryz.prog 11 #[.pointer (some ⟨g, 0, none⟩), .string s] w (Ans w g l0 l1 (qI (qB l0 l1))) := by
 unfold IsW at t_things t_enter t_ask t_less t_leave
 unfold IsL at y_show y_order y_moves
 have HBD := am hbd
 have HFW := am hf
 clear hbd hf
 obtain ⟨A0, c0, A1, c1, HG, lH, uR, rU, rW⟩ := lQ hS
 have HSP := am (hw ▸ jV s 32 w hm hs)
 clear hS hm hs hw
 have hu31 := Tryz.underlying31
 have hu37 := Tryz.underlying37
 have hu27 := Tryz.underlying27
 have HN0 := am hn0
 obtain ⟨n0, n0', q0, q0'⟩ := oP hn0
 clear hn0
 go_enter Tryz.func11, Tryz.ntmps11
 go_wp2_with (first | (go_at_call 10; refine HSP.out.mono ?_; rintro e_ w1 ⟨b, c, rfl, hws, _, hb⟩; obtain ⟨HWS, HB1, HG1, x0, y0, y1, f0, f1⟩ := nT hws hb HG HN0; clear hws hb) | (go_at_call 45; refine (Ju HBD.out (Kd.aM lH.1 HB1.out) uR.1 (Kd.aM rU.1 HB1.out) rW.1).mono ?_; rintro e_ w2 ⟨v, rfl, hr, hb⟩; obtain ⟨AL, cL, rfl⟩ := Kd.cB hr; have HRL := am (Kd.bI hr).2.2; have HCL := am (Kd.bI hr).2.1; have HB2 := am hb; clear hr hb) | (go_at_call 43; refine cM (J3 HFW.out HRL.1 HCL.1) ?_; rintro w3 hb; have HB3 := am hb; clear hb))
 go_ret
 exact rC ⟨A0, c0, A1, c1, HG.out, ⟨lH.1, uR.1⟩, rU.1, rW.1⟩ (dG (dG HB1.out HB2.out) HB3.out)
def xV (b : MB) : List ByteArray := (b.f0 ++ (⟨#[58]⟩ : ByteArray)) :: b.f2.map fun s => if hasS b.f1 s = true then s ++ (⟨#[33]⟩ : ByteArray) else s
def nA (bs : List MB) : List ByteArray := bs.flatMap xV
theorem OV {bs : List MB} {i : Nat} (h : i < bs.length) : nA (bs.take (i + 1)) = nA (bs.take i) ++ xV bs[i] := by
 unfold nA; rw [List.take_succ_eq_append_getElem h, List.flatMap_append]; simp
theorem x9 (b : MB) : (xV b).length = b.f2.length + 1 := by unfold xV; simp
theorem GD (b : MB) {j : Nat} (h : j < b.f2.length) : (xV b).take (j + 2) = (xV b).take (j + 1) ++ [if hasS b.f1 b.f2[j] = true then b.f2[j] ++ (⟨#[33]⟩ : ByteArray) else b.f2[j]] := by
 rw [List.take_succ_eq_append_getElem (by rw [x9]; omega)]
 congr 1
 unfold xV
 rw [List.getElem_cons_succ, List.getElem_map]
theorem Em {l0 : List ByteArray} {l1 : List MB} (h : Bd l0 l1) : ∀ s ∈ nA l1, s.size ≤ 16 := by
 intro s hs
 unfold nA at hs
 obtain ⟨b, hb, hs⟩ := List.mem_flatMap.1 hs
 obtain ⟨h1, _, _, h4⟩ := h.each b hb
 unfold xV at hs
 rcases List.mem_cons.1 hs with rfl | hs
 ·rw [ByteArray.size_append]; have : (⟨#[58]⟩ : ByteArray).size = 1 := rfl; omega
 obtain ⟨x, hx, rfl⟩ := List.mem_map.1 hs
 have := h4 x hx
 split
 ·rw [ByteArray.size_append]; have : (⟨#[33]⟩ : ByteArray).size = 1 := rfl; omega
 omega
theorem X5 {l : List MB} (h : ∀ b ∈ l, b.f2.length ≤ 8) : (nA l).length ≤ 9 * l.length := by
 induction l with
 | nil => simp [nA]
 | cons b r ih =>
  have h1 := h b (List.mem_cons_self ..)
  have h2 := ih fun x hx => h x (List.mem_cons_of_mem _ hx)
  unfold nA at h2 ⊢
  rw [List.flatMap_cons, List.length_append, x9, List.length_cons]; omega
theorem OW {l0 : List ByteArray} {l1 : List MB} (h : Bd l0 l1) : Few (nA l1) := by
 have := X5 (l := l1) fun b hb => (h.each b hb).2.2.1
 have := h.five
 exact ⟨by omega, Em h⟩
theorem RO {l0 : List ByteArray} {l1 : List MB} (h : Bd l0 l1) (i : Nat) : (nA (l1.take i)).length ≤ 45 := by
 have := X5 (l := l1.take i) fun b hb => (h.each b (List.mem_of_mem_take hb)).2.2.1
 have h2 := h.five
 rw [List.length_take] at this
 omega
set_option maxHeartbeats 4000000 in
theorem VE {g : Nat} {l0 : List ByteArray} {l1 : List MB} {s : ByteArray} {ws : List ByteArray} {w : World} (hS : Sess w g l0 l1) (hm : jJ w) (hs : s.size < 4294967281) (hw : pieces s ⟨#[32]⟩ = ws) (hn0 : 0 < ws.length) (hbd : Bd l0 l1) (t_things : IsW ws [116, 104, 105, 110, 103, 115] false) (t_enter : IsW ws [101, 110, 116, 101, 114] false) (t_ask : IsW ws [97, 115, 107] false) (t_less : IsW ws [108, 101, 115, 115] false) (t_leave : IsW ws [108, 101, 97, 118, 101] false) (y_show : IsL s [115, 104, 111, 119] true) :
  Calls Tryz.prog 11 #[.pointer (some ⟨g, 0, none⟩), .string s] w (Ans w g l0 l1 (qI (nA l1))) := by
 unfold IsW at t_things t_enter t_ask t_less t_leave
 unfold IsL at y_show
 have HBD := am hbd
 clear hbd
 obtain ⟨A0, c0, A1, c1, HG, lH, uR, rU, rW⟩ := lQ hS
 have HSP := am (hw ▸ jV s 32 w hm hs)
 clear hS hm hs hw
 have hu31 := Tryz.underlying31
 have hu37 := Tryz.underlying37
 have hu27 := Tryz.underlying27
 have hu66 := Tryz.underlying66
 have HN0 := am hn0
 obtain ⟨n0, n0', q0, q0'⟩ := oP hn0
 clear hn0
 go_enter Tryz.func11, Tryz.ntmps11
 go_wp2_with (first | (go_at_call 10; refine HSP.out.mono ?_; rintro e_ w1 ⟨b, c, rfl, hws, _, hb⟩; obtain ⟨HWS, HB1, HG1, x0, y0, y1, f0, f1⟩ := nT hws hb HG HN0; clear hws hb) | ((with_reducible refine dF (N := 130) rfl ?_); refine Kd.H6 Kd.string _ 9 ?hg (N := 130) ?hd (xs := ([] : List ByteArray)) (inner := []) (ok := fun _ => True) (okp := fun _ => True) ?hr ?hp (fun _ hk => hk) trivial (Below.refl _ _) (Nat.le_refl _) (by simp) ?_; (case hd => rfl); (case hg => rfl); (case hr => first | (go_simp; done) | (go_simp; rfl)); (case hp => exact (Reps.none _ _)); intro v2 w2 IE hb hg_ hnew_; clear hg_ hnew_; have HO := am (Kd.eF IE HB1.out.size); have HB := am (dG HB1.out hb); have HG2 := am (aV HG1.out hb); clear IE hb x0 y0 y1 f0 f1; have y0 : w2.cell? ⟨g, 0, none⟩ = some (.slice A0 l0.length c0) := (aH HG2.out 0).trans rfl; have y1 : w2.cell? ⟨g, 1, none⟩ = some (.slice A1 l1.length c1) := (aH HG2.out 1).trans rfl))
 clear y0 y1 HG2
 go_loopg [7, 137] l1.length (fun gg v7 Yr wr => ∃ x : Int, Yr = .int .i64 x ∧ (0 ≤ x ∧ x ≤ l1.length) ∧ l1.length - x.toNat ≤ gg ∧ aD (Kd.R Kd.string 9 wr w.heap.size (fun _ => True) v7 (nA (l1.take x.toNat))) ∧ aD (Below w.heap.size w wr))
 case atStart => exact ⟨0, rfl, ⟨by omega, by omega⟩, by simp, HO, HB⟩
 clear HO HB
 obtain ⟨x, rfl, ⟨EI, MQ⟩, hgg, HO, HB⟩ := hrel
 by_cases c5 : x < (l1.length : Int)
 ·have HXI := am (show 0 ≤ x ∧ x < (l1.length : Int) from ⟨EI, c5⟩)
  have HGG := am hgg
  obtain ⟨ad, Ah, ch, An, cn, e6, hz0, hz1, hz2, qy, qx, QZ, Fc⟩ := AY rU.1 x EI c5
  cases e6
  replace hz0 := hX HB hz0
  replace hz1 := hX HB hz1
  replace hz2 := hX HB hz2
  obtain ⟨bb, hbb⟩ : ∃ bb, bb = aA l1 x := ⟨_, rfl⟩
  rw [← hbb] at hz0 hz1 hz2 qy qx QZ Fc
  have HBB := am (show (∃ h : x.toNat < l1.length, bb = l1[x.toNat]'h) ∧ bb ∈ l1 from by
   have e7 : bb = l1[x.toNat]'(by omega) := by
    rw [hbb]; unfold aA; rw [List.getD_eq_getElem?_getD, List.getElem?_eq_getElem (by omega)]; rfl
   exact ⟨⟨by omega, e7⟩, e7 ▸ List.getElem_mem _⟩)
  have HSZ := am (HBD.out.each bb HBB.out.2)
  have zz : (9223372036854775807 < bb.f0.size + 1) = False := eq_false (by have := HSZ.out.1; omega)
  have LM := am (RO HBD.out x.toNat)
  have HRh := am qx
  have HCh := am qy
  have HRn := am Fc
  have HCn := am QZ
  have HGr := am (aV HG.out HB.1)
  have c5b : decide (x < (l1.length : Int)) = true := decide_eq_true c5
  have p6 : ((0 : Int) ≤ x) = True := eq_true EI
  have q6 : (x < (l1.length : Int)) = True := eq_true c5
  clear hbb qx qy Fc QZ EI MQ c5 hgg HGr
  go_wp2_with (first | ((with_reducible refine dF (N := 9) rfl ?_); (refine dX ?hg (N := 9) ?hd (cs := #[.string (⟨#[]⟩ : ByteArray), .slice none 0 0, .slice none 0 0]) (t := 66) ?hr ?_; (case hd => rfl); (case hg => rfl); (case hr => first | (go_simp; done) | (go_simp; rfl)); intro Iw hg w9 hbox hb; have od := RB HO.out hb; have GE9 := am (show w.heap.size ≤ Iw from by rw [hg]; exact HB.1.size); have n_ := bS HB.1 hb; clear HB; have HB := n_; clear n_; have PM := am hbox; have k0 : w9.cell? ⟨Iw, 0, none⟩ = some (.string (⟨#[]⟩ : ByteArray)) := (aH hbox 0).trans rfl; have k1 : w9.cell? ⟨Iw, 1, none⟩ = some (.slice none 0 0) := (aH hbox 1).trans rfl; have k2 : w9.cell? ⟨Iw, 2, none⟩ = some (.slice none 0 0) := (aH hbox 2).trans rfl; have k3 := bL hbox 0; have k4 := bL hbox 1; have k5 := bL hbox 2; clear hb hbox hg)) | ((with_reducible refine fA (b := .append) (xs := #[.tmp 141, .tmp 145]) rfl ?_); at_builtin; refine Kd.jD Kd.string (w0 := w) w.heap.size rfl (.tmp 141) (.tmp 145) 27 9 (.string ⟨#[]⟩) 16 rfl Tryz.underlying27 jP rfl (by decide) (by omega) u7 (nA (l1.take x.toNat)) (bb.f0 ++ (⟨#[58]⟩ : ByteArray)) [.string (bb.f0 ++ (⟨#[58]⟩ : ByteArray))] (fun _ => True) (fun _ => False) rfl (by first | rfl | (go_simp; done) | (go_simp; rfl)) ?aP (fun _ hk => hk.elim) ?aF ?aO ?aB ?aS ?aL ?_; (case aP => exact rfl); (case aB => exact UD); (case aF => exact (fun _ _ => trivial)); (case aO => exact (by refine rR ?_; exact Kd.bG (fR (fR (fR (tR od PM)))) (fun _ hk => trivial))); (case aS => exact (aK UD)); (case aL => have := LM.out; omega); intro v3 UZ ho hb hg hat; have Yz := am ho; replace HB := am hb; have BKn := am (mG (g := Iw) (o := .cells #[.string bb.f0, .slice Ah bb.f1.length ch, .slice An bb.f2.length cn] 66 (0, 0)) (by refine rB ?_; exact bD (cs := #[.string bb.f0, .slice Ah bb.f1.length ch, .slice none 0 0]) (bD (cs := #[.string bb.f0, .slice none 0 0, .slice none 0 0]) (bD (cs := #[.string (⟨#[]⟩ : ByteArray), .slice none 0 0, .slice none 0 0]) PM.1 0 _ rfl) 1 _ rfl) 2 _ rfl) hg (Kd.R_ne od.1 PM.1 (by decide))); clear PM od k0 k1 k2 k3 k4 k5; have PM := BKn; clear BKn; have j2 : UZ.cell? ⟨Iw, 2, none⟩ = some (.slice An bb.f2.length cn) := (aH PM.1 2).trans rfl; clear ho hb hg hat))
  have LM2 := am (show ∀ y : Nat, y ≤ bb.f2.length → (nA (l1.take x.toNat) ++ (xV bb).take (y + 1)).length ≤ 60 from fun y hy => by
   have h1 := LM.out
   have h2 := HSZ.out.2.2.1
   rw [List.length_append, List.length_take, x9]; omega)
  clear hz0 hz1 hz2 c5b p6 q6 zz
  go_loopg [7, 150] bb.f2.length (fun gg v7 sv wr => ∃ y : Int, sv = .int .i64 y ∧ (0 ≤ y ∧ y ≤ bb.f2.length) ∧ bb.f2.length - y.toNat ≤ gg ∧ aD (Kd.R Kd.string 9 wr w.heap.size (fun _ => True) v7 (nA (l1.take x.toNat) ++ (xV bb).take (y.toNat + 1))) ∧ aD (wr.heap[Iw]? = some (.cells #[.string bb.f0, .slice Ah bb.f1.length ch, .slice An bb.f2.length cn] 66 (0, 0))) ∧ aD (Below w.heap.size w wr))
  case atStart => exact ⟨0, rfl, ⟨by omega, by omega⟩, by simp, Yz, PM, HB⟩
  clear HO Yz HB PM j2
  obtain ⟨y, rfl, ⟨hy0, hy1⟩, hgy, HO, PM, HB⟩ := hrel
  have k1 : wr.cell? ⟨Iw, 1, none⟩ = some (.slice Ah bb.f1.length ch) := (aH PM.1 1).trans rfl
  have k2 : wr.cell? ⟨Iw, 2, none⟩ = some (.slice An bb.f2.length cn) := (aH PM.1 2).trans rfl
  by_cases c6 : y < (bb.f2.length : Int)
  ·obtain ⟨ay, e8, hxy⟩ := Kd.uX HRn.1 y hy0 c6
   cases e8
   replace hxy := hX HB hxy
   obtain ⟨sy, hsy⟩ : ∃ sy, sy = rdOf ByteArray.empty bb.f2 y := ⟨_, rfl⟩
   rw [← hsy] at hxy
   have HSY := am (show (∃ h : y.toNat < bb.f2.length, sy = bb.f2[y.toNat]'h) ∧ sy ∈ bb.f2 from by
    have e7 : sy = bb.f2[y.toNat]'(by omega) := by
     rw [hsy]; unfold rdOf; rw [List.getD_eq_getElem?_getD, List.getElem?_eq_getElem (by omega)]; rfl
    exact ⟨⟨by omega, e7⟩, e7 ▸ List.getElem_mem _⟩)
   have zz : (9223372036854775807 < sy.size + 1) = False := eq_false (by have := HSZ.out.2.2.2 sy HSY.out.2; omega)
   have uj := am (LM2.out y.toNat (by omega))
   have HYI := am (show 0 ≤ y ∧ y < (bb.f2.length : Int) from ⟨hy0, c6⟩)
   have HGY := am hgy
   have HH0 := yJ bb.f1 sy (by have := HSZ.out.2.1; omega)
   have c6b : decide (y < (bb.f2.length : Int)) = true := decide_eq_true c6
   have p7 : ((0 : Int) ≤ y) = True := eq_true hy0
   have q7 : (y < (bb.f2.length : Int)) = True := eq_true c6
   clear hsy hy0 hy1 c6 hgy
   by_cases hh : hasS bb.f1 sy = true
   ·have HV := am hh
    rw [hh] at HH0
    have HH := am HH0
    clear HH0 hh
    go_wp2_with (first | (go_at_call 42; refine cM (aW.calls (bb.f1.length + 1) _ _ bb.f1 sy true _ (Kd.aM HRh.1 HB.1) HCh.1 HH.out) ?_; rintro w' ⟨nd, rfl⟩) | ((with_reducible refine fA (b := .append) (xs := #[.tmp 160, .tmp 162]) rfl ?_); at_builtin; refine Kd.jD Kd.string (w0 := w) w.heap.size rfl (.tmp 160) (.tmp 162) 27 9 (.string ⟨#[]⟩) 16 rfl Tryz.underlying27 jP rfl (by decide) (by omega) u7 (nA (l1.take x.toNat) ++ (xV bb).take (y.toNat + 1)) (sy ++ (⟨#[33]⟩ : ByteArray)) [.string (sy ++ (⟨#[33]⟩ : ByteArray))] (fun _ => True) (fun _ => False) rfl (by first | rfl | (go_simp; done) | (go_simp; rfl)) ?aP (fun _ hk => hk.elim) ?aF ?aO ?aB ?aS ?aL ?_; (case aP => exact rfl); (case aB => exact UD); (case aF => exact (fun _ _ => trivial)); (case aO => exact (rR HO.out)); (case aS => exact (aK UD)); (case aL => have := uj.out; omega); intro v3 UZ ho hb hg hat; have Yz := am ho; replace HB := am hb; have BKn := am (mG (g := Iw) (o := .cells #[.string bb.f0, .slice Ah bb.f1.length ch, .slice (some ay) bb.f2.length cn] 66 (0, 0)) (rB PM.1) hg (Kd.R_ne HO.out PM.1 (by decide))); clear PM; have PM := BKn; clear BKn; clear ho hb hg hat))
    go_roundg (bb.f2.length - (y.toNat + 1))
    case measure => have := HGY.out; have := HYI.out; omega
    have hw : wrap64 (y + 1) = y + 1 := by have := HYI.out; have := HSZ.out.2.2.1; unfold wrap64; omega
    have e9 : (y + 1).toNat + 1 = y.toNat + 2 := by have := HYI.out; omega
    refine ⟨y + 1, by first | rfl | rw [hw] | (simp only [hw]; done), ⟨by have := HYI.out; omega, by have := HYI.out; omega⟩, by have := HYI.out; omega, ⟨?_⟩, ⟨?_⟩, ⟨?_⟩⟩
    ·obtain ⟨hq, ii⟩ := HSY.out.1
     rw [e9, GD bb hq, ← ii, if_pos HV.out, ← List.append_assoc]
     (with_reducible repeat (first | apply Kd.o6 | apply Kd.o7 | apply Kd.qM)); exact Yz.1
    ·refine rB ?_; exact PM.1
    exact UD
   have HV := am hh
   rw [Bool.eq_false_iff.mpr hh] at HH0
   have HH := am HH0
   clear HH0 hh
   go_wp2_with (first | (go_at_call 42; refine cM (aW.calls (bb.f1.length + 1) _ _ bb.f1 sy false _ (Kd.aM HRh.1 HB.1) HCh.1 HH.out) ?_; rintro w' ⟨nd, rfl⟩) | ((with_reducible refine fA (b := .append) (xs := #[.tmp 160, .tmp 162]) rfl ?_); at_builtin; refine Kd.jD Kd.string (w0 := w) w.heap.size rfl (.tmp 160) (.tmp 162) 27 9 (.string ⟨#[]⟩) 16 rfl Tryz.underlying27 jP rfl (by decide) (by omega) u7 (nA (l1.take x.toNat) ++ (xV bb).take (y.toNat + 1)) (sy) [.string (sy)] (fun _ => True) (fun _ => False) rfl (by first | rfl | (go_simp; done) | (go_simp; rfl)) ?aP (fun _ hk => hk.elim) ?aF ?aO ?aB ?aS ?aL ?_; (case aP => exact rfl); (case aB => exact UD); (case aF => exact (fun _ _ => trivial)); (case aO => exact (rR HO.out)); (case aS => exact (aK UD)); (case aL => have := uj.out; omega); intro v3 UZ ho hb hg hat; have Yz := am ho; replace HB := am hb; have BKn := am (mG (g := Iw) (o := .cells #[.string bb.f0, .slice Ah bb.f1.length ch, .slice (some ay) bb.f2.length cn] 66 (0, 0)) (rB PM.1) hg (Kd.R_ne HO.out PM.1 (by decide))); clear PM; have PM := BKn; clear BKn; clear ho hb hg hat))
   go_roundg (bb.f2.length - (y.toNat + 1))
   case measure => have := HGY.out; have := HYI.out; omega
   have hw : wrap64 (y + 1) = y + 1 := by have := HYI.out; have := HSZ.out.2.2.1; unfold wrap64; omega
   have e9 : (y + 1).toNat + 1 = y.toNat + 2 := by have := HYI.out; omega
   refine ⟨y + 1, by first | rfl | rw [hw] | (simp only [hw]; done), ⟨by have := HYI.out; omega, by have := HYI.out; omega⟩, by have := HYI.out; omega, ⟨?_⟩, ⟨?_⟩, ⟨?_⟩⟩
   ·obtain ⟨hq, ii⟩ := HSY.out.1
    rw [e9, GD bb hq, ← ii, if_neg HV.out, ← List.append_assoc]
    (with_reducible repeat (first | apply Kd.o6 | apply Kd.o7 | apply Kd.qM)); exact Yz.1
   ·refine rB ?_; exact PM.1
   exact UD
  have c6b : decide (y < (bb.f2.length : Int)) = false := decide_eq_false c6
  have ey : y.toNat = bb.f2.length := by omega
  have HEY := am ey
  clear ey c6 hy0 hy1 hgy
  go_wp2
  go_roundg (l1.length - (x.toNat + 1))
  case measure => have := HGG.out; have := HXI.out; omega
  have hw : wrap64 (x + 1) = x + 1 := by have := HXI.out; have := HBD.out.five; unfold wrap64; omega
  have e9 : (x + 1).toNat = x.toNat + 1 := by have := HXI.out; omega
  refine ⟨x + 1, by first | rfl | rw [hw] | (simp only [hw]; done), ⟨by have := HXI.out; omega, by have := HXI.out; omega⟩, by have := HXI.out; omega, ⟨?_⟩, ⟨?_⟩⟩
  ·obtain ⟨_, ii⟩ := HBB.out.1
   rw [e9, OV (by have := HXI.out; omega), ← ii]
   have h7 := HO.out
   rw [HEY.out, ← x9, List.take_length] at h7
   (with_reducible repeat (first | apply Kd.o6 | apply Kd.o7 | apply Kd.qM)); exact h7
  exact UD
 have c5b : decide (x < (l1.length : Int)) = false := decide_eq_false c5
 have h7 := HO.out
 rw [show x.toNat = l1.length from by omega, List.take_length] at h7
 obtain ⟨AL, cL, e8⟩ := Kd.cB h7
 subst e8
 have HRL := am (Kd.bI h7).2.2
 have HCL := am (Kd.bI h7).2.1
 have HFW := am (OW HBD.out)
 clear h7 EI MQ c5 hgg HO
 go_wp2_with ((go_at_call 43; refine cM (J3 HFW.out HRL.1 HCL.1) ?_; rintro w3 hb; have HB3 := am hb; clear hb))
 go_ret
 exact rC ⟨A0, c0, A1, c1, HG.out, ⟨lH.1, uR.1⟩, rU.1, rW.1⟩ (dG HB.1 HB3.out)
set_option maxHeartbeats 4000000 in
theorem JV {g : Nat} {l0 : List ByteArray} {l1 : List MB} {s : ByteArray} {ws : List ByteArray} {w : World} (hS : Sess w g l0 l1) (hm : jJ w) (hs : s.size < 4294967281) (hw : pieces s ⟨#[32]⟩ = ws) (hn0 : 0 < ws.length) (ht : (ws.drop 1).length ≤ 1048576) (t_things : IsW ws [116, 104, 105, 110, 103, 115] true)  (ho : iY (ws.drop 1) [] = false) :
  Calls Tryz.prog 11 #[.pointer (some ⟨g, 0, none⟩), .string s] w (Ans w g l0 l1 (⟨#[110, 111]⟩ : ByteArray)) := by
 unfold IsW at t_things
 generalize hd_ : ws.drop 1 = t1 at ht ho ⊢
 have HD := am hd_
 clear hd_
 have HT := am ht
 have HO := am ho
 clear ht ho
 obtain ⟨A0, c0, A1, c1, HG, lH, uR, rU, rW⟩ := lQ hS
 have HSP := am (hw ▸ jV s 32 w hm hs)
 clear hS hm hs hw
 have hu31 := Tryz.underlying31
 have hu37 := Tryz.underlying37
 have hu27 := Tryz.underlying27
 have HN0 := am hn0
 obtain ⟨n0, n0', q0, q0'⟩ := oP hn0
 clear hn0
 go_enter Tryz.func11, Tryz.ntmps11
 go_wp2_with (first | (go_at_call 10; refine HSP.out.mono ?_; rintro e_ w1 ⟨b, c, rfl, hws, _, hb⟩; obtain ⟨HWS, HB1, HG1, x0, y0, y1, f0, f1⟩ := nT hws hb HG HN0; clear hws hb; have hcu_ := HWS.out.cut 1 HN0.out; rw [HD.out] at hcu_; obtain ⟨A2, c2, hcut_, rP, mH⟩ := hcu_; have hcut : ∀ W : World, (Instr.slice 27 (.slice (some ⟨b, 0, none⟩) ws.length c) (some (.int .i64 1)) none none).run Tryz.prog W = .ok (.slice A2 t1.length c2) W := hcut_; have pL := am rP; have pK := am mH; clear hcut_ rP mH) | (go_at_call 35; refine (VP HT.out pL.1 pK.1).mono ?_; rintro e_ w2 ⟨A3, c3, rfl, hr, hb⟩; have ab := am hr; have HB2 := am hb; have HG2 := am (aV HG1.out hb); clear hr hb x0 y0 y1 f0 f1 hcut) | ((with_reducible refine dF (N := 6) rfl ?_); (refine dX ?hg (N := 6) ?hd (cs := #[.slice none 0 0, .slice none 0 0]) (t := 31) ?hr ?_; (case hd => rfl); (case hg => rfl); (case hr => first | (go_simp; done) | (go_simp; rfl)); intro gb hgb w3 hbox hb; have HNE := am (show g ≠ gb from by have := dU HG2.out; omega); have HB3 := am hb; have HG3 := am (aV HG2.out hb); have kv := am (Kd.iI (Kd.bG (Kd.lL ab.1) (fun k hk => hk.2.2.1)) hb); have HBX := am hbox; have HGL := am (show w2.heap.size ≤ gb from Nat.le_of_eq hgb.symm); have z0 : w3.cell? ⟨gb, 0, none⟩ = some (.slice none 0 0) := (aH hbox 0).trans rfl; have z1 : w3.cell? ⟨gb, 1, none⟩ = some (.slice none 0 0) := (aH hbox 1).trans rfl; have z2 := bL hbox 0; have z3 := bL hbox 1; clear hb hgb hbox)) | (go_at_call 36; refine (VI HT.out (RG kv.1 HGL.out)).mono ?_; rw [HO.out]; rintro e_ w4 ⟨rfl, hb⟩; have HB4 := am hb; have HBX4 := am (aV (bD (cs := #[.slice A3 t1.length c3, .slice none 0 0]) (bD (cs := #[.slice none 0 0, .slice none 0 0]) HBX.out 0 _ rfl) 1 _ rfl) hb); have HG4 := am (aV (eX (eX HG3.out (p := ⟨gb, 0, none⟩) HNE.out _) (p := ⟨gb, 1, none⟩) HNE.out _) hb); clear z0 z1 z2 z3 hb; have z0 : w4.cell? ⟨gb, 0, none⟩ = some (.slice A3 t1.length c3) := (aH HBX4.out 0).trans rfl; have z1 : w4.cell? ⟨gb, 1, none⟩ = some (.slice none 0 0) := (aH HBX4.out 1).trans rfl; have y0 : w4.cell? ⟨g, 0, none⟩ = some (.slice A0 l0.length c0) := (aH HG4.out 0).trans rfl; have y1 : w4.cell? ⟨g, 1, none⟩ = some (.slice A1 l1.length c1) := (aH HG4.out 1).trans rfl; have f0 := bL HG4.out 0; have f1 := bL HG4.out 1))
 go_ret
 have hA := dG (dG HB1.out HB2.out) HB3.out
 have hB := dG (aJ (aJ hA (Nat.le_trans (dG HB1.out HB2.out).size HGL.out)) (Nat.le_trans (dG HB1.out HB2.out).size HGL.out)) HB4.out
 exact rC ⟨A0, c0, A1, c1, HG.out, ⟨lH.1, uR.1⟩, rU.1, rW.1⟩ hB
set_option maxHeartbeats 4000000 in
theorem PN {g : Nat} {l0 : List ByteArray} {l1 : List MB} {s : ByteArray} {ws : List ByteArray} {w : World} (hS : Sess w g l0 l1) (hm : jJ w) (hs : s.size < 4294967281) (hw : pieces s ⟨#[32]⟩ = ws) (hn0 : 0 < ws.length) (ht : (ws.drop 1).length ≤ 1048576) (t_things : IsW ws [116, 104, 105, 110, 103, 115] true)  (ho : iY (ws.drop 1) [] = true) :
  Calls Tryz.prog 11 #[.pointer (some ⟨g, 0, none⟩), .string s] w (Ans w g (ws.drop 1) [] (⟨#[111, 107]⟩ : ByteArray)) := by
 unfold IsW at t_things
 generalize hd_ : ws.drop 1 = t1 at ht ho ⊢
 have HD := am hd_
 clear hd_
 have HT := am ht
 have HO := am ho
 clear ht ho
 obtain ⟨A0, c0, A1, c1, HG, lH, uR, rU, rW⟩ := lQ hS
 have HSP := am (hw ▸ jV s 32 w hm hs)
 clear hS hm hs hw
 have hu31 := Tryz.underlying31
 have hu37 := Tryz.underlying37
 have hu27 := Tryz.underlying27
 have HN0 := am hn0
 obtain ⟨n0, n0', q0, q0'⟩ := oP hn0
 clear hn0
 go_enter Tryz.func11, Tryz.ntmps11
 go_wp2_with (first | (go_at_call 10; refine HSP.out.mono ?_; rintro e_ w1 ⟨b, c, rfl, hws, _, hb⟩; obtain ⟨HWS, HB1, HG1, x0, y0, y1, f0, f1⟩ := nT hws hb HG HN0; clear hws hb; have hcu_ := HWS.out.cut 1 HN0.out; rw [HD.out] at hcu_; obtain ⟨A2, c2, hcut_, rP, mH⟩ := hcu_; have hcut : ∀ W : World, (Instr.slice 27 (.slice (some ⟨b, 0, none⟩) ws.length c) (some (.int .i64 1)) none none).run Tryz.prog W = .ok (.slice A2 t1.length c2) W := hcut_; have pL := am rP; have pK := am mH; clear hcut_ rP mH) | (go_at_call 35; refine (VP HT.out pL.1 pK.1).mono ?_; rintro e_ w2 ⟨A3, c3, rfl, hr, hb⟩; have ab := am hr; have HB2 := am hb; have HG2 := am (aV HG1.out hb); clear hr hb x0 y0 y1 f0 f1 hcut) | ((with_reducible refine dF (N := 6) rfl ?_); (refine dX ?hg (N := 6) ?hd (cs := #[.slice none 0 0, .slice none 0 0]) (t := 31) ?hr ?_; (case hd => rfl); (case hg => rfl); (case hr => first | (go_simp; done) | (go_simp; rfl)); intro gb hgb w3 hbox hb; have HNE := am (show g ≠ gb from by have := dU HG2.out; omega); have HB3 := am hb; have HG3 := am (aV HG2.out hb); have kv := am (Kd.iI (Kd.bG (Kd.lL ab.1) (fun k hk => hk.2.2.1)) hb); have HBX := am hbox; have HGL := am (show w2.heap.size ≤ gb from Nat.le_of_eq hgb.symm); have z0 : w3.cell? ⟨gb, 0, none⟩ = some (.slice none 0 0) := (aH hbox 0).trans rfl; have z1 : w3.cell? ⟨gb, 1, none⟩ = some (.slice none 0 0) := (aH hbox 1).trans rfl; have z2 := bL hbox 0; have z3 := bL hbox 1; clear hb hgb hbox)) | (go_at_call 36; refine (VI HT.out (RG kv.1 HGL.out)).mono ?_; rw [HO.out]; rintro e_ w4 ⟨rfl, hb⟩; have HB4 := am hb; have HBX4 := am (aV (bD (cs := #[.slice A3 t1.length c3, .slice none 0 0]) (bD (cs := #[.slice none 0 0, .slice none 0 0]) HBX.out 0 _ rfl) 1 _ rfl) hb); have HG4 := am (aV (eX (eX HG3.out (p := ⟨gb, 0, none⟩) HNE.out _) (p := ⟨gb, 1, none⟩) HNE.out _) hb); clear z0 z1 z2 z3 hb; have z0 : w4.cell? ⟨gb, 0, none⟩ = some (.slice A3 t1.length c3) := (aH HBX4.out 0).trans rfl; have z1 : w4.cell? ⟨gb, 1, none⟩ = some (.slice none 0 0) := (aH HBX4.out 1).trans rfl; have y0 : w4.cell? ⟨g, 0, none⟩ = some (.slice A0 l0.length c0) := (aH HG4.out 0).trans rfl; have y1 : w4.cell? ⟨g, 1, none⟩ = some (.slice A1 l1.length c1) := (aH HG4.out 1).trans rfl; have f0 := bL HG4.out 0; have f1 := bL HG4.out 1))
 go_ret
 have hA := dG (dG HB1.out HB2.out) HB3.out
 have hB := dG (aJ (aJ hA (Nat.le_trans (dG HB1.out HB2.out).size HGL.out)) (Nat.le_trans (dG HB1.out HB2.out).size HGL.out)) HB4.out
 exact ⟨rfl, XC (Nat.lt_of_lt_of_le (dU HG.out) HB1.out.size) kv.1 HGL.out HB4.out HG4.out, ((hB.mono (Nat.le_of_lt (dU HG.out))).setCell (p := ⟨g, 0, none⟩) (Nat.le_refl _) _).setCell (p := ⟨g, 1, none⟩) (Nat.le_refl _) _⟩
set_option maxHeartbeats 4000000 in
theorem T9 {g : Nat} {l0 : List ByteArray} {l1 : List MB} {s : ByteArray} {ws : List ByteArray} {w : World} (hS : Sess w g l0 l1) (hm : jJ w) (hs : s.size < 4294967281) (hw : pieces s ⟨#[32]⟩ = ws) (hl : 1 < ws.length) (m1 : ((ws.length : Int) == 2) = true) (m2 : decide (ws.length = 2) = true) (hbd : Bd l0 l1) (t_things : IsW ws [116, 104, 105, 110, 103, 115] false) (t_enter : IsW ws [101, 110, 116, 101, 114] false) (t_ask : IsW ws [97, 115, 107] false) (t_less : IsW ws [108, 101, 115, 115] false) (t_leave : IsW ws [108, 101, 97, 118, 101] false) (t_waits : IsW ws [119, 97, 105, 116, 115] true) (y_show : IsL s [115, 104, 111, 119] false) (y_order : IsL s [111, 114, 100, 101, 114] false) (y_moves : IsL s [109, 111, 118, 101, 115] false) (hf : Few (mD l0 l1 (gS ws 1))) :
  Calls Tryz.prog 11 #[.pointer (some ⟨g, 0, none⟩), .string s] w (Ans w g l0 l1 (qI (mD l0 l1 (gS ws 1)))) := by
 unfold IsW at t_things t_enter t_ask t_less t_leave t_waits
 unfold IsL at y_show y_order y_moves
 have HBD := am hbd
 clear hbd
 have HN1 := am hl
 have hn0 : 0 < ws.length := by omega
 have HFW := am hf
 clear hf
 obtain ⟨n1, n1', q1, q1'⟩ := AB hl
 clear hl
 obtain ⟨A0, c0, A1, c1, HG, lH, uR, rU, rW⟩ := lQ hS
 have HSP := am (hw ▸ jV s 32 w hm hs)
 clear hS hm hs hw
 have hu31 := Tryz.underlying31
 have hu37 := Tryz.underlying37
 have hu27 := Tryz.underlying27
 have HN0 := am hn0
 obtain ⟨n0, n0', q0, q0'⟩ := oP hn0
 clear hn0
 go_enter Tryz.func11, Tryz.ntmps11
 try go_wp2_with ((go_at_call 10; refine HSP.out.mono ?_; rintro e_ w1 ⟨b, c, rfl, hws, _, hb⟩; obtain ⟨HWS, HB1, HG1, x0, y0, y1, f0, f1⟩ := nT hws hb HG HN0; clear hws hb))
 have HG2 := am (dM HG1.out)
 have HW2 := am (show WsAt w1.drew b c ws from HWS.out.below (aU (Below.refl _ _)))
 have HB2 := am (aU HB1.out)
 clear HG1 HWS HB1 x0 y0 y1 f0 f1
 refine sT (S := fun w' => w'.cell? ⟨g, 0, none⟩ = some (.slice A0 l0.length c0) ∧ w'.cell? ⟨g, 1, none⟩ = some (.slice A1 l1.length c1) ∧ w'.cell? ⟨b, 1, none⟩ = some (.string (gS ws 1))) [] 10 ⟨⟨(aH HG2.out 0).trans rfl, (aH HG2.out 1).trans rfl, HW2.out.cell 1 HN1.out⟩⟩ (fun hHeld => ?_)
 generalize w1.drew = w2 at HG2 HW2 HB2 hHeld ⊢
 refine pU0 0 (some 202) ?_
 refine pU0 1 (some 203) ?_
 refine pU0 2 (some 204) ?_
 refine tK3_ 3 (some 205) ?_
 refine pU0 4 (some 206) ?_
 refine pU0 5 (some 207) ?_
 refine tK3_ 6 (some 208) ?_
 refine oM 7 (some 209) fun K hK => ?_
 refine kF Tryz.func46 (by kernel_rfl) rfl #[.agg #[.slice A0 l0.length c0, .slice A1 l1.length c1], .string (gS ws 1)] (by rfl) rfl rfl n7 ?_
 refine (Ll HBD.out (gS ws 1) (Kd.aM lH.1 HB2.out) uR.1 (Kd.aM rU.1 HB2.out) rW.1).mono ?_
 rintro e_ w3 ⟨v, rfl, hr, hb⟩
 obtain ⟨AL, cL, rfl⟩ := Kd.cB hr
 have HRL := am (Kd.bI hr).2.2
 have HCL := am (Kd.bI hr).2.1
 have HG3 := am (aV HG2.out hb)
 have HW3 := am (HW2.out.below hb)
 have HB3 := am hb
 clear hr hb
 refine ⟨_, rfl, ?_⟩
 refine hK.out _ _ ⟨(aH HG3.out 0).trans rfl, (aH HG3.out 1).trans rfl, HW3.out.cell 1 HN1.out⟩ (fun hHeld => ?_)
 clear hK K
 refine nM ?_
 refine oM 8 (some 210) fun K hK => ?_
 refine kF Tryz.func43 (by kernel_rfl) rfl #[.slice AL (mD l0 l1 (gS ws 1)).length cL] (by rfl) rfl rfl n7 ?_
 refine (J3 HFW.out HRL.1 HCL.1).mono ?_
 rintro e_ w4 ⟨rfl, hb⟩
 have HB4 := am hb
 have HG4 := am (aV HG3.out hb)
 have HW4 := am (HW3.out.below hb)
 clear hb
 refine ⟨_, rfl, ?_⟩
 refine hK.out _ _ ⟨(aH HG4.out 0).trans rfl, (aH HG4.out 1).trans rfl, HW4.out.cell 1 HN1.out⟩ (fun hHeld => ?_)
 clear hK K
 refine nM ?_
 refine pU0 9 (some 4) ?_
 refine qO (by kernel_rfl) ?_
 go_wp2
 go_ret
 exact rC ⟨A0, c0, A1, c1, HG.out, ⟨lH.1, uR.1⟩, rU.1, rW.1⟩ (dG (dG HB2.out HB3.out) HB4.out)
set_option maxHeartbeats 4000000 in
theorem PO {g : Nat} {l0 : List ByteArray} {l1 : List MB} {s : ByteArray} {ws : List ByteArray} {w : World} (hS : Sess w g l0 l1) (hm : jJ w) (hs : s.size < 4294967281) (hw : pieces s ⟨#[32]⟩ = ws) (hl : 1 < ws.length) (m1 : ((ws.length : Int) == 2) = true) (m2 : decide (ws.length = 2) = true) (hbd : Bd l0 l1) (t_things : IsW ws [116, 104, 105, 110, 103, 115] false) (t_enter : IsW ws [101, 110, 116, 101, 114] false) (t_ask : IsW ws [97, 115, 107] false) (t_less : IsW ws [108, 101, 115, 115] false) (t_leave : IsW ws [108, 101, 97, 118, 101] false) (t_waits : IsW ws [119, 97, 105, 116, 115] false) (t_who : IsW ws [119, 104, 111] true) (y_show : IsL s [115, 104, 111, 119] false) (y_order : IsL s [111, 114, 100, 101, 114] false) (y_moves : IsL s [109, 111, 118, 101, 115] false) (ho : ((whoB l0 l1 (gS ws 1)).toList == ([] : List UInt8)) = true) :
  Calls Tryz.prog 11 #[.pointer (some ⟨g, 0, none⟩), .string s] w (Ans w g l0 l1 (⟨#[110, 111, 110, 101]⟩ : ByteArray)) := by
 unfold IsW at t_things t_enter t_ask t_less t_leave t_waits t_who
 unfold IsL at y_show y_order y_moves
 have HBD := am hbd
 clear hbd
 have HN1 := am hl
 have hn0 : 0 < ws.length := by omega
 have qz : ((whoB l0 l1 (gS ws 1)).toList != ([] : List UInt8)) = false := by simp only [bne, ho]; rfl
 obtain ⟨n1, n1', q1, q1'⟩ := AB hl
 clear hl
 obtain ⟨A0, c0, A1, c1, HG, lH, uR, rU, rW⟩ := lQ hS
 have HSP := am (hw ▸ jV s 32 w hm hs)
 clear hS hm hs hw
 have hu31 := Tryz.underlying31
 have hu37 := Tryz.underlying37
 have hu27 := Tryz.underlying27
 have HN0 := am hn0
 obtain ⟨n0, n0', q0, q0'⟩ := oP hn0
 clear hn0
 go_enter Tryz.func11, Tryz.ntmps11
 try go_wp2_with ((go_at_call 10; refine HSP.out.mono ?_; rintro e_ w1 ⟨b, c, rfl, hws, _, hb⟩; obtain ⟨HWS, HB1, HG1, x0, y0, y1, f0, f1⟩ := nT hws hb HG HN0; clear hws hb))
 have HG2 := am (dM HG1.out)
 have HW2 := am (show WsAt w1.drew b c ws from HWS.out.below (aU (Below.refl _ _)))
 have HB2 := am (aU HB1.out)
 clear HG1 HWS HB1 x0 y0 y1 f0 f1
 refine sT (S := fun w' => w'.cell? ⟨g, 0, none⟩ = some (.slice A0 l0.length c0) ∧ w'.cell? ⟨g, 1, none⟩ = some (.slice A1 l1.length c1) ∧ w'.cell? ⟨b, 1, none⟩ = some (.string (gS ws 1))) [] 9 ⟨⟨(aH HG2.out 0).trans rfl, (aH HG2.out 1).trans rfl, HW2.out.cell 1 HN1.out⟩⟩ (fun hHeld => ?_)
 generalize w1.drew = w2 at HG2 HW2 HB2 hHeld ⊢
 refine pU0 0 (some 221) ?_
 refine pU0 1 (some 222) ?_
 refine pU0 2 (some 223) ?_
 refine tK3_ 3 (some 224) ?_
 refine pU0 4 (some 225) ?_
 refine pU0 5 (some 226) ?_
 refine tK3_ 6 (some 227) ?_
 refine oM 7 (some 228) fun K hK => ?_
 refine kF Tryz.func47 (by kernel_rfl) rfl #[.agg #[.slice A0 l0.length c0, .slice A1 l1.length c1], .string (gS ws 1)] (by rfl) rfl rfl n7 ?_
 refine (Cm HBD.out (gS ws 1) (Kd.aM lH.1 HB2.out) uR.1 (Kd.aM rU.1 HB2.out) rW.1).mono ?_
 rintro e_ w3 ⟨rfl, hb⟩
 have HG3 := am (aV HG2.out hb)
 have HW3 := am (HW2.out.below hb)
 have HB3 := am hb
 clear hb
 refine ⟨_, rfl, ?_⟩
 refine hK.out _ _ ⟨(aH HG3.out 0).trans rfl, (aH HG3.out 1).trans rfl, HW3.out.cell 1 HN1.out⟩ (fun hHeld => ?_)
 clear hK K
 refine nM ?_
 refine pU0 8 (some 14) ?_
 refine qO (by kernel_rfl) ?_
 go_wp2
 go_ret
 exact rC ⟨A0, c0, A1, c1, HG.out, ⟨lH.1, uR.1⟩, rU.1, rW.1⟩ (dG HB2.out HB3.out)
set_option maxHeartbeats 4000000 in
theorem XV {g : Nat} {l0 : List ByteArray} {l1 : List MB} {s : ByteArray} {ws : List ByteArray} {w : World} (hS : Sess w g l0 l1) (hm : jJ w) (hs : s.size < 4294967281) (hw : pieces s ⟨#[32]⟩ = ws) (hl : 1 < ws.length) (m1 : ((ws.length : Int) == 2) = true) (m2 : decide (ws.length = 2) = true) (hbd : Bd l0 l1) (t_things : IsW ws [116, 104, 105, 110, 103, 115] false) (t_enter : IsW ws [101, 110, 116, 101, 114] false) (t_ask : IsW ws [97, 115, 107] false) (t_less : IsW ws [108, 101, 115, 115] false) (t_leave : IsW ws [108, 101, 97, 118, 101] false) (t_waits : IsW ws [119, 97, 105, 116, 115] false) (t_who : IsW ws [119, 104, 111] true) (y_show : IsL s [115, 104, 111, 119] false) (y_order : IsL s [111, 114, 100, 101, 114] false) (y_moves : IsL s [109, 111, 118, 101, 115] false) (ho : ((whoB l0 l1 (gS ws 1)).toList == ([] : List UInt8)) = false) :
  Calls Tryz.prog 11 #[.pointer (some ⟨g, 0, none⟩), .string s] w (Ans w g l0 l1 (whoB l0 l1 (gS ws 1))) := by
 unfold IsW at t_things t_enter t_ask t_less t_leave t_waits t_who
 unfold IsL at y_show y_order y_moves
 have HBD := am hbd
 clear hbd
 have HN1 := am hl
 have hn0 : 0 < ws.length := by omega
 have qz : ((whoB l0 l1 (gS ws 1)).toList != ([] : List UInt8)) = true := by simp only [bne, ho]; rfl
 obtain ⟨n1, n1', q1, q1'⟩ := AB hl
 clear hl
 obtain ⟨A0, c0, A1, c1, HG, lH, uR, rU, rW⟩ := lQ hS
 have HSP := am (hw ▸ jV s 32 w hm hs)
 clear hS hm hs hw
 have hu31 := Tryz.underlying31
 have hu37 := Tryz.underlying37
 have hu27 := Tryz.underlying27
 have HN0 := am hn0
 obtain ⟨n0, n0', q0, q0'⟩ := oP hn0
 clear hn0
 go_enter Tryz.func11, Tryz.ntmps11
 try go_wp2_with ((go_at_call 10; refine HSP.out.mono ?_; rintro e_ w1 ⟨b, c, rfl, hws, _, hb⟩; obtain ⟨HWS, HB1, HG1, x0, y0, y1, f0, f1⟩ := nT hws hb HG HN0; clear hws hb))
 have HG2 := am (dM HG1.out)
 have HW2 := am (show WsAt w1.drew b c ws from HWS.out.below (aU (Below.refl _ _)))
 have HB2 := am (aU HB1.out)
 clear HG1 HWS HB1 x0 y0 y1 f0 f1
 refine sT (S := fun w' => w'.cell? ⟨g, 0, none⟩ = some (.slice A0 l0.length c0) ∧ w'.cell? ⟨g, 1, none⟩ = some (.slice A1 l1.length c1) ∧ w'.cell? ⟨b, 1, none⟩ = some (.string (gS ws 1))) [] 9 ⟨⟨(aH HG2.out 0).trans rfl, (aH HG2.out 1).trans rfl, HW2.out.cell 1 HN1.out⟩⟩ (fun hHeld => ?_)
 generalize w1.drew = w2 at HG2 HW2 HB2 hHeld ⊢
 refine pU0 0 (some 221) ?_
 refine pU0 1 (some 222) ?_
 refine pU0 2 (some 223) ?_
 refine tK3_ 3 (some 224) ?_
 refine pU0 4 (some 225) ?_
 refine pU0 5 (some 226) ?_
 refine tK3_ 6 (some 227) ?_
 refine oM 7 (some 228) fun K hK => ?_
 refine kF Tryz.func47 (by kernel_rfl) rfl #[.agg #[.slice A0 l0.length c0, .slice A1 l1.length c1], .string (gS ws 1)] (by rfl) rfl rfl n7 ?_
 refine (Cm HBD.out (gS ws 1) (Kd.aM lH.1 HB2.out) uR.1 (Kd.aM rU.1 HB2.out) rW.1).mono ?_
 rintro e_ w3 ⟨rfl, hb⟩
 have HG3 := am (aV HG2.out hb)
 have HW3 := am (HW2.out.below hb)
 have HB3 := am hb
 clear hb
 refine ⟨_, rfl, ?_⟩
 refine hK.out _ _ ⟨(aH HG3.out 0).trans rfl, (aH HG3.out 1).trans rfl, HW3.out.cell 1 HN1.out⟩ (fun hHeld => ?_)
 clear hK K
 refine nM ?_
 refine pU0 8 (some 14) ?_
 refine qO (by kernel_rfl) ?_
 go_wp2
 go_ret
 exact rC ⟨A0, c0, A1, c1, HG.out, ⟨lH.1, uR.1⟩, rU.1, rW.1⟩ (dG HB2.out HB3.out)
theorem L6 {P : Nat → Bool} {n j : Nat} : j ∈ sF P n 0 ↔ j < n ∧ P j = true := by
 unfold sF; rw [List.mem_filter, List.mem_range'_1]
 constructor
 ·rintro ⟨h1, h2⟩; exact ⟨by omega, h2⟩
 rintro ⟨h1, h2⟩; exact ⟨by omega, h2⟩
theorem KZ (P : Nat → Bool) (n i : Nat) : (sF P n i).length ≤ n := by
 unfold sF
 refine Nat.le_trans (List.length_filter_le _ _) ?_
 rw [List.length_range']; omega
theorem ZN (ts : List ByteArray) (bs : List IB) (n : ByteArray) : (mD ts bs n).length ≤ bs.length := by
 unfold mD
 split
 ·unfold xY; rw [List.length_map]; exact KZ _ _ _
 simp
theorem YR (ts : List ByteArray) (bs : List IB) : (qB ts bs).length ≤ bs.length := by
 unfold qB
 split
 ·unfold xR; rw [List.length_map]; exact KZ _ _ _
 simp
theorem LD (bs : List IB) : ∀ (d : Nat) (x : List ByteArray), (sH bs d x).1.length ≤ d + x.length
  | 0, x => by simp [sH]
  | d + 1, x => by
    unfold sH
    split
    · simp
    · refine Nat.le_trans (LD bs d _) ?_
      simp; omega
theorem YU (ts : List ByteArray) (bs : List IB) : (jS ts bs).1.length ≤ bs.length := by
 unfold jS
 split
 ·exact LD bs bs.length []
 simp
theorem VY {bs : List IB} : ∀ (d : Nat) (x : List ByteArray), (∀ s ∈ x, ∃ b ∈ bs, s = b.f0) → ∀ s ∈ (sH bs d x).1, ∃ b ∈ bs, s = b.f0
  | 0, x, h => h
  | d + 1, x, h => by
    unfold sH
    cases hn : RH bs x with
    | none => intro s hs; simp at hs
    | some i =>
      have hi := (CR hn).2.1
      refine VY d _ fun s hs => ?_
      rcases List.mem_append.1 hs with hs | hs
      · exact h s hs
      · rw [List.mem_singleton] at hs
        exact ⟨_, CS hi, hs⟩
theorem YD {ts l : List ByteArray} {bs : List IB} (h : Bd ts bs) (hl : l.length ≤ bs.length) (hn : ∀ s ∈ l, ∃ b ∈ bs, s = b.f0) : Few l ∧ ∀ s ∈ l, 1 ≤ s.size := by
 have := h.five
 refine ⟨⟨by omega, fun s hs => ?_⟩, fun s hs => ?_⟩
 ·obtain ⟨b, hb, rfl⟩ := hn s hs
  have := (h.each b hb).1; omega
 obtain ⟨b, hb, rfl⟩ := hn s hs
 exact h.name b hb
theorem x8 {ts : List ByteArray} {bs : List IB} (h : Bd ts bs) : Few (jS ts bs).1 ∧ ∀ s ∈ (jS ts bs).1, 1 ≤ s.size := by
 refine YD h (YU ts bs) ?_
 unfold jS
 rw [if_pos h.ok]
 exact VY _ _ fun s hs => by simp at hs
theorem E8 {ts : List ByteArray} {bs : List IB} (h : Bd ts bs) : Few (qB ts bs) ∧ ∀ s ∈ qB ts bs, 1 ≤ s.size := by
 refine YD h (YR ts bs) ?_
 unfold qB
 rw [if_pos h.ok]
 unfold xR
 intro s hs
 obtain ⟨i, hi, rfl⟩ := List.mem_map.1 hs
 exact ⟨_, CS (L6.1 hi).1, rfl⟩
theorem EG {ts : List ByteArray} {bs : List IB} (h : Bd ts bs) (n : ByteArray) : Few (mD ts bs n) ∧ ∀ s ∈ mD ts bs n, 1 ≤ s.size := by
 refine YD h (ZN ts bs n) ?_
 unfold mD
 split
 ·unfold xY
  intro s hs
  obtain ⟨i, hi, rfl⟩ := List.mem_map.1 hs
  exact ⟨_, CS (L6.1 hi).1, rfl⟩
 intro s hs; simp at hs
def eG (ts : List ByteArray) (bs : List IB) (ws : List ByteArray) : List ByteArray × List IB × ByteArray :=
  if ((gS ws 0).toList == ([116, 104, 105, 110, 103, 115] : List UInt8)) = true then (if iY (ws.drop 1) [] = true then (ws.drop 1, [], (⟨#[111, 107]⟩ : ByteArray)) else (ts, bs, (⟨#[110, 111]⟩ : ByteArray)))
  else if (((gS ws 0).toList == ([101, 110, 116, 101, 114] : List UInt8)) && decide (1 < ws.length)) = true then ((jL ts bs (gS ws 1) (ws.drop 2)).1, (jL ts bs (gS ws 1) (ws.drop 2)).2.1, nR (jL ts bs (gS ws 1) (ws.drop 2)).2.2)
  else if (((gS ws 0).toList == ([97, 115, 107] : List UInt8)) && decide (1 < ws.length)) = true then ((askB ts bs (gS ws 1) (ws.drop 2)).1, (askB ts bs (gS ws 1) (ws.drop 2)).2.1, nR (askB ts bs (gS ws 1) (ws.drop 2)).2.2)
  else if (((gS ws 0).toList == ([108, 101, 115, 115] : List UInt8)) && decide (1 < ws.length)) = true then ((lI ts bs (gS ws 1) (ws.drop 2)).1, (lI ts bs (gS ws 1) (ws.drop 2)).2.1, nR (lI ts bs (gS ws 1) (ws.drop 2)).2.2)
  else if (((gS ws 0).toList == ([108, 101, 97, 118, 101] : List UInt8)) && decide (ws.length = 2)) = true then ((jN ts bs (gS ws 1)).1, (jN ts bs (gS ws 1)).2.1, nR (jN ts bs (gS ws 1)).2.2)
  else if (((gS ws 0).toList == ([115, 104, 111, 119] : List UInt8)) && decide (ws.length = 1)) = true then (ts, bs, qI (nA bs))
  else if (((gS ws 0).toList == ([111, 114, 100, 101, 114] : List UInt8)) && decide (ws.length = 1)) = true then (if (jS ts bs).2 = true then (ts, bs, qI (jS ts bs).1) else (ts, bs, (⟨#[110, 111]⟩ : ByteArray)))
  else if (((gS ws 0).toList == ([109, 111, 118, 101, 115] : List UInt8)) && decide (ws.length = 1)) = true then (ts, bs, qI (qB ts bs))
  else if (((gS ws 0).toList == ([119, 97, 105, 116, 115] : List UInt8)) && decide (ws.length = 2)) = true then (ts, bs, qI (mD ts bs (gS ws 1)))
  else if (((gS ws 0).toList == ([119, 104, 111] : List UInt8)) && decide (ws.length = 2)) = true then (if ((whoB ts bs (gS ws 1)).toList == ([] : List UInt8)) = true then (ts, bs, (⟨#[110, 111, 110, 101]⟩ : ByteArray)) else (ts, bs, whoB ts bs (gS ws 1)))
  else (ts, bs, (⟨#[98, 97, 100]⟩ : ByteArray))
theorem OI {s : ByteArray} {ws : List ByteArray} (hw : pieces s ⟨#[32]⟩ = ws) (k : List UInt8) (hk : cutL 32 k = [k]) : (s.toList == k) = ((gS ws 0).toList == k && decide (ws.length = 1)) := by
 subst hw
 rw [Bool.eq_iff_iff, Bool.and_eq_true, beq_iff_eq, beq_iff_eq, decide_eq_true_eq]
 constructor
 ·intro h
  have e : pieces s ⟨#[32]⟩ = [s] := by rw [vC, wZ, h, hk, ← h, ← wZ]; show [mkB (bl s)] = [s]; rw [uE]
  rw [e]; exact ⟨h, rfl⟩
 rintro ⟨h1, h2⟩
 obtain ⟨t, e⟩ := List.length_eq_one_iff.1 h2
 have e2 := ZC e
 rw [e] at h1
 rw [e2]; exact h1
set_option maxHeartbeats 1600000 in
theorem H9 {g : Nat} {l0 : List ByteArray} {l1 : List MB} {s : ByteArray} {w : World} (hS : Sess w g l0 l1) (hm : jJ w) (hs : s.size ≤ 8000) (hbd : Bd l0 l1) :
  Calls Tryz.prog 11 #[.pointer (some ⟨g, 0, none⟩), .string s] w (Ans w g (eG l0 l1 (pieces s ⟨#[32]⟩)).1 (eG l0 l1 (pieces s ⟨#[32]⟩)).2.1 (eG l0 l1 (pieces s ⟨#[32]⟩)).2.2) := by
 obtain ⟨ws, hw⟩ : ∃ ws, pieces s ⟨#[32]⟩ = ws := ⟨_, rfl⟩
 have hne := sW 32 s
 have hlen := mP 32 s
 have y_show := OI hw [115, 104, 111, 119] (by decide)
 have y_order := OI hw [111, 114, 100, 101, 114] (by decide)
 have y_moves := OI hw [109, 111, 118, 101, 115] (by decide)
 rw [hw] at hne hlen ⊢
 have hn0 : 0 < ws.length := List.length_pos_iff.2 hne
 have CX : s.size < 4294967281 := by omega
 have ht : ∀ m, (ws.drop m).length ≤ 1048576 := fun m => by rw [List.length_drop]; omega
 by_cases k_things : (gS ws 0).toList = ([116, 104, 105, 110, 103, 115] : List UInt8)
 ·have t_things : ((gS ws 0).toList == ([116, 104, 105, 110, 103, 115] : List UInt8)) = true := beq_iff_eq.2 k_things
  have t_enter : ((gS ws 0).toList == ([101, 110, 116, 101, 114] : List UInt8)) = false := by rw [k_things]; decide
  have t_ask : ((gS ws 0).toList == ([97, 115, 107] : List UInt8)) = false := by rw [k_things]; decide
  have t_less : ((gS ws 0).toList == ([108, 101, 115, 115] : List UInt8)) = false := by rw [k_things]; decide
  have t_leave : ((gS ws 0).toList == ([108, 101, 97, 118, 101] : List UInt8)) = false := by rw [k_things]; decide
  have t_show : ((gS ws 0).toList == ([115, 104, 111, 119] : List UInt8)) = false := by rw [k_things]; decide
  have t_order : ((gS ws 0).toList == ([111, 114, 100, 101, 114] : List UInt8)) = false := by rw [k_things]; decide
  have t_moves : ((gS ws 0).toList == ([109, 111, 118, 101, 115] : List UInt8)) = false := by rw [k_things]; decide
  have t_waits : ((gS ws 0).toList == ([119, 97, 105, 116, 115] : List UInt8)) = false := by rw [k_things]; decide
  have t_who : ((gS ws 0).toList == ([119, 104, 111] : List UInt8)) = false := by rw [k_things]; decide
  rw [t_show, Bool.false_and] at y_show
  rw [t_order, Bool.false_and] at y_order
  rw [t_moves, Bool.false_and] at y_moves
  by_cases ho : iY (ws.drop 1) [] = true
  ·rw [show eG l0 l1 ws = (ws.drop 1, [], (⟨#[111, 107]⟩ : ByteArray)) from by simp only [eG, t_things, t_enter, t_ask, t_less, t_leave, t_show, t_order, t_moves, t_waits, t_who, ho, ↓reduceIte]]
   exact PN hS hm CX hw hn0 (ht 1) t_things ho
  rw [show eG l0 l1 ws = (l0, l1, (⟨#[110, 111]⟩ : ByteArray)) from by simp only [eG, t_things, t_enter, t_ask, t_less, t_leave, t_show, t_order, t_moves, t_waits, t_who, Bool.eq_false_iff.mpr ho, ↓reduceIte, Bool.false_eq_true]]
  exact JV hS hm CX hw hn0 (ht 1) t_things (by simpa using ho)
 by_cases k_enter : (gS ws 0).toList = ([101, 110, 116, 101, 114] : List UInt8)
 ·have t_things : ((gS ws 0).toList == ([116, 104, 105, 110, 103, 115] : List UInt8)) = false := by rw [k_enter]; decide
  have t_enter : ((gS ws 0).toList == ([101, 110, 116, 101, 114] : List UInt8)) = true := beq_iff_eq.2 k_enter
  have t_ask : ((gS ws 0).toList == ([97, 115, 107] : List UInt8)) = false := by rw [k_enter]; decide
  have t_less : ((gS ws 0).toList == ([108, 101, 115, 115] : List UInt8)) = false := by rw [k_enter]; decide
  have t_leave : ((gS ws 0).toList == ([108, 101, 97, 118, 101] : List UInt8)) = false := by rw [k_enter]; decide
  have t_show : ((gS ws 0).toList == ([115, 104, 111, 119] : List UInt8)) = false := by rw [k_enter]; decide
  have t_order : ((gS ws 0).toList == ([111, 114, 100, 101, 114] : List UInt8)) = false := by rw [k_enter]; decide
  have t_moves : ((gS ws 0).toList == ([109, 111, 118, 101, 115] : List UInt8)) = false := by rw [k_enter]; decide
  have t_waits : ((gS ws 0).toList == ([119, 97, 105, 116, 115] : List UInt8)) = false := by rw [k_enter]; decide
  have t_who : ((gS ws 0).toList == ([119, 104, 111] : List UInt8)) = false := by rw [k_enter]; decide
  rw [t_show, Bool.false_and] at y_show
  rw [t_order, Bool.false_and] at y_order
  rw [t_moves, Bool.false_and] at y_moves
  by_cases hl : 1 < ws.length
  ·rw [show eG l0 l1 ws = ((jL l0 l1 (gS ws 1) (ws.drop 2)).1, (jL l0 l1 (gS ws 1) (ws.drop 2)).2.1, nR (jL l0 l1 (gS ws 1) (ws.drop 2)).2.2) from by simp [eG, t_things, t_enter, t_ask, t_less, t_leave, t_show, t_order, t_moves, t_waits, t_who, hl]]
   exact SS hS hm CX hw hbd t_things t_enter hl (ht 2)
  rw [show eG l0 l1 ws = (l0, l1, (⟨#[98, 97, 100]⟩ : ByteArray)) from by simp [eG, t_things, t_enter, t_ask, t_less, t_leave, t_show, t_order, t_moves, t_waits, t_who, hl]]
  exact nZ hS hm CX hw hn0 y_show y_order y_moves (.inr (.inl ⟨t_things, t_enter, t_ask, t_less, t_leave, t_waits, t_who, (decide_eq_false (by omega)), (decide_eq_false hl)⟩))
 by_cases k_ask : (gS ws 0).toList = ([97, 115, 107] : List UInt8)
 ·have t_things : ((gS ws 0).toList == ([116, 104, 105, 110, 103, 115] : List UInt8)) = false := by rw [k_ask]; decide
  have t_enter : ((gS ws 0).toList == ([101, 110, 116, 101, 114] : List UInt8)) = false := by rw [k_ask]; decide
  have t_ask : ((gS ws 0).toList == ([97, 115, 107] : List UInt8)) = true := beq_iff_eq.2 k_ask
  have t_less : ((gS ws 0).toList == ([108, 101, 115, 115] : List UInt8)) = false := by rw [k_ask]; decide
  have t_leave : ((gS ws 0).toList == ([108, 101, 97, 118, 101] : List UInt8)) = false := by rw [k_ask]; decide
  have t_show : ((gS ws 0).toList == ([115, 104, 111, 119] : List UInt8)) = false := by rw [k_ask]; decide
  have t_order : ((gS ws 0).toList == ([111, 114, 100, 101, 114] : List UInt8)) = false := by rw [k_ask]; decide
  have t_moves : ((gS ws 0).toList == ([109, 111, 118, 101, 115] : List UInt8)) = false := by rw [k_ask]; decide
  have t_waits : ((gS ws 0).toList == ([119, 97, 105, 116, 115] : List UInt8)) = false := by rw [k_ask]; decide
  have t_who : ((gS ws 0).toList == ([119, 104, 111] : List UInt8)) = false := by rw [k_ask]; decide
  rw [t_show, Bool.false_and] at y_show
  rw [t_order, Bool.false_and] at y_order
  rw [t_moves, Bool.false_and] at y_moves
  by_cases hl : 1 < ws.length
  ·rw [show eG l0 l1 ws = ((askB l0 l1 (gS ws 1) (ws.drop 2)).1, (askB l0 l1 (gS ws 1) (ws.drop 2)).2.1, nR (askB l0 l1 (gS ws 1) (ws.drop 2)).2.2) from by simp [eG, t_things, t_enter, t_ask, t_less, t_leave, t_show, t_order, t_moves, t_waits, t_who, hl]]
   exact XU hS hm CX hw hbd t_things t_enter t_ask hl (ht 2)
  rw [show eG l0 l1 ws = (l0, l1, (⟨#[98, 97, 100]⟩ : ByteArray)) from by simp [eG, t_things, t_enter, t_ask, t_less, t_leave, t_show, t_order, t_moves, t_waits, t_who, hl]]
  exact nZ hS hm CX hw hn0 y_show y_order y_moves (.inr (.inr (.inl ⟨t_things, t_enter, t_ask, t_less, t_leave, t_waits, t_who, (decide_eq_false (by omega)), (decide_eq_false hl)⟩)))
 by_cases k_less : (gS ws 0).toList = ([108, 101, 115, 115] : List UInt8)
 ·have t_things : ((gS ws 0).toList == ([116, 104, 105, 110, 103, 115] : List UInt8)) = false := by rw [k_less]; decide
  have t_enter : ((gS ws 0).toList == ([101, 110, 116, 101, 114] : List UInt8)) = false := by rw [k_less]; decide
  have t_ask : ((gS ws 0).toList == ([97, 115, 107] : List UInt8)) = false := by rw [k_less]; decide
  have t_less : ((gS ws 0).toList == ([108, 101, 115, 115] : List UInt8)) = true := beq_iff_eq.2 k_less
  have t_leave : ((gS ws 0).toList == ([108, 101, 97, 118, 101] : List UInt8)) = false := by rw [k_less]; decide
  have t_show : ((gS ws 0).toList == ([115, 104, 111, 119] : List UInt8)) = false := by rw [k_less]; decide
  have t_order : ((gS ws 0).toList == ([111, 114, 100, 101, 114] : List UInt8)) = false := by rw [k_less]; decide
  have t_moves : ((gS ws 0).toList == ([109, 111, 118, 101, 115] : List UInt8)) = false := by rw [k_less]; decide
  have t_waits : ((gS ws 0).toList == ([119, 97, 105, 116, 115] : List UInt8)) = false := by rw [k_less]; decide
  have t_who : ((gS ws 0).toList == ([119, 104, 111] : List UInt8)) = false := by rw [k_less]; decide
  rw [t_show, Bool.false_and] at y_show
  rw [t_order, Bool.false_and] at y_order
  rw [t_moves, Bool.false_and] at y_moves
  by_cases hl : 1 < ws.length
  ·rw [show eG l0 l1 ws = ((lI l0 l1 (gS ws 1) (ws.drop 2)).1, (lI l0 l1 (gS ws 1) (ws.drop 2)).2.1, nR (lI l0 l1 (gS ws 1) (ws.drop 2)).2.2) from by simp [eG, t_things, t_enter, t_ask, t_less, t_leave, t_show, t_order, t_moves, t_waits, t_who, hl]]
   exact VD hS hm CX hw hbd t_things t_enter t_ask t_less hl (ht 2)
  rw [show eG l0 l1 ws = (l0, l1, (⟨#[98, 97, 100]⟩ : ByteArray)) from by simp [eG, t_things, t_enter, t_ask, t_less, t_leave, t_show, t_order, t_moves, t_waits, t_who, hl]]
  exact nZ hS hm CX hw hn0 y_show y_order y_moves (.inr (.inr (.inr (.inl ⟨t_things, t_enter, t_ask, t_less, t_leave, t_waits, t_who, (decide_eq_false (by omega)), (decide_eq_false hl)⟩))))
 by_cases k_leave : (gS ws 0).toList = ([108, 101, 97, 118, 101] : List UInt8)
 ·have t_things : ((gS ws 0).toList == ([116, 104, 105, 110, 103, 115] : List UInt8)) = false := by rw [k_leave]; decide
  have t_enter : ((gS ws 0).toList == ([101, 110, 116, 101, 114] : List UInt8)) = false := by rw [k_leave]; decide
  have t_ask : ((gS ws 0).toList == ([97, 115, 107] : List UInt8)) = false := by rw [k_leave]; decide
  have t_less : ((gS ws 0).toList == ([108, 101, 115, 115] : List UInt8)) = false := by rw [k_leave]; decide
  have t_leave : ((gS ws 0).toList == ([108, 101, 97, 118, 101] : List UInt8)) = true := beq_iff_eq.2 k_leave
  have t_show : ((gS ws 0).toList == ([115, 104, 111, 119] : List UInt8)) = false := by rw [k_leave]; decide
  have t_order : ((gS ws 0).toList == ([111, 114, 100, 101, 114] : List UInt8)) = false := by rw [k_leave]; decide
  have t_moves : ((gS ws 0).toList == ([109, 111, 118, 101, 115] : List UInt8)) = false := by rw [k_leave]; decide
  have t_waits : ((gS ws 0).toList == ([119, 97, 105, 116, 115] : List UInt8)) = false := by rw [k_leave]; decide
  have t_who : ((gS ws 0).toList == ([119, 104, 111] : List UInt8)) = false := by rw [k_leave]; decide
  rw [t_show, Bool.false_and] at y_show
  rw [t_order, Bool.false_and] at y_order
  rw [t_moves, Bool.false_and] at y_moves
  by_cases hl : ws.length = 2
  ·rw [show eG l0 l1 ws = ((jN l0 l1 (gS ws 1)).1, (jN l0 l1 (gS ws 1)).2.1, nR (jN l0 l1 (gS ws 1)).2.2) from by simp [eG, t_things, t_enter, t_ask, t_less, t_leave, t_show, t_order, t_moves, t_waits, t_who, hl]]
   exact SV hS hm CX hw hbd t_things t_enter t_ask t_less t_leave (by omega) (beq_iff_eq.2 (by omega)) (decide_eq_true hl)
  rw [show eG l0 l1 ws = (l0, l1, (⟨#[98, 97, 100]⟩ : ByteArray)) from by simp [eG, t_things, t_enter, t_ask, t_less, t_leave, t_show, t_order, t_moves, t_waits, t_who, hl]]
  exact nZ hS hm CX hw hn0 y_show y_order y_moves (.inr (.inr (.inr (.inr (.inl ⟨t_things, t_enter, t_ask, t_less, t_leave, t_waits, t_who, (beq_eq_false_iff_ne.2 (by omega)), (decide_eq_false hl)⟩)))))
 by_cases k_show : (gS ws 0).toList = ([115, 104, 111, 119] : List UInt8)
 ·have t_things : ((gS ws 0).toList == ([116, 104, 105, 110, 103, 115] : List UInt8)) = false := by rw [k_show]; decide
  have t_enter : ((gS ws 0).toList == ([101, 110, 116, 101, 114] : List UInt8)) = false := by rw [k_show]; decide
  have t_ask : ((gS ws 0).toList == ([97, 115, 107] : List UInt8)) = false := by rw [k_show]; decide
  have t_less : ((gS ws 0).toList == ([108, 101, 115, 115] : List UInt8)) = false := by rw [k_show]; decide
  have t_leave : ((gS ws 0).toList == ([108, 101, 97, 118, 101] : List UInt8)) = false := by rw [k_show]; decide
  have t_show : ((gS ws 0).toList == ([115, 104, 111, 119] : List UInt8)) = true := beq_iff_eq.2 k_show
  have t_order : ((gS ws 0).toList == ([111, 114, 100, 101, 114] : List UInt8)) = false := by rw [k_show]; decide
  have t_moves : ((gS ws 0).toList == ([109, 111, 118, 101, 115] : List UInt8)) = false := by rw [k_show]; decide
  have t_waits : ((gS ws 0).toList == ([119, 97, 105, 116, 115] : List UInt8)) = false := by rw [k_show]; decide
  have t_who : ((gS ws 0).toList == ([119, 104, 111] : List UInt8)) = false := by rw [k_show]; decide
  rw [t_show, Bool.true_and] at y_show
  rw [t_order, Bool.false_and] at y_order
  rw [t_moves, Bool.false_and] at y_moves
  by_cases hl : ws.length = 1
  ·have y2 := y_show.trans (decide_eq_true hl)
   clear y_show
   have y_show := y2
   rw [show eG l0 l1 ws = (l0, l1, qI (nA l1)) from by simp [eG, t_things, t_enter, t_ask, t_less, t_leave, t_show, t_order, t_moves, t_waits, t_who, hl]]
   exact VE hS hm CX hw hn0 hbd t_things t_enter t_ask t_less t_leave y_show
  have y2 := y_show.trans (decide_eq_false hl)
  clear y_show
  have y_show := y2
  rw [show eG l0 l1 ws = (l0, l1, (⟨#[98, 97, 100]⟩ : ByteArray)) from by simp [eG, t_things, t_enter, t_ask, t_less, t_leave, t_show, t_order, t_moves, t_waits, t_who, hl]]
  exact nZ hS hm CX hw hn0 y_show y_order y_moves (.inl ⟨t_things, t_enter, t_ask, t_less, t_leave, t_waits, t_who, trivial, trivial⟩)
 by_cases k_order : (gS ws 0).toList = ([111, 114, 100, 101, 114] : List UInt8)
 ·have t_things : ((gS ws 0).toList == ([116, 104, 105, 110, 103, 115] : List UInt8)) = false := by rw [k_order]; decide
  have t_enter : ((gS ws 0).toList == ([101, 110, 116, 101, 114] : List UInt8)) = false := by rw [k_order]; decide
  have t_ask : ((gS ws 0).toList == ([97, 115, 107] : List UInt8)) = false := by rw [k_order]; decide
  have t_less : ((gS ws 0).toList == ([108, 101, 115, 115] : List UInt8)) = false := by rw [k_order]; decide
  have t_leave : ((gS ws 0).toList == ([108, 101, 97, 118, 101] : List UInt8)) = false := by rw [k_order]; decide
  have t_show : ((gS ws 0).toList == ([115, 104, 111, 119] : List UInt8)) = false := by rw [k_order]; decide
  have t_order : ((gS ws 0).toList == ([111, 114, 100, 101, 114] : List UInt8)) = true := beq_iff_eq.2 k_order
  have t_moves : ((gS ws 0).toList == ([109, 111, 118, 101, 115] : List UInt8)) = false := by rw [k_order]; decide
  have t_waits : ((gS ws 0).toList == ([119, 97, 105, 116, 115] : List UInt8)) = false := by rw [k_order]; decide
  have t_who : ((gS ws 0).toList == ([119, 104, 111] : List UInt8)) = false := by rw [k_order]; decide
  rw [t_show, Bool.false_and] at y_show
  rw [t_order, Bool.true_and] at y_order
  rw [t_moves, Bool.false_and] at y_moves
  by_cases hl : ws.length = 1
  ·have y2 := y_order.trans (decide_eq_true hl)
   clear y_order
   have y_order := y2
   by_cases ho : (jS l0 l1).2 = true
   ·rw [show eG l0 l1 ws = (l0, l1, qI (jS l0 l1).1) from by simp [eG, t_things, t_enter, t_ask, t_less, t_leave, t_show, t_order, t_moves, t_waits, t_who, hl, ho]]
    exact SY hS hm CX hw hn0 hbd t_things t_enter t_ask t_less t_leave y_show y_order (x8 hbd).1 ho
   rw [show eG l0 l1 ws = (l0, l1, (⟨#[110, 111]⟩ : ByteArray)) from by simp [eG, t_things, t_enter, t_ask, t_less, t_leave, t_show, t_order, t_moves, t_waits, t_who, hl, ho]]
   exact LK hS hm CX hw hn0 hbd t_things t_enter t_ask t_less t_leave y_show y_order (x8 hbd).1 (by simpa using ho)
  have y2 := y_order.trans (decide_eq_false hl)
  clear y_order
  have y_order := y2
  rw [show eG l0 l1 ws = (l0, l1, (⟨#[98, 97, 100]⟩ : ByteArray)) from by simp [eG, t_things, t_enter, t_ask, t_less, t_leave, t_show, t_order, t_moves, t_waits, t_who, hl]]
  exact nZ hS hm CX hw hn0 y_show y_order y_moves (.inl ⟨t_things, t_enter, t_ask, t_less, t_leave, t_waits, t_who, trivial, trivial⟩)
 by_cases k_moves : (gS ws 0).toList = ([109, 111, 118, 101, 115] : List UInt8)
 ·have t_things : ((gS ws 0).toList == ([116, 104, 105, 110, 103, 115] : List UInt8)) = false := by rw [k_moves]; decide
  have t_enter : ((gS ws 0).toList == ([101, 110, 116, 101, 114] : List UInt8)) = false := by rw [k_moves]; decide
  have t_ask : ((gS ws 0).toList == ([97, 115, 107] : List UInt8)) = false := by rw [k_moves]; decide
  have t_less : ((gS ws 0).toList == ([108, 101, 115, 115] : List UInt8)) = false := by rw [k_moves]; decide
  have t_leave : ((gS ws 0).toList == ([108, 101, 97, 118, 101] : List UInt8)) = false := by rw [k_moves]; decide
  have t_show : ((gS ws 0).toList == ([115, 104, 111, 119] : List UInt8)) = false := by rw [k_moves]; decide
  have t_order : ((gS ws 0).toList == ([111, 114, 100, 101, 114] : List UInt8)) = false := by rw [k_moves]; decide
  have t_moves : ((gS ws 0).toList == ([109, 111, 118, 101, 115] : List UInt8)) = true := beq_iff_eq.2 k_moves
  have t_waits : ((gS ws 0).toList == ([119, 97, 105, 116, 115] : List UInt8)) = false := by rw [k_moves]; decide
  have t_who : ((gS ws 0).toList == ([119, 104, 111] : List UInt8)) = false := by rw [k_moves]; decide
  rw [t_show, Bool.false_and] at y_show
  rw [t_order, Bool.false_and] at y_order
  rw [t_moves, Bool.true_and] at y_moves
  by_cases hl : ws.length = 1
  ·have y2 := y_moves.trans (decide_eq_true hl)
   clear y_moves
   have y_moves := y2
   rw [show eG l0 l1 ws = (l0, l1, qI (qB l0 l1)) from by simp [eG, t_things, t_enter, t_ask, t_less, t_leave, t_show, t_order, t_moves, t_waits, t_who, hl]]
   exact SX hS hm CX hw hn0 hbd t_things t_enter t_ask t_less t_leave y_show y_order y_moves (E8 hbd).1
  have y2 := y_moves.trans (decide_eq_false hl)
  clear y_moves
  have y_moves := y2
  rw [show eG l0 l1 ws = (l0, l1, (⟨#[98, 97, 100]⟩ : ByteArray)) from by simp [eG, t_things, t_enter, t_ask, t_less, t_leave, t_show, t_order, t_moves, t_waits, t_who, hl]]
  exact nZ hS hm CX hw hn0 y_show y_order y_moves (.inl ⟨t_things, t_enter, t_ask, t_less, t_leave, t_waits, t_who, trivial, trivial⟩)
 by_cases k_waits : (gS ws 0).toList = ([119, 97, 105, 116, 115] : List UInt8)
 ·have t_things : ((gS ws 0).toList == ([116, 104, 105, 110, 103, 115] : List UInt8)) = false := by rw [k_waits]; decide
  have t_enter : ((gS ws 0).toList == ([101, 110, 116, 101, 114] : List UInt8)) = false := by rw [k_waits]; decide
  have t_ask : ((gS ws 0).toList == ([97, 115, 107] : List UInt8)) = false := by rw [k_waits]; decide
  have t_less : ((gS ws 0).toList == ([108, 101, 115, 115] : List UInt8)) = false := by rw [k_waits]; decide
  have t_leave : ((gS ws 0).toList == ([108, 101, 97, 118, 101] : List UInt8)) = false := by rw [k_waits]; decide
  have t_show : ((gS ws 0).toList == ([115, 104, 111, 119] : List UInt8)) = false := by rw [k_waits]; decide
  have t_order : ((gS ws 0).toList == ([111, 114, 100, 101, 114] : List UInt8)) = false := by rw [k_waits]; decide
  have t_moves : ((gS ws 0).toList == ([109, 111, 118, 101, 115] : List UInt8)) = false := by rw [k_waits]; decide
  have t_waits : ((gS ws 0).toList == ([119, 97, 105, 116, 115] : List UInt8)) = true := beq_iff_eq.2 k_waits
  have t_who : ((gS ws 0).toList == ([119, 104, 111] : List UInt8)) = false := by rw [k_waits]; decide
  rw [t_show, Bool.false_and] at y_show
  rw [t_order, Bool.false_and] at y_order
  rw [t_moves, Bool.false_and] at y_moves
  by_cases hl : ws.length = 2
  ·rw [show eG l0 l1 ws = (l0, l1, qI (mD l0 l1 (gS ws 1))) from by simp [eG, t_things, t_enter, t_ask, t_less, t_leave, t_show, t_order, t_moves, t_waits, t_who, hl]]
   exact T9 hS hm CX hw (by omega) (beq_iff_eq.2 (by omega)) (decide_eq_true hl) hbd t_things t_enter t_ask t_less t_leave t_waits y_show y_order y_moves (EG hbd _).1
  rw [show eG l0 l1 ws = (l0, l1, (⟨#[98, 97, 100]⟩ : ByteArray)) from by simp [eG, t_things, t_enter, t_ask, t_less, t_leave, t_show, t_order, t_moves, t_waits, t_who, hl]]
  exact nZ hS hm CX hw hn0 y_show y_order y_moves (.inr (.inr (.inr (.inr (.inr (.inl ⟨t_things, t_enter, t_ask, t_less, t_leave, t_waits, t_who, (beq_eq_false_iff_ne.2 (by omega)), (decide_eq_false hl)⟩))))))
 by_cases k_who : (gS ws 0).toList = ([119, 104, 111] : List UInt8)
 ·have t_things : ((gS ws 0).toList == ([116, 104, 105, 110, 103, 115] : List UInt8)) = false := by rw [k_who]; decide
  have t_enter : ((gS ws 0).toList == ([101, 110, 116, 101, 114] : List UInt8)) = false := by rw [k_who]; decide
  have t_ask : ((gS ws 0).toList == ([97, 115, 107] : List UInt8)) = false := by rw [k_who]; decide
  have t_less : ((gS ws 0).toList == ([108, 101, 115, 115] : List UInt8)) = false := by rw [k_who]; decide
  have t_leave : ((gS ws 0).toList == ([108, 101, 97, 118, 101] : List UInt8)) = false := by rw [k_who]; decide
  have t_show : ((gS ws 0).toList == ([115, 104, 111, 119] : List UInt8)) = false := by rw [k_who]; decide
  have t_order : ((gS ws 0).toList == ([111, 114, 100, 101, 114] : List UInt8)) = false := by rw [k_who]; decide
  have t_moves : ((gS ws 0).toList == ([109, 111, 118, 101, 115] : List UInt8)) = false := by rw [k_who]; decide
  have t_waits : ((gS ws 0).toList == ([119, 97, 105, 116, 115] : List UInt8)) = false := by rw [k_who]; decide
  have t_who : ((gS ws 0).toList == ([119, 104, 111] : List UInt8)) = true := beq_iff_eq.2 k_who
  rw [t_show, Bool.false_and] at y_show
  rw [t_order, Bool.false_and] at y_order
  rw [t_moves, Bool.false_and] at y_moves
  by_cases hl : ws.length = 2
  ·by_cases ho : ((whoB l0 l1 (gS ws 1)).toList == ([] : List UInt8)) = true
   ·rw [show eG l0 l1 ws = (l0, l1, (⟨#[110, 111, 110, 101]⟩ : ByteArray)) from by simp only [eG, t_things, t_enter, t_ask, t_less, t_leave, t_show, t_order, t_moves, t_waits, t_who, hl, ho]; simp]
    exact PO hS hm CX hw (by omega) (beq_iff_eq.2 (by omega)) (decide_eq_true hl) hbd t_things t_enter t_ask t_less t_leave t_waits t_who y_show y_order y_moves ho
   rw [show eG l0 l1 ws = (l0, l1, whoB l0 l1 (gS ws 1)) from by simp only [eG, t_things, t_enter, t_ask, t_less, t_leave, t_show, t_order, t_moves, t_waits, t_who, hl, Bool.eq_false_iff.mpr ho]; simp]
   exact XV hS hm CX hw (by omega) (beq_iff_eq.2 (by omega)) (decide_eq_true hl) hbd t_things t_enter t_ask t_less t_leave t_waits t_who y_show y_order y_moves (Bool.eq_false_iff.mpr ho)
  rw [show eG l0 l1 ws = (l0, l1, (⟨#[98, 97, 100]⟩ : ByteArray)) from by simp [eG, t_things, t_enter, t_ask, t_less, t_leave, t_show, t_order, t_moves, t_waits, t_who, hl]]
  exact nZ hS hm CX hw hn0 y_show y_order y_moves (.inr (.inr (.inr (.inr (.inr (.inr (⟨t_things, t_enter, t_ask, t_less, t_leave, t_waits, t_who, (beq_eq_false_iff_ne.2 (by omega)), (decide_eq_false hl)⟩)))))))
 have t_things : ((gS ws 0).toList == ([116, 104, 105, 110, 103, 115] : List UInt8)) = false := beq_eq_false_iff_ne.2 k_things
 have t_enter : ((gS ws 0).toList == ([101, 110, 116, 101, 114] : List UInt8)) = false := beq_eq_false_iff_ne.2 k_enter
 have t_ask : ((gS ws 0).toList == ([97, 115, 107] : List UInt8)) = false := beq_eq_false_iff_ne.2 k_ask
 have t_less : ((gS ws 0).toList == ([108, 101, 115, 115] : List UInt8)) = false := beq_eq_false_iff_ne.2 k_less
 have t_leave : ((gS ws 0).toList == ([108, 101, 97, 118, 101] : List UInt8)) = false := beq_eq_false_iff_ne.2 k_leave
 have t_show : ((gS ws 0).toList == ([115, 104, 111, 119] : List UInt8)) = false := beq_eq_false_iff_ne.2 k_show
 have t_order : ((gS ws 0).toList == ([111, 114, 100, 101, 114] : List UInt8)) = false := beq_eq_false_iff_ne.2 k_order
 have t_moves : ((gS ws 0).toList == ([109, 111, 118, 101, 115] : List UInt8)) = false := beq_eq_false_iff_ne.2 k_moves
 have t_waits : ((gS ws 0).toList == ([119, 97, 105, 116, 115] : List UInt8)) = false := beq_eq_false_iff_ne.2 k_waits
 have t_who : ((gS ws 0).toList == ([119, 104, 111] : List UInt8)) = false := beq_eq_false_iff_ne.2 k_who
 rw [t_show, Bool.false_and] at y_show
 rw [t_order, Bool.false_and] at y_order
 rw [t_moves, Bool.false_and] at y_moves
 rw [show eG l0 l1 ws = (l0, l1, (⟨#[98, 97, 100]⟩ : ByteArray)) from by simp [eG, t_things, t_enter, t_ask, t_less, t_leave, t_show, t_order, t_moves, t_waits, t_who]]
 exact nZ hS hm CX hw hn0 y_show y_order y_moves (.inl ⟨t_things, t_enter, t_ask, t_less, t_leave, t_waits, t_who, trivial, trivial⟩)
open Go.Lib
def P6 (st : List ByteArray × List IB × ByteArray) (s : ByteArray) : List ByteArray × List IB × ByteArray :=
  ((eG st.1 st.2.1 (pieces s ⟨#[32]⟩)).1, (eG st.1 st.2.1 (pieces s ⟨#[32]⟩)).2.1, st.2.2 ++ ((eG st.1 st.2.1 (pieces s ⟨#[32]⟩)).2.2 ++ (⟨#[10]⟩ : ByteArray)))
def runR (ls : List ByteArray) : List ByteArray × List IB × ByteArray := ls.foldl P6 ([], [], (⟨#[]⟩ : ByteArray))
def zC (text : ByteArray) : List ByteArray := if ((gS (pieces text ⟨#[10]⟩) ((pieces text ⟨#[10]⟩).length - 1)).toList == ([] : List UInt8)) = true then (pieces text ⟨#[10]⟩).take ((pieces text ⟨#[10]⟩).length - 1) else pieces text ⟨#[10]⟩
def sesR (text : ByteArray) : ByteArray := if 8000 < text.size then (⟨#[116, 111, 111, 32, 108, 111, 110, 103, 10]⟩ : ByteArray) else if 200 < (zC text).length then (⟨#[116, 111, 111, 32, 108, 111, 110, 103, 10]⟩ : ByteArray) else (runR (zC text)).2.2
theorem DT (c : Int) (h : 0 ≤ c ∧ c < 10) : (nR c).size = 6 := by
 unfold nR
 rw [Lib.decDigits_one (by omega), ByteArray.size_append]; rfl
theorem BR {l : List ByteArray} (h : Few l) : (qI l).size ≤ 2000 := by
 unfold qI
 split
 ·show 4 ≤ 2000; omega
 have := OE h
 show (Lib.join _ [32]).toArray.size ≤ _
 rw [List.size_toArray]; exact this
theorem XD {ts : List ByteArray} {bs : List IB} (h : Bd ts bs) (n : ByteArray) : (whoB ts bs n).size ≤ 8 := by
 unfold whoB
 rw [if_pos h.ok]
 cases hf : uA (fun i => hasS (gB bs i).f1 n) bs.length 0 with
 | none => show 0 ≤ 8; omega
 | some i => exact (h.each _ (CS (CR hf).2.1)).1
theorem oO {α : Type} {c : Prop} [Decidable c] {a b : α} {P : α → Prop} (h1 : c → P a) (h2 : ¬ c → P b) : P (if c then a else b) := by
 by_cases h : c
 ·rw [if_pos h]; exact h1 h
 rw [if_neg h]; exact h2 h
def V3 (r : List ByteArray × List IB × ByteArray) : Prop := Bd r.1 r.2.1 ∧ r.2.2.size ≤ 2000
theorem AC {ts : List ByteArray} {bs : List IB} (h : Bd ts bs) (ws : List ByteArray) : V3 (eG ts bs ws) := by
 unfold eG
 refine oO (fun _ => oO (fun hb => ⟨QU hb, by show 2 ≤ 2000; omega⟩) (fun _ => ⟨h, by show 2 ≤ 2000; omega⟩)) (fun _ => ?_)
 refine oO (fun _ => ?_) (fun _ => ?_)
 ·obtain ⟨h1, h2, h3, _⟩ := O0 h.ok (gS ws 1) (ws.drop 2); exact ⟨QU h1, by rw [DT _ ⟨h2, h3⟩]; omega⟩
 refine oO (fun _ => ?_) (fun _ => ?_)
 ·obtain ⟨h1, h2, h3, _⟩ := XY h.ok (gS ws 1) (ws.drop 2); exact ⟨QU h1, by rw [DT _ ⟨h2, h3⟩]; omega⟩
 refine oO (fun _ => ?_) (fun _ => ?_)
 ·obtain ⟨h1, h2, h3, _⟩ := U6 h.ok (gS ws 1) (ws.drop 2); exact ⟨QU h1, by rw [DT _ ⟨h2, h3⟩]; omega⟩
 refine oO (fun _ => ?_) (fun _ => ?_)
 ·obtain ⟨h1, h2, h3, _⟩ := OH h.ok (gS ws 1); exact ⟨QU h1, by rw [DT _ ⟨h2, h3⟩]; omega⟩
 refine oO (fun _ => ⟨h, BR (OW h)⟩) (fun _ => ?_)
 refine oO (fun _ => oO (fun _ => ⟨h, BR (x8 h).1⟩) (fun _ => ⟨h, by show 2 ≤ 2000; omega⟩)) (fun _ => ?_)
 refine oO (fun _ => ⟨h, BR (E8 h).1⟩) (fun _ => ?_)
 refine oO (fun _ => ⟨h, BR (EG h _).1⟩) (fun _ => ?_)
 refine oO (fun _ => oO (fun _ => ⟨h, by show 4 ≤ 2000; omega⟩) (fun _ => ⟨h, Nat.le_trans (XD h (gS ws 1)) (by omega)⟩)) (fun _ => ?_)
 exact ⟨h, by show 3 ≤ 2000; omega⟩
theorem D9 (ls : List ByteArray) {i : Nat} (h : i < ls.length) : runR (ls.take (i + 1)) = P6 (runR (ls.take i)) ls[i] := by
 unfold runR; rw [List.take_succ_eq_append_getElem h, List.foldl_append]; rfl
theorem D8 (ls : List ByteArray) : ∀ i, i ≤ ls.length → Bd (runR (ls.take i)).1 (runR (ls.take i)).2.1 ∧ (runR (ls.take i)).2.2.size ≤ 2001 * i
  | 0, _ => ⟨QU Db, by show 0 ≤ _; omega⟩
  | i + 1, hi => by
    obtain ⟨h1, h2⟩ := D8 ls i (by omega)
    rw [D9 ls (by omega)]
    obtain ⟨h3, h4⟩ := AC h1 (pieces (ls[i]'(by omega)) ⟨#[32]⟩)
    refine ⟨h3, ?_⟩
    unfold P6
    rw [ByteArray.size_append, ByteArray.size_append]
    have : (⟨#[10]⟩ : ByteArray).size = 1 := rfl
    omega
theorem QX (c : UInt8) : ∀ l : List UInt8, ∀ x ∈ cutL c l, x.length ≤ l.length
  | [] => by intro x hx; simp [cutL] at hx; rw [hx]; simp
  | b :: l => by
    have ih := QX c l
    intro x hx
    by_cases h : b = c
    · subst h
      rw [CP] at hx
      rcases List.mem_cons.1 hx with rfl | hx
      · simp
      · have := ih x hx; rw [List.length_cons]; omega
    · rw [I6 h] at hx
      rw [List.length_cons]
      cases hc : cutL c l with
      | nil => exact absurd hc (BC c l)
      | cons y r =>
        rw [hc] at hx ih
        rw [o8] at hx
        rcases List.mem_cons.1 hx with rfl | hx
        · have := ih y (List.mem_cons_self ..); simp; exact this
        · have := ih x (List.mem_cons_of_mem _ hx); omega
theorem oV {c : UInt8} {s x : ByteArray} (h : x ∈ pieces s ⟨#[c]⟩) : x.size ≤ s.size := by
 rw [vC] at h
 obtain ⟨l, hl, rfl⟩ := List.mem_map.1 h
 exact QX c (bl s) l hl
theorem G7 {w : World} (h : jJ w) : fM.g 1 < w.heap.size := by
 obtain ⟨m, hm⟩ := h
 exact World.block_lt_of_cell? w _ hm
set_option maxHeartbeats 4000000 in
theorem yT {text : ByteArray} {p : List ByteArray} {m : Nat} {w : World} (hm : jJ w) (hs : text.size ≤ 1048576) (hp : pieces text ⟨#[10]⟩ = p) (hl : p.length = m + 1) (hlast : ((gS p m).toList == ([] : List UInt8)) = true) (hq : 8000 < text.size ∨ ¬ 8000 < text.size ∧ 200 < m) :
  Calls Tryz.prog 6 #[.string text] w fun e w' => e = .returned (.string (⟨#[116, 111, 111, 32, 108, 111, 110, 103, 10]⟩ : ByteArray)) ∧ Below w.heap.size w w' := by
 have hbig := mP 10 text
 rw [hp, hl] at hbig
 have hsp := jV text 10 w hm (by omega)
 rw [hp, hl] at hsp
 have HSP := am hsp
 clear hsp
 have HL := am (show p.length = m + 1 ∧ (∀ x ∈ p, x.size ≤ text.size) from ⟨hl, fun x hx => oV (hp ▸ hx)⟩)
 have HM := am hm
 clear hp hl hm
 have hu37 := Tryz.underlying37
 have hu27 := Tryz.underlying27
 have hb1 : m ≤ 1048576 := by omega
 clear hbig
 have g1 : ((m : Int) < (m : Int) + 1) = True := eq_true (by omega)
 have g2 : (m < m + 1) = True := eq_true (by omega)
 have QZ : ((gS p m).toList != ([] : List UInt8)) = false := by simp only [bne, hlast]; rfl
 clear hs
 obtain ⟨i0, YF, _, hsz, _⟩ := info_parts jP
 have HCUT := am (fun (b c : Nat) (hc : m + 1 ≤ c) => CQ (P := Tryz.prog) 27 9 .i64 Tryz.underlying27 YF (some ⟨b, 0, none⟩) (m + 1) c (m : Int) (by omega) (by omega) hc)
 clear YF hsz
 rcases hq with hz | ⟨hz, hk⟩
 ·have z1 : decide (8000 < (text.size : Int)) = true := decide_eq_true (by omega)
  have z2 : decide (8000 < text.size) = true := decide_eq_true (by omega)
  clear hz
  go_enter Tryz.func6, Tryz.ntmps6
  go_wp2_with (first | (go_at_call 10; refine HSP.out.mono ?_; rintro e_ w1 ⟨b, c, rfl, hws, hbl, hb⟩; have HWS := am hws; have HB1 := am hb; have HBL := am hbl; have x0 := hws.cell m (by rw [HL.out.1]; omega); have hcut := HCUT.1 b c (by have := hws.cap; rw [HL.out.1] at this; exact this); rw [Int.toNat_natCast] at hcut; clear hws hb hbl))
  go_ret
  exact ⟨rfl, HB1.out⟩
 have z1 : decide (8000 < (text.size : Int)) = false := decide_eq_false (by omega)
 have z2 : decide (8000 < text.size) = false := decide_eq_false (by omega)
 have z3 : decide (200 < (m : Int)) = true := decide_eq_true (by omega)
 have z4 : decide (200 < m) = true := decide_eq_true (by omega)
 clear hz hk
 go_enter Tryz.func6, Tryz.ntmps6
 go_wp2_with (first | (go_at_call 10; refine HSP.out.mono ?_; rintro e_ w1 ⟨b, c, rfl, hws, hbl, hb⟩; have HWS := am hws; have HB1 := am hb; have HBL := am hbl; have x0 := hws.cell m (by rw [HL.out.1]; omega); have hcut := HCUT.1 b c (by have := hws.cap; rw [HL.out.1] at this; exact this); rw [Int.toNat_natCast] at hcut; clear hws hb hbl))
 go_ret
 exact ⟨rfl, HB1.out⟩
set_option maxHeartbeats 4000000 in
theorem KD {text : ByteArray} {p : List ByteArray} {m : Nat} {w : World} (hm : jJ w) (hs : text.size ≤ 1048576) (hp : pieces text ⟨#[10]⟩ = p) (hl : p.length = m + 1) (hlast : ((gS p m).toList == ([] : List UInt8)) = true) (hz : ¬ 8000 < text.size) (hk : ¬ 200 < m) :
  Calls Tryz.prog 6 #[.string text] w fun e w' => e = .returned (.string (runR (p.take m)).2.2) ∧ Below w.heap.size w w' := by
 have hbig := mP 10 text
 rw [hp, hl] at hbig
 have hsp := jV text 10 w hm (by omega)
 rw [hp, hl] at hsp
 have HSP := am hsp
 clear hsp
 have HL := am (show p.length = m + 1 ∧ (∀ x ∈ p, x.size ≤ text.size) from ⟨hl, fun x hx => oV (hp ▸ hx)⟩)
 have HM := am hm
 clear hp hl hm
 have hu37 := Tryz.underlying37
 have hu27 := Tryz.underlying27
 have hb1 : m ≤ 1048576 := by omega
 clear hbig
 have g1 : ((m : Int) < (m : Int) + 1) = True := eq_true (by omega)
 have g2 : (m < m + 1) = True := eq_true (by omega)
 have QZ : ((gS p m).toList != ([] : List UInt8)) = false := by simp only [bne, hlast]; rfl
 have z1 : decide (8000 < (text.size : Int)) = false := decide_eq_false (by omega)
 have z2 : decide (8000 < text.size) = false := decide_eq_false (by omega)
 have HZ := am hz
 clear hs
 have z3 : decide (200 < (m : Int)) = false := decide_eq_false (by omega)
 have z4 : decide (200 < m) = false := decide_eq_false (by omega)
 have HK := am hk
 clear hk hz
 obtain ⟨i0, YF, _, hsz, _⟩ := info_parts jP
 have HCUT := am (fun (b c : Nat) (hc : m + 1 ≤ c) => CQ (P := Tryz.prog) 27 9 .i64 Tryz.underlying27 YF (some ⟨b, 0, none⟩) (m + 1) c (m : Int) (by omega) (by omega) hc)
 clear YF hsz
 have HLL := am (show ((p.take m)).length = m ∧ ∀ x ∈ (p.take m), x.size ≤ 8000 from by
  have h1 := HL.out.1
  have h3 := HZ.out
  refine ⟨by rw [List.length_take]; omega, fun x hx => ?_⟩
  have := HL.out.2 x (List.mem_of_mem_take hx); omega)
 obtain ⟨fl, hfl⟩ : ∃ fl, fl = (p.take m) := ⟨_, rfl⟩
 rw [← hfl] at HLL
 have HFL := am hfl
 clear hfl
 go_enter Tryz.func6, Tryz.ntmps6
 go_wp2_with (first | (go_at_call 10; refine HSP.out.mono ?_; rintro e_ w1 ⟨b, c, rfl, hws, hbl, hb⟩; have HWS := am hws; have HB1 := am hb; have HBL := am hbl; have x0 := hws.cell m (by rw [HL.out.1]; omega); have hcut := HCUT.1 b c (by have := hws.cap; rw [HL.out.1] at this; exact this); rw [Int.toNat_natCast] at hcut; clear hws hb hbl) | ((with_reducible refine dF (N := 31) rfl ?_); (refine dX ?hg (N := 31) ?hd (cs := #[.slice none 0 0, .slice none 0 0]) (t := 37) ?hr ?_; (case hd => rfl); (case hg => rfl); (case hr => first | (go_simp; done) | (go_simp; rfl)); intro g hgg w2 hbox hb; have HG := am hbox; have HGE := am (show w1.heap.size ≤ g from Nat.le_of_eq hgg.symm); have HB2 := am (dG HB1.out hb); have HW2 := am (HWS.out.below hb); clear hb hbox hgg x0)))
 have HCE := am (show ∀ i, (h : i < fl.length) → w2.cell? ⟨b, i, none⟩ = some (.string fl[i]) from fun i h => by
  have h1 := HLL.out.1
  have h2 := HL.out.1
  have q := HW2.out.cell i (by omega)
  have e : gS p i = fl[i] := by
   have e0 : gS p i = p[i]'(by omega) := getD_lt _ _ _
   rw [e0]
   simp only [HFL.out]; rw [List.getElem_take]
  rw [e] at q
  exact q)
 have HBLT := am (show b < g from Nat.lt_of_lt_of_le (World.block_lt_of_cell? w1 _ (HWS.out.cell 0 (by have := HL.out.1; omega))) HGE.out)
 have HGW := am (show w.heap.size ≤ g from Nat.le_trans HB1.out.size HGE.out)
 have HS2 := am (show Sess w2 g [] [] from ⟨none, 0, none, 0, HG.out, ⟨Kd.CJ _ _, Nat.le_refl _⟩, Kd.CJ _ _, Nat.le_refl _⟩)
 clear HWS HW2 HG hlast QZ g1 g2 z1 z2 z3 z4 hcut
 go_loopg [5, 34] fl.length (fun gg v5 ta wr => ∃ (x : Int) (ou : ByteArray), ta = .int .i64 x ∧ v5 = .string ou ∧ (0 ≤ x ∧ x ≤ fl.length) ∧ fl.length - x.toNat ≤ gg ∧ aD (ou = (runR (fl.take x.toNat)).2.2) ∧ aD (Sess wr g (runR (fl.take x.toNat)).1 (runR (fl.take x.toNat)).2.1) ∧ aD (∀ i, (h : i < fl.length) → wr.cell? ⟨b, i, none⟩ = some (.string fl[i])) ∧ aD (Below w.heap.size w wr))
 case atStart => exact ⟨0, _, rfl, rfl, ⟨by omega, by omega⟩, by simp, ⟨rfl⟩, HS2, HCE, HB2⟩
 clear HS2 HCE HB2
 obtain ⟨x, ou, rfl, rfl, ⟨EI, MQ⟩, hgg, HOU, HS, HCE, HB⟩ := hrel
 have hfk : (fl.length : Int) = (m : Int) := by have := HLL.out.1; omega
 have HGG := am hgg
 by_cases c5 : x < (fl.length : Int)
 ·have HXI := am (show 0 ≤ x ∧ x < (fl.length : Int) from ⟨EI, c5⟩)
  have hxn : x.toNat < fl.length := by omega
  obtain ⟨li, hli⟩ : ∃ li, li = fl[x.toNat] := ⟨_, rfl⟩
  have x0 := HCE.1 x.toNat hxn
  rw [← hli] at x0
  have HLI := am (show (∃ h : x.toNat < fl.length, li = fl[x.toNat]'h) ∧ li ∈ fl from ⟨⟨hxn, hli⟩, hli ▸ List.getElem_mem _⟩)
  obtain ⟨hg1, hg2⟩ := D8 fl x.toNat (by omega)
  have hln := AC hg1 (pieces li ⟨#[32]⟩)
  have hst := D9 fl hxn
  rw [← hli] at hst
  have HM2 := am (HM.out.below (G7 HM.out) (Nat.le_refl _) HB.1)
  have HAC := am (H9 HS.out HM2.out (HLL.out.2 li HLI.out.2) hg1)
  rw [← HOU.1] at hg2
  obtain ⟨o1, o2, o3, hrr⟩ : ∃ o1 o2 o3, runR (fl.take x.toNat) = (o1, o2, o3) := ⟨_, _, _, rfl⟩
  obtain ⟨n1, n2, an, hnn⟩ : ∃ n1 n2 an, eG (runR (fl.take x.toNat)).1 (runR (fl.take x.toNat)).2.1 (pieces li ⟨#[32]⟩) = (n1, n2, an) := ⟨_, _, _, rfl⟩
  rw [hnn] at HAC hln
  unfold V3 at hln
  dsimp only at HAC hln
  have HST := am (show runR (fl.take (x.toNat + 1)) = (n1, n2, ou ++ (an ++ (⟨#[10]⟩ : ByteArray))) from by rw [hst, P6, hnn, ← HOU.1])
  have hfl2 : fl.length ≤ 201 := by have := HLL.out.1; have := HK.out; omega
  have q1 : (9223372036854775807 < an.size + 1) = False := eq_false (by have := hln.2; omega)
  have hou : ou.size ≤ 2001 * 201 := by have := HXI.out; exact Nat.le_trans hg2 (Nat.mul_le_mul_left _ (by omega))
  have q2 : (9223372036854775807 < ou.size + (an.size + 1)) = False := eq_false (by have := hln.2; omega)
  have q3 : (9223372036854775807 < ou.size + (an ++ (⟨#[10]⟩ : ByteArray)).size) = False := eq_false (by have := hln.2; rw [ByteArray.size_append]; have : (⟨#[10]⟩ : ByteArray).size = 1 := rfl; omega)
  have c5b : decide (x < (m : Int)) = true := decide_eq_true (by omega)
  have c5c : (x < (m : Int)) = True := eq_true (by omega)
  have c5d : ((0 : Int) ≤ x) = True := eq_true EI
  clear hli hst hnn hrr hln hg1 hg2 hou hxn c5 EI MQ hgg hfk hfl2 HS HM2
  go_wp2_with ((go_at_call 11; refine HAC.out.mono ?_; rintro e_ w3 hA; obtain ⟨rfl, Sh, hb3⟩ := hA; have HS3 := am Sh; have HB3 := am hb3; clear Sh hb3))
  go_roundg (fl.length - (x.toNat + 1))
  case measure => have := HGG.out; have := HXI.out; omega
  have hw : wrap64 (x + 1) = x + 1 := by have := HXI.out; have := HLL.out.1; have := HK.out; unfold wrap64; omega
  have e9 : (x + 1).toNat = x.toNat + 1 := by have := HXI.out; omega
  refine ⟨x + 1, ou ++ (an ++ (⟨#[10]⟩ : ByteArray)), by first | rfl | rw [hw] | (simp only [hw]; done), rfl, ⟨by have := HXI.out; omega, by have := HXI.out; omega⟩, by have := HXI.out; omega, ⟨?_⟩, ⟨?_⟩, ⟨?_⟩, ⟨?_⟩⟩
  ·rw [e9, HST.out]
  ·rw [e9, HST.out]; exact HS3.out
  ·intro i h; rw [HB3.out.cell (p := ⟨b, i, none⟩) HBLT.out]; exact HCE.1 i h
  exact HB.1.trans (HB3.out.mono HGW.out)
 have c5b : decide (x < (m : Int)) = false := decide_eq_false (by omega)
 have ex : x.toNat = fl.length := by omega
 have HV := am (show ou = (runR (p.take m)).2.2 from by rw [HOU.1, ex, List.take_length, HFL.out])
 clear EI MQ c5 hgg hfk ex
 go_wp2
 go_ret
 exact ⟨by rw [HV.out]; rfl, HB.1⟩
set_option maxHeartbeats 4000000 in
theorem yS {text : ByteArray} {p : List ByteArray} {m : Nat} {w : World} (hm : jJ w) (hs : text.size ≤ 1048576) (hp : pieces text ⟨#[10]⟩ = p) (hl : p.length = m + 1) (hlast : ((gS p m).toList == ([] : List UInt8)) = false) (hq : 8000 < text.size ∨ ¬ 8000 < text.size ∧ 200 < (m + 1)) :
  Calls Tryz.prog 6 #[.string text] w fun e w' => e = .returned (.string (⟨#[116, 111, 111, 32, 108, 111, 110, 103, 10]⟩ : ByteArray)) ∧ Below w.heap.size w w' := by
 have hbig := mP 10 text
 rw [hp, hl] at hbig
 have hsp := jV text 10 w hm (by omega)
 rw [hp, hl] at hsp
 have HSP := am hsp
 clear hsp
 have HL := am (show p.length = m + 1 ∧ (∀ x ∈ p, x.size ≤ text.size) from ⟨hl, fun x hx => oV (hp ▸ hx)⟩)
 have HM := am hm
 clear hp hl hm
 have hu37 := Tryz.underlying37
 have hu27 := Tryz.underlying27
 have hb1 : m ≤ 1048576 := by omega
 clear hbig
 have g1 : ((m : Int) < (m : Int) + 1) = True := eq_true (by omega)
 have g2 : (m < m + 1) = True := eq_true (by omega)
 have QZ : ((gS p m).toList != ([] : List UInt8)) = true := by simp only [bne, hlast]; rfl
 clear hs
 rcases hq with hz | ⟨hz, hk⟩
 ·have z1 : decide (8000 < (text.size : Int)) = true := decide_eq_true (by omega)
  have z2 : decide (8000 < text.size) = true := decide_eq_true (by omega)
  clear hz
  go_enter Tryz.func6, Tryz.ntmps6
  go_wp2_with (first | (go_at_call 10; refine HSP.out.mono ?_; rintro e_ w1 ⟨b, c, rfl, hws, hbl, hb⟩; have HWS := am hws; have HB1 := am hb; have HBL := am hbl; have x0 := hws.cell m (by rw [HL.out.1]; omega); clear hws hb hbl))
  go_ret
  exact ⟨rfl, HB1.out⟩
 have z1 : decide (8000 < (text.size : Int)) = false := decide_eq_false (by omega)
 have z2 : decide (8000 < text.size) = false := decide_eq_false (by omega)
 have z3 : decide (200 < ((m : Int) + 1)) = true := decide_eq_true (by omega)
 have z4 : decide (200 < (m + 1)) = true := decide_eq_true (by omega)
 clear hz hk
 go_enter Tryz.func6, Tryz.ntmps6
 go_wp2_with (first | (go_at_call 10; refine HSP.out.mono ?_; rintro e_ w1 ⟨b, c, rfl, hws, hbl, hb⟩; have HWS := am hws; have HB1 := am hb; have HBL := am hbl; have x0 := hws.cell m (by rw [HL.out.1]; omega); clear hws hb hbl))
 go_ret
 exact ⟨rfl, HB1.out⟩
set_option maxHeartbeats 4000000 in
theorem KA {text : ByteArray} {p : List ByteArray} {m : Nat} {w : World} (hm : jJ w) (hs : text.size ≤ 1048576) (hp : pieces text ⟨#[10]⟩ = p) (hl : p.length = m + 1) (hlast : ((gS p m).toList == ([] : List UInt8)) = false) (hz : ¬ 8000 < text.size) (hk : ¬ 200 < (m + 1)) :
  Calls Tryz.prog 6 #[.string text] w fun e w' => e = .returned (.string (runR p).2.2) ∧ Below w.heap.size w w' := by
 have hbig := mP 10 text
 rw [hp, hl] at hbig
 have hsp := jV text 10 w hm (by omega)
 rw [hp, hl] at hsp
 have HSP := am hsp
 clear hsp
 have HL := am (show p.length = m + 1 ∧ (∀ x ∈ p, x.size ≤ text.size) from ⟨hl, fun x hx => oV (hp ▸ hx)⟩)
 have HM := am hm
 clear hp hl hm
 have hu37 := Tryz.underlying37
 have hu27 := Tryz.underlying27
 have hb1 : m ≤ 1048576 := by omega
 clear hbig
 have g1 : ((m : Int) < (m : Int) + 1) = True := eq_true (by omega)
 have g2 : (m < m + 1) = True := eq_true (by omega)
 have QZ : ((gS p m).toList != ([] : List UInt8)) = true := by simp only [bne, hlast]; rfl
 have z1 : decide (8000 < (text.size : Int)) = false := decide_eq_false (by omega)
 have z2 : decide (8000 < text.size) = false := decide_eq_false (by omega)
 have HZ := am hz
 clear hs
 have z3 : decide (200 < ((m : Int) + 1)) = false := decide_eq_false (by omega)
 have z4 : decide (200 < (m + 1)) = false := decide_eq_false (by omega)
 have HK := am hk
 clear hk hz
 have HLL := am (show (p).length = (m + 1) ∧ ∀ x ∈ p, x.size ≤ 8000 from by
  have h1 := HL.out.1
  have h3 := HZ.out
  refine ⟨h1, fun x hx => ?_⟩
  have := HL.out.2 x (hx); omega)
 obtain ⟨fl, hfl⟩ : ∃ fl, fl = p := ⟨_, rfl⟩
 rw [← hfl] at HLL
 have HFL := am hfl
 clear hfl
 go_enter Tryz.func6, Tryz.ntmps6
 go_wp2_with (first | (go_at_call 10; refine HSP.out.mono ?_; rintro e_ w1 ⟨b, c, rfl, hws, hbl, hb⟩; have HWS := am hws; have HB1 := am hb; have HBL := am hbl; have x0 := hws.cell m (by rw [HL.out.1]; omega); clear hws hb hbl) | ((with_reducible refine dF (N := 31) rfl ?_); (refine dX ?hg (N := 31) ?hd (cs := #[.slice none 0 0, .slice none 0 0]) (t := 37) ?hr ?_; (case hd => rfl); (case hg => rfl); (case hr => first | (go_simp; done) | (go_simp; rfl)); intro g hgg w2 hbox hb; have HG := am hbox; have HGE := am (show w1.heap.size ≤ g from Nat.le_of_eq hgg.symm); have HB2 := am (dG HB1.out hb); have HW2 := am (HWS.out.below hb); clear hb hbox hgg x0)))
 have HCE := am (show ∀ i, (h : i < fl.length) → w2.cell? ⟨b, i, none⟩ = some (.string fl[i]) from fun i h => by
  have h1 := HLL.out.1
  have h2 := HL.out.1
  have q := HW2.out.cell i (by omega)
  have e : gS p i = fl[i] := by
   have e0 : gS p i = p[i]'(by omega) := getD_lt _ _ _
   rw [e0]
   simp only [HFL.out]
  rw [e] at q
  exact q)
 have HBLT := am (show b < g from Nat.lt_of_lt_of_le (World.block_lt_of_cell? w1 _ (HWS.out.cell 0 (by have := HL.out.1; omega))) HGE.out)
 have HGW := am (show w.heap.size ≤ g from Nat.le_trans HB1.out.size HGE.out)
 have HS2 := am (show Sess w2 g [] [] from ⟨none, 0, none, 0, HG.out, ⟨Kd.CJ _ _, Nat.le_refl _⟩, Kd.CJ _ _, Nat.le_refl _⟩)
 clear HWS HW2 HG hlast QZ g1 g2 z1 z2 z3 z4
 go_loopg [5, 34] fl.length (fun gg v5 ta wr => ∃ (x : Int) (ou : ByteArray), ta = .int .i64 x ∧ v5 = .string ou ∧ (0 ≤ x ∧ x ≤ fl.length) ∧ fl.length - x.toNat ≤ gg ∧ aD (ou = (runR (fl.take x.toNat)).2.2) ∧ aD (Sess wr g (runR (fl.take x.toNat)).1 (runR (fl.take x.toNat)).2.1) ∧ aD (∀ i, (h : i < fl.length) → wr.cell? ⟨b, i, none⟩ = some (.string fl[i])) ∧ aD (Below w.heap.size w wr))
 case atStart => exact ⟨0, _, rfl, rfl, ⟨by omega, by omega⟩, by simp, ⟨rfl⟩, HS2, HCE, HB2⟩
 clear HS2 HCE HB2
 obtain ⟨x, ou, rfl, rfl, ⟨EI, MQ⟩, hgg, HOU, HS, HCE, HB⟩ := hrel
 have hfk : (fl.length : Int) = ((m : Int) + 1) := by have := HLL.out.1; omega
 have HGG := am hgg
 by_cases c5 : x < (fl.length : Int)
 ·have HXI := am (show 0 ≤ x ∧ x < (fl.length : Int) from ⟨EI, c5⟩)
  have hxn : x.toNat < fl.length := by omega
  obtain ⟨li, hli⟩ : ∃ li, li = fl[x.toNat] := ⟨_, rfl⟩
  have x0 := HCE.1 x.toNat hxn
  rw [← hli] at x0
  have HLI := am (show (∃ h : x.toNat < fl.length, li = fl[x.toNat]'h) ∧ li ∈ fl from ⟨⟨hxn, hli⟩, hli ▸ List.getElem_mem _⟩)
  obtain ⟨hg1, hg2⟩ := D8 fl x.toNat (by omega)
  have hln := AC hg1 (pieces li ⟨#[32]⟩)
  have hst := D9 fl hxn
  rw [← hli] at hst
  have HM2 := am (HM.out.below (G7 HM.out) (Nat.le_refl _) HB.1)
  have HAC := am (H9 HS.out HM2.out (HLL.out.2 li HLI.out.2) hg1)
  rw [← HOU.1] at hg2
  obtain ⟨o1, o2, o3, hrr⟩ : ∃ o1 o2 o3, runR (fl.take x.toNat) = (o1, o2, o3) := ⟨_, _, _, rfl⟩
  obtain ⟨n1, n2, an, hnn⟩ : ∃ n1 n2 an, eG (runR (fl.take x.toNat)).1 (runR (fl.take x.toNat)).2.1 (pieces li ⟨#[32]⟩) = (n1, n2, an) := ⟨_, _, _, rfl⟩
  rw [hnn] at HAC hln
  unfold V3 at hln
  dsimp only at HAC hln
  have HST := am (show runR (fl.take (x.toNat + 1)) = (n1, n2, ou ++ (an ++ (⟨#[10]⟩ : ByteArray))) from by rw [hst, P6, hnn, ← HOU.1])
  have hfl2 : fl.length ≤ 201 := by have := HLL.out.1; have := HK.out; omega
  have q1 : (9223372036854775807 < an.size + 1) = False := eq_false (by have := hln.2; omega)
  have hou : ou.size ≤ 2001 * 201 := by have := HXI.out; exact Nat.le_trans hg2 (Nat.mul_le_mul_left _ (by omega))
  have q2 : (9223372036854775807 < ou.size + (an.size + 1)) = False := eq_false (by have := hln.2; omega)
  have q3 : (9223372036854775807 < ou.size + (an ++ (⟨#[10]⟩ : ByteArray)).size) = False := eq_false (by have := hln.2; rw [ByteArray.size_append]; have : (⟨#[10]⟩ : ByteArray).size = 1 := rfl; omega)
  have c5b : decide (x < ((m : Int) + 1)) = true := decide_eq_true (by omega)
  have c5c : (x < ((m : Int) + 1)) = True := eq_true (by omega)
  have c5d : ((0 : Int) ≤ x) = True := eq_true EI
  clear hli hst hnn hrr hln hg1 hg2 hou hxn c5 EI MQ hgg hfk hfl2 HS HM2
  go_wp2_with ((go_at_call 11; refine HAC.out.mono ?_; rintro e_ w3 hA; obtain ⟨rfl, Sh, hb3⟩ := hA; have HS3 := am Sh; have HB3 := am hb3; clear Sh hb3))
  go_roundg (fl.length - (x.toNat + 1))
  case measure => have := HGG.out; have := HXI.out; omega
  have hw : wrap64 (x + 1) = x + 1 := by have := HXI.out; have := HLL.out.1; have := HK.out; unfold wrap64; omega
  have e9 : (x + 1).toNat = x.toNat + 1 := by have := HXI.out; omega
  refine ⟨x + 1, ou ++ (an ++ (⟨#[10]⟩ : ByteArray)), by first | rfl | rw [hw] | (simp only [hw]; done), rfl, ⟨by have := HXI.out; omega, by have := HXI.out; omega⟩, by have := HXI.out; omega, ⟨?_⟩, ⟨?_⟩, ⟨?_⟩, ⟨?_⟩⟩
  ·rw [e9, HST.out]
  ·rw [e9, HST.out]; exact HS3.out
  ·intro i h; rw [HB3.out.cell (p := ⟨b, i, none⟩) HBLT.out]; exact HCE.1 i h
  exact HB.1.trans (HB3.out.mono HGW.out)
 have c5b : decide (x < ((m : Int) + 1)) = false := decide_eq_false (by omega)
 have ex : x.toNat = fl.length := by omega
 have HV := am (show ou = (runR p).2.2 from by rw [HOU.1, ex, List.take_length, HFL.out])
 clear EI MQ c5 hgg hfk ex
 go_wp2
 go_ret
 exact ⟨by rw [HV.out]; rfl, HB.1⟩
theorem Q4 {text : ByteArray} {w : World} (hm : jJ w) (hs : text.size ≤ 1048576) :
  Calls Tryz.prog 6 #[.string text] w fun e w' => e = .returned (.string (sesR text)) ∧ Below w.heap.size w w' := by
 obtain ⟨p, hp⟩ : ∃ p, pieces text ⟨#[10]⟩ = p := ⟨_, rfl⟩
 have hne := sW 10 text
 rw [hp] at hne
 obtain ⟨m, hl⟩ : ∃ m, p.length = m + 1 := ⟨p.length - 1, by have := List.length_pos_iff.2 hne; omega⟩
 have e1 : p.length - 1 = m := by omega
 have e2 : (p.take m).length = m := by rw [List.length_take]; omega
 by_cases hlast : ((gS p m).toList == ([] : List UInt8)) = true
 ·have ef : zC text = p.take m := by unfold zC; rw [hp, e1, if_pos hlast]
  unfold sesR
  rw [ef, e2]
  by_cases hz : 8000 < text.size
  ·rw [if_pos hz]; exact yT hm hs hp hl hlast (.inl hz)
  rw [if_neg hz]
  by_cases hk : 200 < m
  ·rw [if_pos hk]; exact yT hm hs hp hl hlast (.inr ⟨hz, hk⟩)
  rw [if_neg hk]; exact KD hm hs hp hl hlast hz hk
 have ef : zC text = p := by unfold zC; rw [hp, e1, if_neg hlast]
 have hlast := Bool.eq_false_iff.mpr hlast
 unfold sesR
 rw [ef, hl]
 by_cases hz : 8000 < text.size
 ·rw [if_pos hz]; exact yS hm hs hp hl hlast (.inl hz)
 rw [if_neg hz]
 by_cases hk : 200 < m + 1
 ·rw [if_pos hk]; exact yS hm hs hp hl hlast (.inr ⟨hz, hk⟩)
 rw [if_neg hk]; exact KA hm hs hp hl hlast hz hk
def gN.l0 : Nat → List ByteArray → ByteArray → Int → Option (ByteArray)
 | 0, _, _, _ => none
 | k + 1, b, c, a => if a < (b.length : Int) then (if a > 0 then (if c.size + 1 ≤ 9223372036854775807 then (if 0 ≤ a then (if (c ++ (⟨#[32]⟩ : ByteArray)).size + (rdOf ByteArray.empty b a).size ≤ 9223372036854775807 then (gN.l0 k b ((c ++ (⟨#[32]⟩ : ByteArray)) ++ (rdOf ByteArray.empty b a)) (wrap64 (a + 1))) else (none)) else (none)) else (none)) else (if 0 ≤ a then (if c.size + (rdOf ByteArray.empty b a).size ≤ 9223372036854775807 then (gN.l0 k b (c ++ (rdOf ByteArray.empty b a)) (wrap64 (a + 1))) else (none)) else (none))) else (if c.toList = ([] : List UInt8) then (some (⟨#[110, 111, 110, 101]⟩ : ByteArray)) else (some c))
def gN.f (k : Nat) (l0 : List ByteArray) : Option (ByteArray) := gN.l0 k l0 (⟨#[]⟩ : ByteArray) 0
theorem gN.calls (k : Nat) (A0 : Option Addr) (c0 : Nat) (l0 : List ByteArray) (r : ByteArray) (w : World) (mO : Kd.C Kd.string w A0 l0.length l0) (nE : l0.length ≤ c0) (h : gN.f k l0 = some r) :
  Calls Tryz.prog 30 #[.slice A0 l0.length c0] w fun e w' => e = .returned (.string r) ∧ jA w w' := by
 obtain ⟨lH, uR⟩ := mZ2 mO nE
 clear mO nE
 unfold gN.f at h
 have H := h
 clear h
 have H' := am H
 repeat clear H
 go_enter Tryz.func30, Tryz.ntmps30
 go_wp2
 go_loopg [3, 4] k (fun kq v3 v4 w' => ∃ (gV : ByteArray) (eH : Int), v3 = .string gV ∧ v4 = .int .i64 eH ∧ aD (gN.l0 kq l0 gV eH = some r) ∧ aD (kq ≤ k) ∧ jA w w')
 case atStart => exact ⟨((⟨#[]⟩ : ByteArray)), (0), eS, eS, H', ⟨Nat.le_refl _⟩, jI⟩
 clear H'
 obtain ⟨gV, eH, rfl, rfl, HA, HK1, ⟨m1, rfl⟩⟩ := hrel
 cases gk with
 | zero => exact absurd HA.out (by simp [gN.l0])
 | succ k1 =>
  have H := HA.out
  clear HA
  simp only [gN.l0] at H
  refine ic H ?_ ?_ <;> clear H <;> intro VM H
  ·by_cases c3 : eH > 0
   ·rw [if_pos c3] at H
    have FP : decide (0 < eH) = true := decide_eq_true c3
    clear c3
    by_cases c4 : gV.size + 1 ≤ 9223372036854775807
    ·rw [if_pos c4] at H
     have zQ := eq_true c4
     have Vk : decide (gV.size + 1 ≤ 9223372036854775807) = true := decide_eq_true c4
     try have ph : (9223372036854775807 < gV.size + 1) = False := eq_false (Nat.not_lt.2 c4)
     obtain ⟨AZ, H⟩ := cN H
     by_cases c6 : (gV ++ (⟨#[32]⟩ : ByteArray)).size + (rdOf ByteArray.empty l0 eH).size ≤ 9223372036854775807
     ·rw [if_pos c6] at H
      have CC := eq_true c6
      have VO : decide ((gV ++ (⟨#[32]⟩ : ByteArray)).size + (rdOf ByteArray.empty l0 eH).size ≤ 9223372036854775807) = true := decide_eq_true c6
      try have a5A : (9223372036854775807 < (gV ++ (⟨#[32]⟩ : ByteArray)).size + (rdOf ByteArray.empty l0 eH).size) = False := eq_false (Nat.not_lt.2 c6)
      have H' := am H
      repeat clear H
      obtain ⟨jK, nD, kW, xZ, y6⟩ := aS lH b0 eH
      cases nD
      go_wp2
      go_roundg k1
      case measure => have := HK1.out; omega
      case rel => exact ⟨((gV ++ (⟨#[32]⟩ : ByteArray)) ++ (rdOf ByteArray.empty l0 eH)), (wrap64 (eH + 1)), eS, eS, H', ⟨by have := HK1.out; omega⟩, jI⟩
     ·rw [if_neg c6] at H
      exact absurd H (by simp)
    ·rw [if_neg c4] at H
     exact absurd H (by simp)
   ·rw [if_neg c3] at H
    have FP : decide (0 < eH) = false := decide_eq_false c3
    clear c3
    obtain ⟨NV, H⟩ := cN H
    by_cases c8 : gV.size + (rdOf ByteArray.empty l0 eH).size ≤ 9223372036854775807
    ·rw [if_pos c8] at H
     have EH := eq_true c8
     have gj : decide (gV.size + (rdOf ByteArray.empty l0 eH).size ≤ 9223372036854775807) = true := decide_eq_true c8
     try have a5D : (9223372036854775807 < gV.size + (rdOf ByteArray.empty l0 eH).size) = False := eq_false (Nat.not_lt.2 c8)
     have H' := am H
     repeat clear H
     obtain ⟨n9, rT, o9, EJ, EL⟩ := aS lH b0 eH
     cases rT
     go_wp2
     go_roundg k1
     case measure => have := HK1.out; omega
     case rel => exact ⟨(gV ++ (rdOf ByteArray.empty l0 eH)), (wrap64 (eH + 1)), eS, eS, H', ⟨by have := HK1.out; omega⟩, jI⟩
    ·rw [if_neg c8] at H
     exact absurd H (by simp)
  ·refine iq H ?_ ?_ <;> clear H <;> intro c9 I2 Y4 H
   ·obtain rfl := Option.some.inj H
    repeat clear H
    go_wp2
    go_ret
    exact ⟨by first | rfl | (simp; done) | (simp [*]; done), jI⟩
   ·obtain rfl := Option.some.inj H
    repeat clear H
    go_wp2
    go_ret
    exact ⟨by first | rfl | (simp; done) | (simp [*]; done), jI⟩
mutual
def fT.l0 : Nat → List ByteArray → Int → List ByteArray → List (S66) → Option (ByteArray)
 | 0, _, _, _, _ => none
 | k + 1, c, a, d, b => if a < (b.length : Int) then (if 0 ≤ a then (if ((aA b a).f0).size + 1 ≤ 9223372036854775807 then (if c.length < 8796093022208 then (fT.l1 k (c ++ [((aA b a).f0) ++ (⟨#[58]⟩ : ByteArray)]) a 0 d b ((aA b a).f0) ((aA b a).f1) ((aA b a).f2)) else (none)) else (none)) else (none)) else ((gN.f k c).bind fun e => (some e))
def fT.l1 : Nat → List ByteArray → Int → Int → List ByteArray → List (S66) → ByteArray → List ByteArray → List ByteArray → Option (ByteArray)
 | 0, _, _, _, _, _, _, _, _ => none
 | k + 1, c, d, a, e, g, i, h, b => if a < (b.length : Int) then (if 0 ≤ a then ((cZ.f k h (rdOf ByteArray.empty b a)).bind fun j => (if j = true then (if (rdOf ByteArray.empty b a).size + 1 ≤ 9223372036854775807 then (if c.length < 8796093022208 then (fT.l1 k (c ++ [(rdOf ByteArray.empty b a) ++ (⟨#[33]⟩ : ByteArray)]) d (wrap64 (a + 1)) e g i h b) else (none)) else (none)) else (if c.length < 8796093022208 then (fT.l1 k (c ++ [rdOf ByteArray.empty b a]) d (wrap64 (a + 1)) e g i h b) else (none)))) else (none)) else (fT.l0 k c (wrap64 (d + 1)) e g)
end
def fT.f (k : Nat) (aQ : List ByteArray) (aE : List (S66)) : Option (ByteArray) := fT.l0 k (([] : List ByteArray)) 0 aQ aE
theorem fT.calls (k : Nat) (dD : Option Addr) (dE : Nat) (aQ : List ByteArray) (dS : Option Addr) (dB : Nat) (aE : List (S66)) (r : ByteArray) (w : World) (fL : Kd.C Kd.string w dD aQ.length aQ) (fJ : aQ.length ≤ dE) (fH : Kd.C k66 w dS aE.length aE) (fK : aE.length ≤ dB) (h : fT.f k aQ aE = some r) :
  Calls Tryz.prog 28 #[.agg #[.slice dD aQ.length dE, .slice dS aE.length dB]] w fun e w' => e = .returned (.string r) ∧ Below w.heap.size w w' := by
 have hu31 := Tryz.underlying31
 have hu66 := Tryz.underlying66
 obtain ⟨cS, cO⟩ := mZ2 fL fJ
 obtain ⟨bE, dL⟩ := mZ2 fH fK
 clear fL fJ fH fK
 have HB := am (Below.refl w.heap.size w)
 unfold fT.f at h
 have H := h
 clear h
 obtain ⟨M4, hy102⟩ : ∃ y_ : List ByteArray, y_ = (([] : List ByteArray)) := ⟨_, rfl⟩
 replace H : (fT.l0 k M4 0 aQ aE) = some r := by first | (rw [hy102]; with_reducible exact H) | (have H2_ := (Option.bind_some _ _).symm.trans H; rw [hy102]; with_reducible exact H2_) | (have H2_ := (Option.bind_some _ _).symm.trans H; with_reducible exact H2_) | with_reducible exact H | (rw [hy102]; exact H) | exact H
 have wJ := am hy102
 clear hy102
 have H' := am H
 repeat clear H
 go_enter Tryz.func28, Tryz.ntmps28
 go_wp2_with (first | ((with_reducible refine gD 1 ?_); refine bX 1 #[.slice dD aQ.length dE, .slice dS aE.length dB] 31 ?_; intro aZ hg w2 hbox hb; have aC := am hbox; have gU := am (nS : w.heap.size ≤ aZ); have iL := gU; replace HB := bS gL hb; clear hb hbox hg) | ((with_reducible refine dF (N := 7) rfl ?_); refine lS 9 7 wJ ?_; intro Q7 w3 IE hb; have pN := am (Kd.eF IE (aK dQ)); replace aC := bB bJ hb; replace HB := bS dQ hb; clear hb IE))
 repeat (go_quiet (first | ((with_reducible refine gD 1 ?_); refine bX 1 #[.slice dD aQ.length dE, .slice dS aE.length dB] 31 ?_; intro aZ hg w2 hbox hb; have aC := am hbox; have gU := am (nS : w.heap.size ≤ aZ); have iL := am (nS : w.heap.size ≤ aZ); replace HB := bS gL hb; clear hb hbox hg) | ((with_reducible refine dF (N := 7) rfl ?_); refine Kd.H6 Kd.string _ 9 ?hg (N := 7) ?hd (xs := ([] : List ByteArray)) (inner := []) (ok := fun _ => True) (okp := fun _ => True) ?hr ?hp (fun _ hk => hk) trivial (Below.refl _ _) (Nat.le_refl _) (by simp) ?_; (case hd => rfl); (case hg => rfl); (case hr => first | (go_simp; done) | (go_simp; rfl)); (case hp => exact (Reps.none _ _)); intro Q7 w3 IE hb hg_ hnew_; clear hg_ hnew_; (first | rw [← wJ.out] at IE | (simp only [Int.reduceToNat] at IE; rw [← wJ.out] at IE)); have pN := am (Kd.eF IE (aK dQ)); replace aC := bB bJ hb; replace HB := bS dQ hb; clear hb IE)); try go_wp2_with (first | ((with_reducible refine gD 1 ?_); refine bX 1 #[.slice dD aQ.length dE, .slice dS aE.length dB] 31 ?_; intro aZ hg w2 hbox hb; have aC := am hbox; have gU := am (nS : w.heap.size ≤ aZ); have iL := am (nS : w.heap.size ≤ aZ); replace HB := bS gL hb; clear hb hbox hg) | ((with_reducible refine dF (N := 7) rfl ?_); refine Kd.H6 Kd.string _ 9 ?hg (N := 7) ?hd (xs := ([] : List ByteArray)) (inner := []) (ok := fun _ => True) (okp := fun _ => True) ?hr ?hp (fun _ hk => hk) trivial (Below.refl _ _) (Nat.le_refl _) (by simp) ?_; (case hd => rfl); (case hg => rfl); (case hr => first | (go_simp; done) | (go_simp; rfl)); (case hp => exact (Reps.none _ _)); intro Q7 w3 IE hb hg_ hnew_; clear hg_ hnew_; (first | rw [← wJ.out] at IE | (simp only [Int.reduceToNat] at IE; rw [← wJ.out] at IE)); have pN := am (Kd.eF IE (aK dQ)); replace aC := bB bJ hb; replace HB := bS dQ hb; clear hb IE)))
 go_loopg [3, 4] k (fun kq v3 v4 w' => ∃ (gV : List ByteArray) (eH : Int), v4 = .int .i64 eH ∧ aD (fT.l0 kq gV eH aQ aE = some r) ∧ aD (kq ≤ k) ∧ aD (Kd.R Kd.string 9 w' w.heap.size (fun _ => True) v3 gV) ∧ aD (w'.heap[aZ]? = some (.cells #[(.slice dD aQ.length dE), (.slice dS aE.length dB)] 31 (0, 0))) ∧ aD (Below w.heap.size w w'))
 case atStart => exact ⟨(M4), (0), eS, H', ⟨Nat.le_refl _⟩, ⟨rR pN.1⟩, ⟨rB aC.1⟩, ⟨dQ⟩⟩
 clear H'
 obtain ⟨gV, eH, rfl, HA, HK1, jT, aC, HB⟩ := hrel
 cases gk with
 | zero => exact absurd HA.out (by simp [fT.l0])
 | succ k1 =>
  have H := HA.out
  clear HA
  simp only [fT.l0] at H
  refine ic H ?_ ?_ <;> clear H <;> intro AZ H
  ·obtain ⟨CC, H⟩ := cN H
   by_cases c7 : ((aA aE eH).f0).size + 1 ≤ 9223372036854775807
   ·rw [if_pos c7] at H
    have NV := eq_true c7
    have pi : decide (((aA aE eH).f0).size + 1 ≤ 9223372036854775807) = true := decide_eq_true c7
    try have pj : (9223372036854775807 < ((aA aE eH).f0).size + 1) = False := eq_false (Nat.not_lt.2 c7)
    obtain ⟨Ud, H⟩ := cL H
    obtain ⟨tj, V6⟩ := yv (gV ++ [((aA aE eH).f0) ++ (⟨#[58]⟩ : ByteArray)]); first | replace H := bW V6 H | rw [← V6.1] at H
    have H' := am H
    repeat clear H
    have Z9 := cz2 aC
    obtain ⟨rX, mI, mM, oD, oI, BG, rE, rF, rG, mV, p5, lK, wO, PU, J5⟩ := aT66 bE HB eH
    cases BG
    go_wp2_with (first | ((with_reducible refine gD 5 ?_); refine bX 5 #[.string (⟨#[]⟩ : ByteArray), .slice none 0 0, .slice none 0 0] 66 ?_; intro mE hg tb hbox hb; replace jT := RB CE hb; have iE := am hbox; have zF := am (vA : w.heap.size ≤ mE); have KL := zF; replace HB := bS dQ hb; have j3 := nL bJ hg; have jU := nG bJ hg; replace aC := bB bJ hb; clear hb hbox hg; have Lz := nZ1 jU j3; have Nk := cz3 iE) | ((with_reducible refine fA (b := .append) (xs := #[.tmp 20, .tmp 24]) rfl ?_); at_builtin; refine Kd.jD Kd.string (w0 := w) w.heap.size rfl (.tmp 20) (.tmp 24) 27 9 (.string ⟨#[]⟩) 16 rfl Tryz.underlying27 jP rfl (by decide) (by omega) u3 gV (((aA aE eH).f0) ++ (⟨#[58]⟩ : ByteArray)) [.string (((aA aE eH).f0) ++ (⟨#[58]⟩ : ByteArray))] (fun _ => True) (fun _ => False) rfl (by first | (go_simp; done) | (go_simp; rfl)) ?aP (fun _ hk => hk.elim) ?aF ?aO ?aB ?aS ?aL ?_; (case aP => exact rfl); (case aB => exact m3); (case aF => exact (fun _ _ => trivial)); (case aO => exact ro); (case aS => exact (aK m3)); (case aL => have := Ud.out; omega); intro jy UZ ho hb hg hat; rw [← V6.out] at ho; replace aC := am (mG (g := aZ) (o := .cells #[.slice dD aQ.length dE, .slice (some rX) aE.length dB] 31 (0, 0)) Sl hg (Kd.R_ne jT.1 aC.1 (by decide))); replace iE := am (mG (g := mE) (o := .cells #[.string ((aA aE eH).f0), .slice mI ((aA aE eH).f1).length mM, .slice oD ((aA aE eH).f2).length oI] 66 (0, 0)) rn hg (Kd.R_ne jT.1 iE.1 (by decide))); replace HB := am hb; have Gd := am ho; clear jT; clear ho hb hg hat))
    repeat (go_quiet (first | ((with_reducible refine gD 5 ?_); refine bX 5 #[.string (⟨#[]⟩ : ByteArray), .slice none 0 0, .slice none 0 0] 66 ?_; intro mE hg tb hbox hb; replace jT := RB CE hb; have iE := am hbox; have zF := am (vA : w.heap.size ≤ mE); have KL := am (vA : w.heap.size ≤ mE); replace HB := bS dQ hb; have j3 := nL bJ hg; have jU := nG bJ hg; replace aC := bB bJ hb; clear hb hbox hg; have jb := jU.1; have jc := j3.1; obtain ⟨Og, Oh, Oi, Ol, Om, Oo⟩ := cz3 iE) | ((with_reducible refine fA (b := .append) (xs := #[.tmp 20, .tmp 24]) rfl ?_); at_builtin; refine Kd.jD Kd.string (w0 := w) w.heap.size rfl (.tmp 20) (.tmp 24) 27 9 (.string ⟨#[]⟩) 16 rfl Tryz.underlying27 jP rfl (by decide) (by omega) u3 gV (((aA aE eH).f0) ++ (⟨#[58]⟩ : ByteArray)) [.string (((aA aE eH).f0) ++ (⟨#[58]⟩ : ByteArray))] (fun _ => True) (fun _ => False) rfl (by first | (go_simp; done) | (go_simp; rfl)) ?aP (fun _ hk => hk.elim) ?aF ?aO ?aB ?aS ?aL ?_; (case aP => exact rfl); (case aB => exact m3); (case aF => exact (fun _ _ => trivial)); (case aO => exact ro); (case aS => exact (aK m3)); (case aL => have := Ud.out; omega); intro jy UZ ho hb hg hat; rw [← V6.out] at ho; replace aC := am (mG (g := aZ) (o := .cells #[.slice dD aQ.length dE, .slice (some rX) aE.length dB] 31 (0, 0)) Sl hg (Kd.R_ne jT.1 aC.1 (by decide))); replace iE := am (mG (g := mE) (o := .cells #[.string ((aA aE eH).f0), .slice mI ((aA aE eH).f1).length mM, .slice oD ((aA aE eH).f2).length oI] 66 (0, 0)) rn hg (Kd.R_ne jT.1 iE.1 (by decide))); replace HB := am hb; have Gd := am ho; clear jT; clear ho hb hg hat)); try go_wp2_with (first | ((with_reducible refine gD 5 ?_); refine bX 5 #[.string (⟨#[]⟩ : ByteArray), .slice none 0 0, .slice none 0 0] 66 ?_; intro mE hg tb hbox hb; replace jT := RB CE hb; have iE := am hbox; have zF := am (vA : w.heap.size ≤ mE); have KL := am (vA : w.heap.size ≤ mE); replace HB := bS dQ hb; have j3 := nL bJ hg; have jU := nG bJ hg; replace aC := bB bJ hb; clear hb hbox hg; have jb := jU.1; have jc := j3.1; obtain ⟨Og, Oh, Oi, Ol, Om, Oo⟩ := cz3 iE) | ((with_reducible refine fA (b := .append) (xs := #[.tmp 20, .tmp 24]) rfl ?_); at_builtin; refine Kd.jD Kd.string (w0 := w) w.heap.size rfl (.tmp 20) (.tmp 24) 27 9 (.string ⟨#[]⟩) 16 rfl Tryz.underlying27 jP rfl (by decide) (by omega) u3 gV (((aA aE eH).f0) ++ (⟨#[58]⟩ : ByteArray)) [.string (((aA aE eH).f0) ++ (⟨#[58]⟩ : ByteArray))] (fun _ => True) (fun _ => False) rfl (by first | (go_simp; done) | (go_simp; rfl)) ?aP (fun _ hk => hk.elim) ?aF ?aO ?aB ?aS ?aL ?_; (case aP => exact rfl); (case aB => exact m3); (case aF => exact (fun _ _ => trivial)); (case aO => exact ro); (case aS => exact (aK m3)); (case aL => have := Ud.out; omega); intro jy UZ ho hb hg hat; rw [← V6.out] at ho; replace aC := am (mG (g := aZ) (o := .cells #[.slice dD aQ.length dE, .slice (some rX) aE.length dB] 31 (0, 0)) Sl hg (Kd.R_ne jT.1 aC.1 (by decide))); replace iE := am (mG (g := mE) (o := .cells #[.string ((aA aE eH).f0), .slice mI ((aA aE eH).f1).length mM, .slice oD ((aA aE eH).f2).length oI] 66 (0, 0)) rn hg (Kd.R_ne jT.1 iE.1 (by decide))); replace HB := am hb; have Gd := am ho; clear jT; clear ho hb hg hat)))
    go_loopg [3, 6] k1 (fun kq v3 v6 w' => ∃ (gI : List ByteArray) (mT : Int), v6 = .int .i64 mT ∧ aD (fT.l1 kq gI eH mT aQ aE ((aA aE eH).f0) ((aA aE eH).f1) ((aA aE eH).f2) = some r) ∧ aD (kq ≤ k1) ∧ aD (Kd.R Kd.string 9 w' w.heap.size (fun _ => True) v3 gI) ∧ aD (w'.heap[aZ]? = some (.cells #[(.slice dD aQ.length dE), (.slice (some rX) aE.length dB)] 31 (0, 0))) ∧ aD (w'.heap[mE]? = some (.cells #[.string ((aA aE eH).f0), (.slice mI ((aA aE eH).f1).length mM), (.slice oD ((aA aE eH).f2).length oI)] 66 (0, 0))) ∧ aD (Below w.heap.size w w'))
    case atStart => exact ⟨(tj), (0), eS, H', ⟨Nat.le_refl _⟩, ⟨rR Gd.1⟩, ⟨rB aC.1⟩, ⟨rB iE.1⟩, ⟨m3⟩⟩
    case round =>
     clear H'
     try clear AZ
     try clear CC
     try clear c7
     try clear NV
     try clear pi
     try clear pj
     try clear Nk
     try clear Z9
     try clear rE rF rG
     try clear PU J5
     obtain ⟨gI, mT, rfl, HA, HK2, jT, aC, iE, HB⟩ := hrel
     cases gk with
     | zero => exact absurd HA.out (by simp [fT.l1])
     | succ k2 =>
      have H := HA.out
      clear HA
      simp only [fT.l1] at H
      refine ic H ?_ ?_ <;> clear H <;> intro KW H
      ·obtain ⟨VK, H⟩ := cN H
       obtain ⟨P7, V0, H⟩ := bd H
       refine tC H ?_ ?_ <;> clear H <;> intro Za H <;> subst Za
       ·by_cases Dc : (rdOf ByteArray.empty ((aA aE eH).f2) mT).size + 1 ≤ 9223372036854775807
        ·rw [if_pos Dc] at H
         have ET := eq_true Dc
         have fo : decide ((rdOf ByteArray.empty ((aA aE eH).f2) mT).size + 1 ≤ 9223372036854775807) = true := decide_eq_true Dc
         try have yf : (9223372036854775807 < (rdOf ByteArray.empty ((aA aE eH).f2) mT).size + 1) = False := eq_false (Nat.not_lt.2 Dc)
         obtain ⟨NF, H⟩ := cL H
         obtain ⟨Qc, KR⟩ := yv (gI ++ [(rdOf ByteArray.empty ((aA aE eH).f2) mT) ++ (⟨#[33]⟩ : ByteArray)]); first | replace H := bW KR H | rw [← KR.1] at H
         have H' := am H
         repeat clear H
         have uv := nZ1 jU j3
         have ow := cz3 iE
         obtain ⟨CM, Y6, IP, Xv, Yb⟩ := aS lK HB mT
         cases Y6
         go_wp2_with (first | (go_at_call 59; refine cM (cZ.calls k2 _ _ ((aA aE eH).f1) (rdOf ByteArray.empty ((aA aE eH).f2) mT) true _ (pB mV) p5.1 V0.out) ?_; rintro w' ⟨nd, rfl⟩; (try exact dR); obtain ⟨VC, Io, Bv, jl, jp⟩ := aS lK HB mT; obtain rfl : CM = VC := (by injection Io)) | ((with_reducible refine fA (b := .append) (xs := #[.tmp 41, .tmp 48]) rfl ?_); at_builtin; refine Kd.jD Kd.string (w0 := w) w.heap.size rfl (.tmp 41) (.tmp 48) 27 9 (.string ⟨#[]⟩) 16 rfl Tryz.underlying27 jP rfl (by decide) (by omega) u3 gI ((rdOf ByteArray.empty ((aA aE eH).f2) mT) ++ (⟨#[33]⟩ : ByteArray)) [.string ((rdOf ByteArray.empty ((aA aE eH).f2) mT) ++ (⟨#[33]⟩ : ByteArray))] (fun _ => True) (fun _ => False) rfl rfl ?aP (fun _ hk => hk.elim) ?aF ?aO ?aB ?aS ?aL ?_; (case aP => exact rfl); (case aB => exact m3); (case aF => exact (fun _ _ => trivial)); (case aO => exact CE); (case aS => exact (aK m3)); (case aL => have := NF.out; omega); intro Yo Ss ho hb hg hat; rw [← KR.out] at ho; replace aC := gkR bJ hg jT aC; replace iE := gkR UF hg jT iE; replace HB := am hb; have V4 := am ho; clear jT; clear ho hb hg hat))
         repeat (go_quiet (first | (go_at_call 59; refine cM (cZ.calls k2 _ _ ((aA aE eH).f1) (rdOf ByteArray.empty ((aA aE eH).f2) mT) true _ (pB mV) p5.1 V0.out) ?_; rintro w' ⟨nd, rfl⟩; (try exact dR); obtain ⟨VC, Io, Bv, jl, jp⟩ := aS lK HB mT; obtain rfl : CM = VC := (by injection Io)) | ((with_reducible refine fA (b := .append) (xs := #[.tmp 41, .tmp 48]) rfl ?_); at_builtin; refine Kd.jD Kd.string (w0 := w) w.heap.size rfl (.tmp 41) (.tmp 48) 27 9 (.string ⟨#[]⟩) 16 rfl Tryz.underlying27 jP rfl (by decide) (by omega) u3 gI ((rdOf ByteArray.empty ((aA aE eH).f2) mT) ++ (⟨#[33]⟩ : ByteArray)) [.string ((rdOf ByteArray.empty ((aA aE eH).f2) mT) ++ (⟨#[33]⟩ : ByteArray))] (fun _ => True) (fun _ => False) rfl rfl ?aP (fun _ hk => hk.elim) ?aF ?aO ?aB ?aS ?aL ?_; (case aP => exact rfl); (case aB => exact m3); (case aF => exact (fun _ _ => trivial)); (case aO => exact CE); (case aS => exact (aK m3)); (case aL => have := NF.out; omega); intro Yo Ss ho hb hg hat; rw [← KR.out] at ho; replace aC := gkR bJ hg jT aC; replace iE := gkR UF hg jT iE; replace HB := am hb; have V4 := am ho; clear jT; clear ho hb hg hat)); try go_wp2_with (first | (go_at_call 59; refine cM (cZ.calls k2 _ _ ((aA aE eH).f1) (rdOf ByteArray.empty ((aA aE eH).f2) mT) true _ (pB mV) p5.1 V0.out) ?_; rintro w' ⟨nd, rfl⟩; (try exact dR); obtain ⟨VC, Io, Bv, jl, jp⟩ := aS lK HB mT; obtain rfl : CM = VC := (by injection Io)) | ((with_reducible refine fA (b := .append) (xs := #[.tmp 41, .tmp 48]) rfl ?_); at_builtin; refine Kd.jD Kd.string (w0 := w) w.heap.size rfl (.tmp 41) (.tmp 48) 27 9 (.string ⟨#[]⟩) 16 rfl Tryz.underlying27 jP rfl (by decide) (by omega) u3 gI ((rdOf ByteArray.empty ((aA aE eH).f2) mT) ++ (⟨#[33]⟩ : ByteArray)) [.string ((rdOf ByteArray.empty ((aA aE eH).f2) mT) ++ (⟨#[33]⟩ : ByteArray))] (fun _ => True) (fun _ => False) rfl rfl ?aP (fun _ hk => hk.elim) ?aF ?aO ?aB ?aS ?aL ?_; (case aP => exact rfl); (case aB => exact m3); (case aF => exact (fun _ _ => trivial)); (case aO => exact CE); (case aS => exact (aK m3)); (case aL => have := NF.out; omega); intro Yo Ss ho hb hg hat; rw [← KR.out] at ho; replace aC := gkR bJ hg jT aC; replace iE := gkR UF hg jT iE; replace HB := am hb; have V4 := am ho; clear jT; clear ho hb hg hat)))
         go_roundg k2
         case measure => have := HK1.out; have := HK2.out; omega
         case rel => exact ⟨(Qc), (wrap64 (mT + 1)), eS, H', ⟨by have := HK1.out; have := HK2.out; omega⟩, ⟨rR V4.1⟩, ⟨rB aC.1⟩, ⟨rB iE.1⟩, ⟨m3⟩⟩
        ·rw [if_neg Dc] at H
         exact absurd H (by simp)
       ·obtain ⟨QM, H⟩ := cL H
        obtain ⟨QC, KS⟩ := yv (gI ++ [rdOf ByteArray.empty ((aA aE eH).f2) mT]); first | replace H := bW KS H | rw [← KS.1] at H
        have H' := am H
        repeat clear H
        have ky := nZ1 jU j3
        have Z25 := cz3 iE
        obtain ⟨CM, Y6, IP, Xv, Yb⟩ := aS lK HB mT
        cases Y6
        go_wp2_with (first | (go_at_call 59; refine cM (cZ.calls k2 _ _ ((aA aE eH).f1) (rdOf ByteArray.empty ((aA aE eH).f2) mT) false _ (pB mV) p5.1 V0.out) ?_; rintro w' ⟨nd, rfl⟩; (try exact dR); obtain ⟨CN, NZ, IQ, Ki, Km⟩ := aS lK HB mT; obtain rfl : CM = CN := (by injection NZ)) | ((with_reducible refine fA (b := .append) (xs := #[.tmp 50, .tmp 56]) rfl ?_); at_builtin; refine Kd.jD Kd.string (w0 := w) w.heap.size rfl (.tmp 50) (.tmp 56) 27 9 (.string ⟨#[]⟩) 16 rfl Tryz.underlying27 jP rfl (by decide) (by omega) u3 gI (rdOf ByteArray.empty ((aA aE eH).f2) mT) [.string (rdOf ByteArray.empty ((aA aE eH).f2) mT)] (fun _ => True) (fun _ => False) rfl rfl ?aP (fun _ hk => hk.elim) ?aF ?aO ?aB ?aS ?aL ?_; (case aP => exact rfl); (case aB => exact m3); (case aF => exact (fun _ _ => trivial)); (case aO => exact CE); (case aS => exact (aK m3)); (case aL => have := QM.out; omega); intro Yp Su ho hb hg hat; rw [← KS.out] at ho; replace aC := gkR bJ hg jT aC; replace iE := gkR UF hg jT iE; replace HB := am hb; have KO := am ho; clear jT; clear ho hb hg hat))
        repeat (go_quiet (first | (go_at_call 59; refine cM (cZ.calls k2 _ _ ((aA aE eH).f1) (rdOf ByteArray.empty ((aA aE eH).f2) mT) false _ (pB mV) p5.1 V0.out) ?_; rintro w' ⟨nd, rfl⟩; (try exact dR); obtain ⟨CN, NZ, IQ, Ki, Km⟩ := aS lK HB mT; obtain rfl : CM = CN := (by injection NZ)) | ((with_reducible refine fA (b := .append) (xs := #[.tmp 50, .tmp 56]) rfl ?_); at_builtin; refine Kd.jD Kd.string (w0 := w) w.heap.size rfl (.tmp 50) (.tmp 56) 27 9 (.string ⟨#[]⟩) 16 rfl Tryz.underlying27 jP rfl (by decide) (by omega) u3 gI (rdOf ByteArray.empty ((aA aE eH).f2) mT) [.string (rdOf ByteArray.empty ((aA aE eH).f2) mT)] (fun _ => True) (fun _ => False) rfl rfl ?aP (fun _ hk => hk.elim) ?aF ?aO ?aB ?aS ?aL ?_; (case aP => exact rfl); (case aB => exact m3); (case aF => exact (fun _ _ => trivial)); (case aO => exact CE); (case aS => exact (aK m3)); (case aL => have := QM.out; omega); intro Yp Su ho hb hg hat; rw [← KS.out] at ho; replace aC := gkR bJ hg jT aC; replace iE := gkR UF hg jT iE; replace HB := am hb; have KO := am ho; clear jT; clear ho hb hg hat)); try go_wp2_with (first | (go_at_call 59; refine cM (cZ.calls k2 _ _ ((aA aE eH).f1) (rdOf ByteArray.empty ((aA aE eH).f2) mT) false _ (pB mV) p5.1 V0.out) ?_; rintro w' ⟨nd, rfl⟩; (try exact dR); obtain ⟨CN, NZ, IQ, Ki, Km⟩ := aS lK HB mT; obtain rfl : CM = CN := (by injection NZ)) | ((with_reducible refine fA (b := .append) (xs := #[.tmp 50, .tmp 56]) rfl ?_); at_builtin; refine Kd.jD Kd.string (w0 := w) w.heap.size rfl (.tmp 50) (.tmp 56) 27 9 (.string ⟨#[]⟩) 16 rfl Tryz.underlying27 jP rfl (by decide) (by omega) u3 gI (rdOf ByteArray.empty ((aA aE eH).f2) mT) [.string (rdOf ByteArray.empty ((aA aE eH).f2) mT)] (fun _ => True) (fun _ => False) rfl rfl ?aP (fun _ hk => hk.elim) ?aF ?aO ?aB ?aS ?aL ?_; (case aP => exact rfl); (case aB => exact m3); (case aF => exact (fun _ _ => trivial)); (case aO => exact CE); (case aS => exact (aK m3)); (case aL => have := QM.out; omega); intro Yp Su ho hb hg hat; rw [← KS.out] at ho; replace aC := gkR bJ hg jT aC; replace iE := gkR UF hg jT iE; replace HB := am hb; have KO := am ho; clear jT; clear ho hb hg hat)))
        go_roundg k2
        case measure => have := HK1.out; have := HK2.out; omega
        case rel => exact ⟨(QC), (wrap64 (mT + 1)), eS, H', ⟨by have := HK1.out; have := HK2.out; omega⟩, ⟨rR KO.1⟩, ⟨rB aC.1⟩, ⟨rB iE.1⟩, ⟨m3⟩⟩
      ·have H' := am H
       repeat clear H
       have Z27 := nZ1 jU j3
       have vd := cz3 iE
       go_wp2
       repeat (go_quiet (fail); try go_wp2)
       go_roundg k2
       case measure => have := HK1.out; have := HK2.out; omega
       case rel => exact ⟨(gI), (wrap64 (eH + 1)), eS, H', ⟨by have := HK1.out; have := HK2.out; omega⟩, ⟨rR jT.1⟩, ⟨rB aC.1⟩, ⟨m3⟩⟩
   ·rw [if_neg c7] at H
    exact absurd H (by simp)
  ·obtain ⟨t105, Yy, H⟩ := bd H
   obtain rfl := Option.some.inj H
   repeat clear H
   have ve := cz2 aC
   obtain ⟨a2R, a5I, qb⟩ := Kd.cB jT.1
   subst qb
   go_wp2_with (first | (go_at_call 30; refine cM (gN.calls k1 _ _ gV t105 _ (pC (Kd.bI jT.1).2.2) ((Kd.bI jT.1).2.1) Yy.out) ?_; rintro w' ⟨nd, rfl⟩; (try exact dR)))
   repeat (go_quiet (first | (go_at_call 30; refine cM (gN.calls k1 _ _ gV t105 _ (pC (Kd.bI jT.1).2.2) ((Kd.bI jT.1).2.1) Yy.out) ?_; rintro w' ⟨nd, rfl⟩; (try exact dR))); try go_wp2_with (first | (go_at_call 30; refine cM (gN.calls k1 _ _ gV t105 _ (pC (Kd.bI jT.1).2.2) ((Kd.bI jT.1).2.1) Yy.out) ?_; rintro w' ⟨nd, rfl⟩; (try exact dR))))
   go_ret
   exact ⟨eR, dQ⟩
end Go.Proofs.YtaofjgnhapnndaaGreatDoor.Q
namespace Go.Proofs.YtaofjgnhapnndaaGreatDoor.Q
open Go.RowKit Go.Proofs.YtaofjgnhapnndaaGreatDoorW.PrintWords Go.Proofs.YtaofjgnhapnndaaGreatDoorW.PrintLast Go.Proofs.YtaofjgnhapnndaaGreatDoorW.PrintMore
set_option linter.unusedVariables false
set_option linter.unusedSimpArgs false
def jC.l0 : Nat → ByteArray → Int → List ByteArray → Int → Int → Option (List ByteArray)
 | 0, _, _, _, _, _ => none
 | k + 1, a, e, d, c, b => if b < (a.size : Int) then (if 0 ≤ b then (if (bt a b) = e then (if 0 ≤ c then (if c ≤ b then (if b ≤ (a.size : Int) then (if d.length < 8796093022208 then (jC.l0 k a e (d ++ [a.extract (c : Int).toNat (b : Int).toNat]) (wrap64 (b + 1)) (wrap64 (b + 1))) else (none)) else (none)) else (none)) else (none)) else (jC.l0 k a e d c (wrap64 (b + 1)))) else (none)) else (if 0 ≤ c then (if c ≤ (a.size : Int) then (if d.length < 8796093022208 then (some (d ++ [a.extract (c : Int).toNat a.size])) else (none)) else (none)) else (none))
def jC.f (k : Nat) (a0 : ByteArray) (a1 : Int) : Option (List ByteArray) := jC.l0 k a0 a1 (([] : List ByteArray)) 0 0
theorem jC.calls (k : Nat) (a0 : ByteArray) (a1 : Int) (r : List ByteArray) (w : World) (h : jC.f k a0 a1 = some r) :
  Calls Tryz.prog 8 #[.string a0, .int .u8 a1] w fun e w' => ∃ v0_ : Value, e = .returned (v0_) ∧ Kd.R Kd.string 9 w' w.heap.size (fun _ => True) v0_ r ∧ Below w.heap.size w w' := by
 have HB := am (Below.refl w.heap.size w)
 unfold jC.f at h
 have H := h
 clear h
 obtain ⟨XF, hy101⟩ : ∃ y_ : List ByteArray, y_ = (([] : List ByteArray)) := ⟨_, rfl⟩
 replace H : (jC.l0 k a0 a1 XF 0 0) = some r := by first | (rw [hy101]; with_reducible exact H) | (have H2_ := (Option.bind_some _ _).symm.trans H; rw [hy101]; with_reducible exact H2_) | (have H2_ := (Option.bind_some _ _).symm.trans H; with_reducible exact H2_) | with_reducible exact H | (rw [hy101]; exact H) | exact H
 have KQ := am hy101
 clear hy101
 have H' := am H
 repeat clear H
 go_enter Tryz.func8, Tryz.ntmps8
 go_wp2_with (first | ((with_reducible refine dF (N := 8) rfl ?_); refine lS 9 8 KQ ?_; intro Lf w3 IE hb; have GW := am (Kd.eF IE (aK gL)); replace HB := bS gL hb; clear hb IE))
 go_loopg [5, 6, 7] k (fun kq v5 v6 v7 w' => ∃ (dK : List ByteArray) (QB : Int) (j8 : Int), v6 = .int .i64 QB ∧ v7 = .int .i64 j8 ∧ aD (jC.l0 kq a0 a1 dK QB j8 = some r) ∧ aD (kq ≤ k) ∧ aD (Kd.R Kd.string 9 w' w.heap.size (fun _ => True) v5 dK) ∧ aD (Below w.heap.size w w'))
 case atStart => exact ⟨(XF), (0), (0), eS, eS, H', ⟨Nat.le_refl _⟩, ⟨rR GW.1⟩, ⟨gL⟩⟩
 clear H'
 obtain ⟨dK, QB, j8, rfl, rfl, HA, HK1, yY, HB⟩ := hrel
 cases gk with
 | zero => exact absurd HA.out (by simp [jC.l0])
 | succ k1 =>
  have H := HA.out
  clear HA
  simp only [jC.l0] at H
  refine ic H ?_ ?_ <;> clear H <;> intro AZ H
  ·obtain ⟨CC, H⟩ := cN H
   refine iq H ?_ ?_ <;> clear H <;> intro c8 EH gj H
   ·obtain ⟨I2, Y4, H⟩ := cP H
    obtain ⟨yI, ya, H⟩ := cP H
    obtain ⟨C9, fh, H⟩ := cP H
    obtain ⟨ah, H⟩ := cL H
    obtain ⟨Lt, H3⟩ := yv (dK ++ [a0.extract (QB : Int).toNat (j8 : Int).toNat]); first | replace H := bW H3 H | rw [← H3.1] at H
    have H' := am H
    repeat clear H
    obtain ⟨Fd, p7, q7⟩ := aB a0 j8
    go_wp2_with (first | ((with_reducible refine fA (b := .append) (xs := #[.tmp 20, .tmp 25]) rfl ?_); at_builtin; refine Kd.jD Kd.string (w0 := w) w.heap.size rfl (.tmp 20) (.tmp 25) 27 9 (.string ⟨#[]⟩) 16 rfl Tryz.underlying27 jP rfl (by decide) (by omega) u5 dK (a0.extract (QB : Int).toNat (j8 : Int).toNat) [.string (a0.extract (QB : Int).toNat (j8 : Int).toNat)] (fun _ => True) (fun _ => False) rfl rfl ?aP (fun _ hk => hk.elim) ?aF ?aO ?aB ?aS ?aL ?_; (case aP => exact rfl); (case aB => exact gL); (case aF => exact (fun _ _ => trivial)); (case aO => exact WY); (case aS => exact (aK gL)); (case aL => have := ah.out; omega); intro v105 UZ ho hb hg hat; rw [← H3.out] at ho; replace HB := am hb; have fQ := am ho; clear yY; clear ho hb hg hat))
    go_roundg k1
    case measure => have := HK1.out; omega
    case rel => exact ⟨(Lt), (wrap64 (j8 + 1)), (wrap64 (j8 + 1)), eS, eS, H', ⟨by have := HK1.out; omega⟩, ⟨rR fQ.1⟩, ⟨gL⟩⟩
   ·have H' := am H
    repeat clear H
    obtain ⟨Fd, p7, q7⟩ := aB a0 j8
    go_wp2
    go_roundg k1
    case measure => have := HK1.out; omega
    case rel => exact ⟨(dK), (QB), (wrap64 (j8 + 1)), eS, eS, H', ⟨by have := HK1.out; omega⟩, ⟨rR yY.1⟩, ⟨gL⟩⟩
  ·obtain ⟨KW, yc, H⟩ := cP H
   obtain ⟨VK, fj, H⟩ := cP H
   obtain ⟨Gh, H⟩ := cL H
   obtain ⟨UY, H4⟩ := yv (dK ++ [a0.extract (QB : Int).toNat a0.size]); first | replace H := bW H4 H | rw [← H4.1] at H
   obtain rfl := Option.some.inj H
   repeat clear H
   go_wp2_with (first | ((with_reducible refine fA (b := .append) (xs := #[.tmp 29, .tmp 33]) rfl ?_); at_builtin; refine Kd.jD Kd.string (w0 := w) w.heap.size rfl (.tmp 29) (.tmp 33) 27 9 (.string ⟨#[]⟩) 16 rfl Tryz.underlying27 jP rfl (by decide) (by omega) u5 dK (a0.extract (QB : Int).toNat a0.size) [.string (a0.extract (QB : Int).toNat a0.size)] (fun _ => True) (fun _ => False) rfl rfl ?aP (fun _ hk => hk.elim) ?aF ?aO ?aB ?aS ?aL ?_; (case aP => exact rfl); (case aB => exact gL); (case aF => exact (fun _ _ => trivial)); (case aO => exact WY); (case aS => exact (aK gL)); (case aL => have := Gh.out; omega); intro CG tf ho hb hg hat; rw [← H4.out] at ho; replace HB := am hb; have eU := am ho; clear yY; clear ho hb hg hat))
   go_ret
   exact ⟨_, eR, rR eU.1, gL⟩
open Go.Lib
def oC (l : List ByteArray) : ByteArray := if (AA l ⟨#[32]⟩).toList = ([] : List UInt8) then (⟨#[110, 111, 110, 101]⟩ : ByteArray) else AA l ⟨#[32]⟩
theorem R7 (sep : ByteArray) : AA [] sep = ⟨#[]⟩ := rfl
theorem G8 (a b : List UInt8) : (mkB a ++ mkB b : ByteArray) = mkB (a ++ b) := by
 have h : bl (mkB a ++ mkB b) = bl (mkB (a ++ b)) := by
  rw [zN]
  unfold bl
  rw [ByteArray.data_append, Array.toList_append]
  rfl
 rw [← uE (mkB a ++ mkB b), h, uE]
theorem OC (l : List ByteArray) (sep : ByteArray) : AA l sep = mkB (Lib.join (l.map bl) (bl sep)) := rfl
theorem YL {l : List ByteArray} {i : Nat} (h : i + 1 < l.length) (sep : ByteArray) : AA (l.take (i + 2)) sep = AA (l.take (i + 1)) sep ++ sep ++ l[i + 1] := by
 cases l with
 | nil => simp at h
 | cons x r =>
  rw [List.length_cons] at h
  have hr : i < r.length := by omega
  rw [List.take_succ_cons, List.take_succ_cons, List.getElem_cons_succ, OC, OC, List.map_cons, List.map_cons, Lib.join_cons, Lib.join_cons, List.map_take, List.map_take]
  rw [Lib.joinTail_take_succ (bl sep) (r.map bl) i (bl r[i]) (by rw [List.getElem?_map, List.getElem?_eq_getElem hr]; rfl)]
  rw [← uE sep, ← uE r[i], zN, zN, G8, G8]
  simp [List.append_assoc]
theorem Du {l : List ByteArray} (h : 0 < l.length) (sep : ByteArray) : AA (l.take 1) sep = l[0] := by
 cases l with
 | nil => simp at h
 | cons x r => show mkB (Lib.join [bl x] (bl sep)) = x; rw [Lib.join_one, uE]
theorem Iu {l : List ByteArray} (h : Few l) (i : Nat) : Few (l.take i) := by
 refine ⟨?_, fun s hs => h.2 s (List.mem_of_mem_take hs)⟩
 have := h.1
 rw [List.length_take]; omega
theorem YK {l : List ByteArray} (h : Few l) : (AA l ⟨#[32]⟩).size ≤ 2000 := by
 have := OE h
 show (Lib.join _ [32]).toArray.size ≤ _
 rw [List.size_toArray]; exact this
theorem Dn (s : ByteArray) : (⟨#[]⟩ : ByteArray) ++ s = s := by
 have : (mkB [] ++ mkB (bl s) : ByteArray) = mkB (bl s) := by rw [G8, List.nil_append]
 rw [uE] at this; exact this
theorem AO (l : List ByteArray) (h : Few l) : Ev (fun k => gN.f k l) (oC l) := by
 unfold gN.f
 have hl := h.1
 refine Ev.loop (f := fun k i => gN.l0 k l (AA (l.take i) ⟨#[32]⟩) (i : Int)) (val := fun _ => oC l) l.length ?_ ?_ 0 (by omega)
 ·refine Ev.step (fun k => gN.l0.eq_2 l _ _ k) (Ev.neg (by omega) ?_)
  rw [List.take_length]
  unfold oC
  exact Ev.prop (fun e => Ev.ret (by rw [if_pos e])) (fun e => Ev.ret (by rw [if_neg e]))
 intro i hi H
 have hz : (l[i]'hi).size ≤ 16 := h.2 _ (List.getElem_mem hi)
 have hj := YK (Iu h i)
 refine Ev.step (fun k => gN.l0.eq_2 l _ _ k) (Ev.pos (by omega) ?_)
 rw [kY, show gS l i = l[i] from getD_lt _ _ hi, iQ hi (by omega)]
 cases i with
 | zero =>
  refine Ev.neg (by omega) (Ev.pos (by omega) (Ev.pos (by omega) ?_))
  rw [Du hi] at H
  rw [List.take_zero, R7, Dn]
  exact H
 | succ i =>
  refine Ev.pos (by omega) (Ev.pos (by omega) (Ev.pos (by omega) (Ev.pos (by rw [ByteArray.size_append]; have : (⟨#[32]⟩ : ByteArray).size = 1 := rfl; omega) ?_)))
  rw [YL hi] at H
  exact H
theorem yN {l : List ByteArray} (hn : ∀ s ∈ l, 1 ≤ s.size) : oC l = qI l := by
 unfold oC qI
 cases l with
 | nil => rw [R7, if_pos (show (⟨#[]⟩ : ByteArray).toList = [] from by rw [← wZ]; rfl), if_pos (show ([] : List ByteArray).length = 0 from rfl)]
 | cons x r =>
  have hx := hn x (List.mem_cons_self ..)
  rw [if_neg, if_neg (by simp)]
  intro e
  have e2 : (Lib.join ((x :: r).map bl) [32]) = [] := by
   have : bl (AA (x :: r) ⟨#[32]⟩) = [] := by rw [wZ]; exact e
   rw [OC, zN] at this; exact this
  rw [List.map_cons, Lib.join_cons] at e2
  have e3 := (List.append_eq_nil_iff.1 e2).1
  have : (bl x).length = x.size := by unfold bl; rw [Array.length_toList]; rfl
  rw [e3] at this
  simp at this; omega
theorem YN (s : ByteArray) : oC [s] = if (s.toList == ([] : List UInt8)) = true then (⟨#[110, 111, 110, 101]⟩ : ByteArray) else s := by
 have e : AA [s] ⟨#[32]⟩ = s := by show mkB (Lib.join [bl s] [32]) = s; rw [Lib.join_one, uE]
 unfold oC
 rw [e]
 by_cases h : s.toList = []
 ·rw [if_pos h, if_pos (beq_iff_eq.2 h)]
 rw [if_neg h, if_neg (by rw [beq_iff_eq]; exact h)]
theorem Kv {l0 : List ByteArray} {l1 : List MB} (h : Bd l0 l1) : ∀ s ∈ nA l1, 1 ≤ s.size := by
 intro s hs
 have hk := tY.1 h.ok
 unfold nA at hs
 obtain ⟨b, hb, hs⟩ := List.mem_flatMap.1 hs
 obtain ⟨i, hi, rfl⟩ := OJ hb
 unfold xV at hs
 rcases List.mem_cons.1 hs with rfl | hs
 ·rw [ByteArray.size_append]; have : (⟨#[58]⟩ : ByteArray).size = 1 := rfl; omega
 obtain ⟨x, hx, rfl⟩ := List.mem_map.1 hs
 have := (E9 (LH hk.things ((pX.1 (hk.each i hi).2.1).1 x hx))).1
 split
 ·rw [ByteArray.size_append]; omega
 exact this
theorem OZ {ts : List ByteArray} {bs : List IB} (h : Bd ts bs) : Ev (fun k => fT.f k ts bs) (qI (nA bs)) := by
 unfold fT.f
 have hl := h.five
 refine Ev.loop (f := fun k i => fT.l0 k (nA (bs.take i)) (i : Int) ts bs) (val := fun _ => qI (nA bs)) bs.length ?_ ?_ 0 (by omega)
 ·refine Ev.step (fun k => fT.l0.eq_2 _ _ _ bs k) (Ev.neg (by omega) ?_)
  rw [List.take_length]
  refine Ev.bind (AO _ (OW h)) (Ev.ret (yN (Kv h)))
 intro i hi H
 have hbm : gB bs i ∈ bs := CS hi
 obtain ⟨q1, q2, q3, q4⟩ := h.each _ hbm
 have hp := RO h i
 refine Ev.step (fun k => fT.l0.eq_2 _ _ _ bs k) (Ev.pos (by omega) (Ev.pos (by omega) ?_))
 rw [gF]
 refine Ev.pos (by omega) (Ev.pos (by omega) ?_)
 have hbi : gB bs i = bs[i] := CB hi
 have inner := Ev.loop (f := fun k j => fT.l1 k (nA (bs.take i) ++ (xV (gB bs i)).take (j + 1)) (i : Int) (j : Int) ts bs (gB bs i).f0 (gB bs i).f1 (gB bs i).f2) (val := fun _ => qI (nA bs)) (gB bs i).f2.length
   (by
     refine Ev.step (fun k => fT.l1.eq_2 _ _ _ ts bs _ _ _ k) (Ev.neg (by omega) ?_)
     rw [iQ hi (by omega), ← x9, List.take_length, hbi, ← OV hi]
     exact H)
   (fun j hj K => by
     have hs : ((gB bs i).f2[j]'hj).size ≤ 8 := q4 _ (List.getElem_mem hj)
     have hlen : (nA (bs.take i) ++ (xV (gB bs i)).take (j + 1)).length ≤ 60 := by rw [List.length_append, List.length_take, x9]; omega
     refine Ev.step (fun k => fT.l1.eq_2 _ _ _ ts bs _ _ _ k) (Ev.pos (by omega) (Ev.pos (by omega) ?_))
     rw [kY, show gS (gB bs i).f2 j = (gB bs i).f2[j] from getD_lt _ _ hj, iQ hj (by omega)]
     refine Ev.bind (lF _ _ (by omega)) ?_
     rw [GD _ hj] at K
     refine Ev.test _ (fun t => ?_) (fun t => ?_)
     · rw [if_pos t, ← List.append_assoc] at K
       exact Ev.pos (by omega) (Ev.pos (by omega) K)
     · rw [if_neg (by rw [t]; simp), ← List.append_assoc] at K
       exact Ev.pos (by omega) K) 0 (by omega)
 exact inner
theorem Hz (s : ByteArray) (c : UInt8) {i : Nat} (hi : i < s.size) : (bt s (i : Int) = (c.toNat : Int)) ↔ (bl s)[i]'(by unfold bl; rw [Array.length_toList]; exact hi) = c := by
 unfold bt
 rw [Int.toNat_natCast, dif_pos hi]
 have e : (bl s)[i]'(by unfold bl; rw [Array.length_toList]; exact hi) = s[i] := by unfold bl; rw [Array.getElem_toList]; rfl
 rw [e]
 constructor
 ·intro h; exact UInt8.toNat_inj.1 (by omega)
 intro h; rw [h]
theorem Az (s : ByteArray) : (bl s).length = s.size := by unfold bl; rw [Array.length_toList]; rfl
theorem O4 (s : ByteArray) (a b : Nat) : s.extract a b = mkB (((bl s).take b).drop a) := by
 have e : bl (s.extract a b) = ((bl s).take b).drop a := by
  unfold bl
  rw [ByteArray.data_extract, Array.toList_extract]
  simp [List.extract, List.drop_take]
 rw [← e, uE]
theorem F8 (s : ByteArray) (c : UInt8) (hs : s.size ≤ 1048576) : Ev (fun k => jC.f k s (c.toNat : Int)) (pieces s ⟨#[c]⟩) := by
 unfold jC.f
 rw [vC]
 have go : ∀ (d i fr : Nat) (x : List ByteArray), s.size - i = d → fr ≤ i → i ≤ s.size → x.length ≤ i →
     Ev (fun k => jC.l0 k s (c.toNat : Int) x (fr : Int) (i : Int)) (x ++ (o8 (((bl s).take i).drop fr) (cutL c ((bl s).drop i))).map mkB) := by
   intro d
   induction d with
   | zero =>
     intro i fr x hd hf hi hx
     have e : i = s.size := by omega
     refine Ev.step (fun k => jC.l0.eq_2 s _ x _ _ k) (Ev.neg (by omega) (Ev.pos (by omega) (Ev.pos (by omega) (Ev.pos (by omega) (Ev.ret ?_)))))
     subst e
     rw [Int.toNat_natCast, O4, List.drop_of_length_le (by rw [Az]; omega : (bl s).length ≤ s.size)]
     show _ = x ++ ([_ ++ []] : List (List UInt8)).map mkB
     rw [List.append_nil]; rfl
   | succ d ih =>
     intro i fr x hd hf hi hx
     have hlt : i < s.size := by omega
     have hlb : i < (bl s).length := by rw [Az]; exact hlt
     refine Ev.step (fun k => jC.l0.eq_2 s _ x _ _ k) (Ev.pos (by omega) (Ev.pos (by omega) ?_))
     rw [iQ hlt (by omega), List.drop_eq_getElem_cons hlb]
     refine Ev.prop (fun h => ?_) (fun h => ?_)
     · rw [(Hz s c hlt).1 h, CP]
       refine Ev.pos (by omega) (Ev.pos (by omega) (Ev.pos (by omega) (Ev.pos (by omega) ?_)))
       rw [Int.toNat_natCast, Int.toNat_natCast, O4]
       refine Ev.sub (ih (i + 1) (i + 1) _ (by omega) (by omega) (by omega) (by simp; omega)) ?_
       have e1 : List.drop (i + 1) (List.take (i + 1) (bl s)) = [] := List.drop_of_length_le (by rw [List.length_take]; omega)
       rw [e1, L9 (BC _ _), List.append_assoc]
       show _ = x ++ ((_ ++ []) :: cutL c _).map mkB
       rw [List.append_nil]; rfl
     · rw [I6 (fun e => h ((Hz s c hlt).2 e)), VZ]
       refine Ev.sub (ih (i + 1) fr x (by omega) (by omega) (by omega) (by omega)) ?_
       rw [List.take_succ_eq_append_getElem hlb, List.drop_append_of_le_length (by rw [List.length_take]; omega)]
 refine Ev.sub (go s.size 0 0 [] (by omega) (by omega) (by omega) (by simp)) ?_
 show [] ++ (o8 [] (cutL c (bl s))).map mkB = _
 rw [L9 (BC _ _), List.nil_append]
def sP.f (a0 : Int) : Option (ByteArray) := some (strOfNums (([(wrap64 (48 + a0)) % 256] : List Int)))
theorem sP.calls (a0 : Int) (r : ByteArray) (w : World) (h : sP.f a0 = some r) :
  Calls Tryz.prog 55 #[.int .i64 a0] w fun e w' => e = .returned (.string r) ∧ Below w.heap.size w w' := by
 have HB := am (Below.refl w.heap.size w)
 unfold sP.f at h
 have H := h
 clear h
 obtain ⟨XF, KQ⟩ := yv (([(wrap64 (48 + a0)) % 256] : List Int)); first | replace H := bW KQ H | rw [← KQ.1] at H
 obtain rfl := Option.some.inj H
 repeat clear H
 go_enter Tryz.func55, Tryz.ntmps55
 go_wp2_with (first | ((with_reducible refine dF (N := 6) rfl ?_); refine Kd.H6 (Kd.int .u8) _ 5 ?hg (N := 6) ?hd (xs := ([(wrap64 (48 + a0)) % 256] : List Int)) (inner := [.int .u8 ((wrap64 (48 + a0)) % 256)]) (ok := fun _ => True) (okp := fun _ => True) ?hr ?hp (fun _ hk => hk) trivial (Below.refl _ _) (Nat.le_refl _) (by simp) ?_; (case hd => rfl); (case hg => rfl); (case hr => first | (go_simp; done) | (go_simp; rfl)); (case hp => exact (Reps.one (show Kd.M (Kd.int .u8) _ _ _ ((wrap64 (48 + a0)) % 256) [.int .u8 ((wrap64 (48 + a0)) % 256)] from rfl) (Reps.none _ _))); intro Lf w2 jh hb hg_ hnew_; clear hg_ hnew_; (first | rw [← KQ.out] at jh | (simp only [Int.reduceToNat] at jh; rw [← KQ.out] at jh)); have GW := am (Kd.eF jh (aK gL)); replace HB := bS gL hb; clear hb jh; have hcv4 := YW (P := Tryz.prog) Tryz.underlying24 Tryz.underlying5 Tryz.underlying9 (Kd.Kh GW.1)))
 go_ret
 exact ⟨eR, gL⟩
def tH.f (aQ : List ByteArray) (aE : List (S66)) (a1 : Int) : Option (List ByteArray × (List (S66)) × ByteArray) := (sP.f a1).bind fun a => (if 5 + a.size ≤ 9223372036854775807 then (some (aQ, aE, (⟨#[99, 111, 100, 101, 32]⟩ : ByteArray) ++ a)) else (none))
theorem tH.calls (P0_0_ : Nat → Prop) (u9000_ : Value) (aQ : List ByteArray) (P0_1_ : Nat → Prop) (dS : Option Addr) (dB : Nat) (aE : List (S66)) (a1 : Int) (r1 : List ByteArray) (r2 : List (S66)) (r3 : ByteArray) (w0 w : World) (hB : Below w0.heap.size w0 w) (jf : Kd.R Kd.string 9 w w0.heap.size P0_0_ u9000_ aQ) (jj : Kd.V k66 66 w w0.heap.size (fun k_ => P0_1_ k_ ∧ some k_ ≠ (u9000_ : Value).ownBlock) (.slice dS aE.length dB) aE) (h : tH.f aQ aE a1 = some (r1, r2, r3)) :
  Calls Tryz.prog 23 #[.agg #[u9000_, .slice dS aE.length dB], .int .i64 a1] w fun e w' => ∃ v0_ v1_ : Value, e = .returned (.tuple #[.agg #[v0_, v1_], .string r3]) ∧ Kd.R Kd.string 9 w' w0.heap.size (fun k_ => (P0_0_ k_ ∨ w.heap.size ≤ k_)) v0_ r1 ∧ Kd.V k66 66 w' w0.heap.size (fun k_ => ((P0_0_ k_ ∨ P0_1_ k_) ∨ w.heap.size ≤ k_) ∧ some k_ ≠ (v0_ : Value).ownBlock) v1_ r2 ∧ Below w0.heap.size w0 w' ∧ Kept w w' (fun k_ => P0_0_ k_) := by
 have hu31 := Tryz.underlying31
 have CK := am (show Kd.R Kd.string 9 w w0.heap.size (fun k_ => (P0_0_ k_ ∨ w.heap.size ≤ k_)) u9000_ aQ from Kd.bG jf (fun k_ hk => (.inl hk)))
 have EO := am (show Kd.V k66 66 w w0.heap.size (fun k_ => ((P0_0_ k_ ∨ P0_1_ k_) ∨ w.heap.size ≤ k_) ∧ some k_ ≠ (u9000_ : Value).ownBlock) (.slice dS aE.length dB) aE from Kd.iC jj (fun k_ hk => ⟨.inl (.inr hk.1), hk.2⟩))
 have HK := am (Kept.refl w (fun k_ => P0_0_ k_))
 have HW0 := am hB.size
 have HB := am hB
 clear hB
 unfold tH.f at h
 have H := h
 clear h
 obtain ⟨mQ, A3, H⟩ := bd H
 by_cases c4 : 5 + mQ.size ≤ 9223372036854775807
 ·rw [if_pos c4] at H
  have zQ := eq_true c4
  have Vk : decide (5 + mQ.size ≤ 9223372036854775807) = true := decide_eq_true c4
  try have ph : (9223372036854775807 < 5 + mQ.size) = False := eq_false (Nat.not_lt.2 c4)
  obtain ⟨rfl, rfl, rfl⟩ := sZ3 H
  repeat clear H
  obtain ⟨nu, pn, eo5⟩ := Kd.cB CK.1
  subst eo5
  go_enter Tryz.func23, Tryz.ntmps23
  try go_wp2_with (first | ((with_reducible refine gD 2 ?_); refine bX 2 #[.slice nu aQ.length pn, .slice dS aE.length dB] 31 ?_; intro aZ hg w6 hbox hb; replace CK := am (Kd.iI (rR CK.1) hb); replace EO := am (Kd.H7 (Kd.H8 (rV EO.1) aZ (Nat.le_of_eq hg.symm)) hb); have aC := am hbox; have gU := am (by rw [hg]; exact (by first | exact HK.out.1 | exact (show Kept w _ (fun k_ => P0_0_ k_) from by repeat (first | (with_reducible first | exact HK.out | apply Kept.alloc | apply Kept.drewN | apply Kept.drew) | exact HK.out)).1) : w.heap.size ≤ aZ); replace HK := am (Kept.below (S := (fun k_ => P0_0_ k_)) (by repeat (first | (with_reducible first | exact HK.out | apply Kept.alloc | apply Kept.drewN | apply Kept.drew) | exact HK.out)) hb); have iL := am (nS : w0.heap.size ≤ aZ); replace HB := bS gL hb; clear hb hbox hg) | ((with_reducible refine gD 4 ?_); refine bX 4 #[.slice none 0 0, .slice none 0 0] 31 ?_; intro bF hg w7 hbox hb; replace CK := am (Kd.iI (rR CK.1) hb); replace EO := am (Kd.H7 (Kd.H8 (rV EO.1) bF (Nat.le_of_eq hg.symm)) hb); have aT := am hbox; have qC := am (by rw [hg]; exact (by first | exact HK.out.1 | exact (show Kept w _ (fun k_ => P0_0_ k_) from by repeat (first | (with_reducible first | exact HK.out | apply Kept.alloc | apply Kept.drewN | apply Kept.drew | refine Kept.setCell ?_ (.inr gU.out) _) | exact HK.out)).1) : w.heap.size ≤ bF); replace HK := am (Kept.below (S := (fun k_ => P0_0_ k_)) (by repeat (first | (with_reducible first | exact HK.out | apply Kept.alloc | apply Kept.drewN | apply Kept.drew | refine Kept.setCell ?_ (.inr gU.out) _) | exact HK.out)) hb); have pM := am (vA : w0.heap.size ≤ bF); replace HB := bS dQ hb; have dY := nL bJ hg; have eI := nG bJ hg; replace aC := bB bJ hb; clear hb hbox hg))
  replace CK := RD CK
  replace EO := am (Kd.SQ EO.1)
  replace aC := BD aC
  replace aT := BD aT
  replace HK := am (Kept.drew HK.out)
  replace HB := am (aU HB.1)
  refine sT [] 6 (uA2 aC) (fun hHeld => ?_)
  generalize w7.drew = w8 at CK EO aC aT HK HB hHeld ⊢
  refine pU0 1 (some 7) ?_
  refine tK2_ 0 (some 6) ?_
  refine oM 2 (some 8) fun K hK => ?_
  refine gQ Tryz.func55 (sP.calls a1 mQ _ A3.out) ?_
  rintro w9 hb
  replace CK := am (Kd.iI (rR CK.1) hb)
  replace EO := am (Kd.H7 (rV EO.1) hb)
  replace aC := bB bJ hb
  replace aT := bB fF hb
  replace HK := am (Kept.below (S := (fun k_ => P0_0_ k_)) (by repeat (first | (with_reducible first | exact HK.out | apply Kept.alloc | apply Kept.drewN | apply Kept.drew | refine Kept.setCell ?_ (.inr gU.out) _ | refine Kept.setCell ?_ (.inr qC.out) _) | exact HK.out)) hb)
  replace HB := bS jY hb
  clear hb
  refine nK hK (uA2 aC).1 fun hHeld => ?_
  clear hK K
  refine pU0 3 (some 9) ?_
  refine oM 4 none fun K hK => ?_
  have a5Q : w9.cell? ⟨bF, 0, none⟩ = some (.slice none 0 0) := (aH aT.1 0).trans rfl
  have zr := bL aT.1 0
  have lw := dY.1
  have lf := eI.1
  have a5R : w9.cell? ⟨bF, 1, none⟩ = some (.slice none 0 0) := (aH aT.1 1).trans rfl
  have zt := bL aT.1 1
  have lx := dY.1
  have lg := eI.1
  refine qJ (w1 := ?_) (by rfl) rfl ?_ ?_
  rotate_left
  ·go_simp
   rfl
  refine hK.out _ _ ⟨((cell_far (p := ⟨bF, _, none⟩) dY.1 _).trans (((cell_far (p := ⟨bF, _, none⟩) dY.1 _).trans (hHeld.1)))), ((cell_far (p := ⟨bF, _, none⟩) dY.1 _).trans (((cell_far (p := ⟨bF, _, none⟩) dY.1 _).trans (hHeld.2))))⟩ (fun hHeld => ?_)
  clear hK K
  refine pU0 5 (some 5) ?_
  refine qO (by kernel_rfl) ?_
  try go_wp2
  refine cT bF 31 #[.slice nu aQ.length pn, .slice dS aE.length dB] (qP aT) Tryz.underlying31 ?_
  exact ⟨_, _, eR, mR CK aT, by refine rV ?_; exact Kd.iC (Kd.KU (p := ⟨bF, 1, none⟩) (Kd.KU (p := ⟨bF, 0, none⟩) (Kd.iC EO.1 (fun k_ hk => (⟨hk, hk.2⟩ : _ ∧ k_ ≠ bF))) (fun _ hk => hk.2) (.slice nu aQ.length pn)) (fun _ hk => hk.2) (.slice dS aE.length dB)) (fun _ hk => ⟨hk.1.1.1.1, hk.1.1.1.2⟩), jY, by repeat (first | (with_reducible first | exact HK.out | apply Kept.alloc | apply Kept.drewN | apply Kept.drew | refine Kept.setCell ?_ (.inr gU.out) _ | refine Kept.setCell ?_ (.inr qC.out) _) | exact HK.out)⟩
 rw [if_neg c4] at H
 exact absurd H (by simp)
open Go.Shelf Go.Lib
def jW (P : Nat → Prop) (w : World) (v0 v1 : Value) (l0 : List ByteArray) (l1 : List MB) : Prop := Kd.V Kd.string 9 w 0 P v0 l0 ∧ Kd.V KB 66 w 0 P v1 l1
section
variable {P P' S : Nat → Prop} {w w' W : World} {v0 v1 : Value} {l0 : List ByteArray} {l1 : List MB} {A0 A1 : Option Addr} {c0 c1 : Nat}
theorem jW.below (h : jW P w v0 v1 l0 l1) (hb : Below w.heap.size w w') : jW P w' v0 v1 l0 l1 := ⟨Kd.H7 h.1 hb, Kd.H7 h.2 hb⟩
theorem jW.kept (h : jW P w v0 v1 l0 l1) (hk : Kept w w' S) (hS : ∀ k, P k → ¬ S k) : jW P w' v0 v1 l0 l1 := ⟨Kd.XT h.1 hk hS, Kd.XT h.2 hk hS⟩
theorem jW.wk (h : jW P w v0 v1 l0 l1) (hP : ∀ k, P k → P' k) : jW P' w v0 v1 l0 l1 := ⟨Kd.iC h.1 hP, Kd.iC h.2 hP⟩
theorem jW.slices (h : jW P w v0 v1 l0 l1) : ∃ (A0 : Option Addr) (c0 : Nat) (A1 : Option Addr) (c1 : Nat), v0 = .slice A0 l0.length c0 ∧ v1 = .slice A1 l1.length c1 := by
 obtain ⟨A0, c0, e0⟩ := Kd.Ar h.1
 obtain ⟨A1, c1, e1⟩ := Kd.Ar h.2
 exact ⟨A0, c0, A1, c1, e0, e1⟩
theorem jW.reads (h : jW P w (.slice A0 l0.length c0) (.slice A1 l1.length c1) l0 l1) : (Kd.C Kd.string w A0 l0.length l0 ∧ l0.length ≤ c0) ∧ Kd.C KB w A1 l1.length l1 ∧ l1.length ≤ c1 :=
  ⟨⟨(Kd.zL h.1).2.2, (Kd.zL h.1).2.1⟩, (Kd.zL h.2).2.2, (Kd.zL h.2).2.1⟩
def qG (P : Nat → Prop) (w : World) (r1 : List ByteArray) (r2 : List MB) (r : ByteArray) (e : Ending) (w' : World) : Prop := ∃ v0 v1 : Value, e = .returned (.tuple #[.agg #[v0, v1], .string r]) ∧ jW P w' v0 v1 r1 r2 ∧ Below w.heap.size w w'
def NewV (w w' : World) (v0 v1 : Value) (r1 : List ByteArray) (r2 : List MB) : Prop := Kd.R Kd.string 9 w' w.heap.size (fun k => w.heap.size ≤ k) v0 r1 ∧ Kd.N KB 66 w' w.heap.size (fun k => w.heap.size ≤ k ∧ some k ≠ (v0 : Value).ownBlock) v1 r2
end
theorem Nw (c : Int) (h : 0 ≤ c ∧ c < 10) : sP.f c = some (⟨#[UInt8.ofNat (48 + c.toNat)]⟩ : ByteArray) := by
 unfold sP.f strOfNums
 have e : (wrap64 (48 + c)) % 256 = 48 + c := by unfold wrap64; omega
 rw [e, List.map_cons, List.map_nil, show (48 + c).toNat = 48 + c.toNat from by omega]
theorem J7 {w0 w : World} (hB : Below w0.heap.size w0 w) {r1 : List ByteArray} {r2 : List MB} {B0 B1 : Option Addr} {d0 d1 : Nat} (h : NewV w0 w (.slice B0 r1.length d0) (.slice B1 r2.length d1) r1 r2) {c : Int} (hc : 0 ≤ c ∧ c < 10) :
  Calls Tryz.prog 23 #[.agg #[.slice B0 r1.length d0, .slice B1 r2.length d1], .int .i64 c] w fun e w' => ∃ v0 v1 : Value, e = .returned (.tuple #[.agg #[v0, v1], .string (nR c)]) ∧ jW (fun k => w0.heap.size ≤ k) w' v0 v1 r1 r2 ∧ Below w0.heap.size w0 w' := by
 have hf : tH.f r1 r2 c = some (r1, r2, nR c) := by
  unfold tH.f
  rw [Nw c hc, Option.bind_some, if_pos (by show 5 + 1 ≤ 9223372036854775807; omega)]
  unfold nR
  rw [Lib.decDigits_one (by omega)]
 refine (tH.calls (fun k => w0.heap.size ≤ k) _ r1 (fun k => w0.heap.size ≤ k) _ _ r2 c r1 r2 (nR c) w0 w hB h.1 (Kd.N_V h.2) hf).mono ?_
 rintro e w' ⟨v0, v1, rfl, h0, h1, hb, _⟩
 refine ⟨v0, v1, rfl, ⟨Kd.iC (Kd.R_V h0) (fun k hk => ?_), Kd.iC h1 (fun k hk => ?_)⟩, hb⟩
 ·rcases hk with hk | hk
  ·exact hk
  exact Nat.le_trans hB.size hk
 rcases hk.1 with (hk | hk) | hk
 ·exact hk
 ·exact hk
 exact Nat.le_trans hB.size hk
theorem El {l0 : List ByteArray} {l1 : List MB} (hb : Bd l0 l1) (n : ByteArray) {t : List ByteArray} (ht : t.length ≤ 1048576) {A0 A1 A2 : Option Addr} {c0 c1 c2 : Nat} {w : World} (mO : Kd.C Kd.string w A0 l0.length l0) (nE : l0.length ≤ c0) (sG : Kd.C KB w A1 l1.length l1) (nY : l1.length ≤ c1) (rP : Kd.C Kd.string w A2 t.length t) (mH : t.length ≤ c2) :
  Calls Tryz.prog 24 #[.agg #[.slice A0 l0.length c0, .slice A1 l1.length c1], .string n, .slice A2 t.length c2] w fun e w' => ∃ v0 v1 : Value, e = .returned (.tuple #[.agg #[v0, v1], .int .i64 (jL l0 l1 n t).2.2]) ∧ NewV w w' v0 v1 (jL l0 l1 n t).1 (jL l0 l1 n t).2.1 ∧ Below w.heap.size w w' := by
 obtain ⟨K, hK⟩ := GG l0 l1 n t hb.w ht
 refine (bZ.calls K _ _ l0 _ _ l1 n _ _ t _ _ _ w mO nE sG nY rP mH (hK K (Nat.le_refl _))).mono ?_
 rintro e w' ⟨v0, v1, rfl, h0, h1, hbb⟩
 exact ⟨v0, v1, rfl, ⟨h0, h1⟩, hbb⟩
theorem Pn {l0 : List ByteArray} {l1 : List MB} (hb : Bd l0 l1) (n : ByteArray) {t : List ByteArray} (ht : t.length ≤ 1048576) {A0 A1 A2 : Option Addr} {c0 c1 c2 : Nat} {w : World} (mO : Kd.C Kd.string w A0 l0.length l0) (nE : l0.length ≤ c0) (sG : Kd.C KB w A1 l1.length l1) (nY : l1.length ≤ c1) (rP : Kd.C Kd.string w A2 t.length t) (mH : t.length ≤ c2) :
  Calls Tryz.prog 25 #[.agg #[.slice A0 l0.length c0, .slice A1 l1.length c1], .string n, .slice A2 t.length c2] w fun e w' => ∃ v0 v1 : Value, e = .returned (.tuple #[.agg #[v0, v1], .int .i64 (askB l0 l1 n t).2.2]) ∧ NewV w w' v0 v1 (askB l0 l1 n t).1 (askB l0 l1 n t).2.1 ∧ Below w.heap.size w w' := by
 obtain ⟨K, hK⟩ := KF l0 l1 n t hb.w ht
 refine (eT.calls K _ _ l0 _ _ l1 n _ _ t _ _ _ w mO nE sG nY rP mH (hK K (Nat.le_refl _))).mono ?_
 rintro e w' ⟨v0, v1, rfl, h0, h1, hbb⟩
 exact ⟨v0, v1, rfl, ⟨h0, h1⟩, hbb⟩
theorem Kw {l0 : List ByteArray} {l1 : List MB} (hb : Bd l0 l1) (n : ByteArray) {t : List ByteArray} (ht : t.length ≤ 1048576) {A0 A1 A2 : Option Addr} {c0 c1 c2 : Nat} {w : World} (mO : Kd.C Kd.string w A0 l0.length l0) (nE : l0.length ≤ c0) (sG : Kd.C KB w A1 l1.length l1) (nY : l1.length ≤ c1) (rP : Kd.C Kd.string w A2 t.length t) (mH : t.length ≤ c2) :
  Calls Tryz.prog 26 #[.agg #[.slice A0 l0.length c0, .slice A1 l1.length c1], .string n, .slice A2 t.length c2] w fun e w' => ∃ v0 v1 : Value, e = .returned (.tuple #[.agg #[v0, v1], .int .i64 (lI l0 l1 n t).2.2]) ∧ NewV w w' v0 v1 (lI l0 l1 n t).1 (lI l0 l1 n t).2.1 ∧ Below w.heap.size w w' := by
 obtain ⟨K, hK⟩ := J9 l0 l1 n t hb.w ht
 refine (eD.calls K _ _ l0 _ _ l1 n _ _ t _ _ _ w mO nE sG nY rP mH (hK K (Nat.le_refl _))).mono ?_
 rintro e w' ⟨v0, v1, rfl, h0, h1, hbb⟩
 exact ⟨v0, v1, rfl, ⟨h0, h1⟩, hbb⟩
theorem En {l0 : List ByteArray} {l1 : List MB} (hb : Bd l0 l1) (n : ByteArray) {A0 A1 : Option Addr} {c0 c1 : Nat} {w : World} (mO : Kd.C Kd.string w A0 l0.length l0) (nE : l0.length ≤ c0) (sG : Kd.C KB w A1 l1.length l1) (nY : l1.length ≤ c1) :
  Calls Tryz.prog 27 #[.agg #[.slice A0 l0.length c0, .slice A1 l1.length c1], .string n] w fun e w' => ∃ v0 v1 : Value, e = .returned (.tuple #[.agg #[v0, v1], .int .i64 (jN l0 l1 n).2.2]) ∧ NewV w w' v0 v1 (jN l0 l1 n).1 (jN l0 l1 n).2.1 ∧ Below w.heap.size w w' := by
 obtain ⟨K, hK⟩ := GH l0 l1 n hb.bz
 refine (iA.calls K _ _ l0 _ _ l1 n _ _ _ w mO nE sG nY (hK K (Nat.le_refl _))).mono ?_
 rintro e w' ⟨v0, v1, rfl, h0, h1, hbb⟩
 exact ⟨v0, v1, rfl, ⟨h0, h1⟩, hbb⟩
theorem RP {l0 : List ByteArray} {l1 : List MB} (hb : Bd l0 l1) {A0 A1 : Option Addr} {c0 c1 : Nat} {w : World} (mO : Kd.C Kd.string w A0 l0.length l0) (nE : l0.length ≤ c0) (sG : Kd.C KB w A1 l1.length l1) (nY : l1.length ≤ c1) :
  Calls Tryz.prog 29 #[.agg #[.slice A0 l0.length c0, .slice A1 l1.length c1]] w fun e w' => ∃ v : Value, e = .returned (.tuple #[v, .bool (jS l0 l1).2]) ∧ Kd.R Kd.string 9 w' w.heap.size (fun _ => True) v (jS l0 l1).1 ∧ Below w.heap.size w w' := by
 obtain ⟨K, hK⟩ := xW l0 l1 hb.lt hb.lb hb.bok
 exact fO.calls K _ _ l0 _ _ l1 _ _ w mO nE sG nY (hK K (Nat.le_refl _))
theorem Er {l0 : List ByteArray} {l1 : List MB} (hb : Bd l0 l1) {A0 A1 : Option Addr} {c0 c1 : Nat} {w : World} (mO : Kd.C Kd.string w A0 l0.length l0) (nE : l0.length ≤ c0) (sG : Kd.C KB w A1 l1.length l1) (nY : l1.length ≤ c1) :
  Calls Tryz.prog 31 #[.agg #[.slice A0 l0.length c0, .slice A1 l1.length c1]] w fun e w' => ∃ v : Value, e = .returned v ∧ Kd.R Kd.string 9 w' w.heap.size (fun _ => True) v (qB l0 l1) ∧ Below w.heap.size w w' := by
 obtain ⟨K, hK⟩ := GI l0 l1 hb.lt hb.lb hb.bok
 exact dV.calls K _ _ l0 _ _ l1 _ w mO nE sG nY (hK K (Nat.le_refl _))
theorem Eu {l0 : List ByteArray} {l1 : List MB} (hb : Bd l0 l1) (n : ByteArray) {A0 A1 : Option Addr} {c0 c1 : Nat} {w : World} (mO : Kd.C Kd.string w A0 l0.length l0) (nE : l0.length ≤ c0) (sG : Kd.C KB w A1 l1.length l1) (nY : l1.length ≤ c1) :
  Calls Tryz.prog 32 #[.agg #[.slice A0 l0.length c0, .slice A1 l1.length c1], .string n] w fun e w' => ∃ v : Value, e = .returned v ∧ Kd.R Kd.string 9 w' w.heap.size (fun _ => True) v (mD l0 l1 n) ∧ Below w.heap.size w w' := by
 obtain ⟨K, hK⟩ := GJ l0 l1 n hb.lt hb.lb hb.bok
 exact dH.calls K _ _ l0 _ _ l1 n _ w mO nE sG nY (hK K (Nat.le_refl _))
theorem La {l0 : List ByteArray} {l1 : List MB} (hb : Bd l0 l1) (n : ByteArray) {A0 A1 : Option Addr} {c0 c1 : Nat} {w : World} (mO : Kd.C Kd.string w A0 l0.length l0) (nE : l0.length ≤ c0) (sG : Kd.C KB w A1 l1.length l1) (nY : l1.length ≤ c1) :
  Calls Tryz.prog 33 #[.agg #[.slice A0 l0.length c0, .slice A1 l1.length c1], .string n] w fun e w' => e = .returned (.string (whoB l0 l1 n)) ∧ Below w.heap.size w w' := by
 obtain ⟨K, hK⟩ := KG l0 l1 n hb.lt hb.lb hb.bok
 exact fG.calls K _ _ l0 _ _ l1 n _ w mO nE sG nY (hK K (Nat.le_refl _))
theorem Kz {l0 : List ByteArray} {l1 : List MB} (hb : Bd l0 l1) {A0 A1 : Option Addr} {c0 c1 : Nat} {w : World} (mO : Kd.C Kd.string w A0 l0.length l0) (nE : l0.length ≤ c0) (sG : Kd.C KB w A1 l1.length l1) (nY : l1.length ≤ c1) :
  Calls Tryz.prog 28 #[.agg #[.slice A0 l0.length c0, .slice A1 l1.length c1]] w fun e w' => e = .returned (.string (qI (nA l1))) ∧ Below w.heap.size w w' := by
 obtain ⟨K, hK⟩ := OZ hb
 exact fT.calls K _ _ l0 _ _ l1 _ w mO nE sG nY (hK K (Nat.le_refl _))
theorem BU {l : List ByteArray} (h : Few l) {A : Option Addr} {c : Nat} {w : World} (hr : Kd.C Kd.string w A l.length l) (hc : l.length ≤ c) :
  Calls Tryz.prog 30 #[.slice A l.length c] w fun e w' => e = .returned (.string (oC l)) ∧ Below w.heap.size w w' := by
 obtain ⟨K, hK⟩ := AO l h
 refine (gN.calls K A c l _ w hr hc (hK K (Nat.le_refl _))).mono ?_
 rintro e w' ⟨he, hd⟩
 exact ⟨he, hd.below⟩
theorem RN {t1 : List ByteArray} (h : t1.length ≤ 1048576) {A : Option Addr} {c : Nat} {w : World} (hr : Kd.C Kd.string w A t1.length t1 ∧ t1.length ≤ c) :
  Calls Tryz.prog 21 #[.agg #[.slice A t1.length c, .slice none 0 0]] w fun e w' => e = .returned (.bool (iY t1 [])) ∧ Below w.heap.size w w' := by
 obtain ⟨K, hK⟩ := iW t1 [] (by omega) (by simp) (fun _ h => by simp at h)
 exact aG.calls K _ _ t1 _ _ [] _ w hr.1 hr.2 (Kd.CJ _ _) (Nat.le_refl _) (hK K (Nat.le_refl _))
theorem Ej {t1 : List ByteArray} (h : t1.length ≤ 1048576) {A : Option Addr} {c : Nat} {w : World} (hr : Kd.C Kd.string w A t1.length t1 ∧ t1.length ≤ c) :
  Calls Tryz.prog 22 #[.agg #[.slice A t1.length c, .slice none 0 0]] w fun e w' => ∃ v0 v1 : Value, e = .returned (.agg #[v0, v1]) ∧ jW (fun k => w.heap.size ≤ k) w' v0 v1 t1 [] ∧ Below w.heap.size w w' := by
 obtain ⟨K, hK⟩ := kC t1 [] (by unfold Bz kM; simp; omega)
 refine (dA.calls K _ _ t1 _ _ [] _ _ w hr.1 hr.2 (Kd.CJ _ _) (Nat.le_refl _) (hK K (Nat.le_refl _))).mono ?_
 rintro e w' ⟨v0, v1, rfl, h0, h1, hb⟩
 exact ⟨v0, v1, rfl, ⟨Kd.iC (Kd.R_V (Kd.lL h0)) (fun k hk => hk.2.1), Kd.iC (Kd.S_V (Kd.lC h1)) (fun k hk => hk.2.1)⟩, hb⟩
section
variable {P : Nat → Prop} {w w1 w2 w3 : World} {b c g2 g4 : Nat} {ws l0 : List ByteArray} {l1 : List MB} {A0 A1 : Option Addr} {c0 c1 : Nat}
theorem as4 {p q r s : Prop} (h1 : p) (h2 : q) (h3 : r) (h4 : s) : aD p ∧ aD q ∧ aD r ∧ aD s := ⟨⟨h1⟩, ⟨h2⟩, ⟨h3⟩, ⟨h4⟩⟩
theorem bx2 (hg : g2 = w.heap.size) (hbox : w1.heap[g2]? = some (.cells #[.slice A0 l0.length c0, .slice A1 l1.length c1] 31 (0, 0))) (hb : Below w.heap.size w w1) : aD (w1.heap[g2]? = some (.cells #[.slice A0 l0.length c0, .slice A1 l1.length c1] 31 (0, 0))) ∧ aD (Below w.heap.size w w1) ∧ aD (w.heap.size ≤ g2) := ⟨⟨hbox⟩, ⟨hb⟩, ⟨Nat.le_of_eq hg.symm⟩⟩
theorem bx4 (hg : g4 = w1.heap.size) (hbox : w2.heap[g4]? = some (.cells #[.slice none 0 0, .slice none 0 0] 31 (0, 0))) (hb : Below w1.heap.size w1 w2) (HG2 : aD (w1.heap[g2]? = some (.cells #[.slice A0 l0.length c0, .slice A1 l1.length c1] 31 (0, 0)))) (HB1 : aD (Below w.heap.size w w1)) (HW : aD (WsAt w b c ws)) (h0 : aD (0 < ws.length)) :
  aD (w2.heap[g2]? = some (.cells #[.slice A0 l0.length c0, .slice A1 l1.length c1] 31 (0, 0))) ∧ aD (w2.heap[g4]? = some (.cells #[.slice none 0 0, .slice none 0 0] 31 (0, 0))) ∧ aD (Below w.heap.size w w2) ∧ aD (WsAt w2 b c ws) ∧ aD (g2 ≠ g4) ∧ aD (b ≠ g4) ∧ aD (w.heap.size ≤ g4) ∧
  w2.cell? ⟨g2, 0, none⟩ = some (.slice A0 l0.length c0) ∧ w2.cell? ⟨g2, 1, none⟩ = some (.slice A1 l1.length c1) ∧ w2.cell? ⟨g4, 0, none⟩ = some (.slice none 0 0) ∧ w2.cell? ⟨g4, 1, none⟩ = some (.slice none 0 0) ∧ w2.frozen? ⟨g4, 0, none⟩ = false ∧ w2.frozen? ⟨g4, 1, none⟩ = false ∧ w2.cell? ⟨b, 0, none⟩ = some (.string (gS ws 0)) := by
 have h2 := aV HG2.out hb
 have hB := dG HB1.out hb
 have hW := HW.out.below hB
 have hs := HB1.out.size
 have q := World.block_lt_of_cell? w _ (HW.out.cell 0 h0.out)
 dsimp only at q
 exact ⟨⟨h2⟩, ⟨hbox⟩, ⟨hB⟩, ⟨hW⟩, ⟨by have := dU HG2.out; omega⟩, ⟨by omega⟩, ⟨by omega⟩, (aH h2 0).trans rfl, (aH h2 1).trans rfl, (aH hbox 0).trans rfl, (aH hbox 1).trans rfl, bL hbox 0, bL hbox 1, hW.cell 0 h0.out⟩
theorem st4 {o2 o4 : Obj} (HG2 : aD (w2.heap[g2]? = some o2)) (HG4 : aD (w2.heap[g4]? = some o4)) (HW : aD (WsAt w2 b c ws)) (HB : aD (Below w.heap.size w w2)) (hb : Below w2.heap.size w2 w3) : aD (w3.heap[g2]? = some o2) ∧ aD (w3.heap[g4]? = some o4) ∧ aD (WsAt w3 b c ws) ∧ aD (Below w.heap.size w w3) :=
  ⟨⟨aV HG2.out hb⟩, ⟨aV HG4.out hb⟩, ⟨HW.out.below hb⟩, ⟨dG HB.1 hb⟩⟩
theorem sf4 (HG4 : aD (w2.heap[g4]? = some (.cells #[.slice none 0 0, .slice none 0 0] 31 (0, 0)))) (NE : aD (g2 ≠ g4)) (NB : aD (b ≠ g4)) : w2.cell? ⟨g4, 0, none⟩ = some (.slice none 0 0) ∧ w2.cell? ⟨g4, 1, none⟩ = some (.slice none 0 0) ∧ w2.frozen? ⟨g4, 0, none⟩ = false ∧ w2.frozen? ⟨g4, 1, none⟩ = false ∧ g2 ≠ g4 ∧ g4 ≠ g2 ∧ b ≠ g4 ∧ g4 ≠ b :=
  ⟨(aH HG4.out 0).trans rfl, (aH HG4.out 1).trans rfl, bL HG4.out 0, bL HG4.out 1, NE.out, NE.out.symm, NB.out, NB.out.symm⟩
end
theorem oldV {P : Nat → Prop} {w w2 : World} {g4 : Nat} {v0 v1 u v : Value} {l0 : List ByteArray} {l1 : List MB} (hV : jW P w v0 v1 l0 l1) (hb : Below w.heap.size w w2) (hg : w.heap.size ≤ g4) : jW P ((w2.setCell ⟨g4, 0, none⟩ u).setCell ⟨g4, 1, none⟩ v) v0 v1 l0 l1 :=
  hV.below (aJ (aJ hb hg) hg)
theorem newV {P : Nat → Prop} {w w0 w4 : World} {g4 : Nat} {v0 v1 u v : Value} {l0 : List ByteArray} {l1 : List MB} (hV : jW (fun k => w0.heap.size ≤ k) w4 v0 v1 l0 l1) (hP : ∀ k, w.heap.size ≤ k → P k) (hw : w.heap.size ≤ w0.heap.size) (hg : g4 < w0.heap.size) : jW P ((w4.setCell ⟨g4, 0, none⟩ u).setCell ⟨g4, 1, none⟩ v) v0 v1 l0 l1 :=
  (hV.kept (Kept.two (w := w4) (g := g4) 0 1 u v) (fun k hk e => by omega)).wk (fun k hk => hP k (by omega))
set_option maxHeartbeats 4000000 in
theorem pY {P : Nat → Prop} {l0 : List ByteArray} {l1 : List MB} {ws : List ByteArray} {v0 v1 : Value} {b c : Nat} {w : World} (hV : jW P w v0 v1 l0 l1) (hP : ∀ k, w.heap.size ≤ k → P k) (hW : WsAt w b c ws) (hn0 : 0 < ws.length) (hq : (IsW ws [116, 104, 105, 110, 103, 115] false ∧ IsW ws [101, 110, 116, 101, 114] false ∧ IsW ws [97, 115, 107] false ∧ IsW ws [108, 101, 115, 115] false ∧ IsW ws [108, 101, 97, 118, 101] false ∧ IsW ws [115, 104, 111, 119] false ∧ IsW ws [111, 114, 100, 101, 114] false ∧ IsW ws [109, 111, 118, 101, 115] false ∧ IsW ws [119, 97, 105, 116, 115] false ∧ IsW ws [119, 104, 111] false ∧ True ∧ True) ∨ (IsW ws [116, 104, 105, 110, 103, 115] false ∧ IsW ws [101, 110, 116, 101, 114] true ∧ IsW ws [97, 115, 107] false ∧ IsW ws [108, 101, 115, 115] false ∧ IsW ws [108, 101, 97, 118, 101] false ∧ IsW ws [115, 104, 111, 119] false ∧ IsW ws [111, 114, 100, 101, 114] false ∧ IsW ws [109, 111, 118, 101, 115] false ∧ IsW ws [119, 97, 105, 116, 115] false ∧ IsW ws [119, 104, 111] false ∧ decide (1 < (ws.length : Int)) = false ∧ decide (1 < ws.length) = false) ∨ (IsW ws [116, 104, 105, 110, 103, 115] false ∧ IsW ws [101, 110, 116, 101, 114] false ∧ IsW ws [97, 115, 107] true ∧ IsW ws [108, 101, 115, 115] false ∧ IsW ws [108, 101, 97, 118, 101] false ∧ IsW ws [115, 104, 111, 119] false ∧ IsW ws [111, 114, 100, 101, 114] false ∧ IsW ws [109, 111, 118, 101, 115] false ∧ IsW ws [119, 97, 105, 116, 115] false ∧ IsW ws [119, 104, 111] false ∧ decide (1 < (ws.length : Int)) = false ∧ decide (1 < ws.length) = false) ∨ (IsW ws [116, 104, 105, 110, 103, 115] false ∧ IsW ws [101, 110, 116, 101, 114] false ∧ IsW ws [97, 115, 107] false ∧ IsW ws [108, 101, 115, 115] true ∧ IsW ws [108, 101, 97, 118, 101] false ∧ IsW ws [115, 104, 111, 119] false ∧ IsW ws [111, 114, 100, 101, 114] false ∧ IsW ws [109, 111, 118, 101, 115] false ∧ IsW ws [119, 97, 105, 116, 115] false ∧ IsW ws [119, 104, 111] false ∧ decide (1 < (ws.length : Int)) = false ∧ decide (1 < ws.length) = false) ∨ (IsW ws [116, 104, 105, 110, 103, 115] false ∧ IsW ws [101, 110, 116, 101, 114] false ∧ IsW ws [97, 115, 107] false ∧ IsW ws [108, 101, 115, 115] false ∧ IsW ws [108, 101, 97, 118, 101] true ∧ IsW ws [115, 104, 111, 119] false ∧ IsW ws [111, 114, 100, 101, 114] false ∧ IsW ws [109, 111, 118, 101, 115] false ∧ IsW ws [119, 97, 105, 116, 115] false ∧ IsW ws [119, 104, 111] false ∧ ((ws.length : Int) == 2) = false ∧ decide (ws.length = 2) = false) ∨ (IsW ws [116, 104, 105, 110, 103, 115] false ∧ IsW ws [101, 110, 116, 101, 114] false ∧ IsW ws [97, 115, 107] false ∧ IsW ws [108, 101, 115, 115] false ∧ IsW ws [108, 101, 97, 118, 101] false ∧ IsW ws [115, 104, 111, 119] true ∧ IsW ws [111, 114, 100, 101, 114] false ∧ IsW ws [109, 111, 118, 101, 115] false ∧ IsW ws [119, 97, 105, 116, 115] false ∧ IsW ws [119, 104, 111] false ∧ ((ws.length : Int) == 1) = false ∧ decide (ws.length = 1) = false) ∨ (IsW ws [116, 104, 105, 110, 103, 115] false ∧ IsW ws [101, 110, 116, 101, 114] false ∧ IsW ws [97, 115, 107] false ∧ IsW ws [108, 101, 115, 115] false ∧ IsW ws [108, 101, 97, 118, 101] false ∧ IsW ws [115, 104, 111, 119] false ∧ IsW ws [111, 114, 100, 101, 114] true ∧ IsW ws [109, 111, 118, 101, 115] false ∧ IsW ws [119, 97, 105, 116, 115] false ∧ IsW ws [119, 104, 111] false ∧ ((ws.length : Int) == 1) = false ∧ decide (ws.length = 1) = false) ∨ (IsW ws [116, 104, 105, 110, 103, 115] false ∧ IsW ws [101, 110, 116, 101, 114] false ∧ IsW ws [97, 115, 107] false ∧ IsW ws [108, 101, 115, 115] false ∧ IsW ws [108, 101, 97, 118, 101] false ∧ IsW ws [115, 104, 111, 119] false ∧ IsW ws [111, 114, 100, 101, 114] false ∧ IsW ws [109, 111, 118, 101, 115] true ∧ IsW ws [119, 97, 105, 116, 115] false ∧ IsW ws [119, 104, 111] false ∧ ((ws.length : Int) == 1) = false ∧ decide (ws.length = 1) = false) ∨ (IsW ws [116, 104, 105, 110, 103, 115] false ∧ IsW ws [101, 110, 116, 101, 114] false ∧ IsW ws [97, 115, 107] false ∧ IsW ws [108, 101, 115, 115] false ∧ IsW ws [108, 101, 97, 118, 101] false ∧ IsW ws [115, 104, 111, 119] false ∧ IsW ws [111, 114, 100, 101, 114] false ∧ IsW ws [109, 111, 118, 101, 115] false ∧ IsW ws [119, 97, 105, 116, 115] true ∧ IsW ws [119, 104, 111] false ∧ ((ws.length : Int) == 2) = false ∧ decide (ws.length = 2) = false) ∨ (IsW ws [116, 104, 105, 110, 103, 115] false ∧ IsW ws [101, 110, 116, 101, 114] false ∧ IsW ws [97, 115, 107] false ∧ IsW ws [108, 101, 115, 115] false ∧ IsW ws [108, 101, 97, 118, 101] false ∧ IsW ws [115, 104, 111, 119] false ∧ IsW ws [111, 114, 100, 101, 114] false ∧ IsW ws [109, 111, 118, 101, 115] false ∧ IsW ws [119, 97, 105, 116, 115] false ∧ IsW ws [119, 104, 111] true ∧ ((ws.length : Int) == 2) = false ∧ decide (ws.length = 2) = false)) :
    Calls Tryz.prog 9 #[.agg #[v0, v1], .slice (some ⟨b, 0, none⟩) ws.length c] w (qG P w l0 l1 (⟨#[98, 97, 100]⟩ : ByteArray)) := by
 obtain ⟨A0, c0, A1, c1, rfl, rfl⟩ := hV.slices
 obtain ⟨HV, HP, HW, HN0⟩ := as4 hV hP hW hn0
 obtain ⟨n0, n0', q0, q0'⟩ := oP hn0
 clear hV hP hW hn0
 have hu31 := Tryz.underlying31
 have hu27 := Tryz.underlying27
 rcases hq with ⟨t_things, t_enter, t_ask, t_less, t_leave, t_show, t_order, t_moves, t_waits, t_who, m1, m2⟩ | ⟨t_things, t_enter, t_ask, t_less, t_leave, t_show, t_order, t_moves, t_waits, t_who, m1, m2⟩ | ⟨t_things, t_enter, t_ask, t_less, t_leave, t_show, t_order, t_moves, t_waits, t_who, m1, m2⟩ | ⟨t_things, t_enter, t_ask, t_less, t_leave, t_show, t_order, t_moves, t_waits, t_who, m1, m2⟩ | ⟨t_things, t_enter, t_ask, t_less, t_leave, t_show, t_order, t_moves, t_waits, t_who, m1, m2⟩ | ⟨t_things, t_enter, t_ask, t_less, t_leave, t_show, t_order, t_moves, t_waits, t_who, m1, m2⟩ | ⟨t_things, t_enter, t_ask, t_less, t_leave, t_show, t_order, t_moves, t_waits, t_who, m1, m2⟩ | ⟨t_things, t_enter, t_ask, t_less, t_leave, t_show, t_order, t_moves, t_waits, t_who, m1, m2⟩ | ⟨t_things, t_enter, t_ask, t_less, t_leave, t_show, t_order, t_moves, t_waits, t_who, m1, m2⟩ | ⟨t_things, t_enter, t_ask, t_less, t_leave, t_show, t_order, t_moves, t_waits, t_who, m1, m2⟩
 all_goals
  unfold IsW at t_things t_enter t_ask t_less t_leave t_show t_order t_moves t_waits t_who
  go_enter Tryz.func9, Tryz.ntmps9
  go_wp2_with (first | ((with_reducible refine dF (N := 2) rfl ?_); (refine dX ?hg (N := 2) ?hd (cs := #[.slice A0 l0.length c0, .slice A1 l1.length c1]) (t := 31) ?hr ?_; (case hd => rfl); (case hg => rfl); (case hr => first | (go_simp; done) | (go_simp; rfl)); intro g2 hg2 w1 hbox hb; obtain ⟨HG2, HB1, XO⟩ := bx2 hg2 hbox hb; clear hbox hb hg2)) | ((with_reducible refine dF (N := 4) rfl ?_); (refine dX ?hg (N := 4) ?hd (cs := #[.slice none 0 0, .slice none 0 0]) (t := 31) ?hr ?_; (case hd => rfl); (case hg => rfl); (case hr => first | (go_simp; done) | (go_simp; rfl)); intro g4 hg4 w2 hbox hb; obtain ⟨HG2n, HG4, HB, HW2, NE, NB, uQ, a0, a1, a2, a3, a4, a5, a6⟩ := bx4 hg4 hbox hb HG2 HB1 HW HN0; clear HG2 HB1 hbox hb hg4; have HG2 := HG2n; clear HG2n)))
  (try simp only [Exit.inBlock, Exit.then])
  refine cT g4 31 #[.slice A0 l0.length c0, .slice A1 l1.length c1] (bD (cs := #[.slice A0 l0.length c0, .slice none 0 0]) (bD (cs := #[.slice none 0 0, .slice none 0 0]) HG4.out 0 _ rfl) 1 _ rfl) Tryz.underlying31 ?_
  exact ⟨_, _, rfl, oldV HV.out HB.1 uQ.1, aJ (aJ HB.1 uQ.1) uQ.1⟩
set_option maxHeartbeats 4000000 in
theorem Eo {P : Nat → Prop} {l0 : List ByteArray} {l1 : List MB} {ws : List ByteArray} {v0 v1 : Value} {b c : Nat} {w : World} (hV : jW P w v0 v1 l0 l1) (hP : ∀ k, w.heap.size ≤ k → P k) (hW : WsAt w b c ws) (hn0 : 0 < ws.length) (hbd : Bd l0 l1) (t_things : IsW ws [116, 104, 105, 110, 103, 115] false) (t_enter : IsW ws [101, 110, 116, 101, 114] false) (t_ask : IsW ws [97, 115, 107] true) (hl : 1 < ws.length) (ht : (ws.drop 2).length ≤ 1048576) :
  Calls Tryz.prog 9 #[.agg #[v0, v1], .slice (some ⟨b, 0, none⟩) ws.length c] w (qG P w (askB l0 l1 (gS ws 1) (ws.drop 2)).1 (askB l0 l1 (gS ws 1) (ws.drop 2)).2.1 (nR (askB l0 l1 (gS ws 1) (ws.drop 2)).2.2)) := by
 unfold IsW at t_things t_enter t_ask
 obtain ⟨⟨r1, r2, cc⟩, hr⟩ : ∃ r, r = askB l0 l1 (gS ws 1) (ws.drop 2) := ⟨_, rfl⟩
 have hok := XY hbd.ok (gS ws 1) (ws.drop 2)
 rw [← hr] at hok ⊢
 dsimp only at hok ⊢
 obtain ⟨_, nY, mH, _⟩ := hok
 have HOK := am (show 0 ≤ cc ∧ cc < 10 from ⟨nY, mH⟩)
 have NR := am hr
 have HBD := am hbd
 have HN1 := am hl
 have HT := am ht
 clear ht
 clear nY mH hbd hr
 obtain ⟨n1, n1', q1, q1'⟩ := AB hl
 clear hl
 obtain ⟨A0, c0, A1, c1, rfl, rfl⟩ := hV.slices
 obtain ⟨HV, HP, HW, HN0⟩ := as4 hV hP hW hn0
 obtain ⟨n0, n0', q0, q0'⟩ := oP hn0
 clear hV hP hW hn0
 have hu31 := Tryz.underlying31
 have hu27 := Tryz.underlying27
 go_enter Tryz.func9, Tryz.ntmps9
 try go_wp2_with (first | ((with_reducible refine dF (N := 2) rfl ?_); (refine dX ?hg (N := 2) ?hd (cs := #[.slice A0 l0.length c0, .slice A1 l1.length c1]) (t := 31) ?hr ?_; (case hd => rfl); (case hg => rfl); (case hr => first | (go_simp; done) | (go_simp; rfl)); intro g2 hg2 w1 hbox hb; obtain ⟨HG2, HB1, XO⟩ := bx2 hg2 hbox hb; clear hbox hb hg2)) | ((with_reducible refine dF (N := 4) rfl ?_); (refine dX ?hg (N := 4) ?hd (cs := #[.slice none 0 0, .slice none 0 0]) (t := 31) ?hr ?_; (case hd => rfl); (case hg => rfl); (case hr => first | (go_simp; done) | (go_simp; rfl)); intro g4 hg4 w2 hbox hb; obtain ⟨HG2n, HG4, HB, HW2, NE, NB, uQ, a0, a1, a2, a3, a4, a5, a6⟩ := bx4 hg4 hbox hb HG2 HB1 HW HN0; clear HG2 HB1 hbox hb hg4; have HG2 := HG2n; clear HG2n)))
 obtain ⟨HG2d, HG4d, HWd, HBd⟩ := st4 HG2 HG4 HW2 HB (w3 := w2.drew) (aU (Below.refl _ _))
 (try clear a0 a1 a2 a3 a4 a5 a6)
 obtain ⟨A2, c2, hcut_, rP, mH⟩ := HWd.out.cut 2 HN1.out
 have hcut : ∀ W : World, (Instr.slice 27 (.slice (some ⟨b, 0, none⟩) ws.length c) (some (.int .i64 2)) none none).run Tryz.prog W = .ok (.slice A2 (ws.drop 2).length c2) W := hcut_
 have pL := am rP
 have pK := am mH
 have q2 : ((2 : Int) ≤ (ws.length : Int)) = True := eq_true (by have := HN1.out; omega)
 clear hcut_ rP mH
 refine sT (S := fun w' => w'.cell? ⟨g2, 0, none⟩ = some (.slice A0 l0.length c0) ∧ w'.cell? ⟨g2, 1, none⟩ = some (.slice A1 l1.length c1) ∧ w'.cell? ⟨b, 1, none⟩ = some (.string (gS ws 1))) [] 14 ⟨⟨(aH HG2d.out 0).trans rfl, (aH HG2d.out 1).trans rfl, HWd.out.cell 1 HN1.out⟩⟩ (fun hHeld => ?_)
 generalize w2.drew = w3 at HG2d HG4d HWd HBd pL hHeld ⊢
 refine tK3_ 0 (some 56) ?_
 refine pU0 1 (some 57) ?_
 refine pU0 2 (some 58) ?_
 refine tK3_ 3 (some 59) ?_
 refine pU0 4 (some 60) ?_
 refine pU0 5 (some 61) ?_
 refine oM 6 (some 62) fun K hK => ?_
 refine kF Tryz.func25 (by kernel_rfl) rfl #[.agg #[.slice A0 l0.length c0, .slice A1 l1.length c1], .string (gS ws 1), .slice A2 (ws.drop 2).length c2] (by rfl) rfl rfl n7 ?_
 have RD := am (HV.out.below HBd.out).reads
 have hE := Pn HBD.out (gS ws 1) HT.out RD.out.1.1 RD.out.1.2 RD.out.2.1 RD.out.2.2 pL.1 pK.1
 rw [← NR.out] at hE
 dsimp only at hE
 refine hE.mono ?_
 clear hE
 rintro e_ w4 ⟨u0, u1, rfl, hn, hb⟩
 obtain ⟨B0, d0, e0_⟩ := Kd.cB hn.1
 obtain ⟨B1, d1, e1_⟩ := Kd.kN hn.2
 subst e0_; subst e1_
 have HNV := am hn
 have HB4 := am hb
 obtain ⟨HG2x, HG4x, HWx, HBx⟩ := st4 HG2d HG4d HWd HBd hb
 clear hn hb
 refine ⟨_, rfl, ?_⟩
 refine hK.out _ _ ⟨(aH HG2x.out 0).trans rfl, (aH HG2x.out 1).trans rfl, HWx.out.cell 1 HN1.out⟩ (fun hHeld => ?_)
 clear hK K
 refine nM ?_
 refine pU0 7 (some 63) ?_
 refine pU0 8 (some 64) ?_
 refine oM 9 (some 65) fun K hK => ?_
 refine kF Tryz.func23 (by kernel_rfl) rfl #[.agg #[.slice B0 r1.length d0, .slice B1 r2.length d1], .int .i64 cc] (by rfl) rfl rfl n7 ?_
 refine (J7 HB4.out HNV.out HOK.1).mono ?_
 rintro e_ w5 ⟨x0, x1, rfl, hbk, hb⟩
 obtain ⟨B2, d2, B3, d3, rfl, rfl⟩ := hbk.slices
 have HBK := am hbk
 obtain ⟨HG2y, HG4y, HWy, HBy⟩ := st4 HG2d HG4d HWd HBd hb
 clear hbk hb
 refine ⟨_, rfl, ?_⟩
 refine hK.out _ _ ⟨(aH HG2y.out 0).trans rfl, (aH HG2y.out 1).trans rfl, HWy.out.cell 1 HN1.out⟩ (fun hHeld => ?_)
 clear hK K
 refine nM ?_
 refine pU0 10 (some 66) ?_
 refine pU0 11 (some 67) ?_
 refine oM 12 none fun K hK => ?_
 obtain ⟨e0, e1, e2, e3, hq1, hq2, hq3, hq4⟩ := sf4 HG4y NE NB
 refine qJ (w1 := ?_) (by rfl) rfl ?_ ?_
 rotate_left
 ·go_simp
  rfl
 refine hK.out _ _ ⟨(cell_far (p := ⟨g4, _, none⟩) NE.out _).trans ((cell_far (p := ⟨g4, _, none⟩) NE.out _).trans (hHeld.1)), (cell_far (p := ⟨g4, _, none⟩) NE.out _).trans ((cell_far (p := ⟨g4, _, none⟩) NE.out _).trans (hHeld.2.1)), (cell_far (p := ⟨g4, _, none⟩) NB.out _).trans ((cell_far (p := ⟨g4, _, none⟩) NB.out _).trans (hHeld.2.2))⟩ (fun hHeld => ?_)
 clear hK K
 refine pU0 13 (some 5) ?_
 refine qO (by kernel_rfl) ?_
 try go_wp2
 (try simp only [Exit.inBlock, Exit.then])
 refine cT g4 31 #[.slice B2 r1.length d2, .slice B3 r2.length d3] (bD (cs := #[.slice B2 r1.length d2, .slice none 0 0]) (bD (cs := #[.slice none 0 0, .slice none 0 0]) HG4y.out 0 _ rfl) 1 _ rfl) Tryz.underlying31 ?_
 exact ⟨_, _, rfl, newV HBK.out HP.out HBd.out.size (dU HG4d.out), aJ (aJ HBy.out uQ.1) uQ.1⟩
set_option maxHeartbeats 4000000 in
theorem X6 {P : Nat → Prop} {l0 : List ByteArray} {l1 : List MB} {ws : List ByteArray} {v0 v1 : Value} {b c : Nat} {w : World} (hV : jW P w v0 v1 l0 l1) (hP : ∀ k, w.heap.size ≤ k → P k) (hW : WsAt w b c ws) (hn0 : 0 < ws.length) (hbd : Bd l0 l1) (t_things : IsW ws [116, 104, 105, 110, 103, 115] false) (t_enter : IsW ws [101, 110, 116, 101, 114] true) (hl : 1 < ws.length) (ht : (ws.drop 2).length ≤ 1048576) :
  Calls Tryz.prog 9 #[.agg #[v0, v1], .slice (some ⟨b, 0, none⟩) ws.length c] w (qG P w (jL l0 l1 (gS ws 1) (ws.drop 2)).1 (jL l0 l1 (gS ws 1) (ws.drop 2)).2.1 (nR (jL l0 l1 (gS ws 1) (ws.drop 2)).2.2)) := by
 unfold IsW at t_things t_enter
 obtain ⟨⟨r1, r2, cc⟩, hr⟩ : ∃ r, r = jL l0 l1 (gS ws 1) (ws.drop 2) := ⟨_, rfl⟩
 have hok := O0 hbd.ok (gS ws 1) (ws.drop 2)
 rw [← hr] at hok ⊢
 dsimp only at hok ⊢
 obtain ⟨_, nY, mH, _⟩ := hok
 have HOK := am (show 0 ≤ cc ∧ cc < 10 from ⟨nY, mH⟩)
 have NR := am hr
 have HBD := am hbd
 have HN1 := am hl
 have HT := am ht
 clear ht
 clear nY mH hbd hr
 obtain ⟨n1, n1', q1, q1'⟩ := AB hl
 clear hl
 obtain ⟨A0, c0, A1, c1, rfl, rfl⟩ := hV.slices
 obtain ⟨HV, HP, HW, HN0⟩ := as4 hV hP hW hn0
 obtain ⟨n0, n0', q0, q0'⟩ := oP hn0
 clear hV hP hW hn0
 have hu31 := Tryz.underlying31
 have hu27 := Tryz.underlying27
 go_enter Tryz.func9, Tryz.ntmps9
 try go_wp2_with (first | ((with_reducible refine dF (N := 2) rfl ?_); (refine dX ?hg (N := 2) ?hd (cs := #[.slice A0 l0.length c0, .slice A1 l1.length c1]) (t := 31) ?hr ?_; (case hd => rfl); (case hg => rfl); (case hr => first | (go_simp; done) | (go_simp; rfl)); intro g2 hg2 w1 hbox hb; obtain ⟨HG2, HB1, XO⟩ := bx2 hg2 hbox hb; clear hbox hb hg2)) | ((with_reducible refine dF (N := 4) rfl ?_); (refine dX ?hg (N := 4) ?hd (cs := #[.slice none 0 0, .slice none 0 0]) (t := 31) ?hr ?_; (case hd => rfl); (case hg => rfl); (case hr => first | (go_simp; done) | (go_simp; rfl)); intro g4 hg4 w2 hbox hb; obtain ⟨HG2n, HG4, HB, HW2, NE, NB, uQ, a0, a1, a2, a3, a4, a5, a6⟩ := bx4 hg4 hbox hb HG2 HB1 HW HN0; clear HG2 HB1 hbox hb hg4; have HG2 := HG2n; clear HG2n)))
 obtain ⟨HG2d, HG4d, HWd, HBd⟩ := st4 HG2 HG4 HW2 HB (w3 := w2.drew) (aU (Below.refl _ _))
 (try clear a0 a1 a2 a3 a4 a5 a6)
 obtain ⟨A2, c2, hcut_, rP, mH⟩ := HWd.out.cut 2 HN1.out
 have hcut : ∀ W : World, (Instr.slice 27 (.slice (some ⟨b, 0, none⟩) ws.length c) (some (.int .i64 2)) none none).run Tryz.prog W = .ok (.slice A2 (ws.drop 2).length c2) W := hcut_
 have pL := am rP
 have pK := am mH
 have q2 : ((2 : Int) ≤ (ws.length : Int)) = True := eq_true (by have := HN1.out; omega)
 clear hcut_ rP mH
 refine sT (S := fun w' => w'.cell? ⟨g2, 0, none⟩ = some (.slice A0 l0.length c0) ∧ w'.cell? ⟨g2, 1, none⟩ = some (.slice A1 l1.length c1) ∧ w'.cell? ⟨b, 1, none⟩ = some (.string (gS ws 1))) [] 14 ⟨⟨(aH HG2d.out 0).trans rfl, (aH HG2d.out 1).trans rfl, HWd.out.cell 1 HN1.out⟩⟩ (fun hHeld => ?_)
 generalize w2.drew = w3 at HG2d HG4d HWd HBd pL hHeld ⊢
 refine tK3_ 0 (some 35) ?_
 refine pU0 1 (some 36) ?_
 refine pU0 2 (some 37) ?_
 refine tK3_ 3 (some 38) ?_
 refine pU0 4 (some 39) ?_
 refine pU0 5 (some 40) ?_
 refine oM 6 (some 41) fun K hK => ?_
 refine kF Tryz.func24 (by kernel_rfl) rfl #[.agg #[.slice A0 l0.length c0, .slice A1 l1.length c1], .string (gS ws 1), .slice A2 (ws.drop 2).length c2] (by rfl) rfl rfl n7 ?_
 have RD := am (HV.out.below HBd.out).reads
 have hE := El HBD.out (gS ws 1) HT.out RD.out.1.1 RD.out.1.2 RD.out.2.1 RD.out.2.2 pL.1 pK.1
 rw [← NR.out] at hE
 dsimp only at hE
 refine hE.mono ?_
 clear hE
 rintro e_ w4 ⟨u0, u1, rfl, hn, hb⟩
 obtain ⟨B0, d0, e0_⟩ := Kd.cB hn.1
 obtain ⟨B1, d1, e1_⟩ := Kd.kN hn.2
 subst e0_; subst e1_
 have HNV := am hn
 have HB4 := am hb
 obtain ⟨HG2x, HG4x, HWx, HBx⟩ := st4 HG2d HG4d HWd HBd hb
 clear hn hb
 refine ⟨_, rfl, ?_⟩
 refine hK.out _ _ ⟨(aH HG2x.out 0).trans rfl, (aH HG2x.out 1).trans rfl, HWx.out.cell 1 HN1.out⟩ (fun hHeld => ?_)
 clear hK K
 refine nM ?_
 refine pU0 7 (some 42) ?_
 refine pU0 8 (some 43) ?_
 refine oM 9 (some 44) fun K hK => ?_
 refine kF Tryz.func23 (by kernel_rfl) rfl #[.agg #[.slice B0 r1.length d0, .slice B1 r2.length d1], .int .i64 cc] (by rfl) rfl rfl n7 ?_
 refine (J7 HB4.out HNV.out HOK.1).mono ?_
 rintro e_ w5 ⟨x0, x1, rfl, hbk, hb⟩
 obtain ⟨B2, d2, B3, d3, rfl, rfl⟩ := hbk.slices
 have HBK := am hbk
 obtain ⟨HG2y, HG4y, HWy, HBy⟩ := st4 HG2d HG4d HWd HBd hb
 clear hbk hb
 refine ⟨_, rfl, ?_⟩
 refine hK.out _ _ ⟨(aH HG2y.out 0).trans rfl, (aH HG2y.out 1).trans rfl, HWy.out.cell 1 HN1.out⟩ (fun hHeld => ?_)
 clear hK K
 refine nM ?_
 refine pU0 10 (some 45) ?_
 refine pU0 11 (some 46) ?_
 refine oM 12 none fun K hK => ?_
 obtain ⟨e0, e1, e2, e3, hq1, hq2, hq3, hq4⟩ := sf4 HG4y NE NB
 refine qJ (w1 := ?_) (by rfl) rfl ?_ ?_
 rotate_left
 ·go_simp
  rfl
 refine hK.out _ _ ⟨(cell_far (p := ⟨g4, _, none⟩) NE.out _).trans ((cell_far (p := ⟨g4, _, none⟩) NE.out _).trans (hHeld.1)), (cell_far (p := ⟨g4, _, none⟩) NE.out _).trans ((cell_far (p := ⟨g4, _, none⟩) NE.out _).trans (hHeld.2.1)), (cell_far (p := ⟨g4, _, none⟩) NB.out _).trans ((cell_far (p := ⟨g4, _, none⟩) NB.out _).trans (hHeld.2.2))⟩ (fun hHeld => ?_)
 clear hK K
 refine pU0 13 (some 5) ?_
 refine qO (by kernel_rfl) ?_
 try go_wp2
 (try simp only [Exit.inBlock, Exit.then])
 refine cT g4 31 #[.slice B2 r1.length d2, .slice B3 r2.length d3] (bD (cs := #[.slice B2 r1.length d2, .slice none 0 0]) (bD (cs := #[.slice none 0 0, .slice none 0 0]) HG4y.out 0 _ rfl) 1 _ rfl) Tryz.underlying31 ?_
 exact ⟨_, _, rfl, newV HBK.out HP.out HBd.out.size (dU HG4d.out), aJ (aJ HBy.out uQ.1) uQ.1⟩
set_option maxHeartbeats 4000000 in
theorem X7 {P : Nat → Prop} {l0 : List ByteArray} {l1 : List MB} {ws : List ByteArray} {v0 v1 : Value} {b c : Nat} {w : World} (hV : jW P w v0 v1 l0 l1) (hP : ∀ k, w.heap.size ≤ k → P k) (hW : WsAt w b c ws) (hn0 : 0 < ws.length) (hbd : Bd l0 l1) (t_things : IsW ws [116, 104, 105, 110, 103, 115] false) (t_enter : IsW ws [101, 110, 116, 101, 114] false) (t_ask : IsW ws [97, 115, 107] false) (t_less : IsW ws [108, 101, 115, 115] false) (t_leave : IsW ws [108, 101, 97, 118, 101] true) (hl : 1 < ws.length) (m1 : ((ws.length : Int) == 2) = true) (m2 : decide (ws.length = 2) = true) :
  Calls Tryz.prog 9 #[.agg #[v0, v1], .slice (some ⟨b, 0, none⟩) ws.length c] w (qG P w (jN l0 l1 (gS ws 1)).1 (jN l0 l1 (gS ws 1)).2.1 (nR (jN l0 l1 (gS ws 1)).2.2)) := by
 unfold IsW at t_things t_enter t_ask t_less t_leave
 obtain ⟨⟨r1, r2, cc⟩, hr⟩ : ∃ r, r = jN l0 l1 (gS ws 1) := ⟨_, rfl⟩
 have hok := OH hbd.ok (gS ws 1)
 rw [← hr] at hok ⊢
 dsimp only at hok ⊢
 obtain ⟨_, nY, mH, _⟩ := hok
 have HOK := am (show 0 ≤ cc ∧ cc < 10 from ⟨nY, mH⟩)
 have NR := am hr
 have HBD := am hbd
 have HN1 := am hl
 clear nY mH hbd hr
 obtain ⟨n1, n1', q1, q1'⟩ := AB hl
 clear hl
 obtain ⟨A0, c0, A1, c1, rfl, rfl⟩ := hV.slices
 obtain ⟨HV, HP, HW, HN0⟩ := as4 hV hP hW hn0
 obtain ⟨n0, n0', q0, q0'⟩ := oP hn0
 clear hV hP hW hn0
 have hu31 := Tryz.underlying31
 have hu27 := Tryz.underlying27
 go_enter Tryz.func9, Tryz.ntmps9
 try go_wp2_with (first | ((with_reducible refine dF (N := 2) rfl ?_); (refine dX ?hg (N := 2) ?hd (cs := #[.slice A0 l0.length c0, .slice A1 l1.length c1]) (t := 31) ?hr ?_; (case hd => rfl); (case hg => rfl); (case hr => first | (go_simp; done) | (go_simp; rfl)); intro g2 hg2 w1 hbox hb; obtain ⟨HG2, HB1, XO⟩ := bx2 hg2 hbox hb; clear hbox hb hg2)) | ((with_reducible refine dF (N := 4) rfl ?_); (refine dX ?hg (N := 4) ?hd (cs := #[.slice none 0 0, .slice none 0 0]) (t := 31) ?hr ?_; (case hd => rfl); (case hg => rfl); (case hr => first | (go_simp; done) | (go_simp; rfl)); intro g4 hg4 w2 hbox hb; obtain ⟨HG2n, HG4, HB, HW2, NE, NB, uQ, a0, a1, a2, a3, a4, a5, a6⟩ := bx4 hg4 hbox hb HG2 HB1 HW HN0; clear HG2 HB1 hbox hb hg4; have HG2 := HG2n; clear HG2n)))
 obtain ⟨HG2d, HG4d, HWd, HBd⟩ := st4 HG2 HG4 HW2 HB (w3 := w2.drew) (aU (Below.refl _ _))
 (try clear a0 a1 a2 a3 a4 a5 a6)
 refine sT (S := fun w' => w'.cell? ⟨g2, 0, none⟩ = some (.slice A0 l0.length c0) ∧ w'.cell? ⟨g2, 1, none⟩ = some (.slice A1 l1.length c1) ∧ w'.cell? ⟨b, 1, none⟩ = some (.string (gS ws 1))) [] 12 ⟨⟨(aH HG2d.out 0).trans rfl, (aH HG2d.out 1).trans rfl, HWd.out.cell 1 HN1.out⟩⟩ (fun hHeld => ?_)
 generalize w2.drew = w3 at HG2d HG4d HWd HBd hHeld ⊢
 refine tK3_ 0 (some 98) ?_
 refine pU0 1 (some 99) ?_
 refine pU0 2 (some 100) ?_
 refine tK3_ 3 (some 101) ?_
 refine oM 4 (some 102) fun K hK => ?_
 refine kF Tryz.func27 (by kernel_rfl) rfl #[.agg #[.slice A0 l0.length c0, .slice A1 l1.length c1], .string (gS ws 1)] (by rfl) rfl rfl n7 ?_
 have RD := am (HV.out.below HBd.out).reads
 have hE := En HBD.out (gS ws 1) RD.out.1.1 RD.out.1.2 RD.out.2.1 RD.out.2.2
 rw [← NR.out] at hE
 dsimp only at hE
 refine hE.mono ?_
 clear hE
 rintro e_ w4 ⟨u0, u1, rfl, hn, hb⟩
 obtain ⟨B0, d0, e0_⟩ := Kd.cB hn.1
 obtain ⟨B1, d1, e1_⟩ := Kd.kN hn.2
 subst e0_; subst e1_
 have HNV := am hn
 have HB4 := am hb
 obtain ⟨HG2x, HG4x, HWx, HBx⟩ := st4 HG2d HG4d HWd HBd hb
 clear hn hb
 refine ⟨_, rfl, ?_⟩
 refine hK.out _ _ ⟨(aH HG2x.out 0).trans rfl, (aH HG2x.out 1).trans rfl, HWx.out.cell 1 HN1.out⟩ (fun hHeld => ?_)
 clear hK K
 refine nM ?_
 refine pU0 5 (some 103) ?_
 refine pU0 6 (some 104) ?_
 refine oM 7 (some 105) fun K hK => ?_
 refine kF Tryz.func23 (by kernel_rfl) rfl #[.agg #[.slice B0 r1.length d0, .slice B1 r2.length d1], .int .i64 cc] (by rfl) rfl rfl n7 ?_
 refine (J7 HB4.out HNV.out HOK.1).mono ?_
 rintro e_ w5 ⟨x0, x1, rfl, hbk, hb⟩
 obtain ⟨B2, d2, B3, d3, rfl, rfl⟩ := hbk.slices
 have HBK := am hbk
 obtain ⟨HG2y, HG4y, HWy, HBy⟩ := st4 HG2d HG4d HWd HBd hb
 clear hbk hb
 refine ⟨_, rfl, ?_⟩
 refine hK.out _ _ ⟨(aH HG2y.out 0).trans rfl, (aH HG2y.out 1).trans rfl, HWy.out.cell 1 HN1.out⟩ (fun hHeld => ?_)
 clear hK K
 refine nM ?_
 refine pU0 8 (some 106) ?_
 refine pU0 9 (some 107) ?_
 refine oM 10 none fun K hK => ?_
 obtain ⟨e0, e1, e2, e3, hq1, hq2, hq3, hq4⟩ := sf4 HG4y NE NB
 refine qJ (w1 := ?_) (by rfl) rfl ?_ ?_
 rotate_left
 ·go_simp
  rfl
 refine hK.out _ _ ⟨(cell_far (p := ⟨g4, _, none⟩) NE.out _).trans ((cell_far (p := ⟨g4, _, none⟩) NE.out _).trans (hHeld.1)), (cell_far (p := ⟨g4, _, none⟩) NE.out _).trans ((cell_far (p := ⟨g4, _, none⟩) NE.out _).trans (hHeld.2.1)), (cell_far (p := ⟨g4, _, none⟩) NB.out _).trans ((cell_far (p := ⟨g4, _, none⟩) NB.out _).trans (hHeld.2.2))⟩ (fun hHeld => ?_)
 clear hK K
 refine pU0 11 (some 5) ?_
 refine qO (by kernel_rfl) ?_
 try go_wp2
 (try simp only [Exit.inBlock, Exit.then])
 refine cT g4 31 #[.slice B2 r1.length d2, .slice B3 r2.length d3] (bD (cs := #[.slice B2 r1.length d2, .slice none 0 0]) (bD (cs := #[.slice none 0 0, .slice none 0 0]) HG4y.out 0 _ rfl) 1 _ rfl) Tryz.underlying31 ?_
 exact ⟨_, _, rfl, newV HBK.out HP.out HBd.out.size (dU HG4d.out), aJ (aJ HBy.out uQ.1) uQ.1⟩
set_option maxHeartbeats 4000000 in
theorem ZI {P : Nat → Prop} {l0 : List ByteArray} {l1 : List MB} {ws : List ByteArray} {v0 v1 : Value} {b c : Nat} {w : World} (hV : jW P w v0 v1 l0 l1) (hP : ∀ k, w.heap.size ≤ k → P k) (hW : WsAt w b c ws) (hn0 : 0 < ws.length) (hbd : Bd l0 l1) (t_things : IsW ws [116, 104, 105, 110, 103, 115] false) (t_enter : IsW ws [101, 110, 116, 101, 114] false) (t_ask : IsW ws [97, 115, 107] false) (t_less : IsW ws [108, 101, 115, 115] true) (hl : 1 < ws.length) (ht : (ws.drop 2).length ≤ 1048576) :
  Calls Tryz.prog 9 #[.agg #[v0, v1], .slice (some ⟨b, 0, none⟩) ws.length c] w (qG P w (lI l0 l1 (gS ws 1) (ws.drop 2)).1 (lI l0 l1 (gS ws 1) (ws.drop 2)).2.1 (nR (lI l0 l1 (gS ws 1) (ws.drop 2)).2.2)) := by
 unfold IsW at t_things t_enter t_ask t_less
 obtain ⟨⟨r1, r2, cc⟩, hr⟩ : ∃ r, r = lI l0 l1 (gS ws 1) (ws.drop 2) := ⟨_, rfl⟩
 have hok := U6 hbd.ok (gS ws 1) (ws.drop 2)
 rw [← hr] at hok ⊢
 dsimp only at hok ⊢
 obtain ⟨_, nY, mH, _⟩ := hok
 have HOK := am (show 0 ≤ cc ∧ cc < 10 from ⟨nY, mH⟩)
 have NR := am hr
 have HBD := am hbd
 have HN1 := am hl
 have HT := am ht
 clear ht
 clear nY mH hbd hr
 obtain ⟨n1, n1', q1, q1'⟩ := AB hl
 clear hl
 obtain ⟨A0, c0, A1, c1, rfl, rfl⟩ := hV.slices
 obtain ⟨HV, HP, HW, HN0⟩ := as4 hV hP hW hn0
 obtain ⟨n0, n0', q0, q0'⟩ := oP hn0
 clear hV hP hW hn0
 have hu31 := Tryz.underlying31
 have hu27 := Tryz.underlying27
 go_enter Tryz.func9, Tryz.ntmps9
 try go_wp2_with (first | ((with_reducible refine dF (N := 2) rfl ?_); (refine dX ?hg (N := 2) ?hd (cs := #[.slice A0 l0.length c0, .slice A1 l1.length c1]) (t := 31) ?hr ?_; (case hd => rfl); (case hg => rfl); (case hr => first | (go_simp; done) | (go_simp; rfl)); intro g2 hg2 w1 hbox hb; obtain ⟨HG2, HB1, XO⟩ := bx2 hg2 hbox hb; clear hbox hb hg2)) | ((with_reducible refine dF (N := 4) rfl ?_); (refine dX ?hg (N := 4) ?hd (cs := #[.slice none 0 0, .slice none 0 0]) (t := 31) ?hr ?_; (case hd => rfl); (case hg => rfl); (case hr => first | (go_simp; done) | (go_simp; rfl)); intro g4 hg4 w2 hbox hb; obtain ⟨HG2n, HG4, HB, HW2, NE, NB, uQ, a0, a1, a2, a3, a4, a5, a6⟩ := bx4 hg4 hbox hb HG2 HB1 HW HN0; clear HG2 HB1 hbox hb hg4; have HG2 := HG2n; clear HG2n)))
 obtain ⟨HG2d, HG4d, HWd, HBd⟩ := st4 HG2 HG4 HW2 HB (w3 := w2.drew) (aU (Below.refl _ _))
 (try clear a0 a1 a2 a3 a4 a5 a6)
 obtain ⟨A2, c2, hcut_, rP, mH⟩ := HWd.out.cut 2 HN1.out
 have hcut : ∀ W : World, (Instr.slice 27 (.slice (some ⟨b, 0, none⟩) ws.length c) (some (.int .i64 2)) none none).run Tryz.prog W = .ok (.slice A2 (ws.drop 2).length c2) W := hcut_
 have pL := am rP
 have pK := am mH
 have q2 : ((2 : Int) ≤ (ws.length : Int)) = True := eq_true (by have := HN1.out; omega)
 clear hcut_ rP mH
 refine sT (S := fun w' => w'.cell? ⟨g2, 0, none⟩ = some (.slice A0 l0.length c0) ∧ w'.cell? ⟨g2, 1, none⟩ = some (.slice A1 l1.length c1) ∧ w'.cell? ⟨b, 1, none⟩ = some (.string (gS ws 1))) [] 14 ⟨⟨(aH HG2d.out 0).trans rfl, (aH HG2d.out 1).trans rfl, HWd.out.cell 1 HN1.out⟩⟩ (fun hHeld => ?_)
 generalize w2.drew = w3 at HG2d HG4d HWd HBd pL hHeld ⊢
 refine tK3_ 0 (some 77) ?_
 refine pU0 1 (some 78) ?_
 refine pU0 2 (some 79) ?_
 refine tK3_ 3 (some 80) ?_
 refine pU0 4 (some 81) ?_
 refine pU0 5 (some 82) ?_
 refine oM 6 (some 83) fun K hK => ?_
 refine kF Tryz.func26 (by kernel_rfl) rfl #[.agg #[.slice A0 l0.length c0, .slice A1 l1.length c1], .string (gS ws 1), .slice A2 (ws.drop 2).length c2] (by rfl) rfl rfl n7 ?_
 have RD := am (HV.out.below HBd.out).reads
 have hE := Kw HBD.out (gS ws 1) HT.out RD.out.1.1 RD.out.1.2 RD.out.2.1 RD.out.2.2 pL.1 pK.1
 rw [← NR.out] at hE
 dsimp only at hE
 refine hE.mono ?_
 clear hE
 rintro e_ w4 ⟨u0, u1, rfl, hn, hb⟩
 obtain ⟨B0, d0, e0_⟩ := Kd.cB hn.1
 obtain ⟨B1, d1, e1_⟩ := Kd.kN hn.2
 subst e0_; subst e1_
 have HNV := am hn
 have HB4 := am hb
 obtain ⟨HG2x, HG4x, HWx, HBx⟩ := st4 HG2d HG4d HWd HBd hb
 clear hn hb
 refine ⟨_, rfl, ?_⟩
 refine hK.out _ _ ⟨(aH HG2x.out 0).trans rfl, (aH HG2x.out 1).trans rfl, HWx.out.cell 1 HN1.out⟩ (fun hHeld => ?_)
 clear hK K
 refine nM ?_
 refine pU0 7 (some 84) ?_
 refine pU0 8 (some 85) ?_
 refine oM 9 (some 86) fun K hK => ?_
 refine kF Tryz.func23 (by kernel_rfl) rfl #[.agg #[.slice B0 r1.length d0, .slice B1 r2.length d1], .int .i64 cc] (by rfl) rfl rfl n7 ?_
 refine (J7 HB4.out HNV.out HOK.1).mono ?_
 rintro e_ w5 ⟨x0, x1, rfl, hbk, hb⟩
 obtain ⟨B2, d2, B3, d3, rfl, rfl⟩ := hbk.slices
 have HBK := am hbk
 obtain ⟨HG2y, HG4y, HWy, HBy⟩ := st4 HG2d HG4d HWd HBd hb
 clear hbk hb
 refine ⟨_, rfl, ?_⟩
 refine hK.out _ _ ⟨(aH HG2y.out 0).trans rfl, (aH HG2y.out 1).trans rfl, HWy.out.cell 1 HN1.out⟩ (fun hHeld => ?_)
 clear hK K
 refine nM ?_
 refine pU0 10 (some 87) ?_
 refine pU0 11 (some 88) ?_
 refine oM 12 none fun K hK => ?_
 obtain ⟨e0, e1, e2, e3, hq1, hq2, hq3, hq4⟩ := sf4 HG4y NE NB
 refine qJ (w1 := ?_) (by rfl) rfl ?_ ?_
 rotate_left
 ·go_simp
  rfl
 refine hK.out _ _ ⟨(cell_far (p := ⟨g4, _, none⟩) NE.out _).trans ((cell_far (p := ⟨g4, _, none⟩) NE.out _).trans (hHeld.1)), (cell_far (p := ⟨g4, _, none⟩) NE.out _).trans ((cell_far (p := ⟨g4, _, none⟩) NE.out _).trans (hHeld.2.1)), (cell_far (p := ⟨g4, _, none⟩) NB.out _).trans ((cell_far (p := ⟨g4, _, none⟩) NB.out _).trans (hHeld.2.2))⟩ (fun hHeld => ?_)
 clear hK K
 refine pU0 13 (some 5) ?_
 refine qO (by kernel_rfl) ?_
 try go_wp2
 (try simp only [Exit.inBlock, Exit.then])
 refine cT g4 31 #[.slice B2 r1.length d2, .slice B3 r2.length d3] (bD (cs := #[.slice B2 r1.length d2, .slice none 0 0]) (bD (cs := #[.slice none 0 0, .slice none 0 0]) HG4y.out 0 _ rfl) 1 _ rfl) Tryz.underlying31 ?_
 exact ⟨_, _, rfl, newV HBK.out HP.out HBd.out.size (dU HG4d.out), aJ (aJ HBy.out uQ.1) uQ.1⟩
set_option maxHeartbeats 4000000 in
theorem X8 {P : Nat → Prop} {l0 : List ByteArray} {l1 : List MB} {ws : List ByteArray} {v0 v1 : Value} {b c : Nat} {w : World} (hV : jW P w v0 v1 l0 l1) (hP : ∀ k, w.heap.size ≤ k → P k) (hW : WsAt w b c ws) (hn0 : 0 < ws.length) (hbd : Bd l0 l1) (t_things : IsW ws [116, 104, 105, 110, 103, 115] false) (t_enter : IsW ws [101, 110, 116, 101, 114] false) (t_ask : IsW ws [97, 115, 107] false) (t_less : IsW ws [108, 101, 115, 115] false) (t_leave : IsW ws [108, 101, 97, 118, 101] false) (t_show : IsW ws [115, 104, 111, 119] false) (t_order : IsW ws [111, 114, 100, 101, 114] false) (t_moves : IsW ws [109, 111, 118, 101, 115] true) (m1 : ((ws.length : Int) == 1) = true) (m2 : decide (ws.length = 1) = true) (hf : Few (qB l0 l1))  :
  Calls Tryz.prog 9 #[.agg #[v0, v1], .slice (some ⟨b, 0, none⟩) ws.length c] w (qG P w l0 l1 (oC (qB l0 l1))) := by
 unfold IsW at t_things t_enter t_ask t_less t_leave t_show t_order t_moves
 have HBD := am hbd
 clear hbd
 have HFW := am hf
 clear hf
 obtain ⟨A0, c0, A1, c1, rfl, rfl⟩ := hV.slices
 obtain ⟨HV, HP, HW, HN0⟩ := as4 hV hP hW hn0
 obtain ⟨n0, n0', q0, q0'⟩ := oP hn0
 clear hV hP hW hn0
 have hu31 := Tryz.underlying31
 have hu27 := Tryz.underlying27
 go_enter Tryz.func9, Tryz.ntmps9
 try go_wp2_with (first | ((with_reducible refine dF (N := 2) rfl ?_); (refine dX ?hg (N := 2) ?hd (cs := #[.slice A0 l0.length c0, .slice A1 l1.length c1]) (t := 31) ?hr ?_; (case hd => rfl); (case hg => rfl); (case hr => first | (go_simp; done) | (go_simp; rfl)); intro g2 hg2 w1 hbox hb; obtain ⟨HG2, HB1, XO⟩ := bx2 hg2 hbox hb; clear hbox hb hg2)) | ((with_reducible refine dF (N := 4) rfl ?_); (refine dX ?hg (N := 4) ?hd (cs := #[.slice none 0 0, .slice none 0 0]) (t := 31) ?hr ?_; (case hd => rfl); (case hg => rfl); (case hr => first | (go_simp; done) | (go_simp; rfl)); intro g4 hg4 w2 hbox hb; obtain ⟨HG2n, HG4, HB, HW2, NE, NB, uQ, a0, a1, a2, a3, a4, a5, a6⟩ := bx4 hg4 hbox hb HG2 HB1 HW HN0; clear HG2 HB1 hbox hb hg4; have HG2 := HG2n; clear HG2n)))
 obtain ⟨HG2d, HG4d, HWd, HBd⟩ := st4 HG2 HG4 HW2 HB (w3 := w2.drew) (aU (Below.refl _ _))
 (try clear a0 a1 a2 a3 a4 a5 a6)
 refine sT (S := fun w' => w'.cell? ⟨g2, 0, none⟩ = some (.slice A0 l0.length c0) ∧ w'.cell? ⟨g2, 1, none⟩ = some (.slice A1 l1.length c1)) [] 6 ⟨⟨(aH HG2d.out 0).trans rfl, (aH HG2d.out 1).trans rfl⟩⟩ (fun hHeld => ?_)
 generalize w2.drew = w3 at HG2d HG4d HWd HBd hHeld ⊢
 refine tK2_ 0 (some 149) ?_
 refine tK2_ 1 (some 150) ?_
 refine oM 2 (some 151) fun K hK => ?_
 refine kF Tryz.func31 (by kernel_rfl) rfl #[.agg #[.slice A0 l0.length c0, .slice A1 l1.length c1]] (by rfl) rfl rfl n7 ?_
 have RD := am (HV.out.below HBd.out).reads
 refine (Er HBD.out RD.out.1.1 RD.out.1.2 RD.out.2.1 RD.out.2.2).mono ?_
 rintro e_ w4 ⟨v, rfl, hr, hb⟩
 obtain ⟨AL, cL, rfl⟩ := Kd.cB hr
 have HRL := am (Kd.bI hr).2.2
 have HCL := am (Kd.bI hr).2.1
 obtain ⟨HG2x, HG4x, HWx, HBx⟩ := st4 HG2d HG4d HWd HBd hb
 clear hb hr
 refine ⟨_, rfl, ?_⟩
 refine hK.out _ _ ⟨(aH HG2x.out 0).trans rfl, (aH HG2x.out 1).trans rfl⟩ (fun hHeld => ?_)
 clear hK K
 refine nM ?_
 refine oM 3 (some 152) fun K hK => ?_
 refine kF Tryz.func30 (by kernel_rfl) rfl #[.slice AL (qB l0 l1).length cL] (by rfl) rfl rfl n7 ?_
 refine (BU HFW.out HRL.1 HCL.1).mono ?_
 rintro e_ w5 ⟨rfl, hb⟩
 obtain ⟨HG2y, HG4y, HWy, HBy⟩ := st4 HG2x HG4x HWx HBx hb
 clear hb
 refine ⟨_, rfl, ?_⟩
 refine hK.out _ _ ⟨(aH HG2y.out 0).trans rfl, (aH HG2y.out 1).trans rfl⟩ (fun hHeld => ?_)
 clear hK K
 refine nM ?_
 refine oM 4 none fun K hK => ?_
 obtain ⟨e0, e1, e2, e3, hq1, hq2, hq3, hq4⟩ := sf4 HG4y NE NB
 refine qJ (w1 := ?_) (by rfl) rfl ?_ ?_
 rotate_left
 ·go_simp
  rfl
 refine hK.out _ _ ⟨(cell_far (p := ⟨g4, _, none⟩) NE.out _).trans ((cell_far (p := ⟨g4, _, none⟩) NE.out _).trans (hHeld.1)), (cell_far (p := ⟨g4, _, none⟩) NE.out _).trans ((cell_far (p := ⟨g4, _, none⟩) NE.out _).trans (hHeld.2))⟩ (fun hHeld => ?_)
 clear hK K
 refine pU0 5 (some 5) ?_
 refine qO (by kernel_rfl) ?_
 try go_wp2
 (try simp only [Exit.inBlock, Exit.then])
 refine cT g4 31 #[.slice A0 l0.length c0, .slice A1 l1.length c1] (bD (cs := #[.slice A0 l0.length c0, .slice none 0 0]) (bD (cs := #[.slice none 0 0, .slice none 0 0]) HG4y.out 0 _ rfl) 1 _ rfl) Tryz.underlying31 ?_
 exact ⟨_, _, rfl, oldV HV.out HBy.out uQ.1, aJ (aJ HBy.out uQ.1) uQ.1⟩
set_option maxHeartbeats 4000000 in
theorem OX {P : Nat → Prop} {l0 : List ByteArray} {l1 : List MB} {ws : List ByteArray} {v0 v1 : Value} {b c : Nat} {w : World} (hV : jW P w v0 v1 l0 l1) (hP : ∀ k, w.heap.size ≤ k → P k) (hW : WsAt w b c ws) (hn0 : 0 < ws.length) (hbd : Bd l0 l1) (t_things : IsW ws [116, 104, 105, 110, 103, 115] false) (t_enter : IsW ws [101, 110, 116, 101, 114] false) (t_ask : IsW ws [97, 115, 107] false) (t_less : IsW ws [108, 101, 115, 115] false) (t_leave : IsW ws [108, 101, 97, 118, 101] false) (t_show : IsW ws [115, 104, 111, 119] false) (t_order : IsW ws [111, 114, 100, 101, 114] true) (m1 : ((ws.length : Int) == 1) = true) (m2 : decide (ws.length = 1) = true) (hf : Few (jS l0 l1).1)  (ho : (jS l0 l1).2 = false) :
  Calls Tryz.prog 9 #[.agg #[v0, v1], .slice (some ⟨b, 0, none⟩) ws.length c] w (qG P w l0 l1 (⟨#[110, 111]⟩ : ByteArray)) := by
 unfold IsW at t_things t_enter t_ask t_less t_leave t_show t_order
 have HBD := am hbd
 clear hbd
 have HFW := am hf
 clear hf
 obtain ⟨A0, c0, A1, c1, rfl, rfl⟩ := hV.slices
 obtain ⟨HV, HP, HW, HN0⟩ := as4 hV hP hW hn0
 obtain ⟨n0, n0', q0, q0'⟩ := oP hn0
 clear hV hP hW hn0
 have hu31 := Tryz.underlying31
 have hu27 := Tryz.underlying27
 go_enter Tryz.func9, Tryz.ntmps9
 go_wp2_with (first | ((with_reducible refine dF (N := 2) rfl ?_); (refine dX ?hg (N := 2) ?hd (cs := #[.slice A0 l0.length c0, .slice A1 l1.length c1]) (t := 31) ?hr ?_; (case hd => rfl); (case hg => rfl); (case hr => first | (go_simp; done) | (go_simp; rfl)); intro g2 hg2 w1 hbox hb; obtain ⟨HG2, HB1, XO⟩ := bx2 hg2 hbox hb; clear hbox hb hg2)) | ((with_reducible refine dF (N := 4) rfl ?_); (refine dX ?hg (N := 4) ?hd (cs := #[.slice none 0 0, .slice none 0 0]) (t := 31) ?hr ?_; (case hd => rfl); (case hg => rfl); (case hr => first | (go_simp; done) | (go_simp; rfl)); intro g4 hg4 w2 hbox hb; obtain ⟨HG2n, HG4, HB, HW2, NE, NB, uQ, a0, a1, a2, a3, a4, a5, a6⟩ := bx4 hg4 hbox hb HG2 HB1 HW HN0; have RD0 := am (HV.out.below HB.1).reads; clear HG2 HB1 hbox hb hg4; have HG2 := HG2n; clear HG2n)) | (go_at_call 29; refine (RP HBD.out RD0.out.1.1 RD0.out.1.2 RD0.out.2.1 RD0.out.2.2).mono ?_; rintro e_ w3 ⟨v, rfl, hr, hb⟩; obtain ⟨AL, cL, rfl⟩ := Kd.cB hr; have HRL := am (Kd.bI hr).2.2; have HCL := am (Kd.bI hr).2.1; have HG2o := am (aV HG2.out hb); have HG4o := am (aV HG4.out hb); have HWo := am (HW2.out.below hb); have HBo := bS HB.1 hb; clear hb hr; (try clear a0 a1 a2 a3 a4 a5 a6); have a0 : w3.cell? ⟨g2, 0, none⟩ = some (.slice A0 l0.length c0) := (aH HG2o.out 0).trans rfl; have a1 : w3.cell? ⟨g2, 1, none⟩ = some (.slice A1 l1.length c1) := (aH HG2o.out 1).trans rfl; have a2 : w3.cell? ⟨g4, 0, none⟩ = some (.slice none 0 0) := (aH HG4o.out 0).trans rfl; have a3 : w3.cell? ⟨g4, 1, none⟩ = some (.slice none 0 0) := (aH HG4o.out 1).trans rfl; have a4 := bL HG4o.out 0; have a5 := bL HG4o.out 1; have a6 := HWo.out.cell 0 HN0.out))
 (try simp only [Exit.inBlock, Exit.then])
 refine cT g4 31 #[.slice A0 l0.length c0, .slice A1 l1.length c1] (bD (cs := #[.slice A0 l0.length c0, .slice none 0 0]) (bD (cs := #[.slice none 0 0, .slice none 0 0]) HG4o.out 0 _ rfl) 1 _ rfl) Tryz.underlying31 ?_
 exact ⟨_, _, rfl, oldV HV.out HBo.out uQ.1, aJ (aJ HBo.out uQ.1) uQ.1⟩
set_option maxHeartbeats 4000000 in
theorem X9 {P : Nat → Prop} {l0 : List ByteArray} {l1 : List MB} {ws : List ByteArray} {v0 v1 : Value} {b c : Nat} {w : World} (hV : jW P w v0 v1 l0 l1) (hP : ∀ k, w.heap.size ≤ k → P k) (hW : WsAt w b c ws) (hn0 : 0 < ws.length) (hbd : Bd l0 l1) (t_things : IsW ws [116, 104, 105, 110, 103, 115] false) (t_enter : IsW ws [101, 110, 116, 101, 114] false) (t_ask : IsW ws [97, 115, 107] false) (t_less : IsW ws [108, 101, 115, 115] false) (t_leave : IsW ws [108, 101, 97, 118, 101] false) (t_show : IsW ws [115, 104, 111, 119] false) (t_order : IsW ws [111, 114, 100, 101, 114] true) (m1 : ((ws.length : Int) == 1) = true) (m2 : decide (ws.length = 1) = true) (hf : Few (jS l0 l1).1)  (ho : (jS l0 l1).2 = true) :
  Calls Tryz.prog 9 #[.agg #[v0, v1], .slice (some ⟨b, 0, none⟩) ws.length c] w (qG P w l0 l1 (oC (jS l0 l1).1)) := by
 unfold IsW at t_things t_enter t_ask t_less t_leave t_show t_order
 have HBD := am hbd
 clear hbd
 have HFW := am hf
 clear hf
 obtain ⟨A0, c0, A1, c1, rfl, rfl⟩ := hV.slices
 obtain ⟨HV, HP, HW, HN0⟩ := as4 hV hP hW hn0
 obtain ⟨n0, n0', q0, q0'⟩ := oP hn0
 clear hV hP hW hn0
 have hu31 := Tryz.underlying31
 have hu27 := Tryz.underlying27
 go_enter Tryz.func9, Tryz.ntmps9
 try go_wp2_with (first | ((with_reducible refine dF (N := 2) rfl ?_); (refine dX ?hg (N := 2) ?hd (cs := #[.slice A0 l0.length c0, .slice A1 l1.length c1]) (t := 31) ?hr ?_; (case hd => rfl); (case hg => rfl); (case hr => first | (go_simp; done) | (go_simp; rfl)); intro g2 hg2 w1 hbox hb; obtain ⟨HG2, HB1, XO⟩ := bx2 hg2 hbox hb; clear hbox hb hg2)) | ((with_reducible refine dF (N := 4) rfl ?_); (refine dX ?hg (N := 4) ?hd (cs := #[.slice none 0 0, .slice none 0 0]) (t := 31) ?hr ?_; (case hd => rfl); (case hg => rfl); (case hr => first | (go_simp; done) | (go_simp; rfl)); intro g4 hg4 w2 hbox hb; obtain ⟨HG2n, HG4, HB, HW2, NE, NB, uQ, a0, a1, a2, a3, a4, a5, a6⟩ := bx4 hg4 hbox hb HG2 HB1 HW HN0; have RD0 := am (HV.out.below HB.1).reads; clear HG2 HB1 hbox hb hg4; have HG2 := HG2n; clear HG2n)) | (go_at_call 29; refine (RP HBD.out RD0.out.1.1 RD0.out.1.2 RD0.out.2.1 RD0.out.2.2).mono ?_; rintro e_ w3 ⟨v, rfl, hr, hb⟩; obtain ⟨AL, cL, rfl⟩ := Kd.cB hr; have HRL := am (Kd.bI hr).2.2; have HCL := am (Kd.bI hr).2.1; have HG2o := am (aV HG2.out hb); have HG4o := am (aV HG4.out hb); have HWo := am (HW2.out.below hb); have HBo := bS HB.1 hb; clear hb hr; (try clear a0 a1 a2 a3 a4 a5 a6); have a0 : w3.cell? ⟨g2, 0, none⟩ = some (.slice A0 l0.length c0) := (aH HG2o.out 0).trans rfl; have a1 : w3.cell? ⟨g2, 1, none⟩ = some (.slice A1 l1.length c1) := (aH HG2o.out 1).trans rfl; have a2 : w3.cell? ⟨g4, 0, none⟩ = some (.slice none 0 0) := (aH HG4o.out 0).trans rfl; have a3 : w3.cell? ⟨g4, 1, none⟩ = some (.slice none 0 0) := (aH HG4o.out 1).trans rfl; have a4 := bL HG4o.out 0; have a5 := bL HG4o.out 1; have a6 := HWo.out.cell 0 HN0.out))
 obtain ⟨HG2d, HG4d, HWd, HBd⟩ := st4 HG2o HG4o HWo HBo (w3 := w3.drew) (aU (Below.refl _ _))
 (try clear a0 a1 a2 a3 a4 a5 a6)
 have HRd := am (show Kd.C Kd.string w3.drew AL (jS l0 l1).1.length (jS l0 l1).1 from HRL.1)
 refine sT (S := fun w' => w'.cell? ⟨g2, 0, none⟩ = some (.slice A0 l0.length c0) ∧ w'.cell? ⟨g2, 1, none⟩ = some (.slice A1 l1.length c1)) [] 5 ⟨⟨(aH HG2d.out 0).trans rfl, (aH HG2d.out 1).trans rfl⟩⟩ (fun hHeld => ?_)
 generalize w3.drew = w4 at HG2d HG4d HWd HBd HRd hHeld ⊢
 refine tK2_ 0 (some 137) ?_
 refine pU0 1 (some 138) ?_
 refine oM 2 (some 139) fun K hK => ?_
 refine kF Tryz.func30 (by kernel_rfl) rfl #[.slice AL (jS l0 l1).1.length cL] (by rfl) rfl rfl n7 ?_
 refine (BU HFW.out HRd.1 HCL.1).mono ?_
 rintro e_ w5 ⟨rfl, hb⟩
 obtain ⟨HG2x, HG4x, HWx, HBx⟩ := st4 HG2d HG4d HWd HBd hb
 clear hb
 refine ⟨_, rfl, ?_⟩
 refine hK.out _ _ ⟨(aH HG2x.out 0).trans rfl, (aH HG2x.out 1).trans rfl⟩ (fun hHeld => ?_)
 clear hK K
 refine nM ?_
 refine oM 3 none fun K hK => ?_
 obtain ⟨e0, e1, e2, e3, hq1, hq2, hq3, hq4⟩ := sf4 HG4x NE NB
 refine qJ (w1 := ?_) (by rfl) rfl ?_ ?_
 rotate_left
 ·go_simp
  rfl
 refine hK.out _ _ ⟨(cell_far (p := ⟨g4, _, none⟩) NE.out _).trans ((cell_far (p := ⟨g4, _, none⟩) NE.out _).trans (hHeld.1)), (cell_far (p := ⟨g4, _, none⟩) NE.out _).trans ((cell_far (p := ⟨g4, _, none⟩) NE.out _).trans (hHeld.2))⟩ (fun hHeld => ?_)
 clear hK K
 refine pU0 4 (some 5) ?_
 refine qO (by kernel_rfl) ?_
 try go_wp2
 (try simp only [Exit.inBlock, Exit.then])
 refine cT g4 31 #[.slice A0 l0.length c0, .slice A1 l1.length c1] (bD (cs := #[.slice A0 l0.length c0, .slice none 0 0]) (bD (cs := #[.slice none 0 0, .slice none 0 0]) HG4x.out 0 _ rfl) 1 _ rfl) Tryz.underlying31 ?_
 exact ⟨_, _, rfl, oldV HV.out HBx.out uQ.1, aJ (aJ HBx.out uQ.1) uQ.1⟩
set_option maxHeartbeats 4000000 in
theorem ZJ {P : Nat → Prop} {l0 : List ByteArray} {l1 : List MB} {ws : List ByteArray} {v0 v1 : Value} {b c : Nat} {w : World} (hV : jW P w v0 v1 l0 l1) (hP : ∀ k, w.heap.size ≤ k → P k) (hW : WsAt w b c ws) (hn0 : 0 < ws.length) (hbd : Bd l0 l1) (t_things : IsW ws [116, 104, 105, 110, 103, 115] false) (t_enter : IsW ws [101, 110, 116, 101, 114] false) (t_ask : IsW ws [97, 115, 107] false) (t_less : IsW ws [108, 101, 115, 115] false) (t_leave : IsW ws [108, 101, 97, 118, 101] false) (t_show : IsW ws [115, 104, 111, 119] true) (m1 : ((ws.length : Int) == 1) = true) (m2 : decide (ws.length = 1) = true)  :
  Calls Tryz.prog 9 #[.agg #[v0, v1], .slice (some ⟨b, 0, none⟩) ws.length c] w (qG P w l0 l1 (qI (nA l1))) := by
 unfold IsW at t_things t_enter t_ask t_less t_leave t_show
 have HBD := am hbd
 clear hbd
 obtain ⟨A0, c0, A1, c1, rfl, rfl⟩ := hV.slices
 obtain ⟨HV, HP, HW, HN0⟩ := as4 hV hP hW hn0
 obtain ⟨n0, n0', q0, q0'⟩ := oP hn0
 clear hV hP hW hn0
 have hu31 := Tryz.underlying31
 have hu27 := Tryz.underlying27
 go_enter Tryz.func9, Tryz.ntmps9
 try go_wp2_with (first | ((with_reducible refine dF (N := 2) rfl ?_); (refine dX ?hg (N := 2) ?hd (cs := #[.slice A0 l0.length c0, .slice A1 l1.length c1]) (t := 31) ?hr ?_; (case hd => rfl); (case hg => rfl); (case hr => first | (go_simp; done) | (go_simp; rfl)); intro g2 hg2 w1 hbox hb; obtain ⟨HG2, HB1, XO⟩ := bx2 hg2 hbox hb; clear hbox hb hg2)) | ((with_reducible refine dF (N := 4) rfl ?_); (refine dX ?hg (N := 4) ?hd (cs := #[.slice none 0 0, .slice none 0 0]) (t := 31) ?hr ?_; (case hd => rfl); (case hg => rfl); (case hr => first | (go_simp; done) | (go_simp; rfl)); intro g4 hg4 w2 hbox hb; obtain ⟨HG2n, HG4, HB, HW2, NE, NB, uQ, a0, a1, a2, a3, a4, a5, a6⟩ := bx4 hg4 hbox hb HG2 HB1 HW HN0; clear HG2 HB1 hbox hb hg4; have HG2 := HG2n; clear HG2n)))
 obtain ⟨HG2d, HG4d, HWd, HBd⟩ := st4 HG2 HG4 HW2 HB (w3 := w2.drew) (aU (Below.refl _ _))
 (try clear a0 a1 a2 a3 a4 a5 a6)
 refine sT (S := fun w' => w'.cell? ⟨g2, 0, none⟩ = some (.slice A0 l0.length c0) ∧ w'.cell? ⟨g2, 1, none⟩ = some (.slice A1 l1.length c1)) [] 5 ⟨⟨(aH HG2d.out 0).trans rfl, (aH HG2d.out 1).trans rfl⟩⟩ (fun hHeld => ?_)
 generalize w2.drew = w3 at HG2d HG4d HWd HBd hHeld ⊢
 refine tK2_ 0 (some 117) ?_
 refine tK2_ 1 (some 118) ?_
 refine oM 2 (some 119) fun K hK => ?_
 refine kF Tryz.func28 (by kernel_rfl) rfl #[.agg #[.slice A0 l0.length c0, .slice A1 l1.length c1]] (by rfl) rfl rfl n7 ?_
 have RD := am (HV.out.below HBd.out).reads
 refine (Kz HBD.out RD.out.1.1 RD.out.1.2 RD.out.2.1 RD.out.2.2).mono ?_
 rintro e_ w4 ⟨rfl, hb⟩
 obtain ⟨HG2x, HG4x, HWx, HBx⟩ := st4 HG2d HG4d HWd HBd hb
 clear hb
 refine ⟨_, rfl, ?_⟩
 refine hK.out _ _ ⟨(aH HG2x.out 0).trans rfl, (aH HG2x.out 1).trans rfl⟩ (fun hHeld => ?_)
 clear hK K
 refine nM ?_
 refine oM 3 none fun K hK => ?_
 obtain ⟨e0, e1, e2, e3, hq1, hq2, hq3, hq4⟩ := sf4 HG4x NE NB
 refine qJ (w1 := ?_) (by rfl) rfl ?_ ?_
 rotate_left
 ·go_simp
  rfl
 refine hK.out _ _ ⟨(cell_far (p := ⟨g4, _, none⟩) NE.out _).trans ((cell_far (p := ⟨g4, _, none⟩) NE.out _).trans (hHeld.1)), (cell_far (p := ⟨g4, _, none⟩) NE.out _).trans ((cell_far (p := ⟨g4, _, none⟩) NE.out _).trans (hHeld.2))⟩ (fun hHeld => ?_)
 clear hK K
 refine pU0 4 (some 5) ?_
 refine qO (by kernel_rfl) ?_
 try go_wp2
 (try simp only [Exit.inBlock, Exit.then])
 refine cT g4 31 #[.slice A0 l0.length c0, .slice A1 l1.length c1] (bD (cs := #[.slice A0 l0.length c0, .slice none 0 0]) (bD (cs := #[.slice none 0 0, .slice none 0 0]) HG4x.out 0 _ rfl) 1 _ rfl) Tryz.underlying31 ?_
 exact ⟨_, _, rfl, oldV HV.out HBx.out uQ.1, aJ (aJ HBx.out uQ.1) uQ.1⟩
theorem GU {w2 w3 : World} {A : Option Addr} {n : Nat} {l : List ByteArray} (h : Kd.C Kd.string w2 A n l) (hb : Below w2.heap.size w2 w3) : Kd.F Kd.string w3 (fun k => k < w2.heap.size) A n l := by
 have h0 : Kd.F Kd.string w2 (fun k => k < w2.heap.size) A n l := fun W' hW => Kd.WA.C (fun k hk => hW k hk hk) h
 exact Kd.GR h0 hb
theorem new7 {w2 w3 : World} {g7 c : Nat} {A : Option Addr} {l : List ByteArray} {u v : Value} (h : Kd.V Kd.string 9 w3 0 (fun k => k < w2.heap.size) (.slice A l.length c) l) (hg : w2.heap.size ≤ g7) :
  Kd.C Kd.string ((w3.setCell ⟨g7, 0, none⟩ u).setCell ⟨g7, 1, none⟩ v) A l.length l ∧ l.length ≤ c := by
 have h2 := Kd.XT h (Kept.two (w := w3) (g := g7) 0 1 u v) (fun k hk e => by omega)
 exact ⟨(Kd.zL h2).2.2, (Kd.zL h2).2.1⟩
theorem Sk {w2 w3 w4 : World} {g7 c : Nat} {A : Option Addr} {l : List ByteArray} {u v : Value} (h : Kd.V Kd.string 9 w3 0 (fun k => k < w2.heap.size) (.slice A l.length c) l) (hg : w2.heap.size ≤ g7)
    (hb : Below ((w3.setCell ⟨g7, 0, none⟩ u).setCell ⟨g7, 1, none⟩ v).heap.size ((w3.setCell ⟨g7, 0, none⟩ u).setCell ⟨g7, 1, none⟩ v) w4) : Kd.C Kd.string w4 A l.length l ∧ l.length ≤ c :=
  ⟨Kd.aM (new7 (u := u) (v := v) h hg).1 hb, (new7 (u := u) (v := v) h hg).2⟩
set_option maxHeartbeats 4000000 in
theorem LV {P : Nat → Prop} {l0 : List ByteArray} {l1 : List MB} {ws : List ByteArray} {v0 v1 : Value} {b c : Nat} {w : World} (hV : jW P w v0 v1 l0 l1) (hP : ∀ k, w.heap.size ≤ k → P k) (hW : WsAt w b c ws) (hn0 : 0 < ws.length) (ht : (ws.drop 1).length ≤ 1048576) (t_things : IsW ws [116, 104, 105, 110, 103, 115] true) (ho : iY (ws.drop 1) [] = false) :
  Calls Tryz.prog 9 #[.agg #[v0, v1], .slice (some ⟨b, 0, none⟩) ws.length c] w (qG P w l0 l1 (⟨#[110, 111]⟩ : ByteArray)) := by
 unfold IsW at t_things
 generalize hd_ : ws.drop 1 = t1 at ht ho ⊢
 have HD := am hd_
 clear hd_
 have HT := am ht
 have HO := am ho
 clear ht ho
 obtain ⟨A0, c0, A1, c1, rfl, rfl⟩ := hV.slices
 obtain ⟨HV, HP, HW, HN0⟩ := as4 hV hP hW hn0
 obtain ⟨n0, n0', q0, q0'⟩ := oP hn0
 clear hV hP hW hn0
 have hu31 := Tryz.underlying31
 have hu27 := Tryz.underlying27
 go_enter Tryz.func9, Tryz.ntmps9
 go_wp2_with (first | ((with_reducible refine dF (N := 2) rfl ?_); (refine dX ?hg (N := 2) ?hd (cs := #[.slice A0 l0.length c0, .slice A1 l1.length c1]) (t := 31) ?hr ?_; (case hd => rfl); (case hg => rfl); (case hr => first | (go_simp; done) | (go_simp; rfl)); intro g2 hg2 w1 hbox hb; obtain ⟨HG2, HB1, XO⟩ := bx2 hg2 hbox hb; clear hbox hb hg2)) | ((with_reducible refine dF (N := 4) rfl ?_); (refine dX ?hg (N := 4) ?hd (cs := #[.slice none 0 0, .slice none 0 0]) (t := 31) ?hr ?_; (case hd => rfl); (case hg => rfl); (case hr => first | (go_simp; done) | (go_simp; rfl)); intro g4 hg4 w2 hbox hb; obtain ⟨HG2n, HG4, HB, HW2, NE, NB, uQ, a0, a1, a2, a3, a4, a5, a6⟩ := bx4 hg4 hbox hb HG2 HB1 HW HN0; clear HG2 HB1 hbox hb hg4; have HG2 := HG2n; clear HG2n; have hcu_ := HW2.out.cut 1 HN0.out; rw [HD.out] at hcu_; obtain ⟨A2, c2, hcut_, rP, mH⟩ := hcu_; have hcut : ∀ W : World, (Instr.slice 27 (.slice (some ⟨b, 0, none⟩) ws.length c) (some (.int .i64 1)) none none).run Tryz.prog W = .ok (.slice A2 t1.length c2) W := hcut_; have pL := am rP; have pK := am mH; clear hcut_ rP mH)) | ((with_reducible refine dF (N := 7) rfl ?_); (refine dX ?hg (N := 7) ?hd (cs := #[.slice none 0 0, .slice none 0 0]) (t := 31) ?hr ?_; (case hd => rfl); (case hg => rfl); (case hr => first | (go_simp; done) | (go_simp; rfl)); intro g7 hg7 w3 hbox hb; have HG7 := am hbox; have ab := am (Kd.aM pL.1 hb); have NA := am (show w.heap.size ≤ g7 from by have := HB.1.size; omega); have HG2c := am (aV HG2.out hb); have HG4c := am (aV HG4.out hb); have HWc := am (HW2.out.below hb); have HBc := bS HB.1 hb; have N27 := am (show g2 ≠ g7 from by have := dU HG2.out; omega); have N47 := am (show g4 ≠ g7 from by have := dU HG4.out; omega); have A2N := am (show Kd.V Kd.string 9 w3 0 (fun k => k < w2.heap.size) (.slice A2 t1.length c2) t1 from Kd.V_mk pK.1 (GU pL.1 hb)); have HSZ := am (show w2.heap.size ≤ g7 from Nat.le_of_eq hg7.symm); have k0 : w3.cell? ⟨g7, 0, none⟩ = some (.slice none 0 0) := (aH hbox 0).trans rfl; have k1 : w3.cell? ⟨g7, 1, none⟩ = some (.slice none 0 0) := (aH hbox 1).trans rfl; have k2 := bL hbox 0; have k3 := bL hbox 1; clear hbox hb hg7 hcut; (try clear a0 a1 a2 a3 a4 a5 a6))) | (go_at_call 21; refine (RN HT.out (new7 A2N.out HSZ.out)).mono ?_; rw [HO.out]; rintro e_ w4 ⟨rfl, hb⟩; have HA2 := am (Sk A2N.out HSZ.out hb); have HG7e := am (aV (bD (cs := #[.slice A2 t1.length c2, .slice none 0 0]) (bD (cs := #[.slice none 0 0, .slice none 0 0]) HG7.out 0 _ rfl) 1 _ rfl) hb); have HG2e := am (aV (eX (eX HG2c.out (p := ⟨g7, 0, none⟩) N27.out _) (p := ⟨g7, 1, none⟩) N27.out _) hb); have HG4e := am (aV (eX (eX HG4c.out (p := ⟨g7, 0, none⟩) N47.out _) (p := ⟨g7, 1, none⟩) N47.out _) hb); have HBe := am (dG (aJ (aJ HBc.out NA.1) NA.1) hb); clear hb k0 k1 k2 k3; have k0 : w4.cell? ⟨g7, 0, none⟩ = some (.slice A2 t1.length c2) := (aH HG7e.out 0).trans rfl; have k1 : w4.cell? ⟨g7, 1, none⟩ = some (.slice none 0 0) := (aH HG7e.out 1).trans rfl; have a0 : w4.cell? ⟨g2, 0, none⟩ = some (.slice A0 l0.length c0) := (aH HG2e.out 0).trans rfl; have a1 : w4.cell? ⟨g2, 1, none⟩ = some (.slice A1 l1.length c1) := (aH HG2e.out 1).trans rfl; have a2 : w4.cell? ⟨g4, 0, none⟩ = some (.slice none 0 0) := (aH HG4e.out 0).trans rfl; have a3 : w4.cell? ⟨g4, 1, none⟩ = some (.slice none 0 0) := (aH HG4e.out 1).trans rfl; have a4 := bL HG4e.out 0; have a5 := bL HG4e.out 1))
 (try simp only [Exit.inBlock, Exit.then])
 refine cT g4 31 #[.slice A0 l0.length c0, .slice A1 l1.length c1] (bD (cs := #[.slice A0 l0.length c0, .slice none 0 0]) (bD (cs := #[.slice none 0 0, .slice none 0 0]) HG4e.out 0 _ rfl) 1 _ rfl) Tryz.underlying31 ?_
 exact ⟨_, _, rfl, oldV HV.out HBe.out uQ.1, aJ (aJ HBe.out uQ.1) uQ.1⟩
set_option maxHeartbeats 4000000 in
theorem UQ {P : Nat → Prop} {l0 : List ByteArray} {l1 : List MB} {ws : List ByteArray} {v0 v1 : Value} {b c : Nat} {w : World} (hV : jW P w v0 v1 l0 l1) (hP : ∀ k, w.heap.size ≤ k → P k) (hW : WsAt w b c ws) (hn0 : 0 < ws.length) (ht : (ws.drop 1).length ≤ 1048576) (t_things : IsW ws [116, 104, 105, 110, 103, 115] true) (ho : iY (ws.drop 1) [] = true) :
  Calls Tryz.prog 9 #[.agg #[v0, v1], .slice (some ⟨b, 0, none⟩) ws.length c] w (qG P w (ws.drop 1) [] (⟨#[111, 107]⟩ : ByteArray)) := by
 unfold IsW at t_things
 generalize hd_ : ws.drop 1 = t1 at ht ho ⊢
 have HD := am hd_
 clear hd_
 have HT := am ht
 have HO := am ho
 clear ht ho
 obtain ⟨A0, c0, A1, c1, rfl, rfl⟩ := hV.slices
 obtain ⟨HV, HP, HW, HN0⟩ := as4 hV hP hW hn0
 obtain ⟨n0, n0', q0, q0'⟩ := oP hn0
 clear hV hP hW hn0
 have hu31 := Tryz.underlying31
 have hu27 := Tryz.underlying27
 go_enter Tryz.func9, Tryz.ntmps9
 go_wp2_with (first | ((with_reducible refine dF (N := 2) rfl ?_); (refine dX ?hg (N := 2) ?hd (cs := #[.slice A0 l0.length c0, .slice A1 l1.length c1]) (t := 31) ?hr ?_; (case hd => rfl); (case hg => rfl); (case hr => first | (go_simp; done) | (go_simp; rfl)); intro g2 hg2 w1 hbox hb; obtain ⟨HG2, HB1, XO⟩ := bx2 hg2 hbox hb; clear hbox hb hg2)) | ((with_reducible refine dF (N := 4) rfl ?_); (refine dX ?hg (N := 4) ?hd (cs := #[.slice none 0 0, .slice none 0 0]) (t := 31) ?hr ?_; (case hd => rfl); (case hg => rfl); (case hr => first | (go_simp; done) | (go_simp; rfl)); intro g4 hg4 w2 hbox hb; obtain ⟨HG2n, HG4, HB, HW2, NE, NB, uQ, a0, a1, a2, a3, a4, a5, a6⟩ := bx4 hg4 hbox hb HG2 HB1 HW HN0; clear HG2 HB1 hbox hb hg4; have HG2 := HG2n; clear HG2n; have hcu_ := HW2.out.cut 1 HN0.out; rw [HD.out] at hcu_; obtain ⟨A2, c2, hcut_, rP, mH⟩ := hcu_; have hcut : ∀ W : World, (Instr.slice 27 (.slice (some ⟨b, 0, none⟩) ws.length c) (some (.int .i64 1)) none none).run Tryz.prog W = .ok (.slice A2 t1.length c2) W := hcut_; have pL := am rP; have pK := am mH; clear hcut_ rP mH)) | ((with_reducible refine dF (N := 7) rfl ?_); (refine dX ?hg (N := 7) ?hd (cs := #[.slice none 0 0, .slice none 0 0]) (t := 31) ?hr ?_; (case hd => rfl); (case hg => rfl); (case hr => first | (go_simp; done) | (go_simp; rfl)); intro g7 hg7 w3 hbox hb; have HG7 := am hbox; have ab := am (Kd.aM pL.1 hb); have NA := am (show w.heap.size ≤ g7 from by have := HB.1.size; omega); have HG2c := am (aV HG2.out hb); have HG4c := am (aV HG4.out hb); have HWc := am (HW2.out.below hb); have HBc := bS HB.1 hb; have N27 := am (show g2 ≠ g7 from by have := dU HG2.out; omega); have N47 := am (show g4 ≠ g7 from by have := dU HG4.out; omega); have A2N := am (show Kd.V Kd.string 9 w3 0 (fun k => k < w2.heap.size) (.slice A2 t1.length c2) t1 from Kd.V_mk pK.1 (GU pL.1 hb)); have HSZ := am (show w2.heap.size ≤ g7 from Nat.le_of_eq hg7.symm); have k0 : w3.cell? ⟨g7, 0, none⟩ = some (.slice none 0 0) := (aH hbox 0).trans rfl; have k1 : w3.cell? ⟨g7, 1, none⟩ = some (.slice none 0 0) := (aH hbox 1).trans rfl; have k2 := bL hbox 0; have k3 := bL hbox 1; clear hbox hb hg7 hcut; (try clear a0 a1 a2 a3 a4 a5 a6))) | (go_at_call 21; refine (RN HT.out (new7 A2N.out HSZ.out)).mono ?_; rw [HO.out]; rintro e_ w4 ⟨rfl, hb⟩; have HA2 := am (Sk A2N.out HSZ.out hb); have HG7e := am (aV (bD (cs := #[.slice A2 t1.length c2, .slice none 0 0]) (bD (cs := #[.slice none 0 0, .slice none 0 0]) HG7.out 0 _ rfl) 1 _ rfl) hb); have HG2e := am (aV (eX (eX HG2c.out (p := ⟨g7, 0, none⟩) N27.out _) (p := ⟨g7, 1, none⟩) N27.out _) hb); have HG4e := am (aV (eX (eX HG4c.out (p := ⟨g7, 0, none⟩) N47.out _) (p := ⟨g7, 1, none⟩) N47.out _) hb); have HBe := am (dG (aJ (aJ HBc.out NA.1) NA.1) hb); clear hb k0 k1 k2 k3; have k0 : w4.cell? ⟨g7, 0, none⟩ = some (.slice A2 t1.length c2) := (aH HG7e.out 0).trans rfl; have k1 : w4.cell? ⟨g7, 1, none⟩ = some (.slice none 0 0) := (aH HG7e.out 1).trans rfl; have a0 : w4.cell? ⟨g2, 0, none⟩ = some (.slice A0 l0.length c0) := (aH HG2e.out 0).trans rfl; have a1 : w4.cell? ⟨g2, 1, none⟩ = some (.slice A1 l1.length c1) := (aH HG2e.out 1).trans rfl; have a2 : w4.cell? ⟨g4, 0, none⟩ = some (.slice none 0 0) := (aH HG4e.out 0).trans rfl; have a3 : w4.cell? ⟨g4, 1, none⟩ = some (.slice none 0 0) := (aH HG4e.out 1).trans rfl; have a4 := bL HG4e.out 0; have a5 := bL HG4e.out 1) | (go_at_call 22; refine (Ej HT.out HA2.out).mono ?_; rintro e_ w5 ⟨x0, x1, rfl, hbk, hb⟩; obtain ⟨B2, d2, B3, d3, rfl, rfl⟩ := hbk.slices; have HBK := am hbk; have HG4f := am (aV HG4e.out hb); have HBf := am (dG HBe.out hb); clear hbk hb a0 a1 a2 a3 a4 a5 k0 k1; have a2 : w5.cell? ⟨g4, 0, none⟩ = some (.slice none 0 0) := (aH HG4f.out 0).trans rfl; have a3 : w5.cell? ⟨g4, 1, none⟩ = some (.slice none 0 0) := (aH HG4f.out 1).trans rfl; have a4 := bL HG4f.out 0; have a5 := bL HG4f.out 1))
 (try simp only [Exit.inBlock, Exit.then])
 refine cT g4 31 #[.slice B2 t1.length d2, .slice B3 ([] : List MB).length d3] (bD (cs := #[.slice B2 t1.length d2, .slice none 0 0]) (bD (cs := #[.slice none 0 0, .slice none 0 0]) HG4f.out 0 _ rfl) 1 _ rfl) Tryz.underlying31 ?_
 exact ⟨_, _, rfl, newV HBK.out HP.out HBe.out.size (dU HG4e.out), aJ (aJ HBf.out uQ.1) uQ.1⟩
end Go.Proofs.YtaofjgnhapnndaaGreatDoor.Q
