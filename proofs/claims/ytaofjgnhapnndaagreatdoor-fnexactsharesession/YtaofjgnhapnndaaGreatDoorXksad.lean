/- Texts that the row needs: words on memory and rows, the contracts of the functions it reaches, and the plain lemmas on what they compute. -/
import Derived.Test.YtaofjgnhapnndaaGreatDoorProg
import Derived.WalkLawsBesides
import Derived.Test.YtaofjgnhapnndaaGreatDoorXksac
open Go.Proofs.YtaofjgnhapnndaaGreatDoorFks
namespace Go.Proofs.YtaofjgnhapnndaaGreatDoor.Q
open Go.RowKit Go.Proofs.YtaofjgnhapnndaaGreatDoorW.PrintWords Go.Proofs.YtaofjgnhapnndaaGreatDoorW.PrintLast Go.Proofs.YtaofjgnhapnndaaGreatDoorW.PrintMore
set_option linter.unusedVariables false
set_option linter.unusedSimpArgs false
def errW : Option Int → Value
  | none => .nilIface
  | some c => .iface 0 (.int .i64 c)
theorem zU : errW none = .nilIface := rfl
theorem zV (c : Int) : errW (some c) = .iface 0 (.int .i64 c) := rfl
theorem jP : (Tryz.prog.info? 9).map (fun i => (i.zero, i.size, i.bytes)) = some (some (.string ⟨#[]⟩), 1, 16) := by kernel_rfl
theorem pJ : (Tryz.prog.info? 66).map (fun i => (i.zero, i.size, i.bytes)) = some (some (.agg #[(.string ⟨#[]⟩), (.slice none 0 0), (.slice none 0 0)]), 3, 64) := by kernel_rfl
structure S66 where
  f0 : ByteArray
  f1 : (List ByteArray)
  f2 : (List ByteArray)
def z66 : S66 := ⟨(⟨#[]⟩ : ByteArray), ([] : List ByteArray), ([] : List ByteArray)⟩
def Kd.sepd {α : Type} (d : Kd α) (m : List Value → Prop) : Kd α where
  sz := d.sz
  E := d.E
  K := d.K
  M := fun w base ok x cs => d.M w base ok x cs ∧ m cs
  K_len := d.K_len
  K_one := d.K_one
  K_below := d.K_below
  K_of_M := fun h => d.K_of_M h.1
  M_mono := fun hok h => ⟨d.M_mono hok h.1, h.2⟩
  M_bound := fun h => ⟨d.M_bound h.1, h.2⟩
  M_move := fun hm h => ⟨d.M_move hm h.1, h.2⟩
  M_lower := fun hb h => ⟨d.M_lower hb h.1, h.2⟩
def jr : List Value → Prop
  | [_, v1, v2] => ∀ k, v1.ownBlock = some k → v2.ownBlock ≠ some k
  | _ => True
theorem Ku {α β : Type} {d : Kd α} {d2 : Kd β} {e e2 b b2 : Nat} {w w2 : World} {ok1 ok2 : Nat → Prop} {v1 v2 : Value} {xs : List α} {ys : List β} (h1 : d.R e w b ok1 v1 xs) (h2 : d2.R e2 w2 b2 ok2 v2 ys)
    (hne : (∀ k, ok1 k → some k ≠ v2.ownBlock) ∨ (∀ k, ok2 k → some k ≠ v1.ownBlock) := by first | exact Or.inl (fun _ h => h) | exact Or.inr (fun _ h => h) | exact Or.inl (fun _ h => h.1) | exact Or.inl (fun _ h => h.2) | exact Or.inr (fun _ h => h.1) | exact Or.inr (fun _ h => h.2) | exact Or.inl (fun _ h => h.1.1) | exact Or.inl (fun _ h => h.1.2) | exact Or.inl (fun _ h => h.2.1) | exact Or.inl (fun _ h => h.2.2) | exact Or.inr (fun _ h => h.1.1) | exact Or.inr (fun _ h => h.1.2) | exact Or.inr (fun _ h => h.2.1) | exact Or.inr (fun _ h => h.2.2) | exact Or.inl (fun _ h => h.1.1.1) | exact Or.inl (fun _ h => h.1.1.2) | exact Or.inl (fun _ h => h.1.2.1) | exact Or.inl (fun _ h => h.1.2.2) | exact Or.inr (fun _ h => h.1.1.1) | exact Or.inr (fun _ h => h.1.1.2) | exact Or.inr (fun _ h => h.1.2.1) | exact Or.inr (fun _ h => h.1.2.2) | exact Or.inl (fun _ h => h.2.2.1) | exact Or.inl (fun _ h => h.2.2.2) | exact Or.inr (fun _ h => h.2.2.1) | exact Or.inr (fun _ h => h.2.2.2) | exact Or.inl (fun _ h => by simp_all) | exact Or.inr (fun _ h => by simp_all)) : ∀ k, v1.ownBlock = some k → v2.ownBlock ≠ some k := fun k e1 e2 =>
  hne.elim (fun h => h k (h1.1 k e1) e2.symm) (fun h => h k (h2.1 k e2) e1.symm)
def k66 : Kd S66 := Kd.sepd (Kd.iso (Kd.pair Kd.string (Kd.pair (Kd.slice 9 Kd.string) (Kd.slice 9 Kd.string))) (fun x : S66 => (x.f0, x.f1, x.f2))) jr
theorem IZ {w : World} {x : S66} {cs : List Value} (h : k66.K w x cs) : ∃ A1 c1 A2 c2, cs = [.string x.f0, .slice A1 x.f1.length c1, .slice A2 x.f2.length c2] ∧ x.f1.length ≤ c1 ∧ Kd.string.C w A1 x.f1.length x.f1 ∧ x.f2.length ≤ c2 ∧ Kd.string.C w A2 x.f2.length x.f2 := by
 obtain ⟨_, _, rfl, rfl, ⟨_, _, rfl, ⟨A1, c1, rfl, l1, g1⟩, ⟨A2, c2, rfl, l2, g2⟩⟩⟩ := h
 exact ⟨A1, c1, A2, c2, rfl, l1, g1, l2, g2⟩
theorem pR {w : World} {base : Nat} {ok : Nat → Prop} {x : S66} {cs : List Value} (h : k66.M w base ok x cs) : ∃ v1 v2, cs = [.string x.f0, v1, v2] ∧ Kd.string.R 9 w base ok v1 x.f1 ∧ Kd.string.R 9 w base ok v2 x.f2 := by
 obtain ⟨⟨_, _, rfl, rfl, ⟨_, _, rfl, ⟨v1, rfl, g1⟩, ⟨v2, rfl, g2⟩⟩⟩, _⟩ := h
 exact ⟨v1, v2, rfl, g1, g2⟩
theorem Jq {w : World} {base : Nat} {ok : Nat → Prop} {x : S66} {u v1 v2 : Value} (h : k66.M w base ok x [u, v1, v2]) : ∀ k, v1.ownBlock = some k → v2.ownBlock ≠ some k := h.2
theorem Xq (w : World) (x : S66) {A1 : Option Addr} {c1 : Nat} (l1 : x.f1.length ≤ c1) (g1 : Kd.string.C w A1 x.f1.length x.f1) {A2 : Option Addr} {c2 : Nat} (l2 : x.f2.length ≤ c2) (g2 : Kd.string.C w A2 x.f2.length x.f2) : k66.K w x [.string x.f0, .slice A1 x.f1.length c1, .slice A2 x.f2.length c2] := ⟨[.string x.f0], [.slice A1 x.f1.length c1, .slice A2 x.f2.length c2], rfl, rfl, ⟨[.slice A1 x.f1.length c1], [.slice A2 x.f2.length c2], rfl, ⟨A1, c1, rfl, l1, g1⟩, ⟨A2, c2, rfl, l2, g2⟩⟩⟩
theorem yO (w : World) (base : Nat) (ok : Nat → Prop) (x : S66) {v1 : Value} (g1 : Kd.string.R 9 w base ok v1 x.f1) {v2 : Value} (g2 : Kd.string.R 9 w base ok v2 x.f2) (hs : ∀ k, v1.ownBlock = some k → v2.ownBlock ≠ some k := by exact fun _ h => nomatch h) : k66.M w base ok x [.string x.f0, v1, v2] := ⟨⟨[.string x.f0], [v1, v2], rfl, rfl, ⟨[v1], [v2], rfl, ⟨v1, rfl, g1⟩, ⟨v2, rfl, g2⟩⟩⟩, hs⟩
theorem rJ {W : World} {ok : Nat → Prop} {x : S66} {cs : List Value} (h : Kd.FK k66 W ok x cs) : ∃ A1 c1 A2 c2, cs = [.string x.f0, .slice A1 x.f1.length c1, .slice A2 x.f2.length c2] ∧ x.f1.length ≤ c1 ∧ Kd.F Kd.string W ok A1 x.f1.length x.f1 ∧ x.f2.length ≤ c2 ∧ Kd.F Kd.string W ok A2 x.f2.length x.f2 := by
 obtain ⟨A1, c1, A2, c2, rfl, l1, _, l2, _⟩ := IZ (Kd.yX h)
 exact ⟨A1, c1, A2, c2, rfl, l1, (fun W' hW => by obtain ⟨A1_, c1_, A2_, c2_, he, l1_, g1_, l2_, g2_⟩ := IZ (h W' hW); injection (Option.some.inj (show some (Value.slice A1 x.f1.length c1) = some (Value.slice A1_ x.f1.length c1_) from congrArg (fun l => l[1]?) he)) with ha_ _ _; rw [ha_]; exact g1_), l2, (fun W' hW => by obtain ⟨A1_, c1_, A2_, c2_, he, l1_, g1_, l2_, g2_⟩ := IZ (h W' hW); injection (Option.some.inj (show some (Value.slice A2 x.f2.length c2) = some (Value.slice A2_ x.f2.length c2_) from congrArg (fun l => l[2]?) he)) with ha_ _ _; rw [ha_]; exact g2_)⟩
theorem MV (W : World) (ok : Nat → Prop) (x : S66) {A1 : Option Addr} {c1 : Nat} (l1 : x.f1.length ≤ c1) (g1 : Kd.F Kd.string W ok A1 x.f1.length x.f1) {A2 : Option Addr} {c2 : Nat} (l2 : x.f2.length ≤ c2) (g2 : Kd.F Kd.string W ok A2 x.f2.length x.f2) : Kd.FK k66 W ok x [.string x.f0, .slice A1 x.f1.length c1, .slice A2 x.f2.length c2] := fun W2 hW => Xq W2 x l1 (g1 W2 hW) l2 (g2 W2 hW)
def aA (xs : List S66) (i : Int) : S66 := xs.getD i.toNat z66
theorem AY {w : World} {A : Option Addr} {n : Nat} {xs : List S66} (h : Kd.C k66 w A n xs) (i : Int) (h0 : 0 ≤ i) (h1 : i < n) : ∃ ad A1 c1 A2 c2, A = some ad ∧ w.cell? (ad.add (i.toNat * 3)) = some (.string (aA xs i).f0) ∧ w.cell? ⟨(ad.add (i.toNat * 3)).block, (ad.add (i.toNat * 3)).off + 1, none⟩ = some (.slice A1 (aA xs i).f1.length c1) ∧ w.cell? ⟨(ad.add (i.toNat * 3)).block, (ad.add (i.toNat * 3)).off + 2, none⟩ = some (.slice A2 (aA xs i).f2.length c2) ∧ (aA xs i).f1.length ≤ c1 ∧ Kd.string.C w A1 (aA xs i).f1.length (aA xs i).f1 ∧ (aA xs i).f2.length ≤ c2 ∧ Kd.string.C w A2 (aA xs i).f2.length (aA xs i).f2 := by
 obtain ⟨ad, c, e, _, hK, nE⟩ := Kd.ZT h z66 i h0 h1
 have hc : ∀ j u, c[j]? = some u → w.cell? (ad.add (i.toNat * 3 + j)) = some u := nE
 obtain ⟨A1, c1, A2, c2, rfl, l1, g1, l2, g2⟩ := IZ hK
 exact ⟨ad, A1, c1, A2, c2, e, hc 0 _ rfl, by rw [← sU _ _ 1 (by omega)]; exact hc 1 _ rfl, by rw [← sU _ _ 2 (by omega)]; exact hc 2 _ rfl, l1, g1, l2, g2⟩
theorem aT66 {w W : World} {A : Option Addr} {n : Nat} {xs : List S66} (h : aD (Kd.C k66 w A n xs)) (hb : aD (Below w.heap.size w W)) (i : Int) (h0 : 0 ≤ i := by exact oT) (h1 : i < (n : Int) := by exact oT) : ∃ ad A1 c1 A2 c2, A = some ad ∧ W.cell? (ad.add (i.toNat * 3)) = some (.string (aA xs i).f0) ∧ W.cell? ⟨(ad.add (i.toNat * 3)).block, (ad.add (i.toNat * 3)).off + 1, none⟩ = some (.slice A1 (aA xs i).f1.length c1) ∧ W.cell? ⟨(ad.add (i.toNat * 3)).block, (ad.add (i.toNat * 3)).off + 2, none⟩ = some (.slice A2 (aA xs i).f2.length c2) ∧ aD (Kd.string.C w A1 (aA xs i).f1.length (aA xs i).f1) ∧ aD ((aA xs i).f1.length ≤ c1) ∧ aD (Kd.string.C w A2 (aA xs i).f2.length (aA xs i).f2) ∧ aD ((aA xs i).f2.length ≤ c2) ∧ (0 ≤ i) = True ∧ (i < (n : Int)) = True := by
 obtain ⟨ad, A1, c1, A2, c2, e, x0, x1, x2, r0, r1, r2, r3⟩ := AY h.1 i h0 h1
 exact ⟨ad, A1, c1, A2, c2, e, hX hb x0, hX hb x1, hX hb x2, ⟨r1⟩, ⟨r0⟩, ⟨r3⟩, ⟨r2⟩, eq_true h0, eq_true h1⟩
theorem xG {w W : World} {A : Option Addr} {n : Nat} {xs : List S66} (h : aD (Kd.C k66 w A n xs)) (hb : aD (Below w.heap.size w W)) (i : Int) (h0 : 0 ≤ i := by exact oT) (h1 : i < (n : Int) := by exact oT) : ∃ ad A1 c1 A2 c2, A = some ad ∧ w.cell? (ad.add (i.toNat * 3)) = some (.string (aA xs i).f0) ∧ w.cell? ⟨(ad.add (i.toNat * 3)).block, (ad.add (i.toNat * 3)).off + 1, none⟩ = some (.slice A1 (aA xs i).f1.length c1) ∧ w.cell? ⟨(ad.add (i.toNat * 3)).block, (ad.add (i.toNat * 3)).off + 2, none⟩ = some (.slice A2 (aA xs i).f2.length c2) ∧ W.cell? (ad.add (i.toNat * 3)) = some (.string (aA xs i).f0) ∧ W.cell? ⟨(ad.add (i.toNat * 3)).block, (ad.add (i.toNat * 3)).off + 1, none⟩ = some (.slice A1 (aA xs i).f1.length c1) ∧ W.cell? ⟨(ad.add (i.toNat * 3)).block, (ad.add (i.toNat * 3)).off + 2, none⟩ = some (.slice A2 (aA xs i).f2.length c2) ∧ aD (Kd.string.C w A1 (aA xs i).f1.length (aA xs i).f1) ∧ aD ((aA xs i).f1.length ≤ c1) ∧ aD (Kd.string.C w A2 (aA xs i).f2.length (aA xs i).f2) ∧ aD ((aA xs i).f2.length ≤ c2) ∧ (0 ≤ i) = True ∧ (i < (n : Int)) = True := by
 obtain ⟨ad, A1, c1, A2, c2, e, x0, x1, x2, r0, r1, r2, r3⟩ := AY h.1 i h0 h1
 exact ⟨ad, A1, c1, A2, c2, e, x0, x1, x2, hX hb x0, hX hb x1, hX hb x2, ⟨r1⟩, ⟨r0⟩, ⟨r3⟩, ⟨r2⟩, eq_true h0, eq_true h1⟩
structure S31 where
  f0 : (List ByteArray)
  f1 : (List S66)
def z31 : S31 := ⟨([] : List ByteArray), ([] : List S66)⟩
end Go.Proofs.YtaofjgnhapnndaaGreatDoor.Q
