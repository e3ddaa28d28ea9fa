/- Texts that the row needs: words on memory and rows, the contracts of the functions it reaches, and the plain lemmas on what they compute. -/
import Derived.Shelf.Slices.Cells
import Derived.Test.YtaofjgnhapnndaaGreatDoorXksak
open Go.Proofs.YtaofjgnhapnndaaGreatDoorFks
namespace Go.Proofs.YtaofjgnhapnndaaGreatDoor.Q
open Go.RowKit Go.Proofs.YtaofjgnhapnndaaGreatDoorW.PrintWords Go.Proofs.YtaofjgnhapnndaaGreatDoorW.PrintLast Go.Proofs.YtaofjgnhapnndaaGreatDoorW.PrintMore
set_option linter.unusedVariables false
set_option linter.unusedSimpArgs false
open Go.Shelf Go.Lib Go.Sort
def J2 : Go.Shelf.Ren :=
{
  f := fun x =>
    match x with
    | 194 => 76
    | n => n,
  t := fun x =>
    match x with
    | 31 => 27
    | 9 => 9
    | 3 => 3
    | 4 => 4
    | 0 => 0
    | n => n,
  g := fun x => x }
set_option maxRecDepth 100000 in
theorem WP : Go.Proofs.Lays.n194 Tryz.prog J2 :=
{ mixed := Eq.refl true, f194 := Eq.trans Tryz.func76 (congrArg some (Eq.refl (Body.n194 J2))),
  t0 := Tryz.underlying0, a0 := Tryz.isAgg0, z0 := Tryz.sizeOf0, v0 := Tryz.zeroValue0, t3 := Tryz.underlying3,
  a3 := Tryz.isAgg3, z3 := Tryz.sizeOf3, v3 := Tryz.zeroValue3, t4 := Tryz.underlying4, a4 := Tryz.isAgg4,
  z4 := Tryz.sizeOf4, v4 := Tryz.zeroValue4, t9 := Tryz.underlying9, a9 := Tryz.isAgg9, z9 := Tryz.sizeOf9,
  v9 := Tryz.zeroValue9, t31 := Tryz.underlying27, a31 := Tryz.isAgg27, z31 := Tryz.sizeOf27, v31 := Tryz.zeroValue27 }
end Go.Proofs.YtaofjgnhapnndaaGreatDoor.Q
