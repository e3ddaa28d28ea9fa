/- Texts that the row needs: words on memory and rows, the contracts of the functions it reaches, and the plain lemmas on what they compute. -/
import Derived.Shelf.Slices.Cells
import Derived.Shelf.Bodies
import Derived.Ground.NamesProg
import Derived.Test.YtaofjgnhapnndaaGreatXktal
open Go.Proofs.YtaofjgnhapnndaaGreatFkt
namespace Go.Proofs.YtaofjgnhapnndaaGreat.Q
open Go.RowKit Go.Proofs.YtaofjgnhapnndaaGreatW.PrintWords Go.Proofs.YtaofjgnhapnndaaGreatW.PrintLast Go.Proofs.YtaofjgnhapnndaaGreatW.PrintMore
set_option linter.unusedVariables false
set_option linter.unusedSimpArgs false
open Go.Shelf Go.Lib Go.Sort
def NP : Go.Shelf.Ren :=
{
  f := fun x =>
    match x with
    | 194 => 39
    | n => n,
  t := fun x =>
    match x with
    | 31 => 23
    | 9 => 9
    | 3 => 3
    | 4 => 4
    | 0 => 0
    | n => n,
  g := fun x => x }
set_option maxRecDepth 100000 in
theorem Cb : Go.Proofs.Lays.n194 Tryz.prog NP :=
{ mixed := Eq.refl true, f194 := Eq.trans Tryz.func39 (congrArg some (Eq.refl (Body.n194 NP))),
  t0 := Tryz.underlying0, a0 := Tryz.isAgg0, z0 := Tryz.sizeOf0, v0 := Tryz.zeroValue0, t3 := Tryz.underlying3,
  a3 := Tryz.isAgg3, z3 := Tryz.sizeOf3, v3 := Tryz.zeroValue3, t4 := Tryz.underlying4, a4 := Tryz.isAgg4,
  z4 := Tryz.sizeOf4, v4 := Tryz.zeroValue4, t9 := Tryz.underlying9, a9 := Tryz.isAgg9, z9 := Tryz.sizeOf9,
  v9 := Tryz.zeroValue9, t31 := Tryz.underlying23, a31 := Tryz.isAgg23, z31 := Tryz.sizeOf23, v31 := Tryz.zeroValue23 }
end Go.Proofs.YtaofjgnhapnndaaGreat.Q
