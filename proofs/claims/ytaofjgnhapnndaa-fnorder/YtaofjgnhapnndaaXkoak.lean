/- Texts that the row needs: words on memory and rows, the contracts of the functions it reaches, and the plain lemmas on what they compute. -/
import Derived.Shelf.GgSortFunc.SmallK
import Derived.Test.YtaofjgnhapnndaaXkoaj
open Go.Proofs.YtaofjgnhapnndaaFko
namespace Go.Proofs.Ytaofjgnhapnndaa.Q
open Go.RowKit Go.Proofs.YtaofjgnhapnndaaW.PrintWords Go.Proofs.YtaofjgnhapnndaaW.PrintLast Go.Proofs.YtaofjgnhapnndaaW.PrintMore
set_option linter.unusedVariables false
set_option linter.unusedSimpArgs false
open Go.Shelf Go.Lib Go.Sort
instance : Inhabited EC := ⟨(ByteArray.empty, (none, 0, 0), (none, 0, 0))⟩
end Go.Proofs.Ytaofjgnhapnndaa.Q
