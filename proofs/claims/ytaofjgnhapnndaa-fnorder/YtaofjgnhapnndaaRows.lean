/-
  No cell of these rows narrows 'for every input' (looked for: loops, veiled, ifaces, maps, wideKeys, modest, calm, conditions, laid).
  DERIVED. THE GIVEN ROWS OF THIS SEAT. 18 by the template 'for every input the law returns true; each argument reads behind the call as it read before'; 0 by the template 'total and deterministic' (their statements: YtaofjgnhapnndaaTotals.lean).
  GIVEN WITH THE SEED: the statements are not yours to turn. If you find one false, say at which input.
  Laid BY PROGRAM, IN A SANDBOX (cutbox-rows.mjs): the forced cells as the released guide's own fill.sh prints them over the translation f79fba909cc1047b… (all of the seat's roots in one cut). By AI agents, Wed Nov 11 2026. No macro, syntax, notation, axiom, sorry.
-/
import Derived.Test.YtaofjgnhapnndaaChecked
import GoSem.Claim
import GoSem.ClaimJoined
import GoSem.ClaimMapViews
import Derived.JoinedTies
import Derived.KernelRfl
namespace Go.Proofs.Ytaofjgnhapnndaa
/- THE CELL 'sum', in the pinned program and in every row, IS THE sha256 OF THE DUMP (.gsa) THAT YtaofjgnhapnndaaProg.lean LOADS. Nothing in Lean hashes anything: it is a label: what it is worth is what the hold of that sum in a sandbox is worth. -/
noncomputable def Try.pinned : Pinned := { name := "ytaofjgnhapnndaa", sum := "f79fba909cc1047bcbd026338659eadcc2eb899139957dcee928d41d32cc3f04", checked := Try.checked }
namespace Rows
def none {H : Type} : Left H := { results := [], args := [] }

/-- 'laws.FnExactConstants': WHATEVER THE INPUT: true; the input reads as it did. -/
def fnExactConstantsSpec : ChangeSpec := { name := "fnExactConstants", fn := fun _ => fun
  | [] => { results := [.lit (.bool true)], args := [] }
  | _ => none }
def fnExactConstantsRow : OpenClaim := { program := "ytaofjgnhapnndaa", sum := "f79fba909cc1047bcbd026338659eadcc2eb899139957dcee928d41d32cc3f04", func := "loop.example/maltshare/laws.FnExactConstants", spec := "fnExactConstants", apart := false }
def FnExactConstantsSaid : Prop := fnExactConstantsRow.holds Try.pinned (OpenSpec.ofChange fnExactConstantsSpec)

/-- ITS FALSE NEIGHBOUR: 'it returns false'. Refute it at one input. -/
def fnExactConstantsWrong : ChangeSpec := { name := "fnExactConstants", fn := fun _ => fun
  | [] => { results := [.lit (.bool false)], args := [] }
  | _ => none }
def FnExactConstantsWrongFalsely : Prop := fnExactConstantsRow.holds Try.pinned (OpenSpec.ofChange fnExactConstantsWrong)

/-- 'laws.FnExactShareBookOk': WHATEVER THE INPUT: true; the input reads as it did. -/
def fnExactShareBookOkSpec : ChangeSpec := { name := "fnExactShareBookOk", fn := fun _ => fun
  | [d] => { results := [.lit (.bool true)], args := [d] }
  | _ => none }
def fnExactShareBookOkRow : OpenClaim := { program := "ytaofjgnhapnndaa", sum := "f79fba909cc1047bcbd026338659eadcc2eb899139957dcee928d41d32cc3f04", func := "loop.example/maltshare/laws.FnExactShareBookOk", spec := "fnExactShareBookOk", unfollowed := true, recurses := true, apart := false }
def FnExactShareBookOkSaid : Prop := fnExactShareBookOkRow.holds Try.pinned (OpenSpec.ofChange fnExactShareBookOkSpec)

/-- ITS FALSE NEIGHBOUR: 'it returns false'. Refute it at one input. -/
def fnExactShareBookOkWrong : ChangeSpec := { name := "fnExactShareBookOk", fn := fun _ => fun
  | [d] => { results := [.lit (.bool false)], args := [d] }
  | _ => none }
def FnExactShareBookOkWrongFalsely : Prop := fnExactShareBookOkRow.holds Try.pinned (OpenSpec.ofChange fnExactShareBookOkWrong)

/-- 'laws.FnExactShareWho': WHATEVER THE INPUT: true; the input reads as it did. -/
def fnExactShareWhoSpec : ChangeSpec := { name := "fnExactShareWho", fn := fun _ => fun
  | [d1, d2] => { results := [.lit (.bool true)], args := [d1, d2] }
  | _ => none }
def fnExactShareWhoRow : OpenClaim := { program := "ytaofjgnhapnndaa", sum := "f79fba909cc1047bcbd026338659eadcc2eb899139957dcee928d41d32cc3f04", func := "loop.example/maltshare/laws.FnExactShareWho", spec := "fnExactShareWho", unfollowed := true, recurses := true, apart := false }
def FnExactShareWhoSaid : Prop := fnExactShareWhoRow.holds Try.pinned (OpenSpec.ofChange fnExactShareWhoSpec)

/-- ITS FALSE NEIGHBOUR: 'it returns false'. Refute it at one input. -/
def fnExactShareWhoWrong : ChangeSpec := { name := "fnExactShareWho", fn := fun _ => fun
  | [d1, d2] => { results := [.lit (.bool false)], args := [d1, d2] }
  | _ => none }
def FnExactShareWhoWrongFalsely : Prop := fnExactShareWhoRow.holds Try.pinned (OpenSpec.ofChange fnExactShareWhoWrong)

/-- 'laws.FnExactShareStuck': WHATEVER THE INPUT: true; the input reads as it did. -/
def fnExactShareStuckSpec : ChangeSpec := { name := "fnExactShareStuck", fn := fun _ => fun
  | [d] => { results := [.lit (.bool true)], args := [d] }
  | _ => none }
def fnExactShareStuckRow : OpenClaim := { program := "ytaofjgnhapnndaa", sum := "f79fba909cc1047bcbd026338659eadcc2eb899139957dcee928d41d32cc3f04", func := "loop.example/maltshare/laws.FnExactShareStuck", spec := "fnExactShareStuck", unfollowed := true, recurses := true, apart := false }
def FnExactShareStuckSaid : Prop := fnExactShareStuckRow.holds Try.pinned (OpenSpec.ofChange fnExactShareStuckSpec)

/-- ITS FALSE NEIGHBOUR: 'it returns false'. Refute it at one input. -/
def fnExactShareStuckWrong : ChangeSpec := { name := "fnExactShareStuck", fn := fun _ => fun
  | [d] => { results := [.lit (.bool false)], args := [d] }
  | _ => none }
def FnExactShareStuckWrongFalsely : Prop := fnExactShareStuckRow.holds Try.pinned (OpenSpec.ofChange fnExactShareStuckWrong)

/-- 'laws.FnExactShareFits': WHATEVER THE INPUT: true; the input reads as it did. -/
def fnExactShareFitsSpec : ChangeSpec := { name := "fnExactShareFits", fn := fun _ => fun
  | [d1, d2] => { results := [.lit (.bool true)], args := [d1, d2] }
  | _ => none }
def fnExactShareFitsRow : OpenClaim := { program := "ytaofjgnhapnndaa", sum := "f79fba909cc1047bcbd026338659eadcc2eb899139957dcee928d41d32cc3f04", func := "loop.example/maltshare/laws.FnExactShareFits", spec := "fnExactShareFits", unfollowed := true, recurses := true, apart := false }
def FnExactShareFitsSaid : Prop := fnExactShareFitsRow.holds Try.pinned (OpenSpec.ofChange fnExactShareFitsSpec)

/-- ITS FALSE NEIGHBOUR: 'it returns false'. Refute it at one input. -/
def fnExactShareFitsWrong : ChangeSpec := { name := "fnExactShareFits", fn := fun _ => fun
  | [d1, d2] => { results := [.lit (.bool false)], args := [d1, d2] }
  | _ => none }
def FnExactShareFitsWrongFalsely : Prop := fnExactShareFitsRow.holds Try.pinned (OpenSpec.ofChange fnExactShareFitsWrong)

/-- 'laws.FnExactShareSafe': WHATEVER THE INPUT: true; the input reads as it did. -/
def fnExactShareSafeSpec : ChangeSpec := { name := "fnExactShareSafe", fn := fun _ => fun
  | [d] => { results := [.lit (.bool true)], args := [d] }
  | _ => none }
def fnExactShareSafeRow : OpenClaim := { program := "ytaofjgnhapnndaa", sum := "f79fba909cc1047bcbd026338659eadcc2eb899139957dcee928d41d32cc3f04", func := "loop.example/maltshare/laws.FnExactShareSafe", spec := "fnExactShareSafe", unfollowed := true, recurses := true, apart := false }
def FnExactShareSafeSaid : Prop := fnExactShareSafeRow.holds Try.pinned (OpenSpec.ofChange fnExactShareSafeSpec)

/-- ITS FALSE NEIGHBOUR: 'it returns false'. Refute it at one input. -/
def fnExactShareSafeWrong : ChangeSpec := { name := "fnExactShareSafe", fn := fun _ => fun
  | [d] => { results := [.lit (.bool false)], args := [d] }
  | _ => none }
def FnExactShareSafeWrongFalsely : Prop := fnExactShareSafeRow.holds Try.pinned (OpenSpec.ofChange fnExactShareSafeWrong)

/-- 'laws.FnExactShareWaits': WHATEVER THE INPUT: true; the input reads as it did. -/
def fnExactShareWaitsSpec : ChangeSpec := { name := "fnExactShareWaits", fn := fun _ => fun
  | [d1, d2] => { results := [.lit (.bool true)], args := [d1, d2] }
  | _ => none }
def fnExactShareWaitsRow : OpenClaim := { program := "ytaofjgnhapnndaa", sum := "f79fba909cc1047bcbd026338659eadcc2eb899139957dcee928d41d32cc3f04", func := "loop.example/maltshare/laws.FnExactShareWaits", spec := "fnExactShareWaits", unfollowed := true, recurses := true, apart := false }
def FnExactShareWaitsSaid : Prop := fnExactShareWaitsRow.holds Try.pinned (OpenSpec.ofChange fnExactShareWaitsSpec)

/-- ITS FALSE NEIGHBOUR: 'it returns false'. Refute it at one input. -/
def fnExactShareWaitsWrong : ChangeSpec := { name := "fnExactShareWaits", fn := fun _ => fun
  | [d1, d2] => { results := [.lit (.bool false)], args := [d1, d2] }
  | _ => none }
def FnExactShareWaitsWrongFalsely : Prop := fnExactShareWaitsRow.holds Try.pinned (OpenSpec.ofChange fnExactShareWaitsWrong)

/-- 'laws.FnExactShareMoves': WHATEVER THE INPUT: true; the input reads as it did. -/
def fnExactShareMovesSpec : ChangeSpec := { name := "fnExactShareMoves", fn := fun _ => fun
  | [d] => { results := [.lit (.bool true)], args := [d] }
  | _ => none }
def fnExactShareMovesRow : OpenClaim := { program := "ytaofjgnhapnndaa", sum := "f79fba909cc1047bcbd026338659eadcc2eb899139957dcee928d41d32cc3f04", func := "loop.example/maltshare/laws.FnExactShareMoves", spec := "fnExactShareMoves", unfollowed := true, recurses := true, apart := false }
def FnExactShareMovesSaid : Prop := fnExactShareMovesRow.holds Try.pinned (OpenSpec.ofChange fnExactShareMovesSpec)

/-- ITS FALSE NEIGHBOUR: 'it returns false'. Refute it at one input. -/
def fnExactShareMovesWrong : ChangeSpec := { name := "fnExactShareMoves", fn := fun _ => fun
  | [d] => { results := [.lit (.bool false)], args := [d] }
  | _ => none }
def FnExactShareMovesWrongFalsely : Prop := fnExactShareMovesRow.holds Try.pinned (OpenSpec.ofChange fnExactShareMovesWrong)

/-- 'laws.FnExactShareOrder': WHATEVER THE INPUT: true; the input reads as it did. -/
def fnExactShareOrderSpec : ChangeSpec := { name := "fnExactShareOrder", fn := fun _ => fun
  | [d] => { results := [.lit (.bool true)], args := [d] }
  | _ => none }
def fnExactShareOrderRow : OpenClaim := { program := "ytaofjgnhapnndaa", sum := "f79fba909cc1047bcbd026338659eadcc2eb899139957dcee928d41d32cc3f04", func := "loop.example/maltshare/laws.FnExactShareOrder", spec := "fnExactShareOrder", unfollowed := true, recurses := true, apart := false }
def FnExactShareOrderSaid : Prop := fnExactShareOrderRow.holds Try.pinned (OpenSpec.ofChange fnExactShareOrderSpec)

/-- ITS FALSE NEIGHBOUR: 'it returns false'. Refute it at one input. -/
def fnExactShareOrderWrong : ChangeSpec := { name := "fnExactShareOrder", fn := fun _ => fun
  | [d] => { results := [.lit (.bool false)], args := [d] }
  | _ => none }
def FnExactShareOrderWrongFalsely : Prop := fnExactShareOrderRow.holds Try.pinned (OpenSpec.ofChange fnExactShareOrderWrong)

/-- 'laws.FnExactShareLeave': WHATEVER THE INPUT: true; the input reads as it did. -/
def fnExactShareLeaveSpec : ChangeSpec := { name := "fnExactShareLeave", fn := fun _ => fun
  | [d1, d2] => { results := [.lit (.bool true)], args := [d1, d2] }
  | _ => none }
def fnExactShareLeaveRow : OpenClaim := { program := "ytaofjgnhapnndaa", sum := "f79fba909cc1047bcbd026338659eadcc2eb899139957dcee928d41d32cc3f04", func := "loop.example/maltshare/laws.FnExactShareLeave", spec := "fnExactShareLeave", unfollowed := true, recurses := true, apart := false }
def FnExactShareLeaveSaid : Prop := fnExactShareLeaveRow.holds Try.pinned (OpenSpec.ofChange fnExactShareLeaveSpec)

/-- ITS FALSE NEIGHBOUR: 'it returns false'. Refute it at one input. -/
def fnExactShareLeaveWrong : ChangeSpec := { name := "fnExactShareLeave", fn := fun _ => fun
  | [d1, d2] => { results := [.lit (.bool false)], args := [d1, d2] }
  | _ => none }
def FnExactShareLeaveWrongFalsely : Prop := fnExactShareLeaveRow.holds Try.pinned (OpenSpec.ofChange fnExactShareLeaveWrong)

/-- 'laws.FnExactShareLess': WHATEVER THE INPUT: true; the input reads as it did. -/
def fnExactShareLessSpec : ChangeSpec := { name := "fnExactShareLess", fn := fun _ => fun
  | [d1, d2, d3] => { results := [.lit (.bool true)], args := [d1, d2, d3] }
  | _ => none }
def fnExactShareLessRow : OpenClaim := { program := "ytaofjgnhapnndaa", sum := "f79fba909cc1047bcbd026338659eadcc2eb899139957dcee928d41d32cc3f04", func := "loop.example/maltshare/laws.FnExactShareLess", spec := "fnExactShareLess", unfollowed := true, recurses := true, apart := false }
def FnExactShareLessSaid : Prop := fnExactShareLessRow.holds Try.pinned (OpenSpec.ofChange fnExactShareLessSpec)

/-- ITS FALSE NEIGHBOUR: 'it returns false'. Refute it at one input. -/
def fnExactShareLessWrong : ChangeSpec := { name := "fnExactShareLess", fn := fun _ => fun
  | [d1, d2, d3] => { results := [.lit (.bool false)], args := [d1, d2, d3] }
  | _ => none }
def FnExactShareLessWrongFalsely : Prop := fnExactShareLessRow.holds Try.pinned (OpenSpec.ofChange fnExactShareLessWrong)

/-- 'laws.FnWho': WHATEVER THE INPUT: true; the input reads as it did. -/
def fnWhoSpec : ChangeSpec := { name := "fnWho", fn := fun _ => fun
  | [d] => { results := [.lit (.bool true)], args := [d] }
  | _ => none }
def fnWhoRow : OpenClaim := { program := "ytaofjgnhapnndaa", sum := "f79fba909cc1047bcbd026338659eadcc2eb899139957dcee928d41d32cc3f04", func := "loop.example/maltshare/laws.FnWho", spec := "fnWho", unfollowed := true, recurses := true, apart := false }
def FnWhoSaid : Prop := fnWhoRow.holds Try.pinned (OpenSpec.ofChange fnWhoSpec)

/-- ITS FALSE NEIGHBOUR: 'it returns false'. Refute it at one input. -/
def fnWhoWrong : ChangeSpec := { name := "fnWho", fn := fun _ => fun
  | [d] => { results := [.lit (.bool false)], args := [d] }
  | _ => none }
def FnWhoWrongFalsely : Prop := fnWhoRow.holds Try.pinned (OpenSpec.ofChange fnWhoWrong)

/-- 'laws.FnOrder': WHATEVER THE INPUT: true; the input reads as it did. -/
def fnOrderSpec : ChangeSpec := { name := "fnOrder", fn := fun _ => fun
  | [d1, d2] => { results := [.lit (.bool true)], args := [d1, d2] }
  | _ => none }
def fnOrderRow : OpenClaim := { program := "ytaofjgnhapnndaa", sum := "f79fba909cc1047bcbd026338659eadcc2eb899139957dcee928d41d32cc3f04", func := "loop.example/maltshare/laws.FnOrder", spec := "fnOrder", unfollowed := true, recurses := true, apart := false }
def FnOrderSaid : Prop := fnOrderRow.holds Try.pinned (OpenSpec.ofChange fnOrderSpec)

/-- ITS FALSE NEIGHBOUR: 'it returns false'. Refute it at one input. -/
def fnOrderWrong : ChangeSpec := { name := "fnOrder", fn := fun _ => fun
  | [d1, d2] => { results := [.lit (.bool false)], args := [d1, d2] }
  | _ => none }
def FnOrderWrongFalsely : Prop := fnOrderRow.holds Try.pinned (OpenSpec.ofChange fnOrderWrong)

/-- 'laws.FnMoves': WHATEVER THE INPUT: true; the input reads as it did. -/
def fnMovesSpec : ChangeSpec := { name := "fnMoves", fn := fun _ => fun
  | [d1, d2] => { results := [.lit (.bool true)], args := [d1, d2] }
  | _ => none }
def fnMovesRow : OpenClaim := { program := "ytaofjgnhapnndaa", sum := "f79fba909cc1047bcbd026338659eadcc2eb899139957dcee928d41d32cc3f04", func := "loop.example/maltshare/laws.FnMoves", spec := "fnMoves", unfollowed := true, recurses := true, apart := false }
def FnMovesSaid : Prop := fnMovesRow.holds Try.pinned (OpenSpec.ofChange fnMovesSpec)

/-- ITS FALSE NEIGHBOUR: 'it returns false'. Refute it at one input. -/
def fnMovesWrong : ChangeSpec := { name := "fnMoves", fn := fun _ => fun
  | [d1, d2] => { results := [.lit (.bool false)], args := [d1, d2] }
  | _ => none }
def FnMovesWrongFalsely : Prop := fnMovesRow.holds Try.pinned (OpenSpec.ofChange fnMovesWrong)

/-- 'laws.FnExactShareEnter': WHATEVER THE INPUT: true; the input reads as it did. -/
def fnExactShareEnterSpec : ChangeSpec := { name := "fnExactShareEnter", fn := fun _ => fun
  | [d1, d2, d3] => { results := [.lit (.bool true)], args := [d1, d2, d3] }
  | _ => none }
def fnExactShareEnterRow : OpenClaim := { program := "ytaofjgnhapnndaa", sum := "f79fba909cc1047bcbd026338659eadcc2eb899139957dcee928d41d32cc3f04", func := "loop.example/maltshare/laws.FnExactShareEnter", spec := "fnExactShareEnter", inPlace := ["internal/reflectlite.ValueOf", "internal/reflectlite.Swapper", "(internal/reflectlite.Value).Len"], unfollowed := true, recurses := true, apart := false }
def FnExactShareEnterSaid : Prop := fnExactShareEnterRow.holds Try.pinned (OpenSpec.ofChange fnExactShareEnterSpec)

/-- ITS FALSE NEIGHBOUR: 'it returns false'. Refute it at one input. -/
def fnExactShareEnterWrong : ChangeSpec := { name := "fnExactShareEnter", fn := fun _ => fun
  | [d1, d2, d3] => { results := [.lit (.bool false)], args := [d1, d2, d3] }
  | _ => none }
def FnExactShareEnterWrongFalsely : Prop := fnExactShareEnterRow.holds Try.pinned (OpenSpec.ofChange fnExactShareEnterWrong)

/-- 'laws.FnExactShareAsk': WHATEVER THE INPUT: true; the input reads as it did. -/
def fnExactShareAskSpec : ChangeSpec := { name := "fnExactShareAsk", fn := fun _ => fun
  | [d1, d2, d3] => { results := [.lit (.bool true)], args := [d1, d2, d3] }
  | _ => none }
def fnExactShareAskRow : OpenClaim := { program := "ytaofjgnhapnndaa", sum := "f79fba909cc1047bcbd026338659eadcc2eb899139957dcee928d41d32cc3f04", func := "loop.example/maltshare/laws.FnExactShareAsk", spec := "fnExactShareAsk", unfollowed := true, recurses := true, apart := false }
def FnExactShareAskSaid : Prop := fnExactShareAskRow.holds Try.pinned (OpenSpec.ofChange fnExactShareAskSpec)

/-- ITS FALSE NEIGHBOUR: 'it returns false'. Refute it at one input. -/
def fnExactShareAskWrong : ChangeSpec := { name := "fnExactShareAsk", fn := fun _ => fun
  | [d1, d2, d3] => { results := [.lit (.bool false)], args := [d1, d2, d3] }
  | _ => none }
def FnExactShareAskWrongFalsely : Prop := fnExactShareAskRow.holds Try.pinned (OpenSpec.ofChange fnExactShareAskWrong)

/-- 'laws.FnAsk': WHATEVER THE INPUT: true; the input reads as it did. -/
def fnAskSpec : ChangeSpec := { name := "fnAsk", fn := fun _ => fun
  | [d] => { results := [.lit (.bool true)], args := [d] }
  | _ => none }
def fnAskRow : OpenClaim := { program := "ytaofjgnhapnndaa", sum := "f79fba909cc1047bcbd026338659eadcc2eb899139957dcee928d41d32cc3f04", func := "loop.example/maltshare/laws.FnAsk", spec := "fnAsk", unfollowed := true, recurses := true, apart := false }
def FnAskSaid : Prop := fnAskRow.holds Try.pinned (OpenSpec.ofChange fnAskSpec)

/-- ITS FALSE NEIGHBOUR: 'it returns false'. Refute it at one input. -/
def fnAskWrong : ChangeSpec := { name := "fnAsk", fn := fun _ => fun
  | [d] => { results := [.lit (.bool false)], args := [d] }
  | _ => none }
def FnAskWrongFalsely : Prop := fnAskRow.holds Try.pinned (OpenSpec.ofChange fnAskWrong)

/-- 'laws.FnLess': WHATEVER THE INPUT: true; the input reads as it did. -/
def fnLessSpec : ChangeSpec := { name := "fnLess", fn := fun _ => fun
  | [d1, d2] => { results := [.lit (.bool true)], args := [d1, d2] }
  | _ => none }
def fnLessRow : OpenClaim := { program := "ytaofjgnhapnndaa", sum := "f79fba909cc1047bcbd026338659eadcc2eb899139957dcee928d41d32cc3f04", func := "loop.example/maltshare/laws.FnLess", spec := "fnLess", inPlace := ["internal/reflectlite.ValueOf", "internal/reflectlite.Swapper", "(internal/reflectlite.Value).Len"], unfollowed := true, recurses := true, apart := false }
def FnLessSaid : Prop := fnLessRow.holds Try.pinned (OpenSpec.ofChange fnLessSpec)

/-- ITS FALSE NEIGHBOUR: 'it returns false'. Refute it at one input. -/
def fnLessWrong : ChangeSpec := { name := "fnLess", fn := fun _ => fun
  | [d1, d2] => { results := [.lit (.bool false)], args := [d1, d2] }
  | _ => none }
def FnLessWrongFalsely : Prop := fnLessRow.holds Try.pinned (OpenSpec.ofChange fnLessWrong)

/- THE SECOND FORM. 'bulk': how many values and letters a reading holds, each counted each time it is reached (what is shared counts as often as it is met; a slice's spare places count too). A statement '..UptoSaid' is the law's where the arguments, and the package variables that the reading takes, are together of bulk at most 1048576: NARROWER than '..Said'. Prove '..Said' where nothing that the law and all that it calls make is longer than what came in: it says more and counts as full. Else prove '..UptoSaid'. A law counts once. -/
mutual
def uptoBulk {H : Type} : DataW H → Nat
  | .lit (.string bytes) => bytes.length + 1
  | .lit _ => 1
  | .nil => 1
  | .ptr d => uptoBulk d + 1
  | .slice elems spare => uptoBulkAll elems + uptoBulkAll spare + 1
  | .agg parts => uptoBulkAll parts + 1
  | .iface _ d => uptoBulk d + 1
  | .map entries => uptoBulkEntries entries + 1
  | .held _ => 1
def uptoBulkAll {H : Type} : List (DataW H) → Nat
  | [] => 0
  | d :: r => uptoBulk d + uptoBulkAll r
def uptoBulkEntries {H : Type} : List (Lit × DataW H) → Nat
  | [] => 0
  | x :: r => uptoBulkEntry x + uptoBulkEntries r
def uptoBulkEntry {H : Type} : Lit × DataW H → Nat
  | (.string bytes, d) => bytes.length + uptoBulk d + 1
  | (_, d) => uptoBulk d + 1
 end
def uptoSmall : (H : Type) → List (DataW H) → Bool := fun _ ds => decide (uptoBulkAll ds ≤ 1048576)
def OpenSpec.upto (s : _root_.Go.ChangeSpec) : _root_.Go.OpenSpec := { _root_.Go.OpenSpec.ofChange s with cond := some uptoSmall }

/-- 'laws.FnExactConstants', WHERE WHAT IT READS IS OF BULK AT MOST 1048576: true; the input reads as it did. -/
def fnExactConstantsUptoRow : OpenClaim := { program := "ytaofjgnhapnndaa", sum := "f79fba909cc1047bcbd026338659eadcc2eb899139957dcee928d41d32cc3f04", func := "loop.example/maltshare/laws.FnExactConstants", spec := "fnExactConstants", apart := false, narrowed := true }
def FnExactConstantsUptoSaid : Prop := fnExactConstantsUptoRow.holds Try.pinned (OpenSpec.upto fnExactConstantsSpec)

/-- 'laws.FnExactShareBookOk', WHERE WHAT IT READS IS OF BULK AT MOST 1048576: true; the input reads as it did. -/
def fnExactShareBookOkUptoRow : OpenClaim := { program := "ytaofjgnhapnndaa", sum := "f79fba909cc1047bcbd026338659eadcc2eb899139957dcee928d41d32cc3f04", func := "loop.example/maltshare/laws.FnExactShareBookOk", spec := "fnExactShareBookOk", unfollowed := true, recurses := true, apart := false, narrowed := true }
def FnExactShareBookOkUptoSaid : Prop := fnExactShareBookOkUptoRow.holds Try.pinned (OpenSpec.upto fnExactShareBookOkSpec)

/-- 'laws.FnExactShareWho', WHERE WHAT IT READS IS OF BULK AT MOST 1048576: true; the input reads as it did. -/
def fnExactShareWhoUptoRow : OpenClaim := { program := "ytaofjgnhapnndaa", sum := "f79fba909cc1047bcbd026338659eadcc2eb899139957dcee928d41d32cc3f04", func := "loop.example/maltshare/laws.FnExactShareWho", spec := "fnExactShareWho", unfollowed := true, recurses := true, apart := false, narrowed := true }
def FnExactShareWhoUptoSaid : Prop := fnExactShareWhoUptoRow.holds Try.pinned (OpenSpec.upto fnExactShareWhoSpec)

/-- 'laws.FnExactShareStuck', WHERE WHAT IT READS IS OF BULK AT MOST 1048576: true; the input reads as it did. -/
def fnExactShareStuckUptoRow : OpenClaim := { program := "ytaofjgnhapnndaa", sum := "f79fba909cc1047bcbd026338659eadcc2eb899139957dcee928d41d32cc3f04", func := "loop.example/maltshare/laws.FnExactShareStuck", spec := "fnExactShareStuck", unfollowed := true, recurses := true, apart := false, narrowed := true }
def FnExactShareStuckUptoSaid : Prop := fnExactShareStuckUptoRow.holds Try.pinned (OpenSpec.upto fnExactShareStuckSpec)

/-- 'laws.FnExactShareFits', WHERE WHAT IT READS IS OF BULK AT MOST 1048576: true; the input reads as it did. -/
def fnExactShareFitsUptoRow : OpenClaim := { program := "ytaofjgnhapnndaa", sum := "f79fba909cc1047bcbd026338659eadcc2eb899139957dcee928d41d32cc3f04", func := "loop.example/maltshare/laws.FnExactShareFits", spec := "fnExactShareFits", unfollowed := true, recurses := true, apart := false, narrowed := true }
def FnExactShareFitsUptoSaid : Prop := fnExactShareFitsUptoRow.holds Try.pinned (OpenSpec.upto fnExactShareFitsSpec)

/-- 'laws.FnExactShareSafe', WHERE WHAT IT READS IS OF BULK AT MOST 1048576: true; the input reads as it did. -/
def fnExactShareSafeUptoRow : OpenClaim := { program := "ytaofjgnhapnndaa", sum := "f79fba909cc1047bcbd026338659eadcc2eb899139957dcee928d41d32cc3f04", func := "loop.example/maltshare/laws.FnExactShareSafe", spec := "fnExactShareSafe", unfollowed := true, recurses := true, apart := false, narrowed := true }
def FnExactShareSafeUptoSaid : Prop := fnExactShareSafeUptoRow.holds Try.pinned (OpenSpec.upto fnExactShareSafeSpec)

/-- 'laws.FnExactShareWaits', WHERE WHAT IT READS IS OF BULK AT MOST 1048576: true; the input reads as it did. -/
def fnExactShareWaitsUptoRow : OpenClaim := { program := "ytaofjgnhapnndaa", sum := "f79fba909cc1047bcbd026338659eadcc2eb899139957dcee928d41d32cc3f04", func := "loop.example/maltshare/laws.FnExactShareWaits", spec := "fnExactShareWaits", unfollowed := true, recurses := true, apart := false, narrowed := true }
def FnExactShareWaitsUptoSaid : Prop := fnExactShareWaitsUptoRow.holds Try.pinned (OpenSpec.upto fnExactShareWaitsSpec)

/-- 'laws.FnExactShareMoves', WHERE WHAT IT READS IS OF BULK AT MOST 1048576: true; the input reads as it did. -/
def fnExactShareMovesUptoRow : OpenClaim := { program := "ytaofjgnhapnndaa", sum := "f79fba909cc1047bcbd026338659eadcc2eb899139957dcee928d41d32cc3f04", func := "loop.example/maltshare/laws.FnExactShareMoves", spec := "fnExactShareMoves", unfollowed := true, recurses := true, apart := false, narrowed := true }
def FnExactShareMovesUptoSaid : Prop := fnExactShareMovesUptoRow.holds Try.pinned (OpenSpec.upto fnExactShareMovesSpec)

/-- 'laws.FnExactShareOrder', WHERE WHAT IT READS IS OF BULK AT MOST 1048576: true; the input reads as it did. -/
def fnExactShareOrderUptoRow : OpenClaim := { program := "ytaofjgnhapnndaa", sum := "f79fba909cc1047bcbd026338659eadcc2eb899139957dcee928d41d32cc3f04", func := "loop.example/maltshare/laws.FnExactShareOrder", spec := "fnExactShareOrder", unfollowed := true, recurses := true, apart := false, narrowed := true }
def FnExactShareOrderUptoSaid : Prop := fnExactShareOrderUptoRow.holds Try.pinned (OpenSpec.upto fnExactShareOrderSpec)

/-- 'laws.FnExactShareLeave', WHERE WHAT IT READS IS OF BULK AT MOST 1048576: true; the input reads as it did. -/
def fnExactShareLeaveUptoRow : OpenClaim := { program := "ytaofjgnhapnndaa", sum := "f79fba909cc1047bcbd026338659eadcc2eb899139957dcee928d41d32cc3f04", func := "loop.example/maltshare/laws.FnExactShareLeave", spec := "fnExactShareLeave", unfollowed := true, recurses := true, apart := false, narrowed := true }
def FnExactShareLeaveUptoSaid : Prop := fnExactShareLeaveUptoRow.holds Try.pinned (OpenSpec.upto fnExactShareLeaveSpec)

/-- 'laws.FnExactShareLess', WHERE WHAT IT READS IS OF BULK AT MOST 1048576: true; the input reads as it did. -/
def fnExactShareLessUptoRow : OpenClaim := { program := "ytaofjgnhapnndaa", sum := "f79fba909cc1047bcbd026338659eadcc2eb899139957dcee928d41d32cc3f04", func := "loop.example/maltshare/laws.FnExactShareLess", spec := "fnExactShareLess", unfollowed := true, recurses := true, apart := false, narrowed := true }
def FnExactShareLessUptoSaid : Prop := fnExactShareLessUptoRow.holds Try.pinned (OpenSpec.upto fnExactShareLessSpec)

/-- 'laws.FnWho', WHERE WHAT IT READS IS OF BULK AT MOST 1048576: true; the input reads as it did. -/
def fnWhoUptoRow : OpenClaim := { program := "ytaofjgnhapnndaa", sum := "f79fba909cc1047bcbd026338659eadcc2eb899139957dcee928d41d32cc3f04", func := "loop.example/maltshare/laws.FnWho", spec := "fnWho", unfollowed := true, recurses := true, apart := false, narrowed := true }
def FnWhoUptoSaid : Prop := fnWhoUptoRow.holds Try.pinned (OpenSpec.upto fnWhoSpec)

/-- 'laws.FnOrder', WHERE WHAT IT READS IS OF BULK AT MOST 1048576: true; the input reads as it did. -/
def fnOrderUptoRow : OpenClaim := { program := "ytaofjgnhapnndaa", sum := "f79fba909cc1047bcbd026338659eadcc2eb899139957dcee928d41d32cc3f04", func := "loop.example/maltshare/laws.FnOrder", spec := "fnOrder", unfollowed := true, recurses := true, apart := false, narrowed := true }
def FnOrderUptoSaid : Prop := fnOrderUptoRow.holds Try.pinned (OpenSpec.upto fnOrderSpec)

/-- 'laws.FnMoves', WHERE WHAT IT READS IS OF BULK AT MOST 1048576: true; the input reads as it did. -/
def fnMovesUptoRow : OpenClaim := { program := "ytaofjgnhapnndaa", sum := "f79fba909cc1047bcbd026338659eadcc2eb899139957dcee928d41d32cc3f04", func := "loop.example/maltshare/laws.FnMoves", spec := "fnMoves", unfollowed := true, recurses := true, apart := false, narrowed := true }
def FnMovesUptoSaid : Prop := fnMovesUptoRow.holds Try.pinned (OpenSpec.upto fnMovesSpec)

/-- 'laws.FnExactShareEnter', WHERE WHAT IT READS IS OF BULK AT MOST 1048576: true; the input reads as it did. -/
def fnExactShareEnterUptoRow : OpenClaim := { program := "ytaofjgnhapnndaa", sum := "f79fba909cc1047bcbd026338659eadcc2eb899139957dcee928d41d32cc3f04", func := "loop.example/maltshare/laws.FnExactShareEnter", spec := "fnExactShareEnter", inPlace := ["internal/reflectlite.ValueOf", "internal/reflectlite.Swapper", "(internal/reflectlite.Value).Len"], unfollowed := true, recurses := true, apart := false, narrowed := true }
def FnExactShareEnterUptoSaid : Prop := fnExactShareEnterUptoRow.holds Try.pinned (OpenSpec.upto fnExactShareEnterSpec)

/-- 'laws.FnExactShareAsk', WHERE WHAT IT READS IS OF BULK AT MOST 1048576: true; the input reads as it did. -/
def fnExactShareAskUptoRow : OpenClaim := { program := "ytaofjgnhapnndaa", sum := "f79fba909cc1047bcbd026338659eadcc2eb899139957dcee928d41d32cc3f04", func := "loop.example/maltshare/laws.FnExactShareAsk", spec := "fnExactShareAsk", unfollowed := true, recurses := true, apart := false, narrowed := true }
def FnExactShareAskUptoSaid : Prop := fnExactShareAskUptoRow.holds Try.pinned (OpenSpec.upto fnExactShareAskSpec)

/-- 'laws.FnAsk', WHERE WHAT IT READS IS OF BULK AT MOST 1048576: true; the input reads as it did. -/
def fnAskUptoRow : OpenClaim := { program := "ytaofjgnhapnndaa", sum := "f79fba909cc1047bcbd026338659eadcc2eb899139957dcee928d41d32cc3f04", func := "loop.example/maltshare/laws.FnAsk", spec := "fnAsk", unfollowed := true, recurses := true, apart := false, narrowed := true }
def FnAskUptoSaid : Prop := fnAskUptoRow.holds Try.pinned (OpenSpec.upto fnAskSpec)

/-- 'laws.FnLess', WHERE WHAT IT READS IS OF BULK AT MOST 1048576: true; the input reads as it did. -/
def fnLessUptoRow : OpenClaim := { program := "ytaofjgnhapnndaa", sum := "f79fba909cc1047bcbd026338659eadcc2eb899139957dcee928d41d32cc3f04", func := "loop.example/maltshare/laws.FnLess", spec := "fnLess", inPlace := ["internal/reflectlite.ValueOf", "internal/reflectlite.Swapper", "(internal/reflectlite.Value).Len"], unfollowed := true, recurses := true, apart := false, narrowed := true }
def FnLessUptoSaid : Prop := fnLessUptoRow.holds Try.pinned (OpenSpec.upto fnLessSpec)

end Rows
end Go.Proofs.Ytaofjgnhapnndaa
