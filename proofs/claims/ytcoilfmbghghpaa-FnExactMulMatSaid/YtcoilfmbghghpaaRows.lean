/-
  No cell of these rows narrows 'for every input' (looked for: loops, veiled, ifaces, maps, wideKeys, modest, calm, conditions, laid).
  DERIVED. THE GIVEN ROWS OF THIS SEAT. 12 by the template 'for every input the law returns true; each argument reads behind the call as it read before'; 0 by the template 'total and deterministic' (their statements: YtcoilfmbghghpaaTotals.lean).
  GIVEN WITH THE SEED: the statements are not yours to turn. If you find one false, say at which input.
  Laid BY PROGRAM, IN A SANDBOX (cutbox-rows.mjs): the forced cells as the released guide's own fill.sh prints them over the translation b35380c8708be510… (all of the seat's roots in one cut). By AI agents, Wed Nov 11 2026. No macro, syntax, notation, axiom, sorry.
-/
import Derived.Test.YtcoilfmbghghpaaChecked
import GoSem.Claim
import GoSem.ClaimJoined
import GoSem.ClaimMapViews
import Derived.JoinedTies
import Derived.KernelRfl
namespace Go.Proofs.Ytcoilfmbghghpaa
/- THE CELL 'sum', in the pinned program and in every row, IS THE sha256 OF THE DUMP (.gsa) THAT YtcoilfmbghghpaaProg.lean LOADS. Nothing in Lean hashes anything: it is a label: what it is worth is what the hold of that sum in a sandbox is worth. -/
noncomputable def Try.pinned : Pinned := { name := "ytcoilfmbghghpaa", sum := "b35380c8708be510fc6d7c90cc0fe495c90bc131c8132adea46ec6ea0b382db6", checked := Try.checked }
namespace Rows
def none {H : Type} : Left H := { results := [], args := [] }

/-- 'laws.FnExactMatOK': WHATEVER THE INPUT: true; the input reads as it did. -/
def fnExactMatOKSpec : ChangeSpec := { name := "fnExactMatOK", fn := fun _ => fun
  | [d1, d2] => { results := [.lit (.bool true)], args := [d1, d2] }
  | _ => none }
def fnExactMatOKRow : OpenClaim := { program := "ytcoilfmbghghpaa", sum := "b35380c8708be510fc6d7c90cc0fe495c90bc131c8132adea46ec6ea0b382db6", func := "loop.example/g00615/laws.FnExactMatOK", spec := "fnExactMatOK", unfollowed := true, recurses := true, apart := false }
def FnExactMatOKSaid : Prop := fnExactMatOKRow.holds Try.pinned (OpenSpec.ofChange fnExactMatOKSpec)

/-- ITS FALSE NEIGHBOUR: 'it returns false'. Refute it at one input. -/
def fnExactMatOKWrong : ChangeSpec := { name := "fnExactMatOK", fn := fun _ => fun
  | [d1, d2] => { results := [.lit (.bool false)], args := [d1, d2] }
  | _ => none }
def FnExactMatOKWrongFalsely : Prop := fnExactMatOKRow.holds Try.pinned (OpenSpec.ofChange fnExactMatOKWrong)

/-- 'laws.FnExactAbsRat': WHATEVER THE INPUT: true; the input reads as it did. -/
def fnExactAbsRatSpec : ChangeSpec := { name := "fnExactAbsRat", fn := fun _ => fun
  | [d] => { results := [.lit (.bool true)], args := [d] }
  | _ => none }
def fnExactAbsRatRow : OpenClaim := { program := "ytcoilfmbghghpaa", sum := "b35380c8708be510fc6d7c90cc0fe495c90bc131c8132adea46ec6ea0b382db6", func := "loop.example/g00615/laws.FnExactAbsRat", spec := "fnExactAbsRat", unfollowed := true, recurses := true, apart := false }
def FnExactAbsRatSaid : Prop := fnExactAbsRatRow.holds Try.pinned (OpenSpec.ofChange fnExactAbsRatSpec)

/-- ITS FALSE NEIGHBOUR: 'it returns false'. Refute it at one input. -/
def fnExactAbsRatWrong : ChangeSpec := { name := "fnExactAbsRat", fn := fun _ => fun
  | [d] => { results := [.lit (.bool false)], args := [d] }
  | _ => none }
def FnExactAbsRatWrongFalsely : Prop := fnExactAbsRatRow.holds Try.pinned (OpenSpec.ofChange fnExactAbsRatWrong)

/-- 'laws.FnExactStateOK': WHATEVER THE INPUT: true; the input reads as it did. -/
def fnExactStateOKSpec : ChangeSpec := { name := "fnExactStateOK", fn := fun _ => fun
  | [d] => { results := [.lit (.bool true)], args := [d] }
  | _ => none }
def fnExactStateOKRow : OpenClaim := { program := "ytcoilfmbghghpaa", sum := "b35380c8708be510fc6d7c90cc0fe495c90bc131c8132adea46ec6ea0b382db6", func := "loop.example/g00615/laws.FnExactStateOK", spec := "fnExactStateOK", unfollowed := true, recurses := true, apart := false }
def FnExactStateOKSaid : Prop := fnExactStateOKRow.holds Try.pinned (OpenSpec.ofChange fnExactStateOKSpec)

/-- ITS FALSE NEIGHBOUR: 'it returns false'. Refute it at one input. -/
def fnExactStateOKWrong : ChangeSpec := { name := "fnExactStateOK", fn := fun _ => fun
  | [d] => { results := [.lit (.bool false)], args := [d] }
  | _ => none }
def FnExactStateOKWrongFalsely : Prop := fnExactStateOKRow.holds Try.pinned (OpenSpec.ofChange fnExactStateOKWrong)

/-- 'laws.FnExactMirrorMat': WHATEVER THE INPUT: true; the input reads as it did. -/
def fnExactMirrorMatSpec : ChangeSpec := { name := "fnExactMirrorMat", fn := fun _ => fun
  | [d1, d2] => { results := [.lit (.bool true)], args := [d1, d2] }
  | _ => none }
def fnExactMirrorMatRow : OpenClaim := { program := "ytcoilfmbghghpaa", sum := "b35380c8708be510fc6d7c90cc0fe495c90bc131c8132adea46ec6ea0b382db6", func := "loop.example/g00615/laws.FnExactMirrorMat", spec := "fnExactMirrorMat", unfollowed := true, recurses := true, apart := false }
def FnExactMirrorMatSaid : Prop := fnExactMirrorMatRow.holds Try.pinned (OpenSpec.ofChange fnExactMirrorMatSpec)

/-- ITS FALSE NEIGHBOUR: 'it returns false'. Refute it at one input. -/
def fnExactMirrorMatWrong : ChangeSpec := { name := "fnExactMirrorMat", fn := fun _ => fun
  | [d1, d2] => { results := [.lit (.bool false)], args := [d1, d2] }
  | _ => none }
def FnExactMirrorMatWrongFalsely : Prop := fnExactMirrorMatRow.holds Try.pinned (OpenSpec.ofChange fnExactMirrorMatWrong)

/-- 'laws.FnOrder': WHATEVER THE INPUT: true; the input reads as it did. -/
def fnOrderSpec : ChangeSpec := { name := "fnOrder", fn := fun _ => fun
  | [d1, d2] => { results := [.lit (.bool true)], args := [d1, d2] }
  | _ => none }
def fnOrderRow : OpenClaim := { program := "ytcoilfmbghghpaa", sum := "b35380c8708be510fc6d7c90cc0fe495c90bc131c8132adea46ec6ea0b382db6", func := "loop.example/g00615/laws.FnOrder", spec := "fnOrder", unfollowed := true, recurses := true, apart := false }
def FnOrderSaid : Prop := fnOrderRow.holds Try.pinned (OpenSpec.ofChange fnOrderSpec)

/-- ITS FALSE NEIGHBOUR: 'it returns false'. Refute it at one input. -/
def fnOrderWrong : ChangeSpec := { name := "fnOrder", fn := fun _ => fun
  | [d1, d2] => { results := [.lit (.bool false)], args := [d1, d2] }
  | _ => none }
def FnOrderWrongFalsely : Prop := fnOrderRow.holds Try.pinned (OpenSpec.ofChange fnOrderWrong)

/-- 'laws.FnExactScaleVec': WHATEVER THE INPUT: true; the input reads as it did. -/
def fnExactScaleVecSpec : ChangeSpec := { name := "fnExactScaleVec", fn := fun _ => fun
  | [d1, d2] => { results := [.lit (.bool true)], args := [d1, d2] }
  | _ => none }
def fnExactScaleVecRow : OpenClaim := { program := "ytcoilfmbghghpaa", sum := "b35380c8708be510fc6d7c90cc0fe495c90bc131c8132adea46ec6ea0b382db6", func := "loop.example/g00615/laws.FnExactScaleVec", spec := "fnExactScaleVec", unfollowed := true, recurses := true, apart := false }
def FnExactScaleVecSaid : Prop := fnExactScaleVecRow.holds Try.pinned (OpenSpec.ofChange fnExactScaleVecSpec)

/-- ITS FALSE NEIGHBOUR: 'it returns false'. Refute it at one input. -/
def fnExactScaleVecWrong : ChangeSpec := { name := "fnExactScaleVec", fn := fun _ => fun
  | [d1, d2] => { results := [.lit (.bool false)], args := [d1, d2] }
  | _ => none }
def FnExactScaleVecWrongFalsely : Prop := fnExactScaleVecRow.holds Try.pinned (OpenSpec.ofChange fnExactScaleVecWrong)

/-- 'laws.FnExactAxpy': WHATEVER THE INPUT: true; the input reads as it did. -/
def fnExactAxpySpec : ChangeSpec := { name := "fnExactAxpy", fn := fun _ => fun
  | [d1, d2, d3] => { results := [.lit (.bool true)], args := [d1, d2, d3] }
  | _ => none }
def fnExactAxpyRow : OpenClaim := { program := "ytcoilfmbghghpaa", sum := "b35380c8708be510fc6d7c90cc0fe495c90bc131c8132adea46ec6ea0b382db6", func := "loop.example/g00615/laws.FnExactAxpy", spec := "fnExactAxpy", unfollowed := true, recurses := true, apart := false }
def FnExactAxpySaid : Prop := fnExactAxpyRow.holds Try.pinned (OpenSpec.ofChange fnExactAxpySpec)

/-- ITS FALSE NEIGHBOUR: 'it returns false'. Refute it at one input. -/
def fnExactAxpyWrong : ChangeSpec := { name := "fnExactAxpy", fn := fun _ => fun
  | [d1, d2, d3] => { results := [.lit (.bool false)], args := [d1, d2, d3] }
  | _ => none }
def FnExactAxpyWrongFalsely : Prop := fnExactAxpyRow.holds Try.pinned (OpenSpec.ofChange fnExactAxpyWrong)

/-- 'laws.FnExactMulMat': WHATEVER THE INPUT: true; the input reads as it did. -/
def fnExactMulMatSpec : ChangeSpec := { name := "fnExactMulMat", fn := fun _ => fun
  | [d1, d2, d3] => { results := [.lit (.bool true)], args := [d1, d2, d3] }
  | _ => none }
def fnExactMulMatRow : OpenClaim := { program := "ytcoilfmbghghpaa", sum := "b35380c8708be510fc6d7c90cc0fe495c90bc131c8132adea46ec6ea0b382db6", func := "loop.example/g00615/laws.FnExactMulMat", spec := "fnExactMulMat", unfollowed := true, recurses := true, apart := false }
def FnExactMulMatSaid : Prop := fnExactMulMatRow.holds Try.pinned (OpenSpec.ofChange fnExactMulMatSpec)

/-- ITS FALSE NEIGHBOUR: 'it returns false'. Refute it at one input. -/
def fnExactMulMatWrong : ChangeSpec := { name := "fnExactMulMat", fn := fun _ => fun
  | [d1, d2, d3] => { results := [.lit (.bool false)], args := [d1, d2, d3] }
  | _ => none }
def FnExactMulMatWrongFalsely : Prop := fnExactMulMatRow.holds Try.pinned (OpenSpec.ofChange fnExactMulMatWrong)

/-- 'laws.FnExactMatVec': WHATEVER THE INPUT: true; the input reads as it did. -/
def fnExactMatVecSpec : ChangeSpec := { name := "fnExactMatVec", fn := fun _ => fun
  | [d1, d2] => { results := [.lit (.bool true)], args := [d1, d2] }
  | _ => none }
def fnExactMatVecRow : OpenClaim := { program := "ytcoilfmbghghpaa", sum := "b35380c8708be510fc6d7c90cc0fe495c90bc131c8132adea46ec6ea0b382db6", func := "loop.example/g00615/laws.FnExactMatVec", spec := "fnExactMatVec", unfollowed := true, recurses := true, apart := false }
def FnExactMatVecSaid : Prop := fnExactMatVecRow.holds Try.pinned (OpenSpec.ofChange fnExactMatVecSpec)

/-- ITS FALSE NEIGHBOUR: 'it returns false'. Refute it at one input. -/
def fnExactMatVecWrong : ChangeSpec := { name := "fnExactMatVec", fn := fun _ => fun
  | [d1, d2] => { results := [.lit (.bool false)], args := [d1, d2] }
  | _ => none }
def FnExactMatVecWrongFalsely : Prop := fnExactMatVecRow.holds Try.pinned (OpenSpec.ofChange fnExactMatVecWrong)

/-- 'laws.FnVec': WHATEVER THE INPUT: true; the input reads as it did. -/
def fnVecSpec : ChangeSpec := { name := "fnVec", fn := fun _ => fun
  | [d1, d2] => { results := [.lit (.bool true)], args := [d1, d2] }
  | _ => none }
def fnVecRow : OpenClaim := { program := "ytcoilfmbghghpaa", sum := "b35380c8708be510fc6d7c90cc0fe495c90bc131c8132adea46ec6ea0b382db6", func := "loop.example/g00615/laws.FnVec", spec := "fnVec", unfollowed := true, recurses := true, apart := false }
def FnVecSaid : Prop := fnVecRow.holds Try.pinned (OpenSpec.ofChange fnVecSpec)

/-- ITS FALSE NEIGHBOUR: 'it returns false'. Refute it at one input. -/
def fnVecWrong : ChangeSpec := { name := "fnVec", fn := fun _ => fun
  | [d1, d2] => { results := [.lit (.bool false)], args := [d1, d2] }
  | _ => none }
def FnVecWrongFalsely : Prop := fnVecRow.holds Try.pinned (OpenSpec.ofChange fnVecWrong)

/-- 'laws.FnClamp': WHATEVER THE INPUT: true; the input reads as it did. -/
def fnClampSpec : ChangeSpec := { name := "fnClamp", fn := fun _ => fun
  | [d1, d2] => { results := [.lit (.bool true)], args := [d1, d2] }
  | _ => none }
def fnClampRow : OpenClaim := { program := "ytcoilfmbghghpaa", sum := "b35380c8708be510fc6d7c90cc0fe495c90bc131c8132adea46ec6ea0b382db6", func := "loop.example/g00615/laws.FnClamp", spec := "fnClamp", unfollowed := true, recurses := true, apart := false }
def FnClampSaid : Prop := fnClampRow.holds Try.pinned (OpenSpec.ofChange fnClampSpec)

/-- ITS FALSE NEIGHBOUR: 'it returns false'. Refute it at one input. -/
def fnClampWrong : ChangeSpec := { name := "fnClamp", fn := fun _ => fun
  | [d1, d2] => { results := [.lit (.bool false)], args := [d1, d2] }
  | _ => none }
def FnClampWrongFalsely : Prop := fnClampRow.holds Try.pinned (OpenSpec.ofChange fnClampWrong)

/-- 'laws.FnExactProblemOK': WHATEVER THE INPUT: true; the input reads as it did. -/
def fnExactProblemOKSpec : ChangeSpec := { name := "fnExactProblemOK", fn := fun _ => fun
  | [d] => { results := [.lit (.bool true)], args := [d] }
  | _ => none }
def fnExactProblemOKRow : OpenClaim := { program := "ytcoilfmbghghpaa", sum := "b35380c8708be510fc6d7c90cc0fe495c90bc131c8132adea46ec6ea0b382db6", func := "loop.example/g00615/laws.FnExactProblemOK", spec := "fnExactProblemOK", unfollowed := true, recurses := true, apart := false }
def FnExactProblemOKSaid : Prop := fnExactProblemOKRow.holds Try.pinned (OpenSpec.ofChange fnExactProblemOKSpec)

/-- ITS FALSE NEIGHBOUR: 'it returns false'. Refute it at one input. -/
def fnExactProblemOKWrong : ChangeSpec := { name := "fnExactProblemOK", fn := fun _ => fun
  | [d] => { results := [.lit (.bool false)], args := [d] }
  | _ => none }
def FnExactProblemOKWrongFalsely : Prop := fnExactProblemOKRow.holds Try.pinned (OpenSpec.ofChange fnExactProblemOKWrong)

/- THE SECOND FORM. 'bulk': how many values and letters a reading holds, each counted each time it is reached (what is shared counts as often as it is met; a slice's spare places count too). A statement '..UptoSaid' is the law's where the arguments, and the package variables that the reading takes, are together of bulk at most 1048576: NARROWER than '..Said'. Prove '..Said' where nothing that the law and all that it calls make is longer than what came in: it says more and counts as full. Else prove '..UptoSaid'. A law counts once. -/
mutual
def uptoBulk {H : Type} : DataW H → Nat
  | .lit (.string bytes) => bytes.length + 1
  | .lit _ => 1
  | .nil => 1
  | .ptr d => uptoBulk d + 1
  | .slice elems spare => uptoBulkAll elems + uptoBulkAll spare + 1
  | .agg parts => uptoBulkAll parts + 1
  | .iface _ d => uptoBulk d + 1
  | .map entries => uptoBulkEntries entries + 1
  | .held _ => 1
def uptoBulkAll {H : Type} : List (DataW H) → Nat
  | [] => 0
  | d :: r => uptoBulk d + uptoBulkAll r
def uptoBulkEntries {H : Type} : List (Lit × DataW H) → Nat
  | [] => 0
  | x :: r => uptoBulkEntry x + uptoBulkEntries r
def uptoBulkEntry {H : Type} : Lit × DataW H → Nat
  | (.string bytes, d) => bytes.length + uptoBulk d + 1
  | (_, d) => uptoBulk d + 1
 end
def uptoSmall : (H : Type) → List (DataW H) → Bool := fun _ ds => decide (uptoBulkAll ds ≤ 1048576)
def OpenSpec.upto (s : _root_.Go.ChangeSpec) : _root_.Go.OpenSpec := { _root_.Go.OpenSpec.ofChange s with cond := some uptoSmall }

/-- 'laws.FnExactMatOK', WHERE WHAT IT READS IS OF BULK AT MOST 1048576: true; the input reads as it did. -/
def fnExactMatOKUptoRow : OpenClaim := { program := "ytcoilfmbghghpaa", sum := "b35380c8708be510fc6d7c90cc0fe495c90bc131c8132adea46ec6ea0b382db6", func := "loop.example/g00615/laws.FnExactMatOK", spec := "fnExactMatOK", unfollowed := true, recurses := true, apart := false, narrowed := true }
def FnExactMatOKUptoSaid : Prop := fnExactMatOKUptoRow.holds Try.pinned (OpenSpec.upto fnExactMatOKSpec)

/-- 'laws.FnExactAbsRat', WHERE WHAT IT READS IS OF BULK AT MOST 1048576: true; the input reads as it did. -/
def fnExactAbsRatUptoRow : OpenClaim := { program := "ytcoilfmbghghpaa", sum := "b35380c8708be510fc6d7c90cc0fe495c90bc131c8132adea46ec6ea0b382db6", func := "loop.example/g00615/laws.FnExactAbsRat", spec := "fnExactAbsRat", unfollowed := true, recurses := true, apart := false, narrowed := true }
def FnExactAbsRatUptoSaid : Prop := fnExactAbsRatUptoRow.holds Try.pinned (OpenSpec.upto fnExactAbsRatSpec)

/-- 'laws.FnExactStateOK', WHERE WHAT IT READS IS OF BULK AT MOST 1048576: true; the input reads as it did. -/
def fnExactStateOKUptoRow : OpenClaim := { program := "ytcoilfmbghghpaa", sum := "b35380c8708be510fc6d7c90cc0fe495c90bc131c8132adea46ec6ea0b382db6", func := "loop.example/g00615/laws.FnExactStateOK", spec := "fnExactStateOK", unfollowed := true, recurses := true, apart := false, narrowed := true }
def FnExactStateOKUptoSaid : Prop := fnExactStateOKUptoRow.holds Try.pinned (OpenSpec.upto fnExactStateOKSpec)

/-- 'laws.FnExactMirrorMat', WHERE WHAT IT READS IS OF BULK AT MOST 1048576: true; the input reads as it did. -/
def fnExactMirrorMatUptoRow : OpenClaim := { program := "ytcoilfmbghghpaa", sum := "b35380c8708be510fc6d7c90cc0fe495c90bc131c8132adea46ec6ea0b382db6", func := "loop.example/g00615/laws.FnExactMirrorMat", spec := "fnExactMirrorMat", unfollowed := true, recurses := true, apart := false, narrowed := true }
def FnExactMirrorMatUptoSaid : Prop := fnExactMirrorMatUptoRow.holds Try.pinned (OpenSpec.upto fnExactMirrorMatSpec)

/-- 'laws.FnOrder', WHERE WHAT IT READS IS OF BULK AT MOST 1048576: true; the input reads as it did. -/
def fnOrderUptoRow : OpenClaim := { program := "ytcoilfmbghghpaa", sum := "b35380c8708be510fc6d7c90cc0fe495c90bc131c8132adea46ec6ea0b382db6", func := "loop.example/g00615/laws.FnOrder", spec := "fnOrder", unfollowed := true, recurses := true, apart := false, narrowed := true }
def FnOrderUptoSaid : Prop := fnOrderUptoRow.holds Try.pinned (OpenSpec.upto fnOrderSpec)

/-- 'laws.FnExactScaleVec', WHERE WHAT IT READS IS OF BULK AT MOST 1048576: true; the input reads as it did. -/
def fnExactScaleVecUptoRow : OpenClaim := { program := "ytcoilfmbghghpaa", sum := "b35380c8708be510fc6d7c90cc0fe495c90bc131c8132adea46ec6ea0b382db6", func := "loop.example/g00615/laws.FnExactScaleVec", spec := "fnExactScaleVec", unfollowed := true, recurses := true, apart := false, narrowed := true }
def FnExactScaleVecUptoSaid : Prop := fnExactScaleVecUptoRow.holds Try.pinned (OpenSpec.upto fnExactScaleVecSpec)

/-- 'laws.FnExactAxpy', WHERE WHAT IT READS IS OF BULK AT MOST 1048576: true; the input reads as it did. -/
def fnExactAxpyUptoRow : OpenClaim := { program := "ytcoilfmbghghpaa", sum := "b35380c8708be510fc6d7c90cc0fe495c90bc131c8132adea46ec6ea0b382db6", func := "loop.example/g00615/laws.FnExactAxpy", spec := "fnExactAxpy", unfollowed := true, recurses := true, apart := false, narrowed := true }
def FnExactAxpyUptoSaid : Prop := fnExactAxpyUptoRow.holds Try.pinned (OpenSpec.upto fnExactAxpySpec)

/-- 'laws.FnExactMulMat', WHERE WHAT IT READS IS OF BULK AT MOST 1048576: true; the input reads as it did. -/
def fnExactMulMatUptoRow : OpenClaim := { program := "ytcoilfmbghghpaa", sum := "b35380c8708be510fc6d7c90cc0fe495c90bc131c8132adea46ec6ea0b382db6", func := "loop.example/g00615/laws.FnExactMulMat", spec := "fnExactMulMat", unfollowed := true, recurses := true, apart := false, narrowed := true }
def FnExactMulMatUptoSaid : Prop := fnExactMulMatUptoRow.holds Try.pinned (OpenSpec.upto fnExactMulMatSpec)

/-- 'laws.FnExactMatVec', WHERE WHAT IT READS IS OF BULK AT MOST 1048576: true; the input reads as it did. -/
def fnExactMatVecUptoRow : OpenClaim := { program := "ytcoilfmbghghpaa", sum := "b35380c8708be510fc6d7c90cc0fe495c90bc131c8132adea46ec6ea0b382db6", func := "loop.example/g00615/laws.FnExactMatVec", spec := "fnExactMatVec", unfollowed := true, recurses := true, apart := false, narrowed := true }
def FnExactMatVecUptoSaid : Prop := fnExactMatVecUptoRow.holds Try.pinned (OpenSpec.upto fnExactMatVecSpec)

/-- 'laws.FnVec', WHERE WHAT IT READS IS OF BULK AT MOST 1048576: true; the input reads as it did. -/
def fnVecUptoRow : OpenClaim := { program := "ytcoilfmbghghpaa", sum := "b35380c8708be510fc6d7c90cc0fe495c90bc131c8132adea46ec6ea0b382db6", func := "loop.example/g00615/laws.FnVec", spec := "fnVec", unfollowed := true, recurses := true, apart := false, narrowed := true }
def FnVecUptoSaid : Prop := fnVecUptoRow.holds Try.pinned (OpenSpec.upto fnVecSpec)

/-- 'laws.FnClamp', WHERE WHAT IT READS IS OF BULK AT MOST 1048576: true; the input reads as it did. -/
def fnClampUptoRow : OpenClaim := { program := "ytcoilfmbghghpaa", sum := "b35380c8708be510fc6d7c90cc0fe495c90bc131c8132adea46ec6ea0b382db6", func := "loop.example/g00615/laws.FnClamp", spec := "fnClamp", unfollowed := true, recurses := true, apart := false, narrowed := true }
def FnClampUptoSaid : Prop := fnClampUptoRow.holds Try.pinned (OpenSpec.upto fnClampSpec)

/-- 'laws.FnExactProblemOK', WHERE WHAT IT READS IS OF BULK AT MOST 1048576: true; the input reads as it did. -/
def fnExactProblemOKUptoRow : OpenClaim := { program := "ytcoilfmbghghpaa", sum := "b35380c8708be510fc6d7c90cc0fe495c90bc131c8132adea46ec6ea0b382db6", func := "loop.example/g00615/laws.FnExactProblemOK", spec := "fnExactProblemOK", unfollowed := true, recurses := true, apart := false, narrowed := true }
def FnExactProblemOKUptoSaid : Prop := fnExactProblemOKUptoRow.holds Try.pinned (OpenSpec.upto fnExactProblemOKSpec)

end Rows
end Go.Proofs.Ytcoilfmbghghpaa
