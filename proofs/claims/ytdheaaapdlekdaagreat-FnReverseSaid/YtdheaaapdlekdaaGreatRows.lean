/-
  No cell of these rows narrows 'for every input' (looked for: loops, veiled, ifaces, maps, wideKeys, modest, calm, conditions, laid).
  DERIVED. THE GIVEN ROWS OF THIS SEAT. 6 by the template 'for every input the law returns true; each argument reads behind the call as it read before'; 0 by the template 'total and deterministic' (their statements: YtdheaaapdlekdaaGreatTotals.lean).
  GIVEN WITH THE SEED: the statements are not yours to turn. If you find one false, say at which input.
  Laid BY PROGRAM, IN A SANDBOX (cutbox-rows.mjs): the forced cells as the released guide's own fill.sh prints them over the translation c05fa95aba37da10… (all of the seat's roots in one cut). By AI agents, Wed Nov 11 2026. No macro, syntax, notation, axiom, sorry.
-/
import Derived.Test.YtdheaaapdlekdaaGreatChecked
import GoSem.Claim
import GoSem.ClaimJoined
import GoSem.ClaimMapViews
import Derived.JoinedTies
import Derived.KernelRfl
namespace Go.Proofs.YtdheaaapdlekdaaGreat
/- THE CELL 'sum', in the pinned program and in every row, IS THE sha256 OF THE DUMP (.gsa) THAT YtdheaaapdlekdaaGreatProg.lean LOADS. Nothing in Lean hashes anything: it is a label: what it is worth is what the hold of that sum in a sandbox is worth. -/
noncomputable def Tryz.pinned : Pinned := { name := "ytdheaaapdlekdaagreat", sum := "c05fa95aba37da109e78ddb4dd502089d0e46f6d5dd8275e371d0d5bedd52907", checked := Tryz.checked }
namespace Rows
def none {H : Type} : Left H := { results := [], args := [] }

/-- 'laws.FnExactHvTape': WHATEVER THE INPUT: true; the input reads as it did. -/
def fnExactHvTapeSpec : ChangeSpec := { name := "fnExactHvTape", fn := fun _ => fun
  | [d1, d2, d3] => { results := [.lit (.bool true)], args := [d1, d2, d3] }
  | _ => none }
def fnExactHvTapeRow : OpenClaim := { program := "ytdheaaapdlekdaagreat", sum := "c05fa95aba37da109e78ddb4dd502089d0e46f6d5dd8275e371d0d5bedd52907", func := "loop.example/g00615/laws.FnExactHvTape", spec := "fnExactHvTape", unfollowed := true, recurses := true, apart := false }
def FnExactHvTapeSaid : Prop := fnExactHvTapeRow.holds Tryz.pinned (OpenSpec.ofChange fnExactHvTapeSpec)

/-- ITS FALSE NEIGHBOUR: 'it returns false'. Refute it at one input. -/
def fnExactHvTapeWrong : ChangeSpec := { name := "fnExactHvTape", fn := fun _ => fun
  | [d1, d2, d3] => { results := [.lit (.bool false)], args := [d1, d2, d3] }
  | _ => none }
def FnExactHvTapeWrongFalsely : Prop := fnExactHvTapeRow.holds Tryz.pinned (OpenSpec.ofChange fnExactHvTapeWrong)

/-- 'laws.FnReverse': WHATEVER THE INPUT: true; the input reads as it did. -/
def fnReverseSpec : ChangeSpec := { name := "fnReverse", fn := fun _ => fun
  | [d1, d2] => { results := [.lit (.bool true)], args := [d1, d2] }
  | _ => none }
def fnReverseRow : OpenClaim := { program := "ytdheaaapdlekdaagreat", sum := "c05fa95aba37da109e78ddb4dd502089d0e46f6d5dd8275e371d0d5bedd52907", func := "loop.example/g00615/laws.FnReverse", spec := "fnReverse", unfollowed := true, recurses := true, apart := false }
def FnReverseSaid : Prop := fnReverseRow.holds Tryz.pinned (OpenSpec.ofChange fnReverseSpec)

/-- ITS FALSE NEIGHBOUR: 'it returns false'. Refute it at one input. -/
def fnReverseWrong : ChangeSpec := { name := "fnReverse", fn := fun _ => fun
  | [d1, d2] => { results := [.lit (.bool false)], args := [d1, d2] }
  | _ => none }
def FnReverseWrongFalsely : Prop := fnReverseRow.holds Tryz.pinned (OpenSpec.ofChange fnReverseWrong)

/-- 'laws.FnSlope': WHATEVER THE INPUT: true; the input reads as it did. -/
def fnSlopeSpec : ChangeSpec := { name := "fnSlope", fn := fun _ => fun
  | [d1, d2] => { results := [.lit (.bool true)], args := [d1, d2] }
  | _ => none }
def fnSlopeRow : OpenClaim := { program := "ytdheaaapdlekdaagreat", sum := "c05fa95aba37da109e78ddb4dd502089d0e46f6d5dd8275e371d0d5bedd52907", func := "loop.example/g00615/laws.FnSlope", spec := "fnSlope", unfollowed := true, recurses := true, apart := false }
def FnSlopeSaid : Prop := fnSlopeRow.holds Tryz.pinned (OpenSpec.ofChange fnSlopeSpec)

/-- ITS FALSE NEIGHBOUR: 'it returns false'. Refute it at one input. -/
def fnSlopeWrong : ChangeSpec := { name := "fnSlope", fn := fun _ => fun
  | [d1, d2] => { results := [.lit (.bool false)], args := [d1, d2] }
  | _ => none }
def FnSlopeWrongFalsely : Prop := fnSlopeRow.holds Tryz.pinned (OpenSpec.ofChange fnSlopeWrong)

/-- 'laws.FnHess': WHATEVER THE INPUT: true; the input reads as it did. -/
def fnHessSpec : ChangeSpec := { name := "fnHess", fn := fun _ => fun
  | [d1, d2] => { results := [.lit (.bool true)], args := [d1, d2] }
  | _ => none }
def fnHessRow : OpenClaim := { program := "ytdheaaapdlekdaagreat", sum := "c05fa95aba37da109e78ddb4dd502089d0e46f6d5dd8275e371d0d5bedd52907", func := "loop.example/g00615/laws.FnHess", spec := "fnHess", unfollowed := true, recurses := true, apart := false }
def FnHessSaid : Prop := fnHessRow.holds Tryz.pinned (OpenSpec.ofChange fnHessSpec)

/-- ITS FALSE NEIGHBOUR: 'it returns false'. Refute it at one input. -/
def fnHessWrong : ChangeSpec := { name := "fnHess", fn := fun _ => fun
  | [d1, d2] => { results := [.lit (.bool false)], args := [d1, d2] }
  | _ => none }
def FnHessWrongFalsely : Prop := fnHessRow.holds Tryz.pinned (OpenSpec.ofChange fnHessWrong)

/-- 'laws.FnTangent': WHATEVER THE INPUT: true; the input reads as it did. -/
def fnTangentSpec : ChangeSpec := { name := "fnTangent", fn := fun _ => fun
  | [d1, d2] => { results := [.lit (.bool true)], args := [d1, d2] }
  | _ => none }
def fnTangentRow : OpenClaim := { program := "ytdheaaapdlekdaagreat", sum := "c05fa95aba37da109e78ddb4dd502089d0e46f6d5dd8275e371d0d5bedd52907", func := "loop.example/g00615/laws.FnTangent", spec := "fnTangent", unfollowed := true, recurses := true, apart := false }
def FnTangentSaid : Prop := fnTangentRow.holds Tryz.pinned (OpenSpec.ofChange fnTangentSpec)

/-- ITS FALSE NEIGHBOUR: 'it returns false'. Refute it at one input. -/
def fnTangentWrong : ChangeSpec := { name := "fnTangent", fn := fun _ => fun
  | [d1, d2] => { results := [.lit (.bool false)], args := [d1, d2] }
  | _ => none }
def FnTangentWrongFalsely : Prop := fnTangentRow.holds Tryz.pinned (OpenSpec.ofChange fnTangentWrong)

/-- 'laws.FnExactGradTape': WHATEVER THE INPUT: true; the input reads as it did. -/
def fnExactGradTapeSpec : ChangeSpec := { name := "fnExactGradTape", fn := fun _ => fun
  | [d1, d2] => { results := [.lit (.bool true)], args := [d1, d2] }
  | _ => none }
def fnExactGradTapeRow : OpenClaim := { program := "ytdheaaapdlekdaagreat", sum := "c05fa95aba37da109e78ddb4dd502089d0e46f6d5dd8275e371d0d5bedd52907", func := "loop.example/g00615/laws.FnExactGradTape", spec := "fnExactGradTape", unfollowed := true, recurses := true, apart := false }
def FnExactGradTapeSaid : Prop := fnExactGradTapeRow.holds Tryz.pinned (OpenSpec.ofChange fnExactGradTapeSpec)

/-- ITS FALSE NEIGHBOUR: 'it returns false'. Refute it at one input. -/
def fnExactGradTapeWrong : ChangeSpec := { name := "fnExactGradTape", fn := fun _ => fun
  | [d1, d2] => { results := [.lit (.bool false)], args := [d1, d2] }
  | _ => none }
def FnExactGradTapeWrongFalsely : Prop := fnExactGradTapeRow.holds Tryz.pinned (OpenSpec.ofChange fnExactGradTapeWrong)

/- THE SECOND FORM. 'bulk': how many values and letters a reading holds, each counted each time it is reached (what is shared counts as often as it is met; a slice's spare places count too). A statement '..UptoSaid' is the law's where the arguments, and the package variables that the reading takes, are together of bulk at most 1048576: NARROWER than '..Said'. Prove '..Said' where nothing that the law and all that it calls make is longer than what came in: it says more and counts as full. Else prove '..UptoSaid'. A law counts once. -/
mutual
def uptoBulk {H : Type} : DataW H → Nat
  | .lit (.string bytes) => bytes.length + 1
  | .lit _ => 1
  | .nil => 1
  | .ptr d => uptoBulk d + 1
  | .slice elems spare => uptoBulkAll elems + uptoBulkAll spare + 1
  | .agg parts => uptoBulkAll parts + 1
  | .iface _ d => uptoBulk d + 1
  | .map entries => uptoBulkEntries entries + 1
  | .held _ => 1
def uptoBulkAll {H : Type} : List (DataW H) → Nat
  | [] => 0
  | d :: r => uptoBulk d + uptoBulkAll r
def uptoBulkEntries {H : Type} : List (Lit × DataW H) → Nat
  | [] => 0
  | x :: r => uptoBulkEntry x + uptoBulkEntries r
def uptoBulkEntry {H : Type} : Lit × DataW H → Nat
  | (.string bytes, d) => bytes.length + uptoBulk d + 1
  | (_, d) => uptoBulk d + 1
 end
def uptoSmall : (H : Type) → List (DataW H) → Bool := fun _ ds => decide (uptoBulkAll ds ≤ 1048576)
def OpenSpec.upto (s : _root_.Go.ChangeSpec) : _root_.Go.OpenSpec := { _root_.Go.OpenSpec.ofChange s with cond := some uptoSmall }

/-- 'laws.FnExactHvTape', WHERE WHAT IT READS IS OF BULK AT MOST 1048576: true; the input reads as it did. -/
def fnExactHvTapeUptoRow : OpenClaim := { program := "ytdheaaapdlekdaagreat", sum := "c05fa95aba37da109e78ddb4dd502089d0e46f6d5dd8275e371d0d5bedd52907", func := "loop.example/g00615/laws.FnExactHvTape", spec := "fnExactHvTape", unfollowed := true, recurses := true, apart := false, narrowed := true }
def FnExactHvTapeUptoSaid : Prop := fnExactHvTapeUptoRow.holds Tryz.pinned (OpenSpec.upto fnExactHvTapeSpec)

/-- 'laws.FnReverse', WHERE WHAT IT READS IS OF BULK AT MOST 1048576: true; the input reads as it did. -/
def fnReverseUptoRow : OpenClaim := { program := "ytdheaaapdlekdaagreat", sum := "c05fa95aba37da109e78ddb4dd502089d0e46f6d5dd8275e371d0d5bedd52907", func := "loop.example/g00615/laws.FnReverse", spec := "fnReverse", unfollowed := true, recurses := true, apart := false, narrowed := true }
def FnReverseUptoSaid : Prop := fnReverseUptoRow.holds Tryz.pinned (OpenSpec.upto fnReverseSpec)

/-- 'laws.FnSlope', WHERE WHAT IT READS IS OF BULK AT MOST 1048576: true; the input reads as it did. -/
def fnSlopeUptoRow : OpenClaim := { program := "ytdheaaapdlekdaagreat", sum := "c05fa95aba37da109e78ddb4dd502089d0e46f6d5dd8275e371d0d5bedd52907", func := "loop.example/g00615/laws.FnSlope", spec := "fnSlope", unfollowed := true, recurses := true, apart := false, narrowed := true }
def FnSlopeUptoSaid : Prop := fnSlopeUptoRow.holds Tryz.pinned (OpenSpec.upto fnSlopeSpec)

/-- 'laws.FnHess', WHERE WHAT IT READS IS OF BULK AT MOST 1048576: true; the input reads as it did. -/
def fnHessUptoRow : OpenClaim := { program := "ytdheaaapdlekdaagreat", sum := "c05fa95aba37da109e78ddb4dd502089d0e46f6d5dd8275e371d0d5bedd52907", func := "loop.example/g00615/laws.FnHess", spec := "fnHess", unfollowed := true, recurses := true, apart := false, narrowed := true }
def FnHessUptoSaid : Prop := fnHessUptoRow.holds Tryz.pinned (OpenSpec.upto fnHessSpec)

/-- 'laws.FnTangent', WHERE WHAT IT READS IS OF BULK AT MOST 1048576: true; the input reads as it did. -/
def fnTangentUptoRow : OpenClaim := { program := "ytdheaaapdlekdaagreat", sum := "c05fa95aba37da109e78ddb4dd502089d0e46f6d5dd8275e371d0d5bedd52907", func := "loop.example/g00615/laws.FnTangent", spec := "fnTangent", unfollowed := true, recurses := true, apart := false, narrowed := true }
def FnTangentUptoSaid : Prop := fnTangentUptoRow.holds Tryz.pinned (OpenSpec.upto fnTangentSpec)

/-- 'laws.FnExactGradTape', WHERE WHAT IT READS IS OF BULK AT MOST 1048576: true; the input reads as it did. -/
def fnExactGradTapeUptoRow : OpenClaim := { program := "ytdheaaapdlekdaagreat", sum := "c05fa95aba37da109e78ddb4dd502089d0e46f6d5dd8275e371d0d5bedd52907", func := "loop.example/g00615/laws.FnExactGradTape", spec := "fnExactGradTape", unfollowed := true, recurses := true, apart := false, narrowed := true }
def FnExactGradTapeUptoSaid : Prop := fnExactGradTapeUptoRow.holds Tryz.pinned (OpenSpec.upto fnExactGradTapeSpec)

end Rows
end Go.Proofs.YtdheaaapdlekdaaGreat
