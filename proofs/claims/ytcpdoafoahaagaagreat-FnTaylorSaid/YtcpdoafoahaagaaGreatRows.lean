/-
  No cell of these rows narrows 'for every input' (looked for: loops, veiled, ifaces, maps, wideKeys, modest, calm, conditions, laid).
  DERIVED. THE GIVEN ROWS OF THIS SEAT. 7 by the template 'for every input the law returns true; each argument reads behind the call as it read before'; 0 by the template 'total and deterministic' (their statements: YtcpdoafoahaagaaGreatTotals.lean).
  GIVEN WITH THE SEED: the statements are not yours to turn. If you find one false, say at which input.
  Laid BY PROGRAM, IN A SANDBOX (cutbox-rows.mjs): the forced cells as the released guide's own fill.sh prints them over the translation 3ab8adbcbf2a2a5a… (all of the seat's roots in one cut). By AI agents, Wed Nov 11 2026. No macro, syntax, notation, axiom, sorry.
-/
import Derived.Test.YtcpdoafoahaagaaGreatChecked
import GoSem.Claim
import GoSem.ClaimJoined
import GoSem.ClaimMapViews
import Derived.JoinedTies
import Derived.KernelRfl
namespace Go.Proofs.YtcpdoafoahaagaaGreat
/- THE CELL 'sum', in the pinned program and in every row, IS THE sha256 OF THE DUMP (.gsa) THAT YtcpdoafoahaagaaGreatProg.lean LOADS. Nothing in Lean hashes anything: it is a label: what it is worth is what the hold of that sum in a sandbox is worth. -/
noncomputable def Tryz.pinned : Pinned := { name := "ytcpdoafoahaagaagreat", sum := "3ab8adbcbf2a2a5a48ef0a40b7a1346780f157eda01069dae422eff9c02945af", checked := Tryz.checked }
namespace Rows
def none {H : Type} : Left H := { results := [], args := [] }

/-- 'laws.FnSolve': WHATEVER THE INPUT: true; the input reads as it did. -/
def fnSolveSpec : ChangeSpec := { name := "fnSolve", fn := fun _ => fun
  | [d1, d2] => { results := [.lit (.bool true)], args := [d1, d2] }
  | _ => none }
def fnSolveRow : OpenClaim := { program := "ytcpdoafoahaagaagreat", sum := "3ab8adbcbf2a2a5a48ef0a40b7a1346780f157eda01069dae422eff9c02945af", func := "loop.example/g00615/laws.FnSolve", spec := "fnSolve", unfollowed := true, recurses := true, apart := false }
def FnSolveSaid : Prop := fnSolveRow.holds Tryz.pinned (OpenSpec.ofChange fnSolveSpec)

/-- ITS FALSE NEIGHBOUR: 'it returns false'. Refute it at one input. -/
def fnSolveWrong : ChangeSpec := { name := "fnSolve", fn := fun _ => fun
  | [d1, d2] => { results := [.lit (.bool false)], args := [d1, d2] }
  | _ => none }
def FnSolveWrongFalsely : Prop := fnSolveRow.holds Tryz.pinned (OpenSpec.ofChange fnSolveWrong)

/-- 'laws.FnExactSolveMat': WHATEVER THE INPUT: true; the input reads as it did. -/
def fnExactSolveMatSpec : ChangeSpec := { name := "fnExactSolveMat", fn := fun _ => fun
  | [d1, d2] => { results := [.lit (.bool true)], args := [d1, d2] }
  | _ => none }
def fnExactSolveMatRow : OpenClaim := { program := "ytcpdoafoahaagaagreat", sum := "3ab8adbcbf2a2a5a48ef0a40b7a1346780f157eda01069dae422eff9c02945af", func := "loop.example/g00615/laws.FnExactSolveMat", spec := "fnExactSolveMat", unfollowed := true, recurses := true, apart := false }
def FnExactSolveMatSaid : Prop := fnExactSolveMatRow.holds Tryz.pinned (OpenSpec.ofChange fnExactSolveMatSpec)

/-- ITS FALSE NEIGHBOUR: 'it returns false'. Refute it at one input. -/
def fnExactSolveMatWrong : ChangeSpec := { name := "fnExactSolveMat", fn := fun _ => fun
  | [d1, d2] => { results := [.lit (.bool false)], args := [d1, d2] }
  | _ => none }
def FnExactSolveMatWrongFalsely : Prop := fnExactSolveMatRow.holds Tryz.pinned (OpenSpec.ofChange fnExactSolveMatWrong)

/-- 'laws.FnExactLinearCg': WHATEVER THE INPUT: true; the input reads as it did. -/
def fnExactLinearCgSpec : ChangeSpec := { name := "fnExactLinearCg", fn := fun _ => fun
  | [d1, d2, d3] => { results := [.lit (.bool true)], args := [d1, d2, d3] }
  | _ => none }
def fnExactLinearCgRow : OpenClaim := { program := "ytcpdoafoahaagaagreat", sum := "3ab8adbcbf2a2a5a48ef0a40b7a1346780f157eda01069dae422eff9c02945af", func := "loop.example/g00615/laws.FnExactLinearCg", spec := "fnExactLinearCg", unfollowed := true, recurses := true, apart := false }
def FnExactLinearCgSaid : Prop := fnExactLinearCgRow.holds Tryz.pinned (OpenSpec.ofChange fnExactLinearCgSpec)

/-- ITS FALSE NEIGHBOUR: 'it returns false'. Refute it at one input. -/
def fnExactLinearCgWrong : ChangeSpec := { name := "fnExactLinearCg", fn := fun _ => fun
  | [d1, d2, d3] => { results := [.lit (.bool false)], args := [d1, d2, d3] }
  | _ => none }
def FnExactLinearCgWrongFalsely : Prop := fnExactLinearCgRow.holds Tryz.pinned (OpenSpec.ofChange fnExactLinearCgWrong)

/-- 'laws.FnCg': WHATEVER THE INPUT: true; the input reads as it did. -/
def fnCgSpec : ChangeSpec := { name := "fnCg", fn := fun _ => fun
  | [d1, d2] => { results := [.lit (.bool true)], args := [d1, d2] }
  | _ => none }
def fnCgRow : OpenClaim := { program := "ytcpdoafoahaagaagreat", sum := "3ab8adbcbf2a2a5a48ef0a40b7a1346780f157eda01069dae422eff9c02945af", func := "loop.example/g00615/laws.FnCg", spec := "fnCg", unfollowed := true, recurses := true, apart := false }
def FnCgSaid : Prop := fnCgRow.holds Tryz.pinned (OpenSpec.ofChange fnCgSpec)

/-- ITS FALSE NEIGHBOUR: 'it returns false'. Refute it at one input. -/
def fnCgWrong : ChangeSpec := { name := "fnCg", fn := fun _ => fun
  | [d1, d2] => { results := [.lit (.bool false)], args := [d1, d2] }
  | _ => none }
def FnCgWrongFalsely : Prop := fnCgRow.holds Tryz.pinned (OpenSpec.ofChange fnCgWrong)

/-- 'laws.FnExactInBox': WHATEVER THE INPUT: true; the input reads as it did. -/
def fnExactInBoxSpec : ChangeSpec := { name := "fnExactInBox", fn := fun _ => fun
  | [d1, d2] => { results := [.lit (.bool true)], args := [d1, d2] }
  | _ => none }
def fnExactInBoxRow : OpenClaim := { program := "ytcpdoafoahaagaagreat", sum := "3ab8adbcbf2a2a5a48ef0a40b7a1346780f157eda01069dae422eff9c02945af", func := "loop.example/g00615/laws.FnExactInBox", spec := "fnExactInBox", unfollowed := true, recurses := true, apart := false }
def FnExactInBoxSaid : Prop := fnExactInBoxRow.holds Tryz.pinned (OpenSpec.ofChange fnExactInBoxSpec)

/-- ITS FALSE NEIGHBOUR: 'it returns false'. Refute it at one input. -/
def fnExactInBoxWrong : ChangeSpec := { name := "fnExactInBox", fn := fun _ => fun
  | [d1, d2] => { results := [.lit (.bool false)], args := [d1, d2] }
  | _ => none }
def FnExactInBoxWrongFalsely : Prop := fnExactInBoxRow.holds Tryz.pinned (OpenSpec.ofChange fnExactInBoxWrong)

/-- 'laws.FnExactProjectTo': WHATEVER THE INPUT: true; the input reads as it did. -/
def fnExactProjectToSpec : ChangeSpec := { name := "fnExactProjectTo", fn := fun _ => fun
  | [d1, d2] => { results := [.lit (.bool true)], args := [d1, d2] }
  | _ => none }
def fnExactProjectToRow : OpenClaim := { program := "ytcpdoafoahaagaagreat", sum := "3ab8adbcbf2a2a5a48ef0a40b7a1346780f157eda01069dae422eff9c02945af", func := "loop.example/g00615/laws.FnExactProjectTo", spec := "fnExactProjectTo", unfollowed := true, recurses := true, apart := false }
def FnExactProjectToSaid : Prop := fnExactProjectToRow.holds Tryz.pinned (OpenSpec.ofChange fnExactProjectToSpec)

/-- ITS FALSE NEIGHBOUR: 'it returns false'. Refute it at one input. -/
def fnExactProjectToWrong : ChangeSpec := { name := "fnExactProjectTo", fn := fun _ => fun
  | [d1, d2] => { results := [.lit (.bool false)], args := [d1, d2] }
  | _ => none }
def FnExactProjectToWrongFalsely : Prop := fnExactProjectToRow.holds Tryz.pinned (OpenSpec.ofChange fnExactProjectToWrong)

/-- 'laws.FnTaylor': WHATEVER THE INPUT: true; the input reads as it did. -/
def fnTaylorSpec : ChangeSpec := { name := "fnTaylor", fn := fun _ => fun
  | [d1, d2] => { results := [.lit (.bool true)], args := [d1, d2] }
  | _ => none }
def fnTaylorRow : OpenClaim := { program := "ytcpdoafoahaagaagreat", sum := "3ab8adbcbf2a2a5a48ef0a40b7a1346780f157eda01069dae422eff9c02945af", func := "loop.example/g00615/laws.FnTaylor", spec := "fnTaylor", unfollowed := true, recurses := true, apart := false }
def FnTaylorSaid : Prop := fnTaylorRow.holds Tryz.pinned (OpenSpec.ofChange fnTaylorSpec)

/-- ITS FALSE NEIGHBOUR: 'it returns false'. Refute it at one input. -/
def fnTaylorWrong : ChangeSpec := { name := "fnTaylor", fn := fun _ => fun
  | [d1, d2] => { results := [.lit (.bool false)], args := [d1, d2] }
  | _ => none }
def FnTaylorWrongFalsely : Prop := fnTaylorRow.holds Tryz.pinned (OpenSpec.ofChange fnTaylorWrong)

/- THE SECOND FORM. 'bulk': how many values and letters a reading holds, each counted each time it is reached (what is shared counts as often as it is met; a slice's spare places count too). A statement '..UptoSaid' is the law's where the arguments, and the package variables that the reading takes, are together of bulk at most 1048576: NARROWER than '..Said'. Prove '..Said' where nothing that the law and all that it calls make is longer than what came in: it says more and counts as full. Else prove '..UptoSaid'. A law counts once. -/
mutual
def uptoBulk {H : Type} : DataW H → Nat
  | .lit (.string bytes) => bytes.length + 1
  | .lit _ => 1
  | .nil => 1
  | .ptr d => uptoBulk d + 1
  | .slice elems spare => uptoBulkAll elems + uptoBulkAll spare + 1
  | .agg parts => uptoBulkAll parts + 1
  | .iface _ d => uptoBulk d + 1
  | .map entries => uptoBulkEntries entries + 1
  | .held _ => 1
def uptoBulkAll {H : Type} : List (DataW H) → Nat
  | [] => 0
  | d :: r => uptoBulk d + uptoBulkAll r
def uptoBulkEntries {H : Type} : List (Lit × DataW H) → Nat
  | [] => 0
  | x :: r => uptoBulkEntry x + uptoBulkEntries r
def uptoBulkEntry {H : Type} : Lit × DataW H → Nat
  | (.string bytes, d) => bytes.length + uptoBulk d + 1
  | (_, d) => uptoBulk d + 1
 end
def uptoSmall : (H : Type) → List (DataW H) → Bool := fun _ ds => decide (uptoBulkAll ds ≤ 1048576)
def OpenSpec.upto (s : _root_.Go.ChangeSpec) : _root_.Go.OpenSpec := { _root_.Go.OpenSpec.ofChange s with cond := some uptoSmall }

/-- 'laws.FnSolve', WHERE WHAT IT READS IS OF BULK AT MOST 1048576: true; the input reads as it did. -/
def fnSolveUptoRow : OpenClaim := { program := "ytcpdoafoahaagaagreat", sum := "3ab8adbcbf2a2a5a48ef0a40b7a1346780f157eda01069dae422eff9c02945af", func := "loop.example/g00615/laws.FnSolve", spec := "fnSolve", unfollowed := true, recurses := true, apart := false, narrowed := true }
def FnSolveUptoSaid : Prop := fnSolveUptoRow.holds Tryz.pinned (OpenSpec.upto fnSolveSpec)

/-- 'laws.FnExactSolveMat', WHERE WHAT IT READS IS OF BULK AT MOST 1048576: true; the input reads as it did. -/
def fnExactSolveMatUptoRow : OpenClaim := { program := "ytcpdoafoahaagaagreat", sum := "3ab8adbcbf2a2a5a48ef0a40b7a1346780f157eda01069dae422eff9c02945af", func := "loop.example/g00615/laws.FnExactSolveMat", spec := "fnExactSolveMat", unfollowed := true, recurses := true, apart := false, narrowed := true }
def FnExactSolveMatUptoSaid : Prop := fnExactSolveMatUptoRow.holds Tryz.pinned (OpenSpec.upto fnExactSolveMatSpec)

/-- 'laws.FnExactLinearCg', WHERE WHAT IT READS IS OF BULK AT MOST 1048576: true; the input reads as it did. -/
def fnExactLinearCgUptoRow : OpenClaim := { program := "ytcpdoafoahaagaagreat", sum := "3ab8adbcbf2a2a5a48ef0a40b7a1346780f157eda01069dae422eff9c02945af", func := "loop.example/g00615/laws.FnExactLinearCg", spec := "fnExactLinearCg", unfollowed := true, recurses := true, apart := false, narrowed := true }
def FnExactLinearCgUptoSaid : Prop := fnExactLinearCgUptoRow.holds Tryz.pinned (OpenSpec.upto fnExactLinearCgSpec)

/-- 'laws.FnCg', WHERE WHAT IT READS IS OF BULK AT MOST 1048576: true; the input reads as it did. -/
def fnCgUptoRow : OpenClaim := { program := "ytcpdoafoahaagaagreat", sum := "3ab8adbcbf2a2a5a48ef0a40b7a1346780f157eda01069dae422eff9c02945af", func := "loop.example/g00615/laws.FnCg", spec := "fnCg", unfollowed := true, recurses := true, apart := false, narrowed := true }
def FnCgUptoSaid : Prop := fnCgUptoRow.holds Tryz.pinned (OpenSpec.upto fnCgSpec)

/-- 'laws.FnExactInBox', WHERE WHAT IT READS IS OF BULK AT MOST 1048576: true; the input reads as it did. -/
def fnExactInBoxUptoRow : OpenClaim := { program := "ytcpdoafoahaagaagreat", sum := "3ab8adbcbf2a2a5a48ef0a40b7a1346780f157eda01069dae422eff9c02945af", func := "loop.example/g00615/laws.FnExactInBox", spec := "fnExactInBox", unfollowed := true, recurses := true, apart := false, narrowed := true }
def FnExactInBoxUptoSaid : Prop := fnExactInBoxUptoRow.holds Tryz.pinned (OpenSpec.upto fnExactInBoxSpec)

/-- 'laws.FnExactProjectTo', WHERE WHAT IT READS IS OF BULK AT MOST 1048576: true; the input reads as it did. -/
def fnExactProjectToUptoRow : OpenClaim := { program := "ytcpdoafoahaagaagreat", sum := "3ab8adbcbf2a2a5a48ef0a40b7a1346780f157eda01069dae422eff9c02945af", func := "loop.example/g00615/laws.FnExactProjectTo", spec := "fnExactProjectTo", unfollowed := true, recurses := true, apart := false, narrowed := true }
def FnExactProjectToUptoSaid : Prop := fnExactProjectToUptoRow.holds Tryz.pinned (OpenSpec.upto fnExactProjectToSpec)

/-- 'laws.FnTaylor', WHERE WHAT IT READS IS OF BULK AT MOST 1048576: true; the input reads as it did. -/
def fnTaylorUptoRow : OpenClaim := { program := "ytcpdoafoahaagaagreat", sum := "3ab8adbcbf2a2a5a48ef0a40b7a1346780f157eda01069dae422eff9c02945af", func := "loop.example/g00615/laws.FnTaylor", spec := "fnTaylor", unfollowed := true, recurses := true, apart := false, narrowed := true }
def FnTaylorUptoSaid : Prop := fnTaylorUptoRow.holds Tryz.pinned (OpenSpec.upto fnTaylorSpec)

end Rows
end Go.Proofs.YtcpdoafoahaagaaGreat
