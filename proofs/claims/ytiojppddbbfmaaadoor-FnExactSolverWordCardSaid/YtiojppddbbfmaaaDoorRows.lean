/-
  NARROWER THAN 'FOR EVERY INPUT', by the rows' own cells (each row's printed sentence says how): FnExactSolverWord: laid · FnExactStatusWord: laid.
  DERIVED. THE GIVEN ROWS OF THIS SEAT. 2 by the template 'for every input the law returns true; each argument reads behind the call as it read before'; 0 by the template 'total and deterministic' (their statements: YtiojppddbbfmaaaDoorTotals.lean).
  GIVEN WITH THE SEED: the statements are not yours to turn. If you find one false, say at which input.
  Laid BY PROGRAM, IN A SANDBOX (cutbox-rows.mjs): the forced cells as the released guide's own fill.sh prints them over the translation ba6531dfebffc35a… (all of the seat's roots in one cut). By AI agents, Wed Nov 11 2026. No macro, syntax, notation, axiom, sorry.
-/
import Derived.Test.YtiojppddbbfmaaaDoorChecked
import GoSem.Claim
import GoSem.ClaimJoined
import GoSem.ClaimMapViews
import Derived.JoinedTies
import Derived.KernelRfl
namespace Go.Proofs.YtiojppddbbfmaaaDoor
/- THE CELL 'sum', in the pinned program and in every row, IS THE sha256 OF THE DUMP (.gsa) THAT YtiojppddbbfmaaaDoorProg.lean LOADS. Nothing in Lean hashes anything: it is a label: what it is worth is what the hold of that sum in a sandbox is worth. -/
noncomputable def Tryd.pinned : Pinned := { name := "ytiojppddbbfmaaadoor", sum := "ba6531dfebffc35ae79da2adc09d400f410cec4d051d6e99e3b3024e43d7f911", checked := Tryd.checked }
namespace Rows
def none {H : Type} : Left H := { results := [], args := [] }

/- WHAT THE LISTED PACKAGE-LEVEL VARIABLES READ AS WHEN THE CALL BEGINS. Each datum BY PROGRAM (the guide's laid-datum.mjs) off the statement by which the dump's own 'gosem.cut.vars' lays the variable. In a bare row this is a premise. The card (YtiojppddbbfmaaaDoorCards.lean) ties it to the program's text. -/
def laid_loop_example_g00615_impl_solverWords {H : Type} : DataW H := .slice [.lit (.string []), .lit (.string [100, 101, 115, 99, 101, 110, 116]), .lit (.string [99, 111, 110, 106, 117, 103, 97, 116, 101]), .lit (.string [112, 114, 111, 106, 101, 99, 116]), .lit (.string [110, 101, 119, 116, 111, 110])] []
def laid_loop_example_g00615_impl_statusWords {H : Type} : DataW H := .slice [.lit (.string [103, 111, 105, 110, 103]), .lit (.string [100, 111, 110, 101]), .lit (.string [108, 105, 109, 105, 116]), .lit (.string [115, 101, 97, 114, 99, 104]), .lit (.string [98, 117, 100, 103, 101, 116]), .lit (.string [100, 111, 109, 97, 105, 110]), .lit (.string [98, 111, 120])] []

/-- 'laws.FnExactSolverWord': WHATEVER THE INPUT: true; the input reads as it did. -/
def fnExactSolverWordSpec : ChangeSpec := { name := "fnExactSolverWord", vars := ["loop.example/g00615/impl.solverWords"], fn := fun _ => fun
  | [d, g1] => { results := [.lit (.bool true)], args := [d], vars := [g1] }
  | _ => none }
def fnExactSolverWordRow : OpenClaim := { program := "ytiojppddbbfmaaadoor", sum := "ba6531dfebffc35ae79da2adc09d400f410cec4d051d6e99e3b3024e43d7f911", func := "loop.example/g00615/laws.FnExactSolverWord", spec := "fnExactSolverWord", named := ["loop.example/g00615/impl.solverWords"], apart := false, laid := [("loop.example/g00615/impl.solverWords", laid_loop_example_g00615_impl_solverWords)] }
def FnExactSolverWordSaid : Prop := fnExactSolverWordRow.holds Tryd.pinned (OpenSpec.ofChange fnExactSolverWordSpec)

/-- ITS FALSE NEIGHBOUR: 'it returns false'. Refute it at one input. -/
def fnExactSolverWordWrong : ChangeSpec := { name := "fnExactSolverWord", vars := ["loop.example/g00615/impl.solverWords"], fn := fun _ => fun
  | [d, g1] => { results := [.lit (.bool false)], args := [d], vars := [g1] }
  | _ => none }
def FnExactSolverWordWrongFalsely : Prop := fnExactSolverWordRow.holds Tryd.pinned (OpenSpec.ofChange fnExactSolverWordWrong)

/-- 'laws.FnExactStatusWord': WHATEVER THE INPUT: true; the input reads as it did. -/
def fnExactStatusWordSpec : ChangeSpec := { name := "fnExactStatusWord", vars := ["loop.example/g00615/impl.statusWords"], fn := fun _ => fun
  | [d, g1] => { results := [.lit (.bool true)], args := [d], vars := [g1] }
  | _ => none }
def fnExactStatusWordRow : OpenClaim := { program := "ytiojppddbbfmaaadoor", sum := "ba6531dfebffc35ae79da2adc09d400f410cec4d051d6e99e3b3024e43d7f911", func := "loop.example/g00615/laws.FnExactStatusWord", spec := "fnExactStatusWord", named := ["loop.example/g00615/impl.statusWords"], apart := false, laid := [("loop.example/g00615/impl.statusWords", laid_loop_example_g00615_impl_statusWords)] }
def FnExactStatusWordSaid : Prop := fnExactStatusWordRow.holds Tryd.pinned (OpenSpec.ofChange fnExactStatusWordSpec)

/-- ITS FALSE NEIGHBOUR: 'it returns false'. Refute it at one input. -/
def fnExactStatusWordWrong : ChangeSpec := { name := "fnExactStatusWord", vars := ["loop.example/g00615/impl.statusWords"], fn := fun _ => fun
  | [d, g1] => { results := [.lit (.bool false)], args := [d], vars := [g1] }
  | _ => none }
def FnExactStatusWordWrongFalsely : Prop := fnExactStatusWordRow.holds Tryd.pinned (OpenSpec.ofChange fnExactStatusWordWrong)

/- THE SECOND FORM. 'bulk': how many values and letters a reading holds, each counted each time it is reached (what is shared counts as often as it is met; a slice's spare places count too). A statement '..UptoSaid' is the law's where the arguments, and the package variables that the reading takes, are together of bulk at most 1048576: NARROWER than '..Said'. Prove '..Said' where nothing that the law and all that it calls make is longer than what came in: it says more and counts as full. Else prove '..UptoSaid'. A law counts once. -/
mutual
def uptoBulk {H : Type} : DataW H → Nat
  | .lit (.string bytes) => bytes.length + 1
  | .lit _ => 1
  | .nil => 1
  | .ptr d => uptoBulk d + 1
  | .slice elems spare => uptoBulkAll elems + uptoBulkAll spare + 1
  | .agg parts => uptoBulkAll parts + 1
  | .iface _ d => uptoBulk d + 1
  | .map entries => uptoBulkEntries entries + 1
  | .held _ => 1
def uptoBulkAll {H : Type} : List (DataW H) → Nat
  | [] => 0
  | d :: r => uptoBulk d + uptoBulkAll r
def uptoBulkEntries {H : Type} : List (Lit × DataW H) → Nat
  | [] => 0
  | x :: r => uptoBulkEntry x + uptoBulkEntries r
def uptoBulkEntry {H : Type} : Lit × DataW H → Nat
  | (.string bytes, d) => bytes.length + uptoBulk d + 1
  | (_, d) => uptoBulk d + 1
 end
def uptoSmall : (H : Type) → List (DataW H) → Bool := fun _ ds => decide (uptoBulkAll ds ≤ 1048576)
def OpenSpec.upto (s : _root_.Go.ChangeSpec) : _root_.Go.OpenSpec := { _root_.Go.OpenSpec.ofChange s with cond := some uptoSmall }

/-- 'laws.FnExactSolverWord', WHERE WHAT IT READS IS OF BULK AT MOST 1048576: true; the input reads as it did. -/
def fnExactSolverWordUptoRow : OpenClaim := { program := "ytiojppddbbfmaaadoor", sum := "ba6531dfebffc35ae79da2adc09d400f410cec4d051d6e99e3b3024e43d7f911", func := "loop.example/g00615/laws.FnExactSolverWord", spec := "fnExactSolverWord", named := ["loop.example/g00615/impl.solverWords"], apart := false, laid := [("loop.example/g00615/impl.solverWords", laid_loop_example_g00615_impl_solverWords)], narrowed := true }
def FnExactSolverWordUptoSaid : Prop := fnExactSolverWordUptoRow.holds Tryd.pinned (OpenSpec.upto fnExactSolverWordSpec)

/-- 'laws.FnExactStatusWord', WHERE WHAT IT READS IS OF BULK AT MOST 1048576: true; the input reads as it did. -/
def fnExactStatusWordUptoRow : OpenClaim := { program := "ytiojppddbbfmaaadoor", sum := "ba6531dfebffc35ae79da2adc09d400f410cec4d051d6e99e3b3024e43d7f911", func := "loop.example/g00615/laws.FnExactStatusWord", spec := "fnExactStatusWord", named := ["loop.example/g00615/impl.statusWords"], apart := false, laid := [("loop.example/g00615/impl.statusWords", laid_loop_example_g00615_impl_statusWords)], narrowed := true }
def FnExactStatusWordUptoSaid : Prop := fnExactStatusWordUptoRow.holds Tryd.pinned (OpenSpec.upto fnExactStatusWordSpec)

end Rows
end Go.Proofs.YtiojppddbbfmaaaDoor
