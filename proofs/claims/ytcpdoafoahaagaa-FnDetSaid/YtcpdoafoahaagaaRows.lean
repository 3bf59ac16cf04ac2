/-
  No cell of these rows narrows 'for every input' (looked for: loops, veiled, ifaces, maps, wideKeys, modest, calm, conditions, laid).
  DERIVED. THE GIVEN ROWS OF THIS SEAT. 4 by the template 'for every input the law returns true; each argument reads behind the call as it read before'; 0 by the template 'total and deterministic' (their statements: YtcpdoafoahaagaaTotals.lean).
  GIVEN WITH THE SEED: the statements are not yours to turn. If you find one false, say at which input.
  Laid BY PROGRAM, IN A SANDBOX (cutbox-rows.mjs): the forced cells as the released guide's own fill.sh prints them over the translation be7f52bacf5b69c2… (all of the seat's roots in one cut). By AI agents, Wed Nov 11 2026. No macro, syntax, notation, axiom, sorry.
-/
import Derived.Test.YtcpdoafoahaagaaChecked
import GoSem.Claim
import GoSem.ClaimJoined
import GoSem.ClaimMapViews
import Derived.JoinedTies
import Derived.KernelRfl
namespace Go.Proofs.Ytcpdoafoahaagaa
/- THE CELL 'sum', in the pinned program and in every row, IS THE sha256 OF THE DUMP (.gsa) THAT YtcpdoafoahaagaaProg.lean LOADS. Nothing in Lean hashes anything: it is a label: what it is worth is what the hold of that sum in a sandbox is worth. -/
noncomputable def Try.pinned : Pinned := { name := "ytcpdoafoahaagaa", sum := "be7f52bacf5b69c2eff2f274d470a9605f9625226eeab6cd0349114d3a20bcd0", checked := Try.checked }
namespace Rows
def none {H : Type} : Left H := { results := [], args := [] }

/-- 'laws.FnDet': WHATEVER THE INPUT: true; the input reads as it did. -/
def fnDetSpec : ChangeSpec := { name := "fnDet", fn := fun _ => fun
  | [d1, d2] => { results := [.lit (.bool true)], args := [d1, d2] }
  | _ => none }
def fnDetRow : OpenClaim := { program := "ytcpdoafoahaagaa", sum := "be7f52bacf5b69c2eff2f274d470a9605f9625226eeab6cd0349114d3a20bcd0", func := "loop.example/g00615/laws.FnDet", spec := "fnDet", unfollowed := true, recurses := true, apart := false }
def FnDetSaid : Prop := fnDetRow.holds Try.pinned (OpenSpec.ofChange fnDetSpec)

/-- ITS FALSE NEIGHBOUR: 'it returns false'. Refute it at one input. -/
def fnDetWrong : ChangeSpec := { name := "fnDet", fn := fun _ => fun
  | [d1, d2] => { results := [.lit (.bool false)], args := [d1, d2] }
  | _ => none }
def FnDetWrongFalsely : Prop := fnDetRow.holds Try.pinned (OpenSpec.ofChange fnDetWrong)

/-- 'laws.FnExactDetOf': WHATEVER THE INPUT: true; the input reads as it did. -/
def fnExactDetOfSpec : ChangeSpec := { name := "fnExactDetOf", fn := fun _ => fun
  | [d1, d2] => { results := [.lit (.bool true)], args := [d1, d2] }
  | _ => none }
def fnExactDetOfRow : OpenClaim := { program := "ytcpdoafoahaagaa", sum := "be7f52bacf5b69c2eff2f274d470a9605f9625226eeab6cd0349114d3a20bcd0", func := "loop.example/g00615/laws.FnExactDetOf", spec := "fnExactDetOf", unfollowed := true, recurses := true, apart := false }
def FnExactDetOfSaid : Prop := fnExactDetOfRow.holds Try.pinned (OpenSpec.ofChange fnExactDetOfSpec)

/-- ITS FALSE NEIGHBOUR: 'it returns false'. Refute it at one input. -/
def fnExactDetOfWrong : ChangeSpec := { name := "fnExactDetOf", fn := fun _ => fun
  | [d1, d2] => { results := [.lit (.bool false)], args := [d1, d2] }
  | _ => none }
def FnExactDetOfWrongFalsely : Prop := fnExactDetOfRow.holds Try.pinned (OpenSpec.ofChange fnExactDetOfWrong)

/-- 'laws.FnExactIsPositive': WHATEVER THE INPUT: true; the input reads as it did. -/
def fnExactIsPositiveSpec : ChangeSpec := { name := "fnExactIsPositive", fn := fun _ => fun
  | [d1, d2] => { results := [.lit (.bool true)], args := [d1, d2] }
  | _ => none }
def fnExactIsPositiveRow : OpenClaim := { program := "ytcpdoafoahaagaa", sum := "be7f52bacf5b69c2eff2f274d470a9605f9625226eeab6cd0349114d3a20bcd0", func := "loop.example/g00615/laws.FnExactIsPositive", spec := "fnExactIsPositive", unfollowed := true, recurses := true, apart := false }
def FnExactIsPositiveSaid : Prop := fnExactIsPositiveRow.holds Try.pinned (OpenSpec.ofChange fnExactIsPositiveSpec)

/-- ITS FALSE NEIGHBOUR: 'it returns false'. Refute it at one input. -/
def fnExactIsPositiveWrong : ChangeSpec := { name := "fnExactIsPositive", fn := fun _ => fun
  | [d1, d2] => { results := [.lit (.bool false)], args := [d1, d2] }
  | _ => none }
def FnExactIsPositiveWrongFalsely : Prop := fnExactIsPositiveRow.holds Try.pinned (OpenSpec.ofChange fnExactIsPositiveWrong)

/-- 'laws.FnExactHasBox': WHATEVER THE INPUT: true; the input reads as it did. -/
def fnExactHasBoxSpec : ChangeSpec := { name := "fnExactHasBox", fn := fun _ => fun
  | [d] => { results := [.lit (.bool true)], args := [d] }
  | _ => none }
def fnExactHasBoxRow : OpenClaim := { program := "ytcpdoafoahaagaa", sum := "be7f52bacf5b69c2eff2f274d470a9605f9625226eeab6cd0349114d3a20bcd0", func := "loop.example/g00615/laws.FnExactHasBox", spec := "fnExactHasBox", unfollowed := true, recurses := true, apart := false }
def FnExactHasBoxSaid : Prop := fnExactHasBoxRow.holds Try.pinned (OpenSpec.ofChange fnExactHasBoxSpec)

/-- ITS FALSE NEIGHBOUR: 'it returns false'. Refute it at one input. -/
def fnExactHasBoxWrong : ChangeSpec := { name := "fnExactHasBox", fn := fun _ => fun
  | [d] => { results := [.lit (.bool false)], args := [d] }
  | _ => none }
def FnExactHasBoxWrongFalsely : Prop := fnExactHasBoxRow.holds Try.pinned (OpenSpec.ofChange fnExactHasBoxWrong)

/- THE SECOND FORM. 'bulk': how many values and letters a reading holds, each counted each time it is reached (what is shared counts as often as it is met; a slice's spare places count too). A statement '..UptoSaid' is the law's where the arguments, and the package variables that the reading takes, are together of bulk at most 1048576: NARROWER than '..Said'. Prove '..Said' where nothing that the law and all that it calls make is longer than what came in: it says more and counts as full. Else prove '..UptoSaid'. A law counts once. -/
mutual
def uptoBulk {H : Type} : DataW H → Nat
  | .lit (.string bytes) => bytes.length + 1
  | .lit _ => 1
  | .nil => 1
  | .ptr d => uptoBulk d + 1
  | .slice elems spare => uptoBulkAll elems + uptoBulkAll spare + 1
  | .agg parts => uptoBulkAll parts + 1
  | .iface _ d => uptoBulk d + 1
  | .map entries => uptoBulkEntries entries + 1
  | .held _ => 1
def uptoBulkAll {H : Type} : List (DataW H) → Nat
  | [] => 0
  | d :: r => uptoBulk d + uptoBulkAll r
def uptoBulkEntries {H : Type} : List (Lit × DataW H) → Nat
  | [] => 0
  | x :: r => uptoBulkEntry x + uptoBulkEntries r
def uptoBulkEntry {H : Type} : Lit × DataW H → Nat
  | (.string bytes, d) => bytes.length + uptoBulk d + 1
  | (_, d) => uptoBulk d + 1
 end
def uptoSmall : (H : Type) → List (DataW H) → Bool := fun _ ds => decide (uptoBulkAll ds ≤ 1048576)
def OpenSpec.upto (s : _root_.Go.ChangeSpec) : _root_.Go.OpenSpec := { _root_.Go.OpenSpec.ofChange s with cond := some uptoSmall }

/-- 'laws.FnDet', WHERE WHAT IT READS IS OF BULK AT MOST 1048576: true; the input reads as it did. -/
def fnDetUptoRow : OpenClaim := { program := "ytcpdoafoahaagaa", sum := "be7f52bacf5b69c2eff2f274d470a9605f9625226eeab6cd0349114d3a20bcd0", func := "loop.example/g00615/laws.FnDet", spec := "fnDet", unfollowed := true, recurses := true, apart := false, narrowed := true }
def FnDetUptoSaid : Prop := fnDetUptoRow.holds Try.pinned (OpenSpec.upto fnDetSpec)

/-- 'laws.FnExactDetOf', WHERE WHAT IT READS IS OF BULK AT MOST 1048576: true; the input reads as it did. -/
def fnExactDetOfUptoRow : OpenClaim := { program := "ytcpdoafoahaagaa", sum := "be7f52bacf5b69c2eff2f274d470a9605f9625226eeab6cd0349114d3a20bcd0", func := "loop.example/g00615/laws.FnExactDetOf", spec := "fnExactDetOf", unfollowed := true, recurses := true, apart := false, narrowed := true }
def FnExactDetOfUptoSaid : Prop := fnExactDetOfUptoRow.holds Try.pinned (OpenSpec.upto fnExactDetOfSpec)

/-- 'laws.FnExactIsPositive', WHERE WHAT IT READS IS OF BULK AT MOST 1048576: true; the input reads as it did. -/
def fnExactIsPositiveUptoRow : OpenClaim := { program := "ytcpdoafoahaagaa", sum := "be7f52bacf5b69c2eff2f274d470a9605f9625226eeab6cd0349114d3a20bcd0", func := "loop.example/g00615/laws.FnExactIsPositive", spec := "fnExactIsPositive", unfollowed := true, recurses := true, apart := false, narrowed := true }
def FnExactIsPositiveUptoSaid : Prop := fnExactIsPositiveUptoRow.holds Try.pinned (OpenSpec.upto fnExactIsPositiveSpec)

/-- 'laws.FnExactHasBox', WHERE WHAT IT READS IS OF BULK AT MOST 1048576: true; the input reads as it did. -/
def fnExactHasBoxUptoRow : OpenClaim := { program := "ytcpdoafoahaagaa", sum := "be7f52bacf5b69c2eff2f274d470a9605f9625226eeab6cd0349114d3a20bcd0", func := "loop.example/g00615/laws.FnExactHasBox", spec := "fnExactHasBox", unfollowed := true, recurses := true, apart := false, narrowed := true }
def FnExactHasBoxUptoSaid : Prop := fnExactHasBoxUptoRow.holds Try.pinned (OpenSpec.upto fnExactHasBoxSpec)

end Rows
end Go.Proofs.Ytcpdoafoahaagaa
