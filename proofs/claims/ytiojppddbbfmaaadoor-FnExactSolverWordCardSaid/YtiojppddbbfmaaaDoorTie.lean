/-
  DERIVED. GIVEN WITH THE SEED: THE PROGRAM's TIES (one call each: nine closed facts by the kernel) AND EACH ROW's TIE, after the 31st guide's Derived/Test/Toyas{Tie, Card}.lean. No idea stands in it: it is a product of the set-up. Laid BY PROGRAM, IN A SANDBOX (cutbox-door.mjs). By AI agents, Wed Nov 11 2026. No macro, syntax, notation, axiom, sorry.
-/
import Derived.Test.YtiojppddbbfmaaaDoorRows
import Derived.LaidByTextLater
import Derived.SevenTiedAt
import Derived.LaidSub
import Derived.LaidOnce
namespace Go.Proofs.YtiojppddbbfmaaaDoor
open Go
set_option maxRecDepth 100000
theorem seatTie1 : Tryd.prog.laidByTextLater [("loop.example/g00615/impl.solverWords", Rows.laid_loop_example_g00615_impl_solverWords), ("loop.example/g00615/impl.statusWords", Rows.laid_loop_example_g00615_impl_statusWords)] [.widerDeep, .widerDeep] true :=
  Program.laidByTextLater_by_one 19 8 8 (by kernel_rfl) (by kernel_rfl) (by kernel_rfl) (by kernel_rfl) (by kernel_rfl) (by kernel_rfl) (fun _ _ => by kernel_rfl)
theorem noOwnUnsafe : Tryd.pinned.checked.prog.headLifts.contains "ownunsafe" = false := by kernel_rfl
theorem tie : Tryd.prog.laidByTextLater [("loop.example/g00615/impl.solverWords", Rows.laid_loop_example_g00615_impl_solverWords)] [.widerDeep] true :=
  Program.laidByTextLater.sub seatTie1 ["loop.example/g00615/impl.solverWords"] (by kernel_rfl) (by kernel_rfl)
theorem fnExactSolverWord_row_tie : Rows.fnExactSolverWordRow.laidByTextAt .later Tryd.pinned [.widerDeep] true :=
  OpenClaim.laidByTextAt_later rfl rfl tie noOwnUnsafe
theorem tie2 : Tryd.prog.laidByTextLater [("loop.example/g00615/impl.statusWords", Rows.laid_loop_example_g00615_impl_statusWords)] [.widerDeep] true :=
  Program.laidByTextLater.sub seatTie1 ["loop.example/g00615/impl.statusWords"] (by kernel_rfl) (by kernel_rfl)
theorem fnExactStatusWord_row_tie : Rows.fnExactStatusWordRow.laidByTextAt .later Tryd.pinned [.widerDeep] true :=
  OpenClaim.laidByTextAt_later rfl rfl tie2 noOwnUnsafe
theorem fnExactSolverWordUpto_row_tie : Rows.fnExactSolverWordUptoRow.laidByTextAt .later Tryd.pinned [.widerDeep] true :=
  OpenClaim.laidByTextAt_later rfl rfl tie noOwnUnsafe
theorem fnExactStatusWordUpto_row_tie : Rows.fnExactStatusWordUptoRow.laidByTextAt .later Tryd.pinned [.widerDeep] true :=
  OpenClaim.laidByTextAt_later rfl rfl tie2 noOwnUnsafe
end Go.Proofs.YtiojppddbbfmaaaDoor
