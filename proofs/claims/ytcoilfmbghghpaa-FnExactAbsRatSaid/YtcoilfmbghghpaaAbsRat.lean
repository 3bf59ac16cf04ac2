/- The statement FnExactAbsRatSaid is proved: for every input the call returns true and each argument reads afterwards as it read before. Conditions: those that the row itself states; none of my own. -/
import Derived.Test.YtcoilfmbghghpaaRows
import Derived.WalkKit
import Derived.ProofKit
import Derived.Test.YtcoilfmbghghpaaEf
import Derived.Test.YtcoilfmbghghpaaOa
set_option linter.all false
set_option linter.unusedVariables false
set_option linter.unusedSimpArgs false
namespace Go.Proofs.Ytcoilfmbghghpaa
open Go.Ev Go.ChangeShapes Go.WideShapes Go.ChangeAt Go.RowKit

theorem fnExactAbsRat_own : ownKnob Try.prog.godebug = none := by kernel_rfl
theorem fnExactAbsRat_laid : laidOutB Try.prog = true := by kernel_rfl
set_option maxRecDepth 100000 in
theorem fnExactAbsRat_lifted (os : Os) (started : os.Started) (H : Type) (enc : TypeId × Value → H) :
    ReturnsInHanded {} Try.checked os 4 .any (Rows.fnExactAbsRatSpec.pre6 enc Try.prog Try.f4 Rows.fnExactAbsRatRow.domain false) (Rows.fnExactAbsRatSpec.post enc Try.prog Try.f4 false true false false) := by
  refine returnsInHanded_of_change_sized (C := Try.checked) fnExactAbsRat_own started (by kernel_rfl) Try.func4
    (ChangeSpec.witness6 (enc := enc) (C := Try.checked) false ⟨#[], #[.agg #[.bool false, .slice none 0 0, .slice none 0 0]], []⟩ 8 (by kernel_rfl) (by kernel_rfl) (by kernel_rfl) (by kernel_rfl)) ?_
  intro W base args ds gs before hval0 hW hcnd hsz0 _
  have hval : ∀ (j : Nat) t v, Try.f4.params[j]? = some t → args[j]? = some v → Value.okWide Try.prog W .any base t v := hval0
  have hW' := hW
  obtain ⟨p, q, hA0, hV, rfl, hfz, hnd⟩ := hW
  have hA : DataW.TrodAll enc Try.prog W 0 (fun _ => true) true Try.f4.params.toList args.toList ds p := hA0
  obtain ⟨x, hx, hr⟩ := args_of_row [hR] Try.f4.params.toList args.toList ds p (by kernel_rfl) hA (fun j t v ht hv => hval j t v (by rw [← Array.getElem?_toList]; exact ht) (by rw [← Array.getElem?_toList]; exact hv))
  refine (law_calls (f4_ok 1048577) (x := x) (f4_eq ⟨hx.2.1.1, hx.2.2.1⟩ (Nat.le_refl _)) hr).mono fun e W' ⟨he, hb⟩ => ?_
  subst he
  obtain rfl : gs = [] := by
    cases gs with
    | nil => rfl
    | cons => exact hV.elim
  obtain ⟨d0, hds⟩ : ∃ d0, ds = [d0] := by
    rw [Try.params4] at hA
    obtain ⟨v0, vs0, d0, ds0, a0, b0, _, rfl, _, _, r0⟩ := trodAll_cons hA
    obtain ⟨_, rfl, _⟩ := trodAll_nil r0
    exact ⟨d0, rfl⟩
  exact ⟨_, rfl, post_below fnExactAbsRat_laid (by kernel_rfl) rfl hW' hb rfl Try.underlying4 (by subst hds; rfl)⟩

theorem fnExactAbsRat_holds : Rows.FnExactAbsRatSaid :=
  OpenClaim.holds_of_wide 4 Try.f4 rfl rfl rfl rfl rfl rfl rfl ⟨rfl, rfl, rfl, rfl, rfl⟩ rfl rfl rfl rfl rfl (by kernel_rfl) Try.func4 (by kernel_rfl)
    (of_decide_eq_true (by kernel_rfl)) (by unfold Func.isWrapper; first | (rw [if_pos (by decide +kernel)]; kernel_rfl) | (rw [if_neg (by decide +kernel)]; exact ⟨rfl, rfl⟩))
    (fun os started H enc _ => fnExactAbsRat_lifted os started H enc)

#print axioms fnExactAbsRat_holds
end Go.Proofs.Ytcoilfmbghghpaa
