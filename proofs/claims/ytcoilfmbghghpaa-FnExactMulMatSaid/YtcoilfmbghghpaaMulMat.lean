/- The statement FnExactMulMatSaid is proved: for every input the call returns true and each argument reads afterwards as it read before. Conditions: those that the row itself states; none of my own. -/
import Derived.Test.YtcoilfmbghghpaaRows
import Derived.WalkKit
import Derived.ProofKit
import Derived.Test.YtcoilfmbghghpaaEf
import Derived.Test.YtcoilfmbghghpaaPxd
set_option linter.all false
set_option linter.unusedVariables false
set_option linter.unusedSimpArgs false
namespace Go.Proofs.Ytcoilfmbghghpaa
open Go.Ev Go.ChangeShapes Go.WideShapes Go.ChangeAt Go.RowKit

theorem fnExactMulMat_own : ownKnob Try.prog.godebug = none := by kernel_rfl
theorem fnExactMulMat_laid : laidOutB Try.prog = true := by kernel_rfl
set_option maxRecDepth 100000 in
theorem fnExactMulMat_lifted (os : Os) (started : os.Started) (H : Type) (enc : TypeId × Value → H) :
    ReturnsInHanded {} Try.checked os 10 .any (Rows.fnExactMulMatSpec.pre6 enc Try.prog Try.f10 Rows.fnExactMulMatRow.domain false) (Rows.fnExactMulMatSpec.post enc Try.prog Try.f10 false true false false) := by
  refine returnsInHanded_of_change_sized (C := Try.checked) fnExactMulMat_own started (by kernel_rfl) Try.func10
    (ChangeSpec.witness6 (enc := enc) (C := Try.checked) false ⟨#[], #[.slice none 0 0, .slice none 0 0, .int .i64 0], []⟩ 8 (by kernel_rfl) (by kernel_rfl) (by kernel_rfl) (by kernel_rfl)) ?_
  intro W base args ds gs before hval0 hW hcnd hsz0 _
  have hval : ∀ (j : Nat) t v, Try.f10.params[j]? = some t → args[j]? = some v → Value.okWide Try.prog W .any base t v := hval0
  have hW' := hW
  obtain ⟨p, q, hA0, hV, rfl, hfz, hnd⟩ := hW
  have hA : DataW.TrodAll enc Try.prog W 0 (fun _ => true) true Try.f10.params.toList args.toList ds p := hA0
  obtain ⟨x, hx, hr⟩ := args_of_row [hRs, hRs, hI] Try.f10.params.toList args.toList ds p (by kernel_rfl) hA (fun j t v ht hv => hval j t v (by rw [← Array.getElem?_toList]; exact ht) (by rw [← Array.getElem?_toList]; exact hv))
  refine (law_calls (f10_ok 1048577) (x := x) (f10_eq ⟨hx.1.1, fun y hy => ⟨(hx.1.2 y hy).2.1.1, (hx.1.2 y hy).2.2.1⟩⟩ ⟨hx.2.1.1, fun y hy => ⟨(hx.2.1.2 y hy).2.1.1, (hx.2.1.2 y hy).2.2.1⟩⟩ (Nat.le_refl _)) hr).mono fun e W' ⟨he, hb⟩ => ?_
  subst he
  obtain rfl : gs = [] := by
    cases gs with
    | nil => rfl
    | cons => exact hV.elim
  obtain ⟨d0, d1, d2, hds⟩ : ∃ d0 d1 d2, ds = [d0, d1, d2] := by
    rw [Try.params10] at hA
    obtain ⟨v0, vs0, d0, ds0, a0, b0, _, rfl, _, _, r0⟩ := trodAll_cons hA
    obtain ⟨v1, vs1, d1, ds1, a1, b1, _, rfl, _, _, r1⟩ := trodAll_cons r0
    obtain ⟨v2, vs2, d2, ds2, a2, b2, _, rfl, _, _, r2⟩ := trodAll_cons r1
    obtain ⟨_, rfl, _⟩ := trodAll_nil r2
    exact ⟨d0, d1, d2, rfl⟩
  exact ⟨_, rfl, post_below fnExactMulMat_laid (by kernel_rfl) rfl hW' hb rfl Try.underlying4 (by subst hds; rfl)⟩

theorem fnExactMulMat_holds : Rows.FnExactMulMatSaid :=
  OpenClaim.holds_of_wide 10 Try.f10 rfl rfl rfl rfl rfl rfl rfl ⟨rfl, rfl, rfl, rfl, rfl⟩ rfl rfl rfl rfl rfl (by kernel_rfl) Try.func10 (by kernel_rfl)
    (of_decide_eq_true (by kernel_rfl)) (by unfold Func.isWrapper; first | (rw [if_pos (by decide +kernel)]; kernel_rfl) | (rw [if_neg (by decide +kernel)]; exact ⟨rfl, rfl⟩))
    (fun os started H enc _ => fnExactMulMat_lifted os started H enc)

#print axioms fnExactMulMat_holds
end Go.Proofs.Ytcoilfmbghghpaa
