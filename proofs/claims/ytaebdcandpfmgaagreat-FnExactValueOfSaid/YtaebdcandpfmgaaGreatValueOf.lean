/- The statement FnExactValueOfSaid is proved: for every input the call returns true and each argument reads afterwards as it read before. Conditions: those that the row itself states; none of my own. -/
import Derived.Test.YtaebdcandpfmgaaGreatRows
import Derived.WalkKit
import Derived.ProofKit
import Derived.Test.YtaebdcandpfmgaaGreatEf
import Derived.Test.YtaebdcandpfmgaaGreatVd
set_option linter.all false
set_option linter.unusedVariables false
set_option linter.unusedSimpArgs false
namespace Go.Proofs.YtaebdcandpfmgaaGreat
open Go.Ev Go.ChangeShapes Go.WideShapes Go.ChangeAt Go.RowKit

theorem U6 : ownKnob Tryz.prog.godebug = none := by kernel_rfl
theorem T5 : laidOutB Tryz.prog = true := by kernel_rfl
set_option maxRecDepth 100000 in
theorem Oa (os : Os) (started : os.Started) (H : Type) (enc : TypeId × Value -> H) :
    ReturnsInHanded {} Tryz.checked os 5 .any (Rows.fnExactValueOfSpec.pre6 enc Tryz.prog Tryz.f5 Rows.fnExactValueOfRow.domain false) (Rows.fnExactValueOfSpec.post enc Tryz.prog Tryz.f5 false true false false) := by
  refine returnsInHanded_of_change_sized (C := Tryz.checked) U6 started (by kernel_rfl) Tryz.func5
    (ChangeSpec.witness6 (enc := enc) (C := Tryz.checked) false ⟨#[], #[.agg #[.slice none 0 0], .slice none 0 0], []⟩ 8 (by kernel_rfl) (by kernel_rfl) (by kernel_rfl) (by kernel_rfl)) ?_
  intro W base args ds gs before hval0 hW hcnd hsz0 _; have hval : ∀ (j : Nat) t v, Tryz.f5.params[j]? = some t -> args[j]? = some v -> Value.okWide Tryz.prog W .any base t v := hval0; have hW' := hW; obtain ⟨p, q, hA0, hV, rfl, hfz, hnd⟩ := hW; have hA : DataW.TrodAll enc Tryz.prog W 0 (fun _ => true) true Tryz.f5.params.toList args.toList ds p := hA0
  obtain ⟨x, hx, hr⟩ := Yh [hE, hRs] Tryz.f5.params.toList args.toList ds p (by kernel_rfl) hA (fun j t v ht hv => hval j t v (by rw [<- XW]; exact ht) (by rw [<- XW]; exact hv))
  refine (Ans (B84 68719476736) (x := x) (B85 hx.1.1 ⟨hx.2.1, fun y hy => ⟨(hx.2.2 y hy).2.1.1, (hx.2.2 y hy).2.2.1⟩⟩ (ZA _)) hr).mono fun e W' ⟨he, hb⟩ => ?_; subst he
  obtain rfl : gs = [] := by
    cases gs with
    | nil => rfl
    | cons => exact hV.elim
  obtain ⟨d0, d1, hds⟩ : ∃ d0 d1, ds = [d0, d1] := by
    rw [Tryz.params5] at hA; obtain ⟨v0, vs0, d0, ds0, a0, b0, _, rfl, _, _, r0⟩ := trodAll_cons hA; obtain ⟨v1, vs1, d1, ds1, a1, b1, _, rfl, _, _, r1⟩ := trodAll_cons r0; obtain ⟨_, rfl, _⟩ := trodAll_nil r1; exact ⟨d0, d1, rfl⟩
  exact ⟨_, rfl, Aja T5 (by kernel_rfl) rfl hW' hb rfl Tryz.underlying4 (by subst hds; rfl)⟩

theorem fnExactValueOf_holds : Rows.FnExactValueOfSaid :=
  OpenClaim.holds_of_wide 5 Tryz.f5 rfl rfl rfl rfl rfl rfl rfl ⟨rfl, rfl, rfl, rfl, rfl⟩ rfl rfl rfl rfl rfl (by kernel_rfl) Tryz.func5 (by kernel_rfl)
    (KU (by kernel_rfl)) (by unfold Func.isWrapper; first | (rw [QL (by decide +kernel)]; kernel_rfl) | (rw [QJ (by decide +kernel)]; exact ⟨rfl, rfl⟩))
    (fun os started H enc _ => Oa os started H enc)

#print axioms fnExactValueOf_holds
end Go.Proofs.YtaebdcandpfmgaaGreat
