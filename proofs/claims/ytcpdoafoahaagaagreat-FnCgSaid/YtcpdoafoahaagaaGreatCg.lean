/- The statement FnCgSaid is proved: for every input the call returns true and each argument reads afterwards as it read before. Conditions: those that the row itself states; none of my own. -/
import Derived.Test.YtcpdoafoahaagaaGreatRows
import Derived.WalkKit
import Derived.ProofKit
import Derived.Test.YtcpdoafoahaagaaGreatEf
import Derived.Test.YtcpdoafoahaagaaGreatUe
set_option linter.all false
set_option linter.unusedVariables false
set_option linter.unusedSimpArgs false
namespace Go.Proofs.YtcpdoafoahaagaaGreat
open Go.Ev Go.ChangeShapes Go.WideShapes Go.ChangeAt Go.RowKit

theorem Axw : ownKnob Tryz.prog.godebug = none := by kernel_rfl
theorem Ar1 : laidOutB Tryz.prog = true := by kernel_rfl
set_option maxRecDepth 100000 in
theorem Ai9 (os : Os) (started : os.Started) (H : Type) (enc : TypeId × Value → H) :
    ReturnsInHanded {} Tryz.checked os 6 .any (Rows.fnCgSpec.pre6 enc Tryz.prog Tryz.f6 Rows.fnCgRow.domain false) (Rows.fnCgSpec.post enc Tryz.prog Tryz.f6 false true false false) := by
  refine returnsInHanded_of_change_sized (C := Tryz.checked) Axw started (by kernel_rfl) Tryz.func6
    (ChangeSpec.witness6 (enc := enc) (C := Tryz.checked) false ⟨#[], #[.slice none 0 0, .slice none 0 0], []⟩ 8 (by kernel_rfl) (by kernel_rfl) (by kernel_rfl) (by kernel_rfl)) ?_
  intro W base args ds gs before hval0 hW hcnd hsz0 _
  have hval : ∀ (j : Nat) t v, Tryz.f6.params[j]? = some t → args[j]? = some v → Value.okWide Tryz.prog W .any base t v := hval0
  have hW' := hW
  obtain ⟨p, q, hA0, hV, rfl, hfz, hnd⟩ := hW
  have hA : DataW.TrodAll enc Tryz.prog W 0 (fun _ => true) true Tryz.f6.params.toList args.toList ds p := hA0
  obtain ⟨x, hx, hr⟩ := A0h [.sl (.int .u8), .sl (.int .u8)] Tryz.f6.params.toList args.toList ds p (by kernel_rfl) hA (fun j t v ht hv => hval j t v (by rw [← Array.getElem?_toList]; exact ht) (by rw [← Array.getElem?_toList]; exact hv))
  refine (Aqt (B9f 34359738368) (x := x) (B9g (fun y hy => hx.1.2 y hy) (fun y hy => hx.2.2 y hy) (Nat.le_refl _)) hr).mono fun e W' ⟨he, hb⟩ => ?_
  subst he
  obtain rfl : gs = [] := by
    cases gs with
    | nil => rfl
    | cons => exact hV.elim
  obtain ⟨d0, d1, hds⟩ : ∃ d0 d1, ds = [d0, d1] := by
    rw [Tryz.params6] at hA
    obtain ⟨v0, vs0, d0, ds0, a0, b0, _, rfl, _, _, r0⟩ := trodAll_cons hA
    obtain ⟨v1, vs1, d1, ds1, a1, b1, _, rfl, _, _, r1⟩ := trodAll_cons r0
    obtain ⟨_, rfl, _⟩ := trodAll_nil r1
    exact ⟨d0, d1, rfl⟩
  exact ⟨_, rfl, Alp Ar1 (by kernel_rfl) rfl hW' hb rfl Tryz.underlying4 (by subst hds; rfl)⟩

theorem fnCg_holds : Rows.FnCgSaid :=
  OpenClaim.holds_of_wide 6 Tryz.f6 rfl rfl rfl rfl rfl rfl rfl ⟨rfl, rfl, rfl, rfl, rfl⟩ rfl rfl rfl rfl rfl (by kernel_rfl) Tryz.func6 (by kernel_rfl)
    (of_decide_eq_true (by kernel_rfl)) (by unfold Func.isWrapper; first | (rw [if_pos (by decide +kernel)]; kernel_rfl) | (rw [if_neg (by decide +kernel)]; exact ⟨rfl, rfl⟩))
    (fun os started H enc _ => Ai9 os started H enc)

#print axioms fnCg_holds
end Go.Proofs.YtcpdoafoahaagaaGreat
