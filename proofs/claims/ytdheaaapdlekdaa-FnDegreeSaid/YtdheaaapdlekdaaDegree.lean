/- The statement FnDegreeSaid is proved: for every input the call returns true and each argument reads afterwards as it read before. Conditions: those that the row itself states; none of my own. -/
import Derived.Test.YtdheaaapdlekdaaRows
import Derived.WalkKit
import Derived.ProofKit
import Derived.Test.YtdheaaapdlekdaaEf
import Derived.Test.YtdheaaapdlekdaaDb
set_option linter.all false
set_option linter.unusedVariables false
set_option linter.unusedSimpArgs false
namespace Go.Proofs.Ytdheaaapdlekdaa
open Go.Ev Go.ChangeShapes Go.WideShapes Go.ChangeAt Go.RowKit

theorem Sr:ownKnob Try.prog.godebug=none:=by kernel_rfl
theorem Ra:laidOutB Try.prog=true:=by kernel_rfl
set_option maxRecDepth 100000 in
theorem Oc (os : Os) (started : os.Started) (H : Type) (enc : TypeId × Value -> H) :
    ReturnsInHanded {} Try.checked os 3 .any (Rows.fnDegreeSpec.pre6 enc Try.prog Try.f3 Rows.fnDegreeRow.domain false) (Rows.fnDegreeSpec.post enc Try.prog Try.f3 false true false false):=by
  refine returnsInHanded_of_change_sized (C:=Try.checked) Sr started (by kernel_rfl) Try.func3
    (ChangeSpec.witness6 (enc:=enc) (C:=Try.checked) false ⟨#[],#[.slice none 0 0],[]⟩ 8 (by kernel_rfl) (by kernel_rfl) (by kernel_rfl) (by kernel_rfl)) ?_
  intro W base args ds gs before hval0 hW hcnd hsz0 _;have hval:∀ (j:Nat) t v,Try.f3.params[j]? = some t->args[j]? = some v->Value.okWide Try.prog W .any base t v:=hval0;have hW':=hW;obtain ⟨p,q,hA0,hV,rfl,hfz,hnd⟩:=hW;have hA:DataW.TrodAll enc Try.prog W 0 (λ_=>true) true Try.f3.params.toList args.toList ds p:=hA0
  obtain ⟨x,hx,hr⟩:=N2 [.sl (.int .u8)] Try.f3.params.toList args.toList ds p (by kernel_rfl) hA (λj t v ht hv=>hval j t v (by rw [<- XK];exact ht) (by rw [<- XK];exact hv))
  refine (Xm (A3x 1048577) (x:=x) (A3y (ZH _) (λy hy=>hx.2 y hy)) hr).mono λe W' ⟨he,hb⟩=>?_;subst he
  obtain rfl:gs=[]:=by
    cases gs with
    | nil=>rfl
    | cons=>exact hV.elim
  obtain ⟨d0,hds⟩:∃ d0,ds=[d0]:=by
    rw [Try.params3] at hA;obtain ⟨v0,vs0,d0,ds0,a0,b0,_,rfl,_,_,r0⟩:=trodAll_cons hA;obtain ⟨_,rfl,_⟩:=trodAll_nil r0;exact ⟨d0,rfl⟩
  exact ⟨_,rfl,Vh Ra (by kernel_rfl) rfl hW' hb rfl Try.underlying4 (by subst hds;rfl)⟩

theorem fnDegree_holds:Rows.FnDegreeSaid :=
  OpenClaim.holds_of_wide 3 Try.f3 rfl rfl rfl rfl rfl rfl rfl ⟨rfl,rfl,rfl,rfl,rfl⟩ rfl rfl rfl rfl rfl (by kernel_rfl) Try.func3 (by kernel_rfl)
    (of_decide_eq_true (by kernel_rfl)) (by unfold Func.isWrapper;first | (rw [QJ (by decide +kernel)];kernel_rfl) | (rw [QK (by decide +kernel)];exact ⟨rfl,rfl⟩))
    (λos started H enc _=>Oc os started H enc)

#print axioms fnDegree_holds
end Go.Proofs.Ytdheaaapdlekdaa
