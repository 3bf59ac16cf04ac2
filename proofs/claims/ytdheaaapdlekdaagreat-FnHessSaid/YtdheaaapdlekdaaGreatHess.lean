/- The statement FnHessSaid is proved: for every input the call returns true and each argument reads afterwards as it read before. Conditions: those that the row itself states; none of my own. -/
import Derived.Test.YtdheaaapdlekdaaGreatRows
import Derived.WalkKit
import Derived.ProofKit
import Derived.Test.YtdheaaapdlekdaaGreatEf
import Derived.Test.YtdheaaapdlekdaaGreatHg
set_option linter.all false
set_option linter.unusedVariables false
set_option linter.unusedSimpArgs false
namespace Go.Proofs.YtdheaaapdlekdaaGreat
open Go.Ev Go.ChangeShapes Go.WideShapes Go.ChangeAt Go.RowKit

theorem Ao9:ownKnob Tryz.prog.godebug=none:=by kernel_rfl
theorem Ajs:laidOutB Tryz.prog=true:=by kernel_rfl
set_option maxRecDepth 100000 in
theorem Acq (os : Os) (started : os.Started) (H : Type) (enc : TypeId × Value -> H) :
    ReturnsInHanded {} Tryz.checked os 6 .any (Rows.fnHessSpec.pre6 enc Tryz.prog Tryz.f6 Rows.fnHessRow.domain false) (Rows.fnHessSpec.post enc Tryz.prog Tryz.f6 false true false false):=by
  refine returnsInHanded_of_change_sized (C:=Tryz.checked) Ao9 started (by kernel_rfl) Tryz.func6
    (ChangeSpec.witness6 (enc:=enc) (C:=Tryz.checked) false ⟨#[],#[.slice none 0 0,.slice none 0 0],[]⟩ 8 (by kernel_rfl) (by kernel_rfl) (by kernel_rfl) (by kernel_rfl)) ?_
  intro W base args ds gs before hval0 hW hcnd hsz0 _;have hval:∀ (j:Nat) t v,Tryz.f6.params[j]? = some t->args[j]? = some v->Value.okWide Tryz.prog W .any base t v:=hval0;have hW':=hW;obtain ⟨p,q,hA0,hV,rfl,hfz,hnd⟩:=hW;have hA:DataW.TrodAll enc Tryz.prog W 0 (λ_=>true) true Tryz.f6.params.toList args.toList ds p:=hA0
  obtain ⟨x,hx,hr⟩:=A1l [.sl (.int .u8),.sl (.int .u8)] Tryz.f6.params.toList args.toList ds p (by kernel_rfl) hA (λj t v ht hv=>hval j t v (by rw [<- YN];exact ht) (by rw [<- YN];exact hv))
  refine (Asj (Bby 68719476736) (x:=x) (Bbz (λy hy=>hx.1.2 y hy) (λy hy=>hx.2.2 y hy) (QZ _)) hr).mono λe W' ⟨he,hb⟩=>?_;subst he
  obtain rfl:gs=[]:=by
    cases gs with
    | nil=>rfl
    | cons=>exact hV.elim
  obtain ⟨d0,d1,hds⟩:∃ d0 d1,ds=[d0,d1]:=by
    rw [Tryz.params6] at hA;obtain ⟨v0,vs0,d0,ds0,a0,b0,_,rfl,_,_,r0⟩:=trodAll_cons hA;obtain ⟨v1,vs1,d1,ds1,a1,b1,_,rfl,_,_,r1⟩:=trodAll_cons r0;obtain ⟨_,rfl,_⟩:=trodAll_nil r1;exact ⟨d0,d1,rfl⟩
  exact ⟨_,rfl,Anr Ajs (by kernel_rfl) rfl hW' hb rfl Tryz.underlying4 (by subst hds;rfl)⟩

theorem fnHess_holds:Rows.FnHessSaid :=
  OpenClaim.holds_of_wide 6 Tryz.f6 rfl rfl rfl rfl rfl rfl rfl ⟨rfl,rfl,rfl,rfl,rfl⟩ rfl rfl rfl rfl rfl (by kernel_rfl) Tryz.func6 (by kernel_rfl)
    (Qat (by kernel_rfl)) (by unfold Func.isWrapper;first | (rw [QJ (by decide +kernel)];kernel_rfl) | (rw [QH (by decide +kernel)];exact ⟨rfl,rfl⟩))
    (λos started H enc _=>Acq os started H enc)

#print axioms fnHess_holds
end Go.Proofs.YtdheaaapdlekdaaGreat
