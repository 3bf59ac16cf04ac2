/- The statement FnReverseSaid is proved: for every input the call returns true and each argument reads afterwards as it read before. Conditions: those that the row itself states; none of my own. -/
import Derived.Test.YtdheaaapdlekdaaGreatRows
import Derived.WalkKit
import Derived.ProofKit
import Derived.Test.YtdheaaapdlekdaaGreatEf
import Derived.Test.YtdheaaapdlekdaaGreatVg
set_option linter.all false
set_option linter.unusedVariables false
set_option linter.unusedSimpArgs false
namespace Go.Proofs.YtdheaaapdlekdaaGreat
open Go.Ev Go.ChangeShapes Go.WideShapes Go.ChangeAt Go.RowKit

theorem Aky:ownKnob Tryz.prog.godebug=none:=by kernel_rfl
theorem Afu:laidOutB Tryz.prog=true:=by kernel_rfl
set_option maxRecDepth 100000 in
theorem A88 (os : Os) (started : os.Started) (H : Type) (enc : TypeId × Value -> H) :
    ReturnsInHanded {} Tryz.checked os 4 .any (Rows.fnReverseSpec.pre6 enc Tryz.prog Tryz.f4 Rows.fnReverseRow.domain false) (Rows.fnReverseSpec.post enc Tryz.prog Tryz.f4 false true false false):=by
  refine returnsInHanded_of_change_sized (C:=Tryz.checked) Aky started (by kernel_rfl) Tryz.func4
    (ChangeSpec.witness6 (enc:=enc) (C:=Tryz.checked) false ⟨#[],#[.slice none 0 0,.slice none 0 0],[]⟩ 8 (by kernel_rfl) (by kernel_rfl) (by kernel_rfl) (by kernel_rfl)) ?_
  intro W base args ds gs before hval0 hW hcnd hsz0 _;have hval:∀ (j:Nat) t v,Tryz.f4.params[j]? = some t->args[j]? = some v->Value.okWide Tryz.prog W .any base t v:=hval0;have hW':=hW;obtain ⟨p,q,hA0,hV,rfl,hfz,hnd⟩:=hW;have hA:DataW.TrodAll enc Tryz.prog W 0 (λ_=>true) true Tryz.f4.params.toList args.toList ds p:=hA0
  obtain ⟨x,hx,hr⟩:=A7k [.sl (.int .u8),.sl (.int .u8)] Tryz.f4.params.toList args.toList ds p (by kernel_rfl) hA (λj t v ht hv=>hval j t v (by rw [<- YO];exact ht) (by rw [<- YO];exact hv))
  refine (B4n (Brl 68719476736) (x:=x) (Brm (λy hy=>hx.1.2 y hy) (λy hy=>hx.2.2 y hy) (ZF _)) hr).mono λe W' ⟨he,hb⟩=>?_;subst he
  obtain rfl:gs=[]:=by
    cases gs with
    | nil=>rfl
    | cons=>exact hV.elim
  obtain ⟨d0,d1,hds⟩:∃ d0 d1,ds=[d0,d1]:=by
    rw [Tryz.params4] at hA;obtain ⟨v0,vs0,d0,ds0,a0,b0,_,rfl,_,_,r0⟩:=trodAll_cons hA;obtain ⟨v1,vs1,d1,ds1,a1,b1,_,rfl,_,_,r1⟩:=trodAll_cons r0;obtain ⟨_,rfl,_⟩:=trodAll_nil r1;exact ⟨d0,d1,rfl⟩
  exact ⟨_,rfl,Az8 Afu (by kernel_rfl) rfl hW' hb rfl Tryz.underlying4 (by subst hds;rfl)⟩

theorem fnReverse_holds:Rows.FnReverseSaid :=
  OpenClaim.holds_of_wide 4 Tryz.f4 rfl rfl rfl rfl rfl rfl rfl ⟨rfl,rfl,rfl,rfl,rfl⟩ rfl rfl rfl rfl rfl (by kernel_rfl) Tryz.func4 (by kernel_rfl)
    (Qaa (by kernel_rfl)) (by unfold Func.isWrapper;first | (rw [QC (by decide +kernel)];kernel_rfl) | (rw [QB (by decide +kernel)];exact ⟨rfl,rfl⟩))
    (λos started H enc _=>A88 os started H enc)

#print axioms fnReverse_holds
end Go.Proofs.YtdheaaapdlekdaaGreat
