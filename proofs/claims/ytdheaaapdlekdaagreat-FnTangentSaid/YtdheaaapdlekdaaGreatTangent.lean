/- The statement FnTangentSaid is proved: for every input the call returns true and each argument reads afterwards as it read before. Conditions: those that the row itself states; none of my own. -/
import Derived.Test.YtdheaaapdlekdaaGreatRows
import Derived.WalkKit
import Derived.ProofKit
import Derived.Test.YtdheaaapdlekdaaGreatEf
import Derived.Test.YtdheaaapdlekdaaGreatTg
set_option linter.all false
set_option linter.unusedVariables false
set_option linter.unusedSimpArgs false
namespace Go.Proofs.YtdheaaapdlekdaaGreat
open Go.Ev Go.ChangeShapes Go.WideShapes Go.ChangeAt Go.RowKit

theorem Adp:ownKnob Tryz.prog.godebug=none:=by kernel_rfl
theorem A90:laidOutB Tryz.prog=true:=by kernel_rfl
set_option maxRecDepth 100000 in
theorem A27 (os : Os) (started : os.Started) (H : Type) (enc : TypeId × Value -> H) :
    ReturnsInHanded {} Tryz.checked os 7 .any (Rows.fnTangentSpec.pre6 enc Tryz.prog Tryz.f7 Rows.fnTangentRow.domain false) (Rows.fnTangentSpec.post enc Tryz.prog Tryz.f7 false true false false):=by
  refine returnsInHanded_of_change_sized (C:=Tryz.checked) Adp started (by kernel_rfl) Tryz.func7
    (ChangeSpec.witness6 (enc:=enc) (C:=Tryz.checked) false ⟨#[],#[.slice none 0 0,.slice none 0 0],[]⟩ 8 (by kernel_rfl) (by kernel_rfl) (by kernel_rfl) (by kernel_rfl)) ?_
  intro W base args ds gs before hval0 hW hcnd hsz0 _;have hval:∀ (j:Nat) t v,Tryz.f7.params[j]? = some t->args[j]? = some v->Value.okWide Tryz.prog W .any base t v:=hval0;have hW':=hW;obtain ⟨p,q,hA0,hV,rfl,hfz,hnd⟩:=hW;have hA:DataW.TrodAll enc Tryz.prog W 0 (λ_=>true) true Tryz.f7.params.toList args.toList ds p:=hA0
  obtain ⟨x,hx,hr⟩:=A1t [.sl (.int .u8),.sl (.int .u8)] Tryz.f7.params.toList args.toList ds p (by kernel_rfl) hA (λj t v ht hv=>hval j t v (by rw [<- YM];exact ht) (by rw [<- YM];exact hv))
  refine (Aul (Bhf 68719476736) (x:=x) (Bhg (λy hy=>hx.1.2 y hy) (λy hy=>hx.2.2 y hy) (ZG _)) hr).mono λe W' ⟨he,hb⟩=>?_;subst he
  obtain rfl:gs=[]:=by
    cases gs with
    | nil=>rfl
    | cons=>exact hV.elim
  obtain ⟨d0,d1,hds⟩:∃ d0 d1,ds=[d0,d1]:=by
    rw [Tryz.params7] at hA;obtain ⟨v0,vs0,d0,ds0,a0,b0,_,rfl,_,_,r0⟩:=trodAll_cons hA;obtain ⟨v1,vs1,d1,ds1,a1,b1,_,rfl,_,_,r1⟩:=trodAll_cons r0;obtain ⟨_,rfl,_⟩:=trodAll_nil r1;exact ⟨d0,d1,rfl⟩
  exact ⟨_,rfl,Apn A90 (by kernel_rfl) rfl hW' hb rfl Tryz.underlying4 (by subst hds;rfl)⟩

theorem fnTangent_holds:Rows.FnTangentSaid :=
  OpenClaim.holds_of_wide 7 Tryz.f7 rfl rfl rfl rfl rfl rfl rfl ⟨rfl,rfl,rfl,rfl,rfl⟩ rfl rfl rfl rfl rfl (by kernel_rfl) Tryz.func7 (by kernel_rfl)
    (Qau (by kernel_rfl)) (by unfold Func.isWrapper;first | (rw [QG (by decide +kernel)];kernel_rfl) | (rw [QI (by decide +kernel)];exact ⟨rfl,rfl⟩))
    (λos started H enc _=>A27 os started H enc)

#print axioms fnTangent_holds
end Go.Proofs.YtdheaaapdlekdaaGreat
