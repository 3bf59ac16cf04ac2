/- The statement FnTaylorSaid is proved: for every input the call returns true and each argument reads afterwards as it read before. Conditions: those that the row itself states; none of my own. -/
import Derived.Test.YtcpdoafoahaagaaGreatRows
import Derived.WalkKit
import Derived.ProofKit
import Derived.Test.YtcpdoafoahaagaaGreatEf
import Derived.Test.YtcpdoafoahaagaaGreatVe
set_option linter.all false
set_option linter.unusedVariables false
set_option linter.unusedSimpArgs false
namespace Go.Proofs.YtcpdoafoahaagaaGreat
open Go.Ev Go.ChangeShapes Go.WideShapes Go.ChangeAt Go.RowKit

theorem Acg:ownKnob Tryz.prog.godebug=none:=by kernel_rfl
theorem A9z:laidOutB Tryz.prog=true:=by kernel_rfl
set_option maxRecDepth 100000 in
theorem A3w (os : Os) (started : os.Started) (H : Type) (enc : TypeId × Value -> H) :
    ReturnsInHanded {} Tryz.checked os 9 .any (Rows.fnTaylorSpec.pre6 enc Tryz.prog Tryz.f9 Rows.fnTaylorRow.domain false) (Rows.fnTaylorSpec.post enc Tryz.prog Tryz.f9 false true false false):=by
  refine returnsInHanded_of_change_sized (C:=Tryz.checked) Acg started (by kernel_rfl) Tryz.func9
    (ChangeSpec.witness6 (enc:=enc) (C:=Tryz.checked) false ⟨#[],#[.slice none 0 0,.slice none 0 0],[]⟩ 8 (by kernel_rfl) (by kernel_rfl) (by kernel_rfl) (by kernel_rfl)) ?_
  intro W base args ds gs before hval0 hW hcnd hsz0 _;have hval:∀ (j:Nat) t v,Tryz.f9.params[j]? = some t->args[j]? = some v->Value.okWide Tryz.prog W .any base t v:=hval0;have hW':=hW;obtain ⟨p,q,hA0,hV,rfl,hfz,hnd⟩:=hW;have hA:DataW.TrodAll enc Tryz.prog W 0 (λ_=>true) true Tryz.f9.params.toList args.toList ds p:=hA0
  obtain ⟨x,hx,hr⟩:=Zs [.sl (.int .u8),.sl (.int .u8)] Tryz.f9.params.toList args.toList ds p (by kernel_rfl) hA (λj t v ht hv=>hval j t v (by rw [<- YI];exact ht) (by rw [<- YI];exact hv))
  refine (Aot (B6b 68719476736) (x:=x) (B6c (λy hy=>hx.1.2 y hy) (λy hy=>hx.2.2 y hy) (QZ _)) hr).mono λe W' ⟨he,hb⟩=>?_;subst he
  obtain rfl:gs=[]:=by
    cases gs with
    | nil=>rfl
    | cons=>exact hV.elim
  obtain ⟨d0,d1,hds⟩:∃ d0 d1,ds=[d0,d1]:=by
    rw [Tryz.params9] at hA;obtain ⟨v0,vs0,d0,ds0,a0,b0,_,rfl,_,_,r0⟩:=trodAll_cons hA;obtain ⟨v1,vs1,d1,ds1,a1,b1,_,rfl,_,_,r1⟩:=trodAll_cons r0;obtain ⟨_,rfl,_⟩:=trodAll_nil r1;exact ⟨d0,d1,rfl⟩
  exact ⟨_,rfl,Aki A9z (by kernel_rfl) rfl hW' hb rfl Tryz.underlying4 (by subst hds;rfl)⟩

theorem fnTaylor_holds:Rows.FnTaylorSaid :=
  OpenClaim.holds_of_wide 9 Tryz.f9 rfl rfl rfl rfl rfl rfl rfl ⟨rfl,rfl,rfl,rfl,rfl⟩ rfl rfl rfl rfl rfl (by kernel_rfl) Tryz.func9 (by kernel_rfl)
    (Qaf (by kernel_rfl)) (by unfold Func.isWrapper;first | (rw [QK (by decide +kernel)];kernel_rfl) | (rw [QH (by decide +kernel)];exact ⟨rfl,rfl⟩))
    (λos started H enc _=>A3w os started H enc)

#print axioms fnTaylor_holds
end Go.Proofs.YtcpdoafoahaagaaGreat
