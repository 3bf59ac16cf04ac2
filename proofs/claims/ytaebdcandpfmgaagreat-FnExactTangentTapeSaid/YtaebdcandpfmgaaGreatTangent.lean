/- The statement FnExactTangentTapeSaid is proved: for every input the call returns true and each argument reads afterwards as it read before. Conditions: those that the row itself states; none of my own. -/
import Derived.Test.YtaebdcandpfmgaaGreatRows
import Derived.WalkKit
import Derived.ProofKit
import Derived.Test.YtaebdcandpfmgaaGreatEf
import Derived.Test.YtaebdcandpfmgaaGreatZd
set_option linter.all false
set_option linter.unusedVariables false
set_option linter.unusedSimpArgs false
namespace Go.Proofs.YtaebdcandpfmgaaGreat
open Go.Ev Go.ChangeShapes Go.WideShapes Go.ChangeAt Go.RowKit

theorem Q9:ownKnob Tryz.prog.godebug=none:=by kernel_rfl
theorem P3:laidOutB Tryz.prog=true:=by kernel_rfl
set_option maxRecDepth 100000 in
theorem Me (os : Os) (started : os.Started) (H : Type) (enc : TypeId × Value -> H) :
    ReturnsInHanded {} Tryz.checked os 7 .any (Rows.fnExactTangentTapeSpec.pre6 enc Tryz.prog Tryz.f7 Rows.fnExactTangentTapeRow.domain false) (Rows.fnExactTangentTapeSpec.post enc Tryz.prog Tryz.f7 false true false false):=by
  refine returnsInHanded_of_change_sized (C:=Tryz.checked) Q9 started (by kernel_rfl) Tryz.func7
    (ChangeSpec.witness6 (enc:=enc) (C:=Tryz.checked) false ⟨#[],#[.agg #[.slice none 0 0,.int .i64 0],.slice none 0 0,.slice none 0 0],[]⟩ 8 (by kernel_rfl) (by kernel_rfl) (by kernel_rfl) (by kernel_rfl)) ?_
  intro W base args ds gs before hval0 hW hcnd hsz0 _;have hval:∀ (j:Nat) t v,Tryz.f7.params[j]? = some t->args[j]? = some v->Value.okWide Tryz.prog W .any base t v:=hval0;have hW':=hW;obtain ⟨p,q,hA0,hV,rfl,hfz,hnd⟩:=hW;have hA:DataW.TrodAll enc Tryz.prog W 0 (λ_=>true) true Tryz.f7.params.toList args.toList ds p:=hA0
  obtain ⟨x,hx,hr⟩:=A1j [.st (.pair hNs hI),hRs,hRs] Tryz.f7.params.toList args.toList ds p (by kernel_rfl) hA (λj t v ht hv=>hval j t v (by rw [<- XZ];exact ht) (by rw [<- XZ];exact hv))
  refine (Avv (Biy 68719476736) (x:=x) (Biz hx.1.1.1 ⟨hx.2.1.1,λy hy=>⟨(hx.2.1.2 y hy).2.1.1,(hx.2.1.2 y hy).2.2.1⟩⟩ ⟨hx.2.2.1,λy hy=>⟨(hx.2.2.2 y hy).2.1.1,(hx.2.2.2 y hy).2.2.1⟩⟩ (QY _)) hr).mono λe W' ⟨he,hb⟩=>?_;subst he
  obtain rfl:gs=[]:=by
    cases gs with
    | nil=>rfl
    | cons=>exact hV.elim
  obtain ⟨d0,d1,d2,hds⟩:∃ d0 d1 d2,ds=[d0,d1,d2]:=by
    rw [Tryz.params7] at hA;obtain ⟨v0,vs0,d0,ds0,a0,b0,_,rfl,_,_,r0⟩:=trodAll_cons hA;obtain ⟨v1,vs1,d1,ds1,a1,b1,_,rfl,_,_,r1⟩:=trodAll_cons r0;obtain ⟨v2,vs2,d2,ds2,a2,b2,_,rfl,_,_,r2⟩:=trodAll_cons r1;obtain ⟨_,rfl,_⟩:=trodAll_nil r2;exact ⟨d0,d1,d2,rfl⟩
  exact ⟨_,rfl,Aqq P3 (by kernel_rfl) rfl hW' hb rfl Tryz.underlying4 (by subst hds;rfl)⟩

theorem fnExactTangentTape_holds:Rows.FnExactTangentTapeSaid :=
  OpenClaim.holds_of_wide 7 Tryz.f7 rfl rfl rfl rfl rfl rfl rfl ⟨rfl,rfl,rfl,rfl,rfl⟩ rfl rfl rfl rfl rfl (by kernel_rfl) Tryz.func7 (by kernel_rfl)
    (JF (by kernel_rfl)) (by unfold Func.isWrapper;first | (rw [QL (by decide +kernel)];kernel_rfl) | (rw [QJ (by decide +kernel)];exact ⟨rfl,rfl⟩))
    (λos started H enc _=>Me os started H enc)

#print axioms fnExactTangentTape_holds
end Go.Proofs.YtaebdcandpfmgaaGreat
