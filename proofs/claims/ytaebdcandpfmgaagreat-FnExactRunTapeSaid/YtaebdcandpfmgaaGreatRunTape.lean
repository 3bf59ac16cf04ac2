/- The statement FnExactRunTapeSaid is proved: for every input the call returns true and each argument reads afterwards as it read before. Conditions: those that the row itself states; none of my own. -/
import Derived.Test.YtaebdcandpfmgaaGreatRows
import Derived.WalkKit
import Derived.ProofKit
import Derived.Test.YtaebdcandpfmgaaGreatEf
import Derived.Test.YtaebdcandpfmgaaGreatXd
set_option linter.all false
set_option linter.unusedVariables false
set_option linter.unusedSimpArgs false
namespace Go.Proofs.YtaebdcandpfmgaaGreat
open Go.Ev Go.ChangeShapes Go.WideShapes Go.ChangeAt Go.RowKit

theorem U2:ownKnob Tryz.prog.godebug = none:=by kernel_rfl
theorem T2:laidOutB Tryz.prog = true:=by kernel_rfl
set_option maxRecDepth 100000 in
theorem O5 (os : Os) (started : os.Started) (H : Type) (enc : TypeId × Value -> H) :
    ReturnsInHanded {} Tryz.checked os 10 .any (Rows.fnExactRunTapeSpec.pre6 enc Tryz.prog Tryz.f10 Rows.fnExactRunTapeRow.domain false) (Rows.fnExactRunTapeSpec.post enc Tryz.prog Tryz.f10 false true false false):=by
  refine returnsInHanded_of_change_sized (C:=Tryz.checked) U2 started (by kernel_rfl) Tryz.func10
    (ChangeSpec.witness6 (enc:=enc) (C:=Tryz.checked) false ⟨#[],#[.agg #[.slice none 0 0,.int .i64 0],.slice none 0 0],[]⟩ 8 (by kernel_rfl) (by kernel_rfl) (by kernel_rfl) (by kernel_rfl)) ?_
  intro W base args ds gs before hval0 hW hcnd hsz0 _;have hval:∀ (j:Nat) t v,Tryz.f10.params[j]? = some t->args[j]? = some v->Value.okWide Tryz.prog W .any base t v:=hval0;have hW':=hW;obtain ⟨p,q,hA0,hV,rfl,hfz,hnd⟩:=hW;have hA:DataW.TrodAll enc Tryz.prog W 0 (fun _=>true) true Tryz.f10.params.toList args.toList ds p:=hA0
  obtain ⟨x,hx,hr⟩:=Y6 [.st (.pair hNs hI),hRs] Tryz.f10.params.toList args.toList ds p (by kernel_rfl) hA (fun j t v ht hv=>hval j t v (by rw [<- XX];exact ht) (by rw [<- XX];exact hv))
  refine (Ao8 (B71 68719476736) (x:=x) (B72 hx.1.1.1 ⟨hx.2.1,fun y hy=>⟨(hx.2.2 y hy).2.1.1,(hx.2.2 y hy).2.2.1⟩⟩ (QY _)) hr).mono fun e W' ⟨he,hb⟩=>?_;subst he
  obtain rfl:gs = []:=by
    cases gs with
    | nil=>rfl
    | cons=>exact hV.elim
  obtain ⟨d0,d1,hds⟩:∃ d0 d1,ds = [d0,d1]:=by
    rw [Tryz.params10] at hA;obtain ⟨v0,vs0,d0,ds0,a0,b0,_,rfl,_,_,r0⟩:=trodAll_cons hA;obtain ⟨v1,vs1,d1,ds1,a1,b1,_,rfl,_,_,r1⟩:=trodAll_cons r0;obtain ⟨_,rfl,_⟩:=trodAll_nil r1;exact ⟨d0,d1,rfl⟩
  exact ⟨_,rfl,Ajq T2 (by kernel_rfl) rfl hW' hb rfl Tryz.underlying4 (by subst hds;rfl)⟩

theorem fnExactRunTape_holds:Rows.FnExactRunTapeSaid :=
  OpenClaim.holds_of_wide 10 Tryz.f10 rfl rfl rfl rfl rfl rfl rfl ⟨rfl,rfl,rfl,rfl,rfl⟩ rfl rfl rfl rfl rfl (by kernel_rfl) Tryz.func10 (by kernel_rfl)
    (JD (by kernel_rfl)) (by unfold Func.isWrapper;first | (rw [QL (by decide +kernel)];kernel_rfl) | (rw [QK (by decide +kernel)];exact ⟨rfl,rfl⟩))
    (fun os started H enc _=>O5 os started H enc)

#print axioms fnExactRunTape_holds
end Go.Proofs.YtaebdcandpfmgaaGreat
