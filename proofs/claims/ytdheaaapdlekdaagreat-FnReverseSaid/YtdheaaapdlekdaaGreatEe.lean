/- DERIVED. The words of this seat. -/
import Derived.Test.YtdheaaapdlekdaaGreatChecked
import Derived.RangeFuncBox
import Derived.RangeFuncLeaves
import Derived.Shelf.Abstract
import Derived.WalkKit
import Derived.OwnWalkIn
import Derived.TacticsInMore
import Derived.LoopNIn
import Derived.LoopIn
import Derived.Test.YtdheaaapdlekdaaGreatEi

set_option linter.all false
set_option linter.unusedVariables false
set_option linter.unusedSimpArgs false

/- DERIVED. The seat's own words. -/
namespace Go.Ev
open Go Go.Proofs
abbrev hI:Sh:=.int .i64
abbrev hIs:Sh:=.sl hI
abbrev hN:Sh:=.st (.pair hI (.pair hI (.pair hI hI)))
abbrev hNs:Sh:=.sl hN
abbrev hE:Sh:=.st hNs
abbrev hR:Sh:=.st (.pair .bool (.pair hIs hIs))
abbrev hRs:Sh:=.sl hR
abbrev LI:=List Int
abbrev Rq:=Bool × LI × LI
abbrev LR:=List Rq
abbrev Nq:=Int × Int × Int × Int
abbrev LN:=List Nq
theorem Ro:Tryz.prog.follows .mixedOrders=true:=by kernel_rfl
noncomputable abbrev PP:Program:=Tryz.prog
noncomputable abbrev TT:Ty:=Bao Tryz.prog
theorem fk {f:Nat} {fn:Func} {c:Code} {K:Aj} {ts rs:List Sh} {m:HL ts->Option (HL rs)} {D:D3 (HL rs)} (hD:D3.OK PP TT K D c)
  (h : ∀ x, C5 PP TT K D c (A3y ts x) (Bc0 TT rs fn.results.toList) = m x := by intro x; kernel_rfl) (hf : PP.funcs[f]? = some fn := by kernel_rfl) (hn : (fn.name == "runtime.NumGoroutine") = false := by kernel_rfl)
  (hb:fn.body=some c:=by kernel_rfl) (hN:fn.ntmps=K.N:=by rfl) (hmv:K.mv=[]:=by rfl) (ha:Nat.ble ts.length K.N=true:=by rfl):(⟨f,ts,rs,m⟩:Ent).Sound PP :=
 Bqt (Va _) Ro D hf hn hb hN hmv (XO ha) hD h
theorem B9 {f:Nat} {fn:Func} {ts rs:List Sh} {m:HL ts->Option (HL rs)} {D:D3 (HL rs)} (he:Ap PP (Ae D.reg))
  (h : ∀ x, C5 PP TT ⟨fn.ntmps, []⟩ D (Af fn) (A3y ts x) (Bc0 TT rs fn.results.toList) = m x := by intro x; kernel_rfl) (hf : PP.funcs[f]? = some fn := by kernel_rfl) (hn : (fn.name == "runtime.NumGoroutine") = false := by kernel_rfl)
  (hb:fn.body=some (Af fn):=by kernel_rfl) (hl:A9 (Af fn)=[]:=by kernel_rfl) (hy:D.any=[]:=by rfl) (ha:Nat.ble ts.length fn.ntmps=true:=by rfl):(⟨f,ts,rs,m⟩:Ent).Sound PP :=
 fk (K:=⟨fn.ntmps,[]⟩) (D3.OK.mk3 he hl trivial hy) h hf hn hb rfl rfl ha
theorem Vl {f:Nat} {fn:Func} {c:Code} {K:Aj} {ts:List PK} {forms:List (List PK)} {m:HP ts->Option (HF (Ar 1000 ts) forms)} {D:D3 (HF (Ar 1000 ts) forms)} (hD:D3.OK PP TT K D c)
  (h : ∀ x, C5 PP TT K D c ⟨Gp 0 (Cm 1000 ts x), E9 1000 ts x⟩ (Bbz TT ts forms fn.results.toList) = m x := by intro x; kernel_rfl) (hf : PP.funcs[f]? = some fn := by kernel_rfl) (hn : (fn.name == "runtime.NumGoroutine") = false := by kernel_rfl)
  (hb:fn.body=some c:=by kernel_rfl) (hN:fn.ntmps=K.N:=by rfl) (ha:Nat.ble ts.length K.N=true:=by rfl):(⟨f,ts,forms,m,K.mv⟩:Ent3).Sound PP :=
 Bmg (Va _) Ro D hf hn hb hN (XO ha) hD h
theorem A89 {f:Nat} {fn:Func} {ts:List PK} {forms:List (List PK)} {m:HP ts->Option (HF (Ar 1000 ts) forms)} {D:D3 (HF (Ar 1000 ts) forms)} (he:Ap PP (Ae D.reg))
  (h : ∀ x, C5 PP TT ⟨fn.ntmps, []⟩ D (Af fn) ⟨Gp 0 (Cm 1000 ts x), E9 1000 ts x⟩ (Bbz TT ts forms fn.results.toList) = m x := by intro x; kernel_rfl) (hf : PP.funcs[f]? = some fn := by kernel_rfl) (hn : (fn.name == "runtime.NumGoroutine") = false := by kernel_rfl)
  (hb:fn.body=some (Af fn):=by kernel_rfl) (hl:A9 (Af fn)=[]:=by kernel_rfl) (hy:D.any=[]:=by rfl) (ha:Nat.ble ts.length fn.ntmps=true:=by rfl):(⟨f,ts,forms,m,[]⟩:Ent3).Sound PP :=
 Vl (K:=⟨fn.ntmps,[]⟩) (D3.OK.mk3 he hl trivial hy) h hf hn hb rfl ha
theorem lk {α:Type} {K:Aj} {D:D3 α} {c:Code} {H:Tm} {outs:List (Exit × Tm)} {B:H.den->(H.den->Option α)->KS α outs->Option α} (hD:D3.OK PP TT K D c) (n:Nat)
  (hB:∀ v f ks,C5 PP TT K D c (H.enc v) (Aet H outs f ks)=B v f ks:=by intro v f ks;kernel_rfl):(⟨H,outs,A4 B n⟩:LO α).Sound PP K (.loop c) :=
 Bh4 (Va _) Ro B hD hB n
theorem Cb {α:Type} {K:Aj} {D:D3 α} {c:Code} {H:Tm} {outs:List (Exit × Tm)} {B:H.den->(H.den->Option α)->KS α outs->Option α} (he:Ap PP (Ae D.reg)) (n:Nat)
  (hB:∀ v f ks,C5 PP TT K D c (H.enc v) (Aet H outs f ks)=B v f ks:=by intro v f ks;kernel_rfl) (hl:A9 c=[]:=by kernel_rfl) (hy:D.any=[]:=by rfl):(⟨H,outs,A4 B n⟩:LO α).Sound PP K (.loop c) :=
 lk (D3.OK.mk3 he hl trivial hy) n hB
end Go.Ev

/- DERIVED. What slices.Backward hands back, at this seat. -/
namespace Go.Ev
open Go Go.Proofs Go.RowKit Go.Shelf
attribute [local go_sem] Oper.semAt_some
set_option maxRecDepth 100000 in
set_option maxHeartbeats 2000000 in
theorem Ay5:Atd Tryz.prog 220:=by
 refine ⟨enters_of Tryz.func220 (by kernel_rfl) rfl,?_⟩
 intro l lb zs J Jx W hlen hJR hY h0;obtain ⟨g,o,sv,rfl,hc,hI⟩:=hJR 0 W (KJ _) h0
 have hsv:∃ a cap,sv = .slice a zs.length cap:=by
  rcases hI with ⟨rfl,a,cap,rfl⟩ | ⟨b,off,cap,rfl,_⟩
  . exact ⟨a,cap,rfl⟩
  . exact ⟨_,cap,rfl⟩
 obtain ⟨a,cap,rfl⟩:=hsv;refine callsIn_of_wp Tryz.func220 rfl trivial ?_ rfl;simp only [Tryz.ntmps220,List.size_toArray,QY,ZM,Nat.reduceAdd,Nat.reduceSub,Array.replicate_succ,Array.replicate_zero,List.push_toArray,List.append_toArray,JR,YD]
 gi_wp2
 gi_loopw [3] (λi wr=>∃ k:Nat,k<=zs.length/\i = .int .i64 ((zs.length:Int)-1-k)/\J k wr)
  (λi _=>(intOf i+1).toNat)
 case atStart=>exact ⟨0,KJ _,by simp,h0⟩
 case round =>
  obtain ⟨k,hk,rfl,hJs⟩:=hrel;obtain ⟨g',o',sv,e,hc',hI'⟩:=hJR k wr hk hJs
  cases e;by_cases hlt:k<zs.length
  . rcases hI' with ⟨rfl,_⟩ | ⟨b,off,cap',rfl,hcs⟩
    . simp at hlt
    . have hcx:=hcs (zs.length-1-k) (by omega)
      have hix:((zs.length-1-k:Nat):Int)=(zs.length:Int)-1-k:=by omega
      obtain ⟨fn,tmps,assign,body,hy,hR⟩:=hY k wr hlt hJs;rw [hix] at hy
      have hnn:(0:Int)<=(zs.length:Int)-1-k:=by omega
      have htn:((zs.length:Int)-1-k).toNat=zs.length-1-k:=by omega
      simp only [QJ] at hy hcx
      gi_wp2
      refine hR.mono ?_
      rintro e W3 (⟨rfl,hJ3⟩ | ⟨rfl,hJx3⟩)
      . gi_wp2
        go_roundw
        case rel=>exact ⟨k+1,by omega,by simp;omega,hJ3⟩
        case measure=>simp [intOf];omega
      . gi_wp2
        refine bodyPost_ret (results_none rfl _ _ _) rfl ?_;exact ⟨⟨_,rfl⟩,.inr ⟨_,hJx3⟩⟩
  . obtain rfl:k=zs.length:=by omega
    gi_wp2
    go_end0
    exact ⟨⟨_,rfl⟩,.inl hJs⟩
end Go.Ev
