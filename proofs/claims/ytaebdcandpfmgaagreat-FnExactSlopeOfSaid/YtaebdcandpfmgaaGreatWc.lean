/- DERIVED. What the functions compute, and that they do. -/
import Derived.Test.YtaebdcandpfmgaaGreatWb

set_option linter.all false
set_option linter.unusedVariables false
set_option linter.unusedSimpArgs false

namespace Go.Ev
open Go Go.Proofs Go.RowKit Go.Shelf
def f223 (n:Nat) (a0 a1:Rq):Option Rq :=
 ob (f200 n a0.2.1 a1.2.2) fun a =>
 ob (f200 n a0.2.2 a1.2.1) fun b =>
 ob (f201 n (!(a0.1 == a1.1)) a b) fun c =>
 some c
def Pp (n:Nat):Ent:=⟨223,[hR,hR],[hR],fun x=>f223 n x.1 x.2⟩
def B7b (α:Type) (n:Nat):D3 α:={ reg:=[(1,⟨15,[],[(9,{ ent:=some (H2 n) }),(14,{ ent:=some (H2 n) }),(15,{ ent:=some (Pt n) })]⟩)],join:=[],loop:=[] }
theorem B2q (n:Nat):(Pp n).Sound PP:=At (fn:=Tryz.f223) (D:=B7b _ n) ⟨Gb n,Gb n,Ps n,trivial⟩

def f206 (n:Nat) (a0:Rq):Option Rq :=
 bif (!a0.1) then
  ob (f195 n a0) fun a =>
  ob (f117 n a0.2.1) fun b =>
  ob (f117 n a0.2.2) fun c =>
  some ((!a),b,c)
 else
  ob (f117 n a0.2.1) fun d =>
  ob (f117 n a0.2.2) fun e =>
  some (false,d,e)
def At8 (n:Nat):Ent:=⟨206,[hR],[hR],fun x=>f206 n x⟩
def B7m (α:Type) (n:Nat):D3 α:={ reg:=[(1,⟨14,[],[(5,{ ent:=some (Pw n) }),(10,{ ent:=some (Kq n) }),(13,{ ent:=some (Kq n) })]⟩)],join:=[],loop:=[] }
theorem B32 (n:Nat):(At8 n).Sound PP:=At (fn:=Tryz.f206) (D:=B7m _ n) ⟨Pv n,Jm n,Jm n,trivial⟩

def f232 (n:Nat) (a0 a1:Rq):Option Rq :=
 ob (f178 n a1 a0) fun a =>
 some a
def Gx (n:Nat):Ent:=⟨232,[hR,(.ref hR)],[hR],fun x=>f232 n x.1 x.2⟩
def B74 (α:Type) (n:Nat):D3 α:={ reg:=[(1,⟨0,[],[(2,{ ent:=some (Af n) })]⟩)],join:=[],loop:=[] }
theorem B2m (n:Nat):(Gx n).Sound PP:=At (fn:=Tryz.f232) (D:=B74 _ n) ⟨Bf n,trivial⟩

def f233 (n:Nat) (a0:Int) (a1:Rq) (a2:Bool × LI × LI × LR × LR × Bool × LI × LI) (a3:Rq):Option Rq :=
 gd (decide (0 <= a0) && decide (a0 < (a2.2.2.2.1.length:Int))) (
  let a:=a2.2.2.2.1.getD a0.toNat (false,[],[])
  ob (f178 n a1 a) fun b =>
  ob (f178 n b a2.2.2.2.2.2) fun c =>
  gd (decide (0 <= a0) && decide (a0 < (a2.2.2.2.2.1.length:Int))) (
   let d:=a2.2.2.2.2.1.getD a0.toNat (false,[],[])
   ob (f178 n a3 d) fun e =>
   ob (f161 n c e) fun f =>
   some f))
def Gw (n:Nat):Ent:=⟨233,[hI,(.ref hR),(.ref (.st (.pair .bool (.pair hIs (.pair hIs (.pair hRs (.pair hRs (.pair .bool (.pair hIs hIs))))))))),(.ref hR)],[hR],fun x=>f233 n x.1 x.2.1 x.2.2.1 x.2.2.2⟩
def B73 (α:Type) (n:Nat):D3 α:={ reg:=[(1,⟨16,[],[(6,{ ent:=some (Af n) }),(9,{ ent:=some (Af n) }),(16,{ ent:=some (Af n) }),(17,{ ent:=some (Aj n) })]⟩)],join:=[],loop:=[] }
theorem B2l (n:Nat):(Gw n).Sound PP:=At (fn:=Tryz.f233) (D:=B73 _ n) ⟨Bf n,Bf n,Bf n,Fd n,trivial⟩

def Z5 {α:Type} (n:Nat) (g:Rq) (b:Rq × (Bool × LI × LI × LR × LR × Bool × LI × LI) × Rq) (c:LR) (h a:Int) (s:Bool) (t u:LI) (v i:LR) (w:Bool) (x y:LI) (j k l:Bool) (m o:LI) (p:Bool) (q r:LI) (d e:LR) (f:Rq->(Rq × (Bool × LI × LI × LR × LR × Bool × LI × LI) × Rq)->LR->Int->Int->Bool->LI->LI->LR->LR->Bool->LI->LI->Bool->Bool->Bool->LI->LI->Bool->LI->LI->LR->LR->Option α) (k0:Bool->Bool->Bool->LI->LI->Bool->LI->LI->LR->LR->Option α):Option α :=
 bif (decide (a < h)) then
  gd (decide (0 <= a) && decide (a < (c.length:Int))) (
   let z:=c.getD a.toNat (false,[],[])
   ob (f232 n z g) fun d0 =>
   gd (decide ((d.length + 1) * 56 <= 140737488355328)) (
    gd ((!i.isEmpty)) (
     ob (f233 n a b.1 b.2.1 b.2.2) fun d1 =>
     gd (decide ((e.length + 1) * 56 <= 140737488355328)) (
      f g b c h (W (a + 1)) s t u v i w x y j k l m o p q r (d ++ [d0]) (e ++ [d1])))))
 else
  k0 j k l m o p q r d e
abbrev Ee:Tm:=⟨[(3,.d (.clo 232 (.ref hR))),(4,.d (.clo 233 (.pair (.ref hR) (.pair (.ref (.st (.pair .bool (.pair hIs (.pair hIs (.pair hRs (.pair hRs (.pair .bool (.pair hIs hIs))))))))) (.ref hR))))),(5,.k (.hp 5 0 0)),(10,.k (.hp 10 0 0)),(11,.k (.hp 11 0 0)),(18,.d hRs),(19,.d hI),(20,.d hI)],[(5,.var 81 true false [.d .bool,.d hIs,.d hIs,.d hRs,.d hRs,.d .bool,.d hIs,.d hIs]),(10,.var 81 true false [.d .bool,.d .nil,.d .nil,.d .nil,.d .nil,.d .bool,.d .nil,.d .nil]),(11,.var 81 false false [.d .bool,.d hIs,.d hIs,.k (.hw 31),.k (.hw 42),.d .bool,.d hIs,.d hIs]),(31,.arr 31 hR false),(42,.arr 31 hR false)],[41],[]⟩
abbrev Vo:Tm:=⟨[(10,.k (.hp 10 0 0)),(11,.k (.hp 11 0 0))],[(10,.var 81 true false [.d .bool,.d .nil,.d .nil,.d .nil,.d .nil,.d .bool,.d .nil,.d .nil]),(11,.var 81 false false [.d .bool,.d hIs,.d hIs,.k (.hw 31),.k (.hw 42),.d .bool,.d hIs,.d hIs]),(31,.arr 31 hR false),(42,.arr 31 hR false)],[5],[]⟩
abbrev Gj:List (Exit × Tm):=[(.exit 0,Vo)]
def Gi {α:Type} (n:Nat) (v:Ee.den) (f:Ee.den->Option α) (ks:KS α Gj):Option α:=Z5 n v.1.1 v.1.2.1 v.1.2.2.2.2.2.1 v.1.2.2.2.2.2.2.1 v.1.2.2.2.2.2.2.2.1 v.2.1.1 v.2.1.2.1 v.2.1.2.2.1 v.2.1.2.2.2.1 v.2.1.2.2.2.2.1 v.2.1.2.2.2.2.2.1 v.2.1.2.2.2.2.2.2.1 v.2.1.2.2.2.2.2.2.2.1 v.2.2.1.1 v.2.2.1.2.2.2.2.2.1 v.2.2.2.1.1 v.2.2.2.1.2.1 v.2.2.2.1.2.2.1 v.2.2.2.1.2.2.2.2.2.1 v.2.2.2.1.2.2.2.2.2.2.1 v.2.2.2.1.2.2.2.2.2.2.2.1 v.2.2.2.2.1 v.2.2.2.2.2.1 (fun a b c d e g h i j k l m o p q r s t u w x y z=>f ((a,b,(),(),(),c,d,e,()),((g,h,i,j,k,l,m,o,()),(p,(),(),(),(),q,(),(),()),(r,s,t,(),(),u,w,x,()),y,z,()))) (fun w0 w1 w2 w3 w4 w5 w6 w7 w8 w9=>ks.1 (((),(),()),((w0,(),(),(),(),w1,(),(),()),(w2,w3,w4,(),(),w5,w6,w7,()),w8,w9,())))
def A10 {α:Type} (n m:Nat) (a:Rq) (b:Rq × (Bool × LI × LI × LR × LR × Bool × LI × LI) × Rq) (c:LR) (d e:Int) (f:Bool) (g h:LI) (i j:LR) (k:Bool) (l o:LI) (p q r:Bool) (s t:LI) (u:Bool) (v x:LI) (y z:LR) (k0:Bool->Bool->Bool->LI->LI->Bool->LI->LI->LR->LR->Option α):Option α:=A5 (Gi n) m ((a,b,(),(),(),c,d,e,()),((f,g,h,i,j,k,l,o,()),(p,(),(),(),(),q,(),(),()),(r,s,t,(),(),u,v,x,()),y,z,())) (fun w=>k0 w.2.1.1 w.2.1.2.2.2.2.2.1 w.2.2.1.1 w.2.2.1.2.1 w.2.2.1.2.2.1 w.2.2.1.2.2.2.2.2.1 w.2.2.1.2.2.2.2.2.2.1 w.2.2.1.2.2.2.2.2.2.2.1 w.2.2.2.1 w.2.2.2.2.1,())
abbrev My:Tm:=⟨[(3,.d (.clo 232 (.ref hR))),(4,.d (.clo 233 (.pair (.ref hR) (.pair (.ref (.st (.pair .bool (.pair hIs (.pair hIs (.pair hRs (.pair hRs (.pair .bool (.pair hIs hIs))))))))) (.ref hR))))),(5,.k (.hp 5 0 0)),(10,.k (.hp 10 0 0)),(11,.k (.hp 11 0 0)),(12,.d hI),(13,.k (.hp 13 0 0)),(18,.d hRs),(19,.d hI),(20,.d hI)],[(5,.var 81 true false [.d .bool,.d hIs,.d hIs,.d hRs,.d hRs,.d .bool,.d hIs,.d hIs]),(10,.var 81 true false [.d .bool,.d .nil,.d .nil,.d .nil,.d .nil,.d .bool,.d .nil,.d .nil]),(11,.var 81 true false [.d .bool,.d hIs,.d hIs,.d .nil,.d .nil,.d .bool,.d hIs,.d hIs]),(13,.var 31 true false [.d .bool,.d hIs,.d hIs])],[6,7],[]⟩
abbrev Kg:Tm:=⟨[(3,.d (.clo 232 (.ref hR))),(4,.d (.clo 233 (.pair (.ref hR) (.pair (.ref (.st (.pair .bool (.pair hIs (.pair hIs (.pair hRs (.pair hRs (.pair .bool (.pair hIs hIs))))))))) (.ref hR))))),(5,.k (.hp 5 0 0)),(10,.k (.hp 10 0 0)),(11,.k (.hp 11 0 0)),(12,.d hI),(13,.k (.hp 13 0 0)),(18,.d hRs),(19,.d hI),(20,.d hI)],[(5,.var 81 true false [.d .bool,.d hIs,.d hIs,.d hRs,.d hRs,.d .bool,.d hIs,.d hIs]),(10,.var 81 true false [.d .bool,.d .nil,.d .nil,.d .nil,.d .nil,.d .bool,.d .nil,.d .nil]),(11,.var 81 false false [.d .bool,.d hIs,.d hIs,.k (.hw 31),.k (.hw 42),.d .bool,.d hIs,.d hIs]),(13,.var 31 true false [.d .bool,.d hIs,.d hIs]),(31,.arr 31 hR false),(42,.arr 31 hR false)],[],[]⟩
abbrev Mx:Tm:=⟨[(3,.d (.clo 232 (.ref hR))),(4,.d (.clo 233 (.pair (.ref hR) (.pair (.ref (.st (.pair .bool (.pair hIs (.pair hIs (.pair hRs (.pair hRs (.pair .bool (.pair hIs hIs))))))))) (.ref hR))))),(5,.k (.hp 5 0 0)),(10,.k (.hp 10 0 0)),(11,.k (.hp 11 0 0)),(12,.d hI),(18,.d hRs),(19,.d hI),(20,.d hI)],[(5,.var 81 true false [.d .bool,.d hIs,.d hIs,.d hRs,.d hRs,.d .bool,.d hIs,.d hIs]),(10,.var 81 true false [.d .bool,.d .nil,.d .nil,.d .nil,.d .nil,.d .bool,.d .nil,.d .nil]),(11,.var 81 false false [.d .bool,.d hIs,.d hIs,.k (.hw 31),.d .nil,.d .bool,.d hIs,.d hIs]),(31,.arr 31 hR false)],[13,30],[]⟩
abbrev Kf:Tm:=⟨[(3,.d (.clo 232 (.ref hR))),(4,.d (.clo 233 (.pair (.ref hR) (.pair (.ref (.st (.pair .bool (.pair hIs (.pair hIs (.pair hRs (.pair hRs (.pair .bool (.pair hIs hIs))))))))) (.ref hR))))),(5,.k (.hp 5 0 0)),(10,.k (.hp 10 0 0)),(11,.k (.hp 11 0 0)),(12,.d hI),(18,.d hRs),(19,.d hI),(20,.d hI)],[(5,.var 81 true false [.d .bool,.d hIs,.d hIs,.d hRs,.d hRs,.d .bool,.d hIs,.d hIs]),(10,.var 81 true false [.d .bool,.d .nil,.d .nil,.d .nil,.d .nil,.d .bool,.d .nil,.d .nil]),(11,.var 81 false false [.d .bool,.d hIs,.d hIs,.k (.hw 31),.k (.hw 42),.d .bool,.d hIs,.d hIs]),(31,.arr 31 hR false),(42,.arr 31 hR false)],[13,30],[]⟩
def U4 (n:Nat) (a0:Rq × LR × LR × Rq) (a1 a2 a3:Rq) (a4:Rq × (Bool × LI × LI × LR × LR × Bool × LI × LI) × Rq):Option (Rq × LR × LR × Rq) :=
 bif (decide (0 < (a0.2.1.length:Int))) then
  gd (decide (0 < (a0.2.1.length:Int))) (
   let a:=a0.2.1.getD 0 (false,[],[])
   ob (f232 n a a3) fun b =>
   gd ((!a0.2.2.1.isEmpty)) (
    ob (f233 n 0 a4.1 a4.2.1 a4.2.2) fun c =>
    A10 n n a3 a4 a0.2.1 (a0.2.1.length:Int) 1 a0.1.1 a0.1.2.1 a0.1.2.2 a0.2.1 a0.2.2.1 a0.2.2.2.1 a0.2.2.2.2.1 a0.2.2.2.2.2 false false a1.1 a1.2.1 a1.2.2 a2.1 a2.2.1 a2.2.2 [b] [c]
     (fun l m d e f g h i j k=>(
      some ((d,e,f),j,k,g,h,i)))))
 else
  some (a1,[],[],a2)
def Cw (n:Nat):Ent:=⟨220,[(.st (.pair hR (.pair hRs (.pair hRs hR)))),hR,hR,(.clo 232 (.ref hR)),(.clo 233 (.pair (.ref hR) (.pair (.ref (.st (.pair .bool (.pair hIs (.pair hIs (.pair hRs (.pair hRs (.pair .bool (.pair hIs hIs))))))))) (.ref hR))))],[(.st (.pair hR (.pair hRs (.pair hRs hR))))],fun x=>U4 n x.1 x.2.1 x.2.2.1 x.2.2.2.1 x.2.2.2.2⟩
def Ig (α:Type) (n:Nat):D3 α:={ reg:=[(5,⟨0,[],[(4,{ ent:=some (Gx n) }),(5,{ sh:=some hR }),(6,{ sh:=some hR })]⟩),(7,⟨0,[],[(4,{ ent:=some (Gw n) }),(5,{ sh:=some hR }),(6,{ sh:=some hR })]⟩)],join:=[],loop:=[(3,⟨Ee,Gj,A5 (Gi n) n⟩)],any:=[(5,My),(5,Kg),(7,Mx),(7,Kf)] }
set_option maxHeartbeats 8000000 in
theorem N0 (n:Nat):Ar TT ⟨46,[]⟩ [(4,{ ent:=some (Gx n) }),(5,{ sh:=some hR }),(6,{ sh:=some hR })] My (Aa ((A1 Tryz.f220).at [1,1,0,1,0,0,1,1,0,0,1,0])):=by
 refine ⟨by kernel_rfl,fun w q hq=>?_⟩
 have e:WT [(4,{ ent:=some (Gx n) }),(5,{ sh:=some hR }),(6,{ sh:=some hR })] (A8 (Aa ((A1 Tryz.f220).at [1,1,0,1,0,0,1,1,0,0,1,0])).toList) q = (∃ (y0:HL (Gx n).rs) (q0:List (Nat × RV)),q = (4,.sv (Al (Gx n).rs y0)) :: q0 /\ q0 = []):=by kernel_rfl
 rw [e] at hq;obtain ⟨y0,q0,rfl,rfl⟩:=hq
 all_goals exact .inr ⟨6,by kernel_rfl,by kernel_rfl,by kernel_rfl⟩
set_option maxHeartbeats 8000000 in
theorem Ki (n:Nat):Ar TT ⟨46,[]⟩ [(4,{ ent:=some (Gx n) }),(5,{ sh:=some hR }),(6,{ sh:=some hR })] Kg (Aa ((A1 Tryz.f220).at [1,1,0,1,0,0,1,1,0,0,1,0])):=by
 refine ⟨by kernel_rfl,fun w q hq=>?_⟩
 have e:WT [(4,{ ent:=some (Gx n) }),(5,{ sh:=some hR }),(6,{ sh:=some hR })] (A8 (Aa ((A1 Tryz.f220).at [1,1,0,1,0,0,1,1,0,0,1,0])).toList) q = (∃ (y0:HL (Gx n).rs) (q0:List (Nat × RV)),q = (4,.sv (Al (Gx n).rs y0)) :: q0 /\ q0 = []):=by kernel_rfl
 rw [e] at hq;obtain ⟨y0,q0,rfl,rfl⟩:=hq
 all_goals exact .inr ⟨6,by kernel_rfl,by kernel_rfl,by kernel_rfl⟩
set_option maxHeartbeats 8000000 in
theorem Mz (n:Nat):Ar TT ⟨46,[]⟩ [(4,{ ent:=some (Gw n) }),(5,{ sh:=some hR }),(6,{ sh:=some hR })] Mx (Aa ((A1 Tryz.f220).at [1,1,0,1,0,0,1,1,0,0,1,1,1,0])):=by
 refine ⟨by kernel_rfl,fun w q hq=>?_⟩
 have e:WT [(4,{ ent:=some (Gw n) }),(5,{ sh:=some hR }),(6,{ sh:=some hR })] (A8 (Aa ((A1 Tryz.f220).at [1,1,0,1,0,0,1,1,0,0,1,1,1,0])).toList) q = (∃ (y0:HL (Gw n).rs) (q0:List (Nat × RV)),q = (4,.sv (Al (Gw n).rs y0)) :: q0 /\ q0 = []):=by kernel_rfl
 rw [e] at hq;obtain ⟨y0,q0,rfl,rfl⟩:=hq
 all_goals exact .inr ⟨6,by kernel_rfl,by kernel_rfl,by kernel_rfl⟩
set_option maxHeartbeats 8000000 in
theorem Kh (n:Nat):Ar TT ⟨46,[]⟩ [(4,{ ent:=some (Gw n) }),(5,{ sh:=some hR }),(6,{ sh:=some hR })] Kf (Aa ((A1 Tryz.f220).at [1,1,0,1,0,0,1,1,0,0,1,1,1,0])):=by
 refine ⟨by kernel_rfl,fun w q hq=>?_⟩
 have e:WT [(4,{ ent:=some (Gw n) }),(5,{ sh:=some hR }),(6,{ sh:=some hR })] (A8 (Aa ((A1 Tryz.f220).at [1,1,0,1,0,0,1,1,0,0,1,1,1,0])).toList) q = (∃ (y0:HL (Gw n).rs) (q0:List (Nat × RV)),q = (4,.sv (Al (Gw n).rs y0)) :: q0 /\ q0 = []):=by kernel_rfl
 rw [e] at hq;obtain ⟨y0,q0,rfl,rfl⟩:=hq
 all_goals exact .inr ⟨6,by kernel_rfl,by kernel_rfl,by kernel_rfl⟩
theorem Ke (α:Type) (n:Nat):Ao PP (Ai (Ig α n).reg):=⟨B2m n,B2l n,trivial⟩
theorem Vn (α:Type) (n:Nat):D3.OK PP TT ⟨46,[]⟩ (Ig α n) ((A1 Tryz.f220).at [1,1,0,1,0,0]) :=
 D3.OK.mk3a (Ke α n) (show Ab ((A1 Tryz.f220).at [1,1,0,1,0,0]) = [] by kernel_rfl) trivial (show Av ((A1 Tryz.f220).at [1,1,0,1,0,0]) = [(5,Aa ((A1 Tryz.f220).at [1,1,0,1,0,0,1,1,0,0,1,0])),(7,Aa ((A1 Tryz.f220).at [1,1,0,1,0,0,1,1,0,0,1,1,1,0]))] by kernel_rfl) ⟨⟨N0 n,Ki n,trivial⟩,⟨Mz n,Kh n,trivial⟩,trivial⟩
theorem Ub (α:Type) (n:Nat):LO.Sound (α:=α) PP ⟨46,[]⟩ ⟨Ee,Gj,A5 (Gi n) n⟩ (.loop ((A1 Tryz.f220).at [1,1,0,1,0,0])):=lk (Vn α n) n
theorem A4n (α:Type) (n:Nat):D3.OK PP TT ⟨46,[]⟩ (Ig α n) (A1 Tryz.f220) :=
 D3.OK.mk3a (Ke α n) (show Ab (A1 Tryz.f220) = [(3,(.loop ((A1 Tryz.f220).at [1,1,0,1,0,0])))] by kernel_rfl) ⟨Ad rfl (Ub α n),trivial⟩ (show Av (A1 Tryz.f220) = [(5,Aa ((A1 Tryz.f220).at [1,1,0,1,0,0,1,1,0,0,1,0])),(7,Aa ((A1 Tryz.f220).at [1,1,0,1,0,0,1,1,0,0,1,1,1,0]))] by kernel_rfl) ⟨⟨N0 n,Ki n,trivial⟩,⟨Mz n,Kh n,trivial⟩,trivial⟩
theorem A0z (n:Nat):(Cw n).Sound PP:=fk (fn:=Tryz.f220) (A4n _ n)

abbrev Afa:Tm:=⟨[(4,.k (.hp 4 0 0)),(5,.k (.hp 5 0 0)),(6,.k (.hp 6 0 0)),(7,.k (.hp 7 0 0)),(8,.k (.hp 8 0 0))],[(4,.var 81 true false [.d .bool,.d hIs,.d hIs,.d hRs,.d hRs,.d .bool,.d hIs,.d hIs]),(5,.var 31 true false [.d .bool,.d hIs,.d hIs]),(6,.var 31 true false [.d .bool,.d hIs,.d hIs]),(7,.var 31 true false [.d .bool,.d hIs,.d hIs]),(8,.var 81 true false [.d .bool,.d .nil,.d .nil,.d .nil,.d .nil,.d .bool,.d .nil,.d .nil])],[],[]⟩
def Y4 (n:Nat) (a0:Rq × LR × LR × Rq) (a1 a2 a3:Rq):Option (Rq × LR × LR × Rq) :=
 ob (f178 n a2 a0.2.2.2) fun a =>
 ob (U4 n a0 a1 a a2 (a3,(a0.1.1,a0.1.2.1,a0.1.2.2,a0.2),a2)) fun b =>
 some b
def A7q (n:Nat):Ent:=⟨224,[(.st (.pair hR (.pair hRs (.pair hRs hR)))),hR,hR,hR],[(.st (.pair hR (.pair hRs (.pair hRs hR))))],fun x=>Y4 n x.1 x.2.1 x.2.2.1 x.2.2.2⟩
def Akd (α:Type) (n:Nat):D3 α:={ reg:=[(1,⟨0,[],[(5,{ ent:=some (Af n) }),(6,{ sh:=some (.ref hR) }),(7,{ sh:=some (.pair (.ref hR) (.pair (.ref (.st (.pair .bool (.pair hIs (.pair hIs (.pair hRs (.pair hRs (.pair .bool (.pair hIs hIs))))))))) (.ref hR))) }),(8,{ ent:=some (Cw n) })]⟩)],join:=[],loop:=[],any:=[(1,Afa)] }
set_option maxHeartbeats 8000000 in
theorem Ayt (n:Nat):Ar TT ⟨18,[]⟩ [(5,{ ent:=some (Af n) }),(6,{ sh:=some (.ref hR) }),(7,{ sh:=some (.pair (.ref hR) (.pair (.ref (.st (.pair .bool (.pair hIs (.pair hIs (.pair hRs (.pair hRs (.pair .bool (.pair hIs hIs))))))))) (.ref hR))) }),(8,{ ent:=some (Cw n) })] Afa (Aa ((A1 Tryz.f224).at [1,0])):=by
 refine ⟨by kernel_rfl,fun w q hq=>?_⟩
 have e:WT [(5,{ ent:=some (Af n) }),(6,{ sh:=some (.ref hR) }),(7,{ sh:=some (.pair (.ref hR) (.pair (.ref (.st (.pair .bool (.pair hIs (.pair hIs (.pair hRs (.pair hRs (.pair .bool (.pair hIs hIs))))))))) (.ref hR))) }),(8,{ ent:=some (Cw n) })] (A8 (Aa ((A1 Tryz.f224).at [1,0])).toList) q = (∃ (y0:HL (Af n).rs) (q0:List (Nat × RV)),q = (5,.sv (Al (Af n).rs y0)) :: q0 /\ ∃ (y1:HL (Cw n).rs) (q1:List (Nat × RV)),q0 = (8,.sv (Al (Cw n).rs y1)) :: q1 /\ q1 = []):=by kernel_rfl
 rw [e] at hq;obtain ⟨y0,q0,rfl,y1,q1,rfl,rfl⟩:=hq
 all_goals exact .inl (Iw.mk (by kernel_rfl))
theorem Anr (α:Type) (n:Nat):Ao PP (Ai (Akd α n).reg):=⟨Bf n,A0z n,trivial⟩
theorem B2p (α:Type) (n:Nat):D3.OK PP TT ⟨18,[]⟩ (Akd α n) (A1 Tryz.f224) :=
 D3.OK.mk3a (Anr α n) (show Ab (A1 Tryz.f224) = [] by kernel_rfl) trivial (show Av (A1 Tryz.f224) = [(1,Aa ((A1 Tryz.f224).at [1,0]))] by kernel_rfl) ⟨⟨Ayt n,trivial⟩,trivial⟩
theorem Af9 (n:Nat):(A7q n).Sound PP:=fk (fn:=Tryz.f224) (B2p _ n)

abbrev Afn:Tm:=⟨[(1,.k (.hp 1 0 0)),(2,.k (.hp 2 0 0))],[(1,.var 81 true false [.d .bool,.d hIs,.d hIs,.d hRs,.d hRs,.d .bool,.d hIs,.d hIs]),(2,.var 81 true false [.d .bool,.d .nil,.d .nil,.d .nil,.d .nil,.d .bool,.d .nil,.d .nil])],[],[]⟩
def Yd (n:Nat) (a0:Rq × LR × LR × Rq):Option (Rq × LR × LR × Rq) :=
 ob (f126 n 1) fun c =>
 ob (f223 n c a0.1) fun a =>
 ob (f178 n a a) fun b =>
 ob (f206 n b) fun d =>
 ob (f178 n b a) fun e =>
 ob (f126 n 2) fun f =>
 ob (f178 n e f) fun g =>
 ob (Y4 n a0 a d g) fun h =>
 some h
def Akm (n:Nat):Ent:=⟨196,[(.st (.pair hR (.pair hRs (.pair hRs hR))))],[(.st (.pair hR (.pair hRs (.pair hRs hR))))],fun x=>Yd n x⟩
def Akn (α:Type) (n:Nat):D3 α:={ reg:=[(1,⟨0,[],[(0,{ ent:=some (Ba n) }),(3,{ ent:=some (Pp n) })]⟩),(2,⟨0,[],[(2,{ ent:=some (Af n) })]⟩),(3,⟨9,[],[(3,{ ent:=some (At8 n) }),(6,{ ent:=some (Af n) }),(7,{ ent:=some (Ba n) }),(8,{ ent:=some (Af n) }),(9,{ ent:=some (A7q n) })]⟩)],join:=[],loop:=[],any:=[(1,Afn)] }
set_option maxHeartbeats 8000000 in
theorem Az1 (n:Nat):Ar TT ⟨22,[]⟩ [(0,{ ent:=some (Ba n) }),(3,{ ent:=some (Pp n) })] Afn (Aa ((A1 Tryz.f196).at [1,0])):=by
 refine ⟨by kernel_rfl,fun w q hq=>?_⟩
 have e:WT [(0,{ ent:=some (Ba n) }),(3,{ ent:=some (Pp n) })] (A8 (Aa ((A1 Tryz.f196).at [1,0])).toList) q = (∃ (y0:HL (Ba n).rs) (q0:List (Nat × RV)),q = (0,.sv (Al (Ba n).rs y0)) :: q0 /\ ∃ (y1:HL (Pp n).rs) (q1:List (Nat × RV)),q0 = (3,.sv (Al (Pp n).rs y1)) :: q1 /\ q1 = []):=by kernel_rfl
 rw [e] at hq;obtain ⟨y0,q0,rfl,y1,q1,rfl,rfl⟩:=hq
 all_goals exact .inr ⟨5,by kernel_rfl,by kernel_rfl,by kernel_rfl⟩
theorem Ao9 (α:Type) (n:Nat):Ao PP (Ai (Akn α n).reg):=⟨Ci n,B2q n,Bf n,B32 n,Bf n,Ci n,Bf n,Af9 n,trivial⟩
theorem B3d (α:Type) (n:Nat):D3.OK PP TT ⟨22,[]⟩ (Akn α n) (A1 Tryz.f196) :=
 D3.OK.mk3a (Ao9 α n) (show Ab (A1 Tryz.f196) = [] by kernel_rfl) trivial (show Av (A1 Tryz.f196) = [(1,Aa ((A1 Tryz.f196).at [1,0])),(3,Aa ((A1 Tryz.f196).at [1,1,1,0]))] by kernel_rfl) ⟨⟨Az1 n,trivial⟩,trivial,trivial⟩
theorem Az0 (n:Nat):(Akm n).Sound PP:=fk (fn:=Tryz.f196) (B3d _ n)

def A1x {α:Type} (n:Nat) (a b:Int) (c:Bool) (d e:LI) (g h:Bool) (i j:LI) (f:Int->Int->Bool->LI->LI->Bool->Bool->LI->LI->Option α) (k0:Bool->Bool->LI->LI->Option α):Option α :=
 bif (decide (b < a)) then
  ob (f200 n i d) fun k =>
  ob (f200 n j e) fun l =>
  f a (W (b + 1)) c d e g (!(h == c)) k l
 else
  k0 g h i j
abbrev Sd:Tm:=⟨[(2,.k (.hp 2 0 0)),(4,.k (.hp 4 0 0)),(5,.k (.hp 5 0 0)),(7,.d hI),(8,.d hI)],[(2,.var 31 true false [.d .bool,.d hIs,.d hIs]),(4,.var 31 true false [.d .bool,.d .nil,.d .nil]),(5,.var 31 true false [.d .bool,.d hIs,.d hIs])],[],[]⟩
abbrev Atp:Tm:=⟨[(4,.k (.hp 4 0 0)),(5,.k (.hp 5 0 0))],[(4,.var 31 true false [.d .bool,.d .nil,.d .nil]),(5,.var 31 true false [.d .bool,.d hIs,.d hIs])],[2],[]⟩
abbrev A1w:List (Exit × Tm):=[(.exit 0,Atp)]
def A1v {α:Type} (n:Nat) (v:Sd.den) (f:Sd.den->Option α) (ks:KS α A1w):Option α:=A1x n v.1.2.2.2.1 v.1.2.2.2.2.1 v.2.1.1 v.2.1.2.1 v.2.1.2.2.1 v.2.2.1.1 v.2.2.2.1.1 v.2.2.2.1.2.1 v.2.2.2.1.2.2.1 (fun a b c d e g h i j=>f (((),(),(),a,b,()),((c,d,e,()),(g,(),(),()),(h,i,j,()),()))) (fun w0 w1 w2 w3=>ks.1 (((),(),()),((w0,(),(),()),(w1,w2,w3,()),())))
def Pu {α:Type} (n m:Nat) (a b:Int) (c:Bool) (d e:LI) (f g:Bool) (h i:LI) (k0:Bool->Bool->LI->LI->Option α):Option α:=A5 (A1v n) m (((),(),(),a,b,()),((c,d,e,()),(f,(),(),()),(g,h,i,()),())) (fun w=>k0 w.2.1.1 w.2.2.1.1 w.2.2.1.2.1 w.2.2.1.2.2.1,())
theorem Ato {α n m a b c d e f g h i k0}:Pu (α:=α) n (m + 1) a b c d e f g h i k0 = A1x n a b c d e f g h i (fun a b c d e f g h i=>Pu n m a b c d e f g h i k0) k0:=rfl
def f197 (n:Nat) (a0:Rq) (a1:Int):Option Rq :=
 ob (f126 n 1) fun c =>
 Pu n n a1 0 a0.1 a0.2.1 a0.2.2 false c.1 c.2.1 c.2.2
  (fun j e a b=>(
   bif e then
    ob (f195 n (e,a,b)) fun d =>
    ob (f195 n ((!d),a,b)) fun f =>
    bif f then
     ob (f180 n) fun g =>
     some ((!d),a,g)
    else
     some ((!d),a,b)
   else
    ob (f195 n (false,a,b)) fun h =>
    bif h then
     ob (f180 n) fun i =>
     some (false,a,i)
    else
     some (false,a,b)))
def Vz (n:Nat):Ent:=⟨197,[hR,hI],[hR],fun x=>f197 n x.1 x.2⟩
def Afm (α:Type) (n:Nat):D3 α:={ reg:=[(1,⟨0,[],[(0,{ ent:=some (Ba n) })]⟩),(4,⟨15,[],[(9,{ ent:=some (H2 n) }),(14,{ ent:=some (H2 n) })]⟩),(6,⟨0,[],[(4,{ ent:=some (Pw n) })]⟩),(7,⟨0,[],[(1,{ ent:=some (Pw n) })]⟩),(8,⟨0,[],[(0,{ ent:=some (Q2 n) })]⟩)],join:=[],loop:=[(3,⟨Sd,A1w,A5 (A1v n) n⟩)] }
theorem Aae (α:Type) (n:Nat):Ao PP (Ai (Afm α n).reg):=⟨Ci n,Gb n,Gb n,Pv n,Pv n,Q1 n,trivial⟩
theorem Ao8 (α:Type) (n:Nat):LO.Sound (α:=α) PP ⟨40,[]⟩ ⟨Sd,A1w,A5 (A1v n) n⟩ (.loop ((A1 Tryz.f197).at [1,1,0,1,0,0])):=Bj (D:=Afm α n) (Aae α n) n
theorem B7s (α:Type) (n:Nat):D3.OK PP TT ⟨40,[]⟩ (Afm α n) (A1 Tryz.f197) :=
 D3.OK.mk3 (Aae α n) (show Ab (A1 Tryz.f197) = [(3,(.loop ((A1 Tryz.f197).at [1,1,0,1,0,0])))] by kernel_rfl) ⟨Ad rfl (Ao8 α n),trivial⟩
theorem Yc (n:Nat):(Vz n).Sound PP:=fk (fn:=Tryz.f197) (B7s _ n)

def f131 (n:Nat) (a0:Rq):Option Bool :=
 bif (decide ((a0.2.1.length:Int) <= 40)) then
  some (decide ((a0.2.2.length:Int) <= 40))
 else
  some false
def Wi (n:Nat):Ent:=⟨131,[hR],[.bool],fun x=>f131 n x⟩
def B8y (α:Type) (n:Nat):D3 α:={ reg:=[],join:=[],loop:=[] }
theorem Yo (n:Nat):(Wi n).Sound PP:=At (fn:=Tryz.f131) (D:=B8y _ n) trivial

abbrev Afi:Tm:=⟨[(4,.k (.hp 4 0 0)),(5,.k (.hp 5 0 0)),(6,.k (.hp 6 0 0)),(7,.k (.hp 7 0 0))],[(4,.var 31 true false [.d .bool,.d .nil,.d .nil]),(5,.var 31 true false [.d .bool,.d .nil,.d .nil]),(6,.var 31 true false [.d .bool,.d hIs,.d hIs]),(7,.var 31 true false [.d .bool,.d hIs,.d hIs])],[2],[]⟩
abbrev Ayw:Tm:=⟨[(1,.d hI),(2,.k (.hp 2 0 0)),(4,.k (.hp 4 0 0)),(5,.k (.hp 5 0 0)),(6,.k (.hp 6 0 0)),(7,.k (.hp 7 0 0))],[(2,.var 81 true false [.d .bool,.d hIs,.d hIs,.d hRs,.d hRs,.d .bool,.d hIs,.d hIs]),(4,.var 31 true false [.d .bool,.d .nil,.d .nil]),(5,.var 31 true false [.d .bool,.d .nil,.d .nil]),(6,.var 31 true false [.d .bool,.d hIs,.d hIs]),(7,.var 31 true false [.d .bool,.d hIs,.d hIs])],[],[]⟩
def Ac0 (n:Nat) (a0:Rq × LR × LR × Rq) (a1:Int):Option (Rq × Rq) :=
 ob (f126 n 0) fun a =>
 ob (f126 n 0) fun g =>
 let c:=fun (d:Bool) (e:LI) (f:LI)=>(
  bif (decide (a1 >= 2)) then
   ob (f197 n a0.1 (W (a1 - 2))) fun h =>
   ob (f126 n (W (a1 * (W (a1 - 1))))) fun i =>
   ob (f178 n h i) fun j =>
   some ((d,e,f),j)
  else
   some ((d,e,f),g))
 bif (decide (a1 >= 1)) then
  ob (f197 n a0.1 (W (a1 - 1))) fun k =>
  ob (f126 n a1) fun l =>
  ob (f178 n k l) fun b =>
  c b.1 b.2.1 b.2.2
 else
  c a.1 a.2.1 a.2.2
def Akh (n:Nat):Ent:=⟨209,[(.st (.pair hR (.pair hRs (.pair hRs hR)))),hI],[hR,hR],fun x=>Ac0 n x.1 x.2⟩
def Aki (α:Type) (n:Nat):D3 α:={ reg:=[(1,⟨0,[],[(0,{ ent:=some (Ba n) }),(1,{ ent:=some (Ba n) })]⟩),(3,⟨0,[],[(4,{ ent:=some (Vz n) }),(6,{ ent:=some (Ba n) }),(7,{ ent:=some (Af n) })]⟩),(5,⟨0,[],[(4,{ ent:=some (Vz n) }),(9,{ ent:=some (Ba n) }),(10,{ ent:=some (Af n) })]⟩)],join:=[(4,Ayw)],loop:=[],any:=[(6,Afi)] }
set_option maxHeartbeats 8000000 in
theorem Ayx (n:Nat):Ar TT ⟨35,[]⟩ [] Afi (Aa ((A1 Tryz.f209).at [1,1,1,1,0])):=by
 refine ⟨by kernel_rfl,fun w q hq=>?_⟩
 have e:WT [] (A8 (Aa ((A1 Tryz.f209).at [1,1,1,1,0])).toList) q = (q = []):=by kernel_rfl
 rw [e] at hq;obtain rfl:=hq
 all_goals exact .inr ⟨3,by kernel_rfl,by kernel_rfl,by kernel_rfl⟩
theorem Ao0 (α:Type) (n:Nat):Ao PP (Ai (Aki α n).reg):=⟨Ci n,Ci n,Yc n,Ci n,Bf n,Yc n,Ci n,Bf n,trivial⟩
theorem B31 (α:Type) (n:Nat):D3.OK PP TT ⟨35,[]⟩ (Aki α n) (A1 Tryz.f209) :=
 D3.OK.mk3a (Ao0 α n) (show Ab (A1 Tryz.f209) = [] by kernel_rfl) trivial (show Av (A1 Tryz.f209) = [(6,Aa ((A1 Tryz.f209).at [1,1,1,1,0]))] by kernel_rfl) ⟨⟨Ayx n,trivial⟩,trivial⟩
theorem Ayv (n:Nat):(Akh n).Sound PP:=fk (fn:=Tryz.f209) (B31 _ n)

def Yb (n:Nat) (a0:Rq × LR × LR × Rq) (a1:Int):Option (Rq × LR × LR × Rq) :=
 ob (Ac0 n a0 a1) fun a =>
 ob (f197 n a0.1 a1) fun b =>
 ob (Y4 n a0 b a.1 a.2) fun c =>
 some c
def Akl (n:Nat):Ent:=⟨198,[(.st (.pair hR (.pair hRs (.pair hRs hR)))),hI],[(.st (.pair hR (.pair hRs (.pair hRs hR))))],fun x=>Yb n x.1 x.2⟩
def B3c (α:Type) (n:Nat):D3 α:={ reg:=[(1,⟨0,[],[(2,{ ent:=some (Akh n) })]⟩),(2,⟨7,[],[(4,{ ent:=some (Vz n) }),(7,{ ent:=some (A7q n) })]⟩)],join:=[],loop:=[] }
theorem Ayz (n:Nat):(Akl n).Sound PP:=At (fn:=Tryz.f198) (D:=B3c _ n) ⟨Ayv n,Yc n,Af9 n,trivial⟩

abbrev Aam:Tm:=⟨[(2,.d hRs),(3,.k (.hw 1003)),(4,.k (.hp 4 0 0)),(5,.k (.hp 5 0 0)),(8,.k (.hp 8 0 0)),(10,.k (.hp 10 0 0)),(11,.k (.hp 11 0 0))],[(4,.var 84 true false [.d hI,.d hRs]),(5,.var 125 true false [.d hI,.d hI,.d hI,.d hI]),(8,.var 81 true false [.d .bool,.d .nil,.d .nil,.d .nil,.d .nil,.d .bool,.d .nil,.d .nil]),(10,.var 81 true false [.d .bool,.d .nil,.d .nil,.d .nil,.d .nil,.d .bool,.d .nil,.d .nil]),(11,.var 81 true false [.d .bool,.d .nil,.d .nil,.d .nil,.d .nil,.d .bool,.d .nil,.d .nil]),(1003,.arr 81 (.st (.pair hR (.pair hRs (.pair hRs hR)))) false)],[],[]⟩
abbrev Aum:Tm:=⟨[(2,.d hRs),(4,.k (.hp 4 0 0)),(5,.k (.hp 5 0 0)),(8,.k (.hp 8 0 0)),(10,.k (.hp 10 0 0)),(11,.k (.hp 11 0 0))],[(4,.var 84 true false [.d hI,.d hRs]),(5,.var 125 true false [.d hI,.d hI,.d hI,.d hI]),(8,.var 81 true false [.d .bool,.d .nil,.d .nil,.d .nil,.d .nil,.d .bool,.d .nil,.d .nil]),(10,.var 81 true false [.d .bool,.d hIs,.d hIs,.d hRs,.d hRs,.d .bool,.d hIs,.d hIs]),(11,.var 81 true false [.d .bool,.d hIs,.d hIs,.d hRs,.d hRs,.d .bool,.d hIs,.d hIs]),(1003,.arr 81 (.st (.pair hR (.pair hRs (.pair hRs hR)))) false)],[],[]⟩
def A5a (n:Nat) (a0:Int × LR) (a1:Nq) (a2:LR) (a3:List (Rq × LR × LR × Rq)):Option (((Rq × LR × LR × Rq) × Int) × (List (Rq × LR × LR × Rq))) :=
 let t:=fun (c:Bool) (d:LI) (e:LI) (f:LR) (g:LR) (h:Bool) (i:LI) (j:LI) (k:Bool) (l:LI) (m:LI) (o:LR) (p:LR) (q:Bool) (r:LI) (s:LI)=>(
  bif (a1.1 == 1) then
   ob (f126 n a1.2.2.2) fun u =>
   ob (Ac2 n a0 u) fun v =>
   some ((v,0),a3)
  else
   bif (a1.1 == 2) then
    gd (decide (0 <= a1.2.2.2) && decide (a1.2.2.2 < (a2.length:Int))) (
     let w:=a2.getD a1.2.2.2.toNat (false,[],[])
     ob (Ac1 n a0 w a1.2.2.2) fun x =>
     some ((x,0),a3))
   else
    bif (a1.1 == 3) then
     ob (Ll n ((c,d,e),f,g,h,i,j) ((k,l,m),o,p,q,r,s)) fun y =>
     some ((y,0),a3)
    else
     bif (a1.1 == 4) then
      ob (f126 n (-1)) fun z =>
      ob (Lk n ((k,l,m),o,p,q,r,s) z) fun d0 =>
      ob (Ll n ((c,d,e),f,g,h,i,j) d0) fun d1 =>
      some ((d1,0),a3)
     else
      bif (a1.1 == 5) then
       ob (Lj n ((c,d,e),f,g,h,i,j) ((k,l,m),o,p,q,r,s)) fun d2 =>
       some ((d2,0),a3)
      else
       bif (a1.1 == 6) then
        ob (f195 n (k,l,m)) fun d3 =>
        bif d3 then
         some ((((false,[],[]),[],[],false,[],[]),10),a3)
        else
         ob (Yd n ((k,l,m),o,p,q,r,s)) fun d4 =>
         ob (Lj n ((c,d,e),f,g,h,i,j) d4) fun d5 =>
         some ((d5,0),a3)
       else
        bif (a1.1 == 7) then
         ob (f126 n (-1)) fun d6 =>
         ob (Lk n ((c,d,e),f,g,h,i,j) d6) fun d7 =>
         some ((d7,0),a3)
        else
         ob (f197 n (c,d,e) a1.2.2.2) fun d8 =>
         ob (f131 n d8) fun d9 =>
         bif (!d9) then
          some ((((false,[],[]),[],[],false,[],[]),7),a3)
         else
          ob (Yb n ((c,d,e),f,g,h,i,j) a1.2.2.2) fun e0 =>
          some ((e0,0),a3))
 ob (f109 n a1) fun e1 =>
 bif (decide (e1 > 0)) then
  gd (decide (0 <= a1.2.1) && decide (a1.2.1 < (a3.length:Int))) (
   gd (decide (a1.2.1.toNat < a3.length)) (
    let a:=a3.getD a1.2.1.toNat ((false,[],[]),[],[],(false,[],[]))
    gd (decide (0 <= a1.2.2.1) && decide (a1.2.2.1 < (a3.length:Int))) (
     gd (decide (a1.2.2.1.toNat < a3.length)) (
      let b:=a3.getD a1.2.2.1.toNat ((false,[],[]),[],[],(false,[],[]))
      t a.1.1 a.1.2.1 a.1.2.2 a.2.1 a.2.2.1 a.2.2.2.1 a.2.2.2.2.1 a.2.2.2.2.2 b.1.1 b.1.2.1 b.1.2.2 b.2.1 b.2.2.1 b.2.2.2.1 b.2.2.2.2.1 b.2.2.2.2.2))))
 else
  t false [] [] [] [] false [] [] false [] [] [] [] false [] []
def Agf (n:Nat):Ent3:=⟨158,[.im (.st (.pair hI hRs)),.im hN,.im hRs,.one (.own 81 (.st (.pair hR (.pair hRs (.pair hRs hR)))))],[[.im (.st (.pair hR (.pair hRs (.pair hRs hR)))),.im hI]],fun x=>A5a n x.1 x.2.1 x.2.2.1 x.2.2.2⟩
def Agg (α:Type) (n:Nat):D3 α:={ reg:=[(2,⟨0,[],[(1,{ ent:=some (Wl n) })]⟩),(6,⟨4,[],[(3,{ ent:=some (Ba n) }),(4,{ ent:=some (Akq n) })]⟩),(8,⟨8,[],[(8,{ ent:=some (Akp n) })]⟩),(10,⟨0,[],[(2,{ ent:=some (A7v n) })]⟩),(12,⟨4,[],[(2,{ ent:=some (Ba n) }),(3,{ ent:=some (A7u n) }),(4,{ ent:=some (A7v n) })]⟩),(14,⟨0,[],[(2,{ ent:=some (A7s n) })]⟩),(16,⟨0,[],[(2,{ ent:=some (Pw n) })]⟩),(18,⟨3,[],[(2,{ ent:=some (Akm n) }),(3,{ ent:=some (A7s n) })]⟩),(20,⟨2,[],[(1,{ ent:=some (Ba n) }),(2,{ ent:=some (A7u n) })]⟩),(21,⟨0,[],[(4,{ ent:=some (Vz n) }),(5,{ ent:=some (Wi n) })]⟩),(23,⟨0,[],[(3,{ ent:=some (Akl n) })]⟩)],join:=[(4,Aum)],loop:=[],any:=[(3,Aam)] }
set_option maxHeartbeats 8000000 in
theorem Aun (n:Nat):Ar TT ⟨89,[]⟩ [] Aam (Aa ((A1 Tryz.f158).at [1,1,0,1,0])):=by
 refine ⟨by kernel_rfl,fun w q hq=>?_⟩
 have e:WT [] (A8 (Aa ((A1 Tryz.f158).at [1,1,0,1,0])).toList) q = (q = []):=by kernel_rfl
 rw [e] at hq;obtain rfl:=hq
 all_goals exact .inr ⟨11,by kernel_rfl,by kernel_rfl,by kernel_rfl⟩
theorem Ait (α:Type) (n:Nat):Ao PP (Ai (Agg α n).reg):=⟨Ys n,Ci n,Az9 n,Az7 n,Afy n,Ci n,Afw n,Afy n,Afo n,Pv n,Az0 n,Afo n,Ci n,Afw n,Yc n,Yo n,Ayz n,trivial⟩
theorem Azg (α:Type) (n:Nat):D3.OK PP TT ⟨89,[]⟩ (Agg α n) (A1 Tryz.f158) :=
 D3.OK.mk3a (Ait α n) (show Ab (A1 Tryz.f158) = [] by kernel_rfl) trivial (show Av (A1 Tryz.f158) = [(3,Aa ((A1 Tryz.f158).at [1,1,0,1,0])),(6,Aa ((A1 Tryz.f158).at [1,1,1,0,1,0,1,0,0])),(8,Aa ((A1 Tryz.f158).at [1,1,1,0,1,0,1,1,1,0,0])),(12,Aa ((A1 Tryz.f158).at [1,1,1,0,1,0,1,1,1,1,1,1,1,0,0])),(18,Aa ((A1 Tryz.f158).at [1,1,1,0,1,0,1,1,1,1,1,1,1,1,1,1,1,0,1,0])),(20,Aa ((A1 Tryz.f158).at [1,1,1,0,1,0,1,1,1,1,1,1,1,1,1,1,1,1,1,0,0]))] by kernel_rfl) ⟨⟨Aun n,trivial⟩,trivial,trivial,trivial,trivial,trivial,trivial⟩
theorem Aul (n:Nat):(Agf n).Sound PP:=Pf (fn:=Tryz.f158) (Azg _ n)

def f130 (n:Nat) (a0:Rq):Option Bool :=
 ob (f131 n a0) fun a =>
 some (!a)
def Auy (n:Nat):Ent:=⟨130,[hR],[.bool],fun x=>f130 n x⟩
def B8z (α:Type) (n:Nat):D3 α:={ reg:=[(1,⟨0,[],[(1,{ ent:=some (Wi n) })]⟩)],join:=[],loop:=[] }
theorem B4f (n:Nat):(Auy n).Sound PP:=At (fn:=Tryz.f130) (D:=B8z _ n) ⟨Yo n,trivial⟩

def Nj {α:Type} (n:Nat) (b:LR) (c a:Int) (f:LR->Int->Int->Option α) (k0:Int->Option α) (k1:Unit->Option α):Option α :=
 bif (decide (a < c)) then
  gd (decide (0 <= a) && decide (a < (b.length:Int))) (
   let d:=b.getD a.toNat (false,[],[])
   ob (f130 n d) fun e =>
   bif e then
    k0 a
   else
    f b c (W (a + 1)))
 else
  k1 ()
abbrev Ij:Tm:=⟨[(0,.d hRs),(1,.d (.fn 130)),(7,.d hI),(8,.d hI)],[],[],[]⟩
abbrev Abl:Tm:=⟨[(4,.d hI)],[],[],[]⟩
abbrev Abk:Tm:=⟨[],[],[],[]⟩
abbrev Ni:List (Exit × Tm):=[(.ret,Abl),(.exit 0,Abk)]
def Nh {α:Type} (n:Nat) (v:Ij.den) (f:Ij.den->Option α) (ks:KS α Ni):Option α:=Nj n v.1.1 v.1.2.2.1 v.1.2.2.2.1 (fun a b c=>f ((a,(),b,c,()),())) (fun w0=>ks.1 ((w0,()),())) (fun _=>ks.2.1 ((),()))
def H5 {α:Type} (n m:Nat) (a:LR) (b c:Int) (k0:Int->Option α) (k1:Unit->Option α):Option α:=A5 (Nh n) m ((a,(),b,c,()),()) (fun w=>k0 w.1.1,fun w=>k1 (),())
theorem Abj {α n m a b c k0 k1}:H5 (α:=α) n (m + 1) a b c k0 k1 = Nj n a b c (fun a b c=>H5 n m a b c k0 k1) k0 k1:=rfl
def A2e (n:Nat) (a0:LR) (a1:Unit):Option Int :=
 H5 n n a0 (a0.length:Int) 0
  (fun a=>(
   some a))
  (fun (_:Unit)=>(
   some (-1)))
def A58 (n:Nat):Ent:=⟨182,[hRs,(.fn 130)],[hI],fun x=>A2e n x.1 x.2⟩
def Sl (α:Type) (n:Nat):D3 α:={ reg:=[(4,⟨0,[],[(5,{ ent:=some (Auy n) })]⟩)],join:=[],loop:=[(2,⟨Ij,Ni,A5 (Nh n) n⟩)] }
theorem U9 (α:Type) (n:Nat):Ao PP (Ai (Sl α n).reg):=⟨B4f n,trivial⟩
theorem A7z (α:Type) (n:Nat):LO.Sound (α:=α) PP ⟨19,[]⟩ ⟨Ij,Ni,A5 (Nh n) n⟩ (.loop ((A1 Tryz.f182).at [1,0,1,0,0])):=Bj (D:=Sl α n) (U9 α n) n
theorem Aom (α:Type) (n:Nat):D3.OK PP TT ⟨19,[]⟩ (Sl α n) (A1 Tryz.f182) :=
 D3.OK.mk3 (U9 α n) (show Ab (A1 Tryz.f182) = [(2,(.loop ((A1 Tryz.f182).at [1,0,1,0,0])))] by kernel_rfl) ⟨Ad rfl (A7z α n),trivial⟩
theorem Ais (n:Nat):(A58 n).Sound PP:=fk (fn:=Tryz.f182) (Aom _ n)

def A2r (n:Nat) (a0:LR) (a1:Unit):Option Bool :=
 ob (A2e n a0 a1) fun a =>
 some (decide (a >= 0))
def A5j (n:Nat):Ent:=⟨129,[hRs,(.fn 130)],[.bool],fun x=>A2r n x.1 x.2⟩
def Aov (α:Type) (n:Nat):D3 α:={ reg:=[(1,⟨0,[],[(2,{ ent:=some (A58 n) })]⟩)],join:=[],loop:=[] }
theorem Aix (n:Nat):(A5j n).Sound PP:=At (fn:=Tryz.f129) (D:=Aov _ n) ⟨Ais n,trivial⟩

def f76 (n:Nat) (a0:LR):Option (LR × Int) :=
 ob (A2r n a0 ()) fun a =>
 bif a then
  some ([],7)
 else
  some (a0,0)
def An2 (n:Nat):Ent:=⟨76,[hRs],[hRs,hI],fun x=>f76 n x⟩
def Bab (α:Type) (n:Nat):D3 α:={ reg:=[(1,⟨0,[],[(1,{ ent:=some (A5j n) })]⟩)],join:=[],loop:=[] }
theorem Arv (n:Nat):(An2 n).Sound PP:=At (fn:=Tryz.f76) (D:=Bab _ n) ⟨Aix n,trivial⟩

def A59 (n:Nat) (a0:Rq × LR × LR × Rq):Option Bool :=
 ob (f76 n a0.2.1) fun a =>
 ob (f76 n a0.2.2.1) fun b =>
 ob (f131 n a0.1) fun c =>
 bif c then
  ob (f131 n a0.2.2.2) fun d =>
  bif d then
   bif (a.2 == 0) then
    some (b.2 == 0)
   else
    some false
  else
   some false
 else
  some false
def Akw (n:Nat):Ent:=⟨167,[(.st (.pair hR (.pair hRs (.pair hRs hR))))],[.bool],fun x=>A59 n x⟩
def B45 (α:Type) (n:Nat):D3 α:={ reg:=[(1,⟨0,[],[(2,{ ent:=some (An2 n) })]⟩),(2,⟨0,[],[(2,{ ent:=some (An2 n) })]⟩),(3,⟨0,[],[(2,{ ent:=some (Wi n) }),(6,{ ent:=some (Wi n) })]⟩)],join:=[],loop:=[] }
theorem Azf (n:Nat):(Akw n).Sound PP:=At (fn:=Tryz.f167) (D:=B45 _ n) ⟨Arv n,Arv n,Yo n,Yo n,trivial⟩

def Wo {α:Type} (n:Nat) (e:LR) (c:LN) (g b h:Int) (i:LR) (d:List (Rq × LR × LR × Rq)) (f:LR->LN->Int->Int->Int->LR->(List (Rq × LR × LR × Rq))->Option α) (k0:Int->Option α) (k1:(List (Rq × LR × LR × Rq))->Option α):Option α :=
 bif (decide (b < g)) then
  gd (decide (0 <= b) && decide (b < (c.length:Int))) (
   let j:=c.getD b.toNat (0,0,0,0)
   ob (A5a n (h,i) j e d) fun a =>
   gd (Nat.beq a.2.length d.length && true) (
    bif (a.1.2 != 0) then
     k0 a.1.2
    else
     ob (A59 n a.1.1) fun k =>
     bif (!k) then
      k0 7
     else
      gd (decide ((a.2.length + 1) * 160 <= 140737488355328)) (
       f e c g (W (b + 1)) h i (a.2 ++ [a.1.1]))))
 else
  k1 d
abbrev Od:Tm:=⟨[(2,.d hRs),(3,.k (.hp 3 0 0)),(8,.k (.hw 13)),(14,.d hNs),(15,.d hI),(16,.d hI)],[(3,.var 84 true false [.d hI,.d hRs]),(13,.arr 81 (.st (.pair hR (.pair hRs (.pair hRs hR)))) false)],[10,11,36],[]⟩
abbrev Ap4:Tm:=⟨[(6,.d .nil),(7,.d hI)],[],[3,10,11,13],[]⟩
abbrev Ap3:Tm:=⟨[(8,.k (.hw 13))],[(13,.arr 81 (.st (.pair hR (.pair hRs (.pair hRs hR)))) false)],[3],[]⟩
abbrev Wn:List (Exit × Tm):=[(.ret,Ap4),(.exit 0,Ap3)]
def Wm {α:Type} (n:Nat) (v:Od.den) (f:Od.den->Option α) (ks:KS α Wn):Option α:=Wo n v.1.1 v.1.2.2.2.1 v.1.2.2.2.2.1 v.1.2.2.2.2.2.1 v.2.1.1 v.2.1.2.1 v.2.2.1 (fun a b c d e g h=>f ((a,(),(),b,c,d,()),((e,g,()),h,()))) (fun w0=>ks.1 (((),w0,()),())) (fun w0=>ks.2.1 (((),()),(w0,())))
def T3 {α:Type} (n m:Nat) (a:LR) (b:LN) (c d e:Int) (f:LR) (g:List (Rq × LR × LR × Rq)) (k0:Int->Option α) (k1:(List (Rq × LR × LR × Rq))->Option α):Option α:=A5 (Wm n) m ((a,(),(),b,c,d,()),((e,f,()),g,())) (fun w=>k0 w.1.2.1,fun w=>k1 w.2.1,())
theorem Ap2 {α n m a b c d e f g k0 k1}:T3 (α:=α) n (m + 1) a b c d e f g k0 k1 = Wo n a b c d e f g (fun a b c d e f g=>T3 n m a b c d e f g k0 k1) k0 k1:=rfl
def Ac3 (n:Nat) (a0:Int × LR) (a1:LN) (a2:LR):Option ((List (Rq × LR × LR × Rq)) × Int) :=
 T3 n n a2 a1 (a1.length:Int) 0 a0.1 a0.2 []
  (fun a=>(
   some ([],a)))
  (fun b=>(
   some (b,0)))
def Al8 (n:Nat):Ent:=⟨104,[(.st (.pair hI hRs)),hNs,hRs],[(.sl (.st (.pair hR (.pair hRs (.pair hRs hR))))),hI],fun x=>Ac3 n x.1 x.2.1 x.2.2⟩
def A8d (α:Type) (n:Nat):D3 α:={ reg:=[(1,⟨0,[],[(0,{ sh:=some (.st (.pair hR (.pair hRs (.pair hRs hR)))) })]⟩),(5,⟨0,[],[(4,{ alt:=[(Agf n)],hb:=310 })]⟩),(8,⟨0,[],[(1,{ ent:=some (Akw n) })]⟩),(10,⟨0,[],[(2,{ sh:=some (.st (.pair hR (.pair hRs (.pair hRs hR)))) })]⟩)],join:=[],loop:=[(3,⟨Od,Wn,A5 (Wm n) n⟩)] }
theorem A5m (α:Type) (n:Nat):Ao PP (Ai (A8d α n).reg):=⟨Aul n,Azf n,trivial⟩
theorem Aiy (α:Type) (n:Nat):LO.Sound (α:=α) PP ⟨40,[]⟩ ⟨Od,Wn,A5 (Wm n) n⟩ (.loop ((A1 Tryz.f104).at [1,1,0,1,0,0])):=Bj (D:=A8d α n) (A5m α n) n
theorem B4v (α:Type) (n:Nat):D3.OK PP TT ⟨40,[]⟩ (A8d α n) (A1 Tryz.f104) :=
 D3.OK.mk3 (A5m α n) (show Ab (A1 Tryz.f104) = [(3,(.loop ((A1 Tryz.f104).at [1,1,0,1,0,0])))] by kernel_rfl) ⟨Ad rfl (Aiy α n),trivial⟩
theorem Azl (n:Nat):(Al8 n).Sound PP:=fk (fn:=Tryz.f104) (B4v _ n)

def Aeh (n:Nat) (a0:Int × LR) (a1:LN) (a2:LR):Option ((Rq × LR × LR × Rq) × Int) :=
 ob (Ac3 n a0 a1 a2) fun a =>
 bif (a.2 != 0) then
  some (((false,[],[]),[],[],false,[],[]),a.2)
 else
  gd (decide (0 <= (W ((a.1.length:Int) - 1))) && decide ((W ((a.1.length:Int) - 1)) < (a.1.length:Int))) (
   let b:=a.1.getD ((W ((a.1.length:Int) - 1)).toNat) ((false,[],[]),[],[],(false,[],[]))
   some (b,0))
def Aeg (n:Nat):Ent:=⟨60,[(.st (.pair hI hRs)),hE,hRs],[(.st (.pair hR (.pair hRs (.pair hRs hR)))),hI],fun x=>Aeh n x.1 x.2.1 x.2.2⟩
def B6l (α:Type) (n:Nat):D3 α:={ reg:=[(1,⟨0,[],[(4,{ ent:=some (Al8 n) })]⟩)],join:=[],loop:=[] }
theorem Ak0 (n:Nat):(Aeg n).Sound PP:=At (fn:=Tryz.f60) (D:=B6l _ n) ⟨Azl n,trivial⟩

def A5l (n:Nat) (a0:List Int):Option (List Int ⊕ Unit):=bif a0.isEmpty then some (.inr ()) else (Ik n a0).map .inl
def Hj (n:Nat):Ent3:=⟨117,[.im hIs],[[.one (.own 3 hI)],[.one (.emp hI)]],fun x=>A5l n x⟩
theorem Avd (n:Nat):(Hj n).Sound Tryz.prog:=by
 intro nt x z h
 cases x with
 | cons y l =>
  have h:(Ik n (y :: l)).map Sum.inl = some z:=h
  cases e:Ik n (y :: l) with
  | none=>rw [e] at h;cases h
  | some r =>
   rw [e] at h;obtain rfl:=QA h;exact T0 n nt (y :: l) r e
 | nil =>
  have h:some (Sum.inr ()) = some z:=h;obtain rfl:=QA h;exact Agt nt

abbrev Aef:Tm:=⟨[(1,.k (.hp 1 0 0)),(2,.k (.hp 2 0 0))],[(1,.var 31 true false [.d .bool,.d hIs,.d hIs]),(2,.var 31 true false [.d .bool,.d .nil,.d .nil])],[],[]⟩
def Xy (n:Nat) (a0:Rq):Option ((Bool × LI × LI) ⊕ (Bool × Unit × LI)) :=
 ob (A5l n a0.2.1) fun a =>
 Ez a (fun b =>
  ob (Ik n a0.2.2) fun c =>
  some (.inl (a0.1,b,c))) (fun e =>
  ob (Ik n a0.2.2) fun d =>
  some (.inr (a0.1,(),d)))
def D9 (n:Nat):Ent3:=⟨61,[.im hR],[[.mix [.im .bool,.own 3 hI,.own 3 hI]],[.mix [.im .bool,.emp hI,.own 3 hI]]],fun x=>Xy n x⟩
def Ajz (α:Type) (n:Nat):D3 α:={ reg:=[(1,⟨0,[],[(4,{ entB:=some (Hj n),hb:=310 }),(7,{ entB:=some (Cy n),hb:=320 })]⟩)],join:=[],loop:=[],any:=[(1,Aef)] }
set_option maxHeartbeats 8000000 in
theorem Ayd (n:Nat):Ar TT ⟨12,[]⟩ [(4,{ entB:=some (Hj n),hb:=310 }),(7,{ entB:=some (Cy n),hb:=320 })] Aef (Aa ((A1 Tryz.f61).at [1,0])):=by
 refine ⟨by kernel_rfl,fun w q hq=>?_⟩
 have e:WT [(4,{ entB:=some (Hj n),hb:=310 }),(7,{ entB:=some (Cy n),hb:=320 })] (A8 (Aa ((A1 Tryz.f61).at [1,0])).toList) q = (∃ (y0:HF (Am 1000 (Hj n).ts) (Hj n).forms) (q0:List (Nat × RV)),q = (4,.bx (Hj n) y0) :: q0 /\ ∃ (y1:HF (Am 1000 (Cy n).ts) (Cy n).forms) (q1:List (Nat × RV)),q0 = (7,.bx (Cy n) y1) :: q1 /\ q1 = []):=by kernel_rfl
 rw [e] at hq;obtain ⟨y0,q0,rfl,y1,q1,rfl,rfl⟩:=hq;all_goals rcases y0 with y0 | y0
 all_goals exact .inl (Iw.mk (by kernel_rfl))
theorem An6 (α:Type) (n:Nat):Ao PP (Ai (Ajz α n).reg):=⟨Avd n,T0 n,trivial⟩
theorem B27 (α:Type) (n:Nat):D3.OK PP TT ⟨12,[]⟩ (Ajz α n) (A1 Tryz.f61) :=
 D3.OK.mk3a (An6 α n) (show Ab (A1 Tryz.f61) = [] by kernel_rfl) trivial (show Av (A1 Tryz.f61) = [(1,Aa ((A1 Tryz.f61).at [1,0]))] by kernel_rfl) ⟨⟨Ayd n,trivial⟩,trivial⟩
theorem Aee (n:Nat):(D9 n).Sound PP:=Pf (fn:=Tryz.f61) (B27 _ n)

abbrev Akt:Tm:=⟨[(1,.d hRs),(2,.d hRs),(3,.k (.hp 3 0 0)),(6,.k (.hp 6 0 0)),(7,.k (.hp 7 0 0))],[(3,.var 25 true false [.d hNs]),(6,.var 31 true false [.d .bool,.d .nil,.d .nil]),(7,.var 31 true false [.d .bool,.d .nil,.d .nil])],[],[]⟩
abbrev Aks:Tm:=⟨[(6,.k (.hp 6 0 0)),(7,.k (.hp 7 0 0)),(10,.k (.hp 10 0 0))],[(6,.var 31 true false [.d .bool,.d .nil,.d .nil]),(7,.var 31 true false [.d .bool,.d .nil,.d .nil]),(10,.var 81 true false [.d .bool,.d hIs,.d hIs,.d hRs,.d hRs,.d .bool,.d hIs,.d hIs])],[3,14,22],[]⟩
def Aoo (n:Nat) (a0:LN) (a1 a2:LR):Option (((Bool × LI × LI) × (Bool × LI × LI) × Int) ⊕ (((Bool × LI × LI) × (Bool × Unit × LI) × Int) ⊕ (((Bool × Unit × LI) × (Bool × LI × LI) × Int) ⊕ (((Bool × Unit × LI) × (Bool × Unit × LI) × Int) ⊕ ((Bool × Unit × Unit) × (Bool × Unit × Unit) × Int))))) :=
 ob (f65 n [a1,a2]) fun i =>
 ob (f59 n a0 a1) fun j =>
 ob (f66 n a1 a2) fun k =>
 ob (f64 n [i,j,k]) fun f =>
 bif (f != 0) then
  some (.inr (.inr (.inr (.inr ((false,(),()),(false,(),()),f)))))
 else
  ob (Aeh n (0,a2) a0 a1) fun b =>
  bif (b.2 != 0) then
   some (.inr (.inr (.inr (.inr ((false,(),()),(false,(),()),b.2)))))
  else
   ob (Xy n b.1.1) fun l =>
   Ez l (fun a =>
    ob (Xy n b.1.2.2.2) fun m =>
    Ez m (fun d =>
     some (.inl ((a.1,a.2.1,a.2.2),(d.1,d.2.1,d.2.2),0))) (fun g =>
     some (.inr (.inl ((a.1,a.2.1,a.2.2),(g.1,(),g.2.2),0))))) (fun c =>
    ob (Xy n b.1.2.2.2) fun o =>
    Ez o (fun e =>
     some (.inr (.inr (.inl ((c.1,(),c.2.2),(e.1,e.2.1,e.2.2),0))))) (fun h =>
     some (.inr (.inr (.inr (.inl ((c.1,(),c.2.2),(h.1,(),h.2.2),0)))))))
def Aub (n:Nat):Ent3:=⟨17,[.im hE,.im hRs,.im hRs],[[.mix [.im .bool,.own 3 hI,.own 3 hI],.mix [.im .bool,.own 3 hI,.own 3 hI],.im hI],[.mix [.im .bool,.own 3 hI,.own 3 hI],.mix [.im .bool,.emp hI,.own 3 hI],.im hI],[.mix [.im .bool,.emp hI,.own 3 hI],.mix [.im .bool,.own 3 hI,.own 3 hI],.im hI],[.mix [.im .bool,.emp hI,.own 3 hI],.mix [.im .bool,.emp hI,.own 3 hI],.im hI],[.mix [.im .bool,.im .nil,.im .nil],.mix [.im .bool,.im .nil,.im .nil],.im hI]],fun x=>Aoo n x.1 x.2.1 x.2.2⟩
def Auc (α:Type) (n:Nat):D3 α:={ reg:=[(1,⟨0,[],[(2,{ sh:=some hRs }),(3,{ ent:=some (Ed n) }),(6,{ ent:=some (Ie n) }),(9,{ ent:=some (Id n) }),(10,{ sh:=some hI }),(11,{ ent:=some (Db n) })]⟩),(4,⟨0,[],[(4,{ ent:=some (Aeg n) })]⟩),(7,⟨0,[],[(2,{ entB:=some (D9 n),hb:=310 }),(5,{ entB:=some (D9 n),hb:=320 })]⟩)],join:=[],loop:=[],any:=[(1,Akt),(7,Aks)] }
set_option maxHeartbeats 8000000 in
theorem B3u (n:Nat):Ar TT ⟨48,[]⟩ [(2,{ sh:=some hRs }),(3,{ ent:=some (Ed n) }),(6,{ ent:=some (Ie n) }),(9,{ ent:=some (Id n) }),(10,{ sh:=some hI }),(11,{ ent:=some (Db n) })] Akt (Aa ((A1 Tryz.f17).at [1,0,0])):=by
 refine ⟨by kernel_rfl,fun w q hq=>?_⟩
 have e:WT [(2,{ sh:=some hRs }),(3,{ ent:=some (Ed n) }),(6,{ ent:=some (Ie n) }),(9,{ ent:=some (Id n) }),(10,{ sh:=some hI }),(11,{ ent:=some (Db n) })] (A8 (Aa ((A1 Tryz.f17).at [1,0,0])).toList) q = (∃ (y0:HL (Ed n).rs) (q0:List (Nat × RV)),q = (3,.sv (Al (Ed n).rs y0)) :: q0 /\ ∃ (y1:HL (Ie n).rs) (q1:List (Nat × RV)),q0 = (6,.sv (Al (Ie n).rs y1)) :: q1 /\ ∃ (y2:HL (Id n).rs) (q2:List (Nat × RV)),q1 = (9,.sv (Al (Id n).rs y2)) :: q2 /\ ∃ (y3:HL (Db n).rs) (q3:List (Nat × RV)),q2 = (11,.sv (Al (Db n).rs y3)) :: q3 /\ q3 = []):=by kernel_rfl
 rw [e] at hq;obtain ⟨y0,q0,rfl,y1,q1,rfl,y2,q2,rfl,y3,q3,rfl,rfl⟩:=hq
 all_goals exact .inr ⟨9,by kernel_rfl,by kernel_rfl,by kernel_rfl⟩
set_option maxHeartbeats 8000000 in
theorem B3t (n:Nat):Ar TT ⟨48,[]⟩ [(2,{ entB:=some (D9 n),hb:=310 }),(5,{ entB:=some (D9 n),hb:=320 })] Aks (Aa ((A1 Tryz.f17).at [1,1,1,1,0])):=by
 refine ⟨by kernel_rfl,fun w q hq=>?_⟩
 have e:WT [(2,{ entB:=some (D9 n),hb:=310 }),(5,{ entB:=some (D9 n),hb:=320 })] (A8 (Aa ((A1 Tryz.f17).at [1,1,1,1,0])).toList) q = (∃ (y0:HF (Am 1000 (D9 n).ts) (D9 n).forms) (q0:List (Nat × RV)),q = (2,.bx (D9 n) y0) :: q0 /\ ∃ (y1:HF (Am 1000 (D9 n).ts) (D9 n).forms) (q1:List (Nat × RV)),q0 = (5,.bx (D9 n) y1) :: q1 /\ q1 = []):=by kernel_rfl
 rw [e] at hq;obtain ⟨y0,q0,rfl,y1,q1,rfl,rfl⟩:=hq;all_goals rcases y0 with y0 | y0
 all_goals rcases y1 with y1 | y1
 all_goals exact .inl (Iw.mk (by kernel_rfl))
theorem Aua (α:Type) (n:Nat):Ao PP (Ai (Auc α n).reg):=⟨Ae8 n,As0 n,Arw n,Vd n,Ak0 n,Aee n,Aee n,trivial⟩
theorem B84 (α:Type) (n:Nat):D3.OK PP TT ⟨48,[]⟩ (Auc α n) (A1 Tryz.f17) :=
 D3.OK.mk3a (Aua α n) (show Ab (A1 Tryz.f17) = [] by kernel_rfl) trivial (show Av (A1 Tryz.f17) = [(1,Aa ((A1 Tryz.f17).at [1,0,0])),(7,Aa ((A1 Tryz.f17).at [1,1,1,1,0]))] by kernel_rfl) ⟨⟨B3u n,trivial⟩,⟨B3t n,trivial⟩,trivial⟩
theorem B3s (n:Nat):(Aub n).Sound PP:=Pf (fn:=Tryz.f17) (B84 _ n)

def A75 {α:Type} (n:Nat) (b c:LI) (a:Int) (f:LI->LI->Int->Option α) (k0:Bool->Option α) (k1:Unit->Option α):Option α :=
 bif (decide (a < (b.length:Int))) then
  gd (decide (0 <= a) && decide (a < (b.length:Int))) (
   gd (decide (0 <= a) && decide (a < (c.length:Int))) (
    bif ((b.getD a.toNat 0) != (c.getD a.toNat 0)) then
     k0 false
    else
     f b c (W (a + 1))))
 else
  k1 ()
abbrev Xt:Tm:=⟨[(0,.d hIs),(1,.d hIs),(5,.d hI)],[],[],[]⟩
abbrev Ay5:Tm:=⟨[(4,.d .bool)],[],[],[]⟩
abbrev Ay4:Tm:=⟨[],[],[],[]⟩
abbrev A74:List (Exit × Tm):=[(.ret,Ay5),(.exit 0,Ay4)]
def A73 {α:Type} (n:Nat) (v:Xt.den) (f:Xt.den->Option α) (ks:KS α A74):Option α:=A75 n v.1.1 v.1.2.1 v.1.2.2.1 (fun a b c=>f ((a,b,c,()),())) (fun w0=>ks.1 ((w0,()),())) (fun _=>ks.2.1 ((),()))
def A4b {α:Type} (n m:Nat) (a b:LI) (c:Int) (k0:Bool->Option α) (k1:Unit->Option α):Option α:=A5 (A73 n) m ((a,b,c,()),()) (fun w=>k0 w.1.1,fun w=>k1 (),())
theorem Ay3 {α n m a b c k0 k1}:A4b (α:=α) n (m + 1) a b c k0 k1 = A75 n a b c (fun a b c=>A4b n m a b c k0 k1) k0 k1:=rfl
def f84 (n:Nat) (a0 a1:LI):Option Bool :=
 bif ((a0.length:Int) != (a1.length:Int)) then
  some false
 else
  A4b n n a0 a1 0
   (fun a=>(
    some a))
   (fun (_:Unit)=>(
    some true))
def Amx (n:Nat):Ent:=⟨84,[hIs,hIs],[.bool],fun x=>f84 n x.1 x.2⟩
def Amy (α:Type) (n:Nat):D3 α:={ reg:=[(6,⟨8,[],[]⟩)],join:=[],loop:=[(4,⟨Xt,A74,A5 (A73 n) n⟩)] }
theorem Ae4 (α:Type) (n:Nat):Ao PP (Ai (Amy α n).reg):=trivial
theorem Arq (α:Type) (n:Nat):LO.Sound (α:=α) PP ⟨26,[]⟩ ⟨Xt,A74,A5 (A73 n) n⟩ (.loop ((A1 Tryz.f84).at [1,1,0,1,0,0])):=Bj (D:=Amy α n) (Ae4 α n) n
theorem Ba6 (α:Type) (n:Nat):D3.OK PP TT ⟨26,[]⟩ (Amy α n) (A1 Tryz.f84) :=
 D3.OK.mk3 (Ae4 α n) (show Ab (A1 Tryz.f84) = [(4,(.loop ((A1 Tryz.f84).at [1,1,0,1,0,0])))] by kernel_rfl) ⟨Ad rfl (Arq α n),trivial⟩
theorem Aro (n:Nat):(Amx n).Sound PP:=fk (fn:=Tryz.f84) (Ba6 _ n)

def f33 (n:Nat) (a0 a1:Rq):Option Bool :=
 bif (!(a0.1 == a1.1)) then
  some false
 else
  ob (f84 n a0.2.1 a1.2.1) fun a =>
  bif (!a) then
   some false
  else
   ob (f84 n a0.2.2 a1.2.2) fun b =>
   bif (!b) then
    some false
   else
    some true
def O4 (n:Nat):Ent:=⟨33,[hR,hR],[.bool],fun x=>f33 n x.1 x.2⟩
def Baq (α:Type) (n:Nat):D3 α:={ reg:=[(3,⟨0,[],[(4,{ ent:=some (Amx n) })]⟩),(5,⟨0,[],[(4,{ ent:=some (Amx n) })]⟩)],join:=[],loop:=[] }
theorem Mp (n:Nat):(O4 n).Sound PP:=At (fn:=Tryz.f33) (D:=Baq _ n) ⟨Aro n,Aro n,trivial⟩

def f140 (n:Nat) (a0 a1:Nq):Option Bool :=
 bif (a0.1 != a1.1) then
  some false
 else
  bif (a0.2.1 != a1.2.1) then
   some false
  else
   bif (a0.2.2.1 != a1.2.2.1) then
    some false
   else
    bif (a0.2.2.2 != a1.2.2.2) then
     some false
    else
     some true
def Auv (n:Nat):Ent:=⟨140,[hN,hN],[.bool],fun x=>f140 n x.1 x.2⟩
def B8u (α:Type) (n:Nat):D3 α:={ reg:=[],join:=[],loop:=[] }
theorem B4d (n:Nat):(Auv n).Sound PP:=At (fn:=Tryz.f140) (D:=B8u _ n) trivial

def A72 {α:Type} (n:Nat) (b c:LN) (a:Int) (f:LN->LN->Int->Option α) (k0:Bool->Option α) (k1:Unit->Option α):Option α :=
 bif (decide (a < (b.length:Int))) then
  gd (decide (0 <= a) && decide (a < (b.length:Int))) (
   let d:=b.getD a.toNat (0,0,0,0)
   gd (decide (0 <= a) && decide (a < (c.length:Int))) (
    let e:=c.getD a.toNat (0,0,0,0)
    ob (f140 n d e) fun g =>
    bif (!g) then
     k0 false
    else
     f b c (W (a + 1))))
 else
  k1 ()
abbrev Xs:Tm:=⟨[(0,.d hNs),(1,.d hNs),(5,.d hI)],[],[],[]⟩
abbrev Ay2:Tm:=⟨[(4,.d .bool)],[],[],[]⟩
abbrev Ay1:Tm:=⟨[],[],[],[]⟩
abbrev A71:List (Exit × Tm):=[(.ret,Ay2),(.exit 0,Ay1)]
def A70 {α:Type} (n:Nat) (v:Xs.den) (f:Xs.den->Option α) (ks:KS α A71):Option α:=A72 n v.1.1 v.1.2.1 v.1.2.2.1 (fun a b c=>f ((a,b,c,()),())) (fun w0=>ks.1 ((w0,()),())) (fun _=>ks.2.1 ((),()))
def Va {α:Type} (n m:Nat) (a b:LN) (c:Int) (k0:Bool->Option α) (k1:Unit->Option α):Option α:=A5 (A70 n) m ((a,b,c,()),()) (fun w=>k0 w.1.1,fun w=>k1 (),())
theorem Ay0 {α n m a b c k0 k1}:Va (α:=α) n (m + 1) a b c k0 k1 = A72 n a b c (fun a b c=>Va n m a b c k0 k1) k0 k1:=rfl
def f85 (n:Nat) (a0 a1:LN):Option Bool :=
 bif ((a0.length:Int) != (a1.length:Int)) then
  some false
 else
  Va n n a0 a1 0
   (fun a=>(
    some a))
   (fun (_:Unit)=>(
    some true))
def B0n (n:Nat):Ent:=⟨85,[hNs,hNs],[.bool],fun x=>f85 n x.1 x.2⟩
def Amw (α:Type) (n:Nat):D3 α:={ reg:=[(6,⟨8,[],[(8,{ ent:=some (Auv n) })]⟩)],join:=[],loop:=[(4,⟨Xs,A71,A5 (A70 n) n⟩)] }
theorem Ae2 (α:Type) (n:Nat):Ao PP (Ai (Amw α n).reg):=⟨B4d n,trivial⟩
theorem Arn (α:Type) (n:Nat):LO.Sound (α:=α) PP ⟨27,[]⟩ ⟨Xs,A71,A5 (A70 n) n⟩ (.loop ((A1 Tryz.f85).at [1,1,0,1,0,0])):=Bj (D:=Amw α n) (Ae2 α n) n
theorem Ba5 (α:Type) (n:Nat):D3.OK PP TT ⟨27,[]⟩ (Amw α n) (A1 Tryz.f85) :=
 D3.OK.mk3 (Ae2 α n) (show Ab (A1 Tryz.f85) = [(4,(.loop ((A1 Tryz.f85).at [1,1,0,1,0,0])))] by kernel_rfl) ⟨Ad rfl (Arn α n),trivial⟩
theorem B68 (n:Nat):(B0n n).Sound PP:=fk (fn:=Tryz.f85) (Ba5 _ n)

def f34 (n:Nat) (a0 a1:LN):Option Bool :=
 ob (f85 n a0 a1) fun a =>
 bif (!a) then
  some false
 else
  some true
def B0x (n:Nat):Ent:=⟨34,[hE,hE],[.bool],fun x=>f34 n x.1 x.2⟩
def Bap (α:Type) (n:Nat):D3 α:={ reg:=[(1,⟨0,[],[(4,{ ent:=some (B0n n) })]⟩)],join:=[],loop:=[] }
theorem B6s (n:Nat):(B0x n).Sound PP:=At (fn:=Tryz.f34) (D:=Bap _ n) ⟨B68 n,trivial⟩

def A7h {α:Type} (n:Nat) (b c:LR) (a:Int) (f:LR->LR->Int->Option α) (k0:Bool->Option α) (k1:Unit->Option α):Option α :=
 bif (decide (a < (b.length:Int))) then
  gd (decide (0 <= a) && decide (a < (b.length:Int))) (
   let d:=b.getD a.toNat (false,[],[])
   gd (decide (0 <= a) && decide (a < (c.length:Int))) (
    let e:=c.getD a.toNat (false,[],[])
    ob (f33 n d e) fun g =>
    bif (!g) then
     k0 false
    else
     f b c (W (a + 1))))
 else
  k1 ()
abbrev Xz:Tm:=⟨[(0,.d hRs),(1,.d hRs),(5,.d hI)],[],[],[]⟩
abbrev Ayi:Tm:=⟨[(4,.d .bool)],[],[],[]⟩
abbrev Ayh:Tm:=⟨[],[],[],[]⟩
abbrev A7g:List (Exit × Tm):=[(.ret,Ayi),(.exit 0,Ayh)]
def A7f {α:Type} (n:Nat) (v:Xz.den) (f:Xz.den->Option α) (ks:KS α A7g):Option α:=A7h n v.1.1 v.1.2.1 v.1.2.2.1 (fun a b c=>f ((a,b,c,()),())) (fun w0=>ks.1 ((w0,()),())) (fun _=>ks.2.1 ((),()))
def A4f {α:Type} (n m:Nat) (a b:LR) (c:Int) (k0:Bool->Option α) (k1:Unit->Option α):Option α:=A5 (A7f n) m ((a,b,c,()),()) (fun w=>k0 w.1.1,fun w=>k1 (),())
theorem Ayg {α n m a b c k0 k1}:A4f (α:=α) n (m + 1) a b c k0 k1 = A7h n a b c (fun a b c=>A4f n m a b c k0 k1) k0 k1:=rfl
def f35 (n:Nat) (a0 a1:LR):Option Bool :=
 bif ((a0.length:Int) != (a1.length:Int)) then
  some false
 else
  A4f n n a0 a1 0
   (fun a=>(
    some a))
   (fun (_:Unit)=>(
    some true))
def An9 (n:Nat):Ent:=⟨35,[hRs,hRs],[.bool],fun x=>f35 n x.1 x.2⟩
def Ana (α:Type) (n:Nat):D3 α:={ reg:=[(6,⟨8,[],[(8,{ ent:=some (O4 n) })]⟩)],join:=[],loop:=[(4,⟨Xz,A7g,A5 (A7f n) n⟩)] }
theorem Aen (α:Type) (n:Nat):Ao PP (Ai (Ana α n).reg):=⟨Mp n,trivial⟩
theorem As8 (α:Type) (n:Nat):LO.Sound (α:=α) PP ⟨27,[]⟩ ⟨Xz,A7g,A5 (A7f n) n⟩ (.loop ((A1 Tryz.f35).at [1,1,0,1,0,0])):=Bj (D:=Ana α n) (Aen α n) n
theorem Bao (α:Type) (n:Nat):D3.OK PP TT ⟨27,[]⟩ (Ana α n) (A1 Tryz.f35) :=
 D3.OK.mk3 (Aen α n) (show Ab (A1 Tryz.f35) = [(4,(.loop ((A1 Tryz.f35).at [1,1,0,1,0,0])))] by kernel_rfl) ⟨Ad rfl (As8 α n),trivial⟩
theorem As6 (n:Nat):(An9 n).Sound PP:=fk (fn:=Tryz.f35) (Bao _ n)

def Mn {α:Type} (n:Nat) (c a:Int) (b:LN) (f:Int->Int->LN->Option α) (k0:Int->LN->Option α):Option α :=
 bif (decide (a < (b.length:Int))) then
  gd (decide (0 <= a) && decide (a < (b.length:Int))) (
   gd (decide (a.toNat < b.length)) (
    gd (decide (0 <= a) && decide (a < (((b.set a.toNat (c,((b.getD a.toNat (0,0,0,0)).2).1,(((b.getD a.toNat (0,0,0,0)).2).2))).length:Nat):Int))) (
     gd (decide (a.toNat < (b.set a.toNat (c,((b.getD a.toNat (0,0,0,0)).2).1,(((b.getD a.toNat (0,0,0,0)).2).2))).length)) (
      gd (decide (0 <= a) && decide (a < ((((b.set a.toNat (c,((b.getD a.toNat (0,0,0,0)).2).1,(((b.getD a.toNat (0,0,0,0)).2).2))).set a.toNat (((b.set a.toNat (c,((b.getD a.toNat (0,0,0,0)).2).1,(((b.getD a.toNat (0,0,0,0)).2).2))).getD a.toNat (0,0,0,0)).1,(W (c + 1)),((((b.set a.toNat (c,((b.getD a.toNat (0,0,0,0)).2).1,(((b.getD a.toNat (0,0,0,0)).2).2))).getD a.toNat (0,0,0,0)).2).2))).length:Nat):Int))) (
       gd (decide (a.toNat < ((b.set a.toNat (c,((b.getD a.toNat (0,0,0,0)).2).1,(((b.getD a.toNat (0,0,0,0)).2).2))).set a.toNat (((b.set a.toNat (c,((b.getD a.toNat (0,0,0,0)).2).1,(((b.getD a.toNat (0,0,0,0)).2).2))).getD a.toNat (0,0,0,0)).1,(W (c + 1)),((((b.set a.toNat (c,((b.getD a.toNat (0,0,0,0)).2).1,(((b.getD a.toNat (0,0,0,0)).2).2))).getD a.toNat (0,0,0,0)).2).2))).length)) (
        gd (decide (0 <= a) && decide (a < (((((b.set a.toNat (c,((b.getD a.toNat (0,0,0,0)).2).1,(((b.getD a.toNat (0,0,0,0)).2).2))).set a.toNat (((b.set a.toNat (c,((b.getD a.toNat (0,0,0,0)).2).1,(((b.getD a.toNat (0,0,0,0)).2).2))).getD a.toNat (0,0,0,0)).1,(W (c + 1)),((((b.set a.toNat (c,((b.getD a.toNat (0,0,0,0)).2).1,(((b.getD a.toNat (0,0,0,0)).2).2))).getD a.toNat (0,0,0,0)).2).2))).set a.toNat ((((b.set a.toNat (c,((b.getD a.toNat (0,0,0,0)).2).1,(((b.getD a.toNat (0,0,0,0)).2).2))).set a.toNat (((b.set a.toNat (c,((b.getD a.toNat (0,0,0,0)).2).1,(((b.getD a.toNat (0,0,0,0)).2).2))).getD a.toNat (0,0,0,0)).1,(W (c + 1)),((((b.set a.toNat (c,((b.getD a.toNat (0,0,0,0)).2).1,(((b.getD a.toNat (0,0,0,0)).2).2))).getD a.toNat (0,0,0,0)).2).2))).getD a.toNat (0,0,0,0)).1,((((b.set a.toNat (c,((b.getD a.toNat (0,0,0,0)).2).1,(((b.getD a.toNat (0,0,0,0)).2).2))).set a.toNat (((b.set a.toNat (c,((b.getD a.toNat (0,0,0,0)).2).1,(((b.getD a.toNat (0,0,0,0)).2).2))).getD a.toNat (0,0,0,0)).1,(W (c + 1)),((((b.set a.toNat (c,((b.getD a.toNat (0,0,0,0)).2).1,(((b.getD a.toNat (0,0,0,0)).2).2))).getD a.toNat (0,0,0,0)).2).2))).getD a.toNat (0,0,0,0)).2).1,(W ((W (c + 1)) + 1)),(((((b.set a.toNat (c,((b.getD a.toNat (0,0,0,0)).2).1,(((b.getD a.toNat (0,0,0,0)).2).2))).set a.toNat (((b.set a.toNat (c,((b.getD a.toNat (0,0,0,0)).2).1,(((b.getD a.toNat (0,0,0,0)).2).2))).getD a.toNat (0,0,0,0)).1,(W (c + 1)),((((b.set a.toNat (c,((b.getD a.toNat (0,0,0,0)).2).1,(((b.getD a.toNat (0,0,0,0)).2).2))).getD a.toNat (0,0,0,0)).2).2))).getD a.toNat (0,0,0,0)).2).2).2)).length:Nat):Int))) (
         gd (decide (a.toNat < (((b.set a.toNat (c,((b.getD a.toNat (0,0,0,0)).2).1,(((b.getD a.toNat (0,0,0,0)).2).2))).set a.toNat (((b.set a.toNat (c,((b.getD a.toNat (0,0,0,0)).2).1,(((b.getD a.toNat (0,0,0,0)).2).2))).getD a.toNat (0,0,0,0)).1,(W (c + 1)),((((b.set a.toNat (c,((b.getD a.toNat (0,0,0,0)).2).1,(((b.getD a.toNat (0,0,0,0)).2).2))).getD a.toNat (0,0,0,0)).2).2))).set a.toNat ((((b.set a.toNat (c,((b.getD a.toNat (0,0,0,0)).2).1,(((b.getD a.toNat (0,0,0,0)).2).2))).set a.toNat (((b.set a.toNat (c,((b.getD a.toNat (0,0,0,0)).2).1,(((b.getD a.toNat (0,0,0,0)).2).2))).getD a.toNat (0,0,0,0)).1,(W (c + 1)),((((b.set a.toNat (c,((b.getD a.toNat (0,0,0,0)).2).1,(((b.getD a.toNat (0,0,0,0)).2).2))).getD a.toNat (0,0,0,0)).2).2))).getD a.toNat (0,0,0,0)).1,((((b.set a.toNat (c,((b.getD a.toNat (0,0,0,0)).2).1,(((b.getD a.toNat (0,0,0,0)).2).2))).set a.toNat (((b.set a.toNat (c,((b.getD a.toNat (0,0,0,0)).2).1,(((b.getD a.toNat (0,0,0,0)).2).2))).getD a.toNat (0,0,0,0)).1,(W (c + 1)),((((b.set a.toNat (c,((b.getD a.toNat (0,0,0,0)).2).1,(((b.getD a.toNat (0,0,0,0)).2).2))).getD a.toNat (0,0,0,0)).2).2))).getD a.toNat (0,0,0,0)).2).1,(W ((W (c + 1)) + 1)),(((((b.set a.toNat (c,((b.getD a.toNat (0,0,0,0)).2).1,(((b.getD a.toNat (0,0,0,0)).2).2))).set a.toNat (((b.set a.toNat (c,((b.getD a.toNat (0,0,0,0)).2).1,(((b.getD a.toNat (0,0,0,0)).2).2))).getD a.toNat (0,0,0,0)).1,(W (c + 1)),((((b.set a.toNat (c,((b.getD a.toNat (0,0,0,0)).2).1,(((b.getD a.toNat (0,0,0,0)).2).2))).getD a.toNat (0,0,0,0)).2).2))).getD a.toNat (0,0,0,0)).2).2).2)).length)) (
          f (W ((W ((W ((W (c + 1)) + 1)) + 1)) + 1)) (W (a + 1)) ((((b.set a.toNat (c,((b.getD a.toNat (0,0,0,0)).2).1,(((b.getD a.toNat (0,0,0,0)).2).2))).set a.toNat (((b.set a.toNat (c,((b.getD a.toNat (0,0,0,0)).2).1,(((b.getD a.toNat (0,0,0,0)).2).2))).getD a.toNat (0,0,0,0)).1,(W (c + 1)),((((b.set a.toNat (c,((b.getD a.toNat (0,0,0,0)).2).1,(((b.getD a.toNat (0,0,0,0)).2).2))).getD a.toNat (0,0,0,0)).2).2))).set a.toNat ((((b.set a.toNat (c,((b.getD a.toNat (0,0,0,0)).2).1,(((b.getD a.toNat (0,0,0,0)).2).2))).set a.toNat (((b.set a.toNat (c,((b.getD a.toNat (0,0,0,0)).2).1,(((b.getD a.toNat (0,0,0,0)).2).2))).getD a.toNat (0,0,0,0)).1,(W (c + 1)),((((b.set a.toNat (c,((b.getD a.toNat (0,0,0,0)).2).1,(((b.getD a.toNat (0,0,0,0)).2).2))).getD a.toNat (0,0,0,0)).2).2))).getD a.toNat (0,0,0,0)).1,((((b.set a.toNat (c,((b.getD a.toNat (0,0,0,0)).2).1,(((b.getD a.toNat (0,0,0,0)).2).2))).set a.toNat (((b.set a.toNat (c,((b.getD a.toNat (0,0,0,0)).2).1,(((b.getD a.toNat (0,0,0,0)).2).2))).getD a.toNat (0,0,0,0)).1,(W (c + 1)),((((b.set a.toNat (c,((b.getD a.toNat (0,0,0,0)).2).1,(((b.getD a.toNat (0,0,0,0)).2).2))).getD a.toNat (0,0,0,0)).2).2))).getD a.toNat (0,0,0,0)).2).1,(W ((W (c + 1)) + 1)),(((((b.set a.toNat (c,((b.getD a.toNat (0,0,0,0)).2).1,(((b.getD a.toNat (0,0,0,0)).2).2))).set a.toNat (((b.set a.toNat (c,((b.getD a.toNat (0,0,0,0)).2).1,(((b.getD a.toNat (0,0,0,0)).2).2))).getD a.toNat (0,0,0,0)).1,(W (c + 1)),((((b.set a.toNat (c,((b.getD a.toNat (0,0,0,0)).2).1,(((b.getD a.toNat (0,0,0,0)).2).2))).getD a.toNat (0,0,0,0)).2).2))).getD a.toNat (0,0,0,0)).2).2).2)).set a.toNat (((((b.set a.toNat (c,((b.getD a.toNat (0,0,0,0)).2).1,(((b.getD a.toNat (0,0,0,0)).2).2))).set a.toNat (((b.set a.toNat (c,((b.getD a.toNat (0,0,0,0)).2).1,(((b.getD a.toNat (0,0,0,0)).2).2))).getD a.toNat (0,0,0,0)).1,(W (c + 1)),((((b.set a.toNat (c,((b.getD a.toNat (0,0,0,0)).2).1,(((b.getD a.toNat (0,0,0,0)).2).2))).getD a.toNat (0,0,0,0)).2).2))).set a.toNat ((((b.set a.toNat (c,((b.getD a.toNat (0,0,0,0)).2).1,(((b.getD a.toNat (0,0,0,0)).2).2))).set a.toNat (((b.set a.toNat (c,((b.getD a.toNat (0,0,0,0)).2).1,(((b.getD a.toNat (0,0,0,0)).2).2))).getD a.toNat (0,0,0,0)).1,(W (c + 1)),((((b.set a.toNat (c,((b.getD a.toNat (0,0,0,0)).2).1,(((b.getD a.toNat (0,0,0,0)).2).2))).getD a.toNat (0,0,0,0)).2).2))).getD a.toNat (0,0,0,0)).1,((((b.set a.toNat (c,((b.getD a.toNat (0,0,0,0)).2).1,(((b.getD a.toNat (0,0,0,0)).2).2))).set a.toNat (((b.set a.toNat (c,((b.getD a.toNat (0,0,0,0)).2).1,(((b.getD a.toNat (0,0,0,0)).2).2))).getD a.toNat (0,0,0,0)).1,(W (c + 1)),((((b.set a.toNat (c,((b.getD a.toNat (0,0,0,0)).2).1,(((b.getD a.toNat (0,0,0,0)).2).2))).getD a.toNat (0,0,0,0)).2).2))).getD a.toNat (0,0,0,0)).2).1,(W ((W (c + 1)) + 1)),(((((b.set a.toNat (c,((b.getD a.toNat (0,0,0,0)).2).1,(((b.getD a.toNat (0,0,0,0)).2).2))).set a.toNat (((b.set a.toNat (c,((b.getD a.toNat (0,0,0,0)).2).1,(((b.getD a.toNat (0,0,0,0)).2).2))).getD a.toNat (0,0,0,0)).1,(W (c + 1)),((((b.set a.toNat (c,((b.getD a.toNat (0,0,0,0)).2).1,(((b.getD a.toNat (0,0,0,0)).2).2))).getD a.toNat (0,0,0,0)).2).2))).getD a.toNat (0,0,0,0)).2).2).2)).getD a.toNat (0,0,0,0)).1,(((((b.set a.toNat (c,((b.getD a.toNat (0,0,0,0)).2).1,(((b.getD a.toNat (0,0,0,0)).2).2))).set a.toNat (((b.set a.toNat (c,((b.getD a.toNat (0,0,0,0)).2).1,(((b.getD a.toNat (0,0,0,0)).2).2))).getD a.toNat (0,0,0,0)).1,(W (c + 1)),((((b.set a.toNat (c,((b.getD a.toNat (0,0,0,0)).2).1,(((b.getD a.toNat (0,0,0,0)).2).2))).getD a.toNat (0,0,0,0)).2).2))).set a.toNat ((((b.set a.toNat (c,((b.getD a.toNat (0,0,0,0)).2).1,(((b.getD a.toNat (0,0,0,0)).2).2))).set a.toNat (((b.set a.toNat (c,((b.getD a.toNat (0,0,0,0)).2).1,(((b.getD a.toNat (0,0,0,0)).2).2))).getD a.toNat (0,0,0,0)).1,(W (c + 1)),((((b.set a.toNat (c,((b.getD a.toNat (0,0,0,0)).2).1,(((b.getD a.toNat (0,0,0,0)).2).2))).getD a.toNat (0,0,0,0)).2).2))).getD a.toNat (0,0,0,0)).1,((((b.set a.toNat (c,((b.getD a.toNat (0,0,0,0)).2).1,(((b.getD a.toNat (0,0,0,0)).2).2))).set a.toNat (((b.set a.toNat (c,((b.getD a.toNat (0,0,0,0)).2).1,(((b.getD a.toNat (0,0,0,0)).2).2))).getD a.toNat (0,0,0,0)).1,(W (c + 1)),((((b.set a.toNat (c,((b.getD a.toNat (0,0,0,0)).2).1,(((b.getD a.toNat (0,0,0,0)).2).2))).getD a.toNat (0,0,0,0)).2).2))).getD a.toNat (0,0,0,0)).2).1,(W ((W (c + 1)) + 1)),(((((b.set a.toNat (c,((b.getD a.toNat (0,0,0,0)).2).1,(((b.getD a.toNat (0,0,0,0)).2).2))).set a.toNat (((b.set a.toNat (c,((b.getD a.toNat (0,0,0,0)).2).1,(((b.getD a.toNat (0,0,0,0)).2).2))).getD a.toNat (0,0,0,0)).1,(W (c + 1)),((((b.set a.toNat (c,((b.getD a.toNat (0,0,0,0)).2).1,(((b.getD a.toNat (0,0,0,0)).2).2))).getD a.toNat (0,0,0,0)).2).2))).getD a.toNat (0,0,0,0)).2).2).2)).getD a.toNat (0,0,0,0)).2).1,((((((b.set a.toNat (c,((b.getD a.toNat (0,0,0,0)).2).1,(((b.getD a.toNat (0,0,0,0)).2).2))).set a.toNat (((b.set a.toNat (c,((b.getD a.toNat (0,0,0,0)).2).1,(((b.getD a.toNat (0,0,0,0)).2).2))).getD a.toNat (0,0,0,0)).1,(W (c + 1)),((((b.set a.toNat (c,((b.getD a.toNat (0,0,0,0)).2).1,(((b.getD a.toNat (0,0,0,0)).2).2))).getD a.toNat (0,0,0,0)).2).2))).set a.toNat ((((b.set a.toNat (c,((b.getD a.toNat (0,0,0,0)).2).1,(((b.getD a.toNat (0,0,0,0)).2).2))).set a.toNat (((b.set a.toNat (c,((b.getD a.toNat (0,0,0,0)).2).1,(((b.getD a.toNat (0,0,0,0)).2).2))).getD a.toNat (0,0,0,0)).1,(W (c + 1)),((((b.set a.toNat (c,((b.getD a.toNat (0,0,0,0)).2).1,(((b.getD a.toNat (0,0,0,0)).2).2))).getD a.toNat (0,0,0,0)).2).2))).getD a.toNat (0,0,0,0)).1,((((b.set a.toNat (c,((b.getD a.toNat (0,0,0,0)).2).1,(((b.getD a.toNat (0,0,0,0)).2).2))).set a.toNat (((b.set a.toNat (c,((b.getD a.toNat (0,0,0,0)).2).1,(((b.getD a.toNat (0,0,0,0)).2).2))).getD a.toNat (0,0,0,0)).1,(W (c + 1)),((((b.set a.toNat (c,((b.getD a.toNat (0,0,0,0)).2).1,(((b.getD a.toNat (0,0,0,0)).2).2))).getD a.toNat (0,0,0,0)).2).2))).getD a.toNat (0,0,0,0)).2).1,(W ((W (c + 1)) + 1)),(((((b.set a.toNat (c,((b.getD a.toNat (0,0,0,0)).2).1,(((b.getD a.toNat (0,0,0,0)).2).2))).set a.toNat (((b.set a.toNat (c,((b.getD a.toNat (0,0,0,0)).2).1,(((b.getD a.toNat (0,0,0,0)).2).2))).getD a.toNat (0,0,0,0)).1,(W (c + 1)),((((b.set a.toNat (c,((b.getD a.toNat (0,0,0,0)).2).1,(((b.getD a.toNat (0,0,0,0)).2).2))).getD a.toNat (0,0,0,0)).2).2))).getD a.toNat (0,0,0,0)).2).2).2)).getD a.toNat (0,0,0,0)).2).2).1,(W ((W ((W (c + 1)) + 1)) + 1))))))))))))
 else
  k0 c b
abbrev R7:Tm:=⟨[(0,.k (.hw 1000)),(1,.d hI),(5,.d hI)],[(1000,.arr 125 hN false)],[],[]⟩
abbrev Arl:Tm:=⟨[(1,.d hI)],[(1000,.arr 125 hN false)],[],[]⟩
abbrev A0j:List (Exit × Tm):=[(.exit 0,Arl)]
def A0i {α:Type} (n:Nat) (v:R7.den) (f:R7.den->Option α) (ks:KS α A0j):Option α:=Mn n v.1.2.1 v.1.2.2.1 v.2.1 (fun a b c=>f (((),a,b,()),(c,()))) (fun w0 w1=>ks.1 ((w0,()),(w1,())))
def Xr {α:Type} (n m:Nat) (a b:Int) (c:LN) (k0:Int->LN->Option α):Option α:=A5 (A0i n) m (((),a,b,()),(c,())) (fun w=>k0 w.1.1 w.2.1,())
theorem A9r {α n m a b c k0}:Xr (α:=α) n (m + 1) a b c k0 = Mn n a b c (fun a b c=>Xr n m a b c k0) k0:=rfl
def Amv (n:Nat) (a0:LN) (a1:Int):Option (Int × LN) :=
 Xr n n a1 0 a0
  (fun a b=>(
   some (a,b)))
def Arm (n:Nat):Ent3:=⟨86,[.one (.own 125 hN),.im hI],[[.im hI]],fun x=>Amv n x.1 x.2⟩
def Ae1 (α:Type) (n:Nat):D3 α:={ reg:=[],join:=[],loop:=[(2,⟨R7,A0j,A5 (A0i n) n⟩)] }
theorem A9q (α:Type) (n:Nat):Ao PP (Ai (Ae1 α n).reg):=trivial
theorem Amu (α:Type) (n:Nat):LO.Sound (α:=α) PP ⟨41,[]⟩ ⟨R7,A0j,A5 (A0i n) n⟩ (.loop ((A1 Tryz.f86).at [1,0,1,0,0])):=Bj (D:=Ae1 α n) (A9q α n) n
theorem B67 (α:Type) (n:Nat):D3.OK PP TT ⟨41,[]⟩ (Ae1 α n) (A1 Tryz.f86) :=
 D3.OK.mk3 (A9q α n) (show Ab (A1 Tryz.f86) = [(2,(.loop ((A1 Tryz.f86).at [1,0,1,0,0])))] by kernel_rfl) ⟨Ad rfl (Amu α n),trivial⟩
theorem B20 (n:Nat):(Arm n).Sound PP:=Pf (fn:=Tryz.f86) (B67 _ n)

def Vg (n:Nat) (a0:LN) (a1:Int):Option (Int × LN) :=
 ob (Amv n a0 a1) fun a =>
 gd (Nat.beq a.2.length a0.length && true) (
  some (a.1,a.2))
def As5 (n:Nat):Ent3:=⟨36,[.mix [.own 125 hN],.im hI],[[.im hI]],fun x=>Vg n x.1 x.2⟩
def B6r (α:Type) (n:Nat):D3 α:={ reg:=[(1,⟨0,[],[(3,{ entB:=some (Arm n),hb:=310 })]⟩)],join:=[],loop:=[] }
theorem B2b (n:Nat):(As5 n).Sound PP:=A6p (fn:=Tryz.f36) (D:=B6r _ n) ⟨B20 n,trivial⟩

def Ajx {α:Type} (n:Nat) (b:LI) (c a:Int) (f:LI->Int->Int->Option α) (k0:Int->Option α):Option α :=
 bif (decide (a < (b.length:Int))) then
  gd (decide (0 <= a) && decide (a < (b.length:Int))) (
   none)
 else
  k0 c
abbrev Xo:Tm:=⟨[(0,.d hIs),(1,.d hI),(5,.d hI)],[],[],[]⟩
abbrev Axz:Tm:=⟨[(1,.d hI)],[],[],[]⟩
abbrev A6z:List (Exit × Tm):=[(.exit 0,Axz)]
def A6y {α:Type} (n:Nat) (v:Xo.den) (f:Xo.den->Option α) (ks:KS α A6z):Option α:=Ajx n v.1.1 v.1.2.1 v.1.2.2.1 (fun a b c=>f ((a,b,c,()),())) (fun w0=>ks.1 ((w0,()),()))
def Adz {α:Type} (n m:Nat) (a:LI) (b c:Int) (k0:Int->Option α):Option α:=A5 (A6y n) m ((a,b,c,()),()) (fun w=>k0 w.1.1,())
theorem Axy {α n m a b c k0}:Adz (α:=α) n (m + 1) a b c k0 = Ajx n a b c (fun a b c=>Adz n m a b c k0) k0:=rfl
def f87 (n:Nat) (a0:LI) (a1:Int):Option Int :=
 Adz n n a0 a1 0
  (fun a=>(
   some a))
def Xp (n:Nat):Ent:=⟨87,[hIs,hI],[hI],fun x=>f87 n x.1 x.2⟩
def Ams (α:Type) (n:Nat):D3 α:={ reg:=[],join:=[],loop:=[(2,⟨Xo,A6z,A5 (A6y n) n⟩)] }
theorem Ady (α:Type) (n:Nat):Ao PP (Ai (Ams α n).reg):=trivial
theorem Arj (α:Type) (n:Nat):LO.Sound (α:=α) PP ⟨19,[]⟩ ⟨Xo,A6z,A5 (A6y n) n⟩ (.loop ((A1 Tryz.f87).at [1,0,1,0,0])):=Bj (D:=Ams α n) (Ady α n) n
theorem Ba4 (α:Type) (n:Nat):D3.OK PP TT ⟨19,[]⟩ (Ams α n) (A1 Tryz.f87) :=
 D3.OK.mk3 (Ady α n) (show Ab (A1 Tryz.f87) = [(2,(.loop ((A1 Tryz.f87).at [1,0,1,0,0])))] by kernel_rfl) ⟨Ad rfl (Arj α n),trivial⟩
theorem V9 (n:Nat):(Xp n).Sound PP:=fk (fn:=Tryz.f87) (Ba4 _ n)

def R5 {α:Type} (n:Nat) (c a:Int) (b:LI) (f:Int->Int->LI->Option α) (k0:Int->LI->Option α):Option α :=
 bif (decide (a < (b.length:Int))) then
  gd (decide (0 <= a) && decide (a < (b.length:Int))) (
   gd (decide (a.toNat < b.length)) (
    f (W (c + 1)) (W (a + 1)) (b.set a.toNat c)))
 else
  k0 c b
abbrev R4:Tm:=⟨[(0,.k (.hw 1000)),(1,.d hI),(5,.d hI)],[(1000,.arr 3 hI false)],[],[]⟩
abbrev Ark:Tm:=⟨[(1,.d hI)],[(1000,.arr 3 hI false)],[],[]⟩
abbrev A0h:List (Exit × Tm):=[(.exit 0,Ark)]
def A0g {α:Type} (n:Nat) (v:R4.den) (f:R4.den->Option α) (ks:KS α A0h):Option α:=R5 n v.1.2.1 v.1.2.2.1 v.2.1 (fun a b c=>f (((),a,b,()),(c,()))) (fun w0 w1=>ks.1 ((w0,()),(w1,())))
def Xq {α:Type} (n m:Nat) (a b:Int) (c:LI) (k0:Int->LI->Option α):Option α:=A5 (A0g n) m (((),a,b,()),(c,())) (fun w=>k0 w.1.1 w.2.1,())
theorem A9p {α n m a b c k0}:Xq (α:=α) n (m + 1) a b c k0 = R5 n a b c (fun a b c=>Xq n m a b c k0) k0:=rfl
def R6 (n:Nat) (a0:LI) (a1:Int):Option (Int × LI) :=
 Xq n n a1 0 a0
  (fun a b=>(
   some (a,b)))
def Pi (n:Nat):Ent3:=⟨87,[.one (.own 3 hI),.im hI],[[.im hI]],fun x=>R6 n x.1 x.2⟩
def Ae0 (α:Type) (n:Nat):D3 α:={ reg:=[],join:=[],loop:=[(2,⟨R4,A0h,A5 (A0g n) n⟩)] }
theorem A9o (α:Type) (n:Nat):Ao PP (Ai (Ae0 α n).reg):=trivial
theorem Amt (α:Type) (n:Nat):LO.Sound (α:=α) PP ⟨19,[]⟩ ⟨R4,A0h,A5 (A0g n) n⟩ (.loop ((A1 Tryz.f87).at [1,0,1,0,0])):=Bj (D:=Ae0 α n) (A9o α n) n
theorem B66 (α:Type) (n:Nat):D3.OK PP TT ⟨19,[]⟩ (Ae0 α n) (A1 Tryz.f87) :=
 D3.OK.mk3 (A9o α n) (show Ab (A1 Tryz.f87) = [(2,(.loop ((A1 Tryz.f87).at [1,0,1,0,0])))] by kernel_rfl) ⟨Ad rfl (Amt α n),trivial⟩
theorem Ph (n:Nat):(Pi n).Sound PP:=Pf (fn:=Tryz.f87) (B66 _ n)

def Rd {α:Type} (n:Nat) (e a:Int) (d:LR) (f:Int->Int->LR->Option α) (k0:Int->LR->Option α):Option α :=
 bif (decide (a < (d.length:Int))) then
  gd (decide (0 <= a) && decide (a < (d.length:Int))) (
   gd (decide (a.toNat < d.length)) (
    let b:=d.set a.toNat (((Int.tmod e 3) == 0),((d.getD a.toNat (false,[],[])).2))
    gd (decide (0 <= a) && decide (a < (b.length:Int))) (
     gd (decide (a.toNat < b.length)) (
      let h:=b.getD a.toNat (false,[],[])
      bif h.2.1.isEmpty then
       ob (f87 n [] (W (e + 1))) fun m =>
       gd (decide (0 <= a) && decide (a < (b.length:Int))) (
        gd (decide (a.toNat < b.length)) (
         let i:=b.getD a.toNat (false,[],[])
         bif i.2.2.isEmpty then
          ob (f87 n [] m) fun o =>
          f o (W (a + 1)) b
         else
          ob (R6 n i.2.2 m) fun j =>
          gd (Nat.beq j.2.length i.2.2.length && true) (
           gd (decide (a.toNat < b.length)) (
            let p:=b.set a.toNat ((b.getD a.toNat (false,[],[])).1,((b.getD a.toNat (false,[],[])).2).1,j.2)
            f j.1 (W (a + 1)) p))))
      else
       ob (R6 n h.2.1 (W (e + 1))) fun g =>
       gd (Nat.beq g.2.length h.2.1.length && true) (
        gd (decide (a.toNat < b.length)) (
         let c:=b.set a.toNat ((b.getD a.toNat (false,[],[])).1,g.2,((b.getD a.toNat (false,[],[])).2).2)
         gd (decide (0 <= a) && decide (a < (c.length:Int))) (
          gd (decide (a.toNat < c.length)) (
           let k:=c.getD a.toNat (false,[],[])
           bif k.2.2.isEmpty then
            ob (f87 n [] g.1) fun q =>
            f q (W (a + 1)) c
           else
            ob (R6 n k.2.2 g.1) fun l =>
            gd (Nat.beq l.2.length k.2.2.length && true) (
             gd (decide (a.toNat < c.length)) (
              let r:=c.set a.toNat ((c.getD a.toNat (false,[],[])).1,((c.getD a.toNat (false,[],[])).2).1,l.2)
              f l.1 (W (a + 1)) r))))))))))
 else
  k0 e d
abbrev Rb:Tm:=⟨[(0,.k (.hw 1000)),(1,.d hI),(5,.d hI)],[(1000,.tree 31 hR false)],[],[]⟩
abbrev As4:Tm:=⟨[(1,.d hI)],[(1000,.tree 31 hR false)],[],[]⟩
abbrev A0n:List (Exit × Tm):=[(.exit 0,As4)]
def A0m {α:Type} (n:Nat) (v:Rb.den) (f:Rb.den->Option α) (ks:KS α A0n):Option α:=Rd n v.1.2.1 v.1.2.2.1 v.2.1 (fun a b c=>f (((),a,b,()),(c,()))) (fun w0 w1=>ks.1 ((w0,()),(w1,())))
def Pk {α:Type} (n m:Nat) (a b:Int) (c:LR) (k0:Int->LR->Option α):Option α:=A5 (A0m n) m (((),a,b,()),(c,())) (fun w=>k0 w.1.1 w.2.1,())
theorem A9w {α n m a b c k0}:Pk (α:=α) n (m + 1) a b c k0 = Rd n a b c (fun a b c=>Pk n m a b c k0) k0:=rfl
def Je (n:Nat) (a0:LR) (a1:Int):Option (Int × LR) :=
 Pk n n a1 0 a0
  (fun a b=>(
   some (a,b)))
def Aek (n:Nat):Ent3:=⟨37,[.one (.tree 31 hR),.im hI],[[.im hI]],fun x=>Je n x.1 x.2⟩
def Ael (α:Type) (n:Nat):D3 α:={ reg:=[(6,⟨0,[],[(4,{ bor:=some 2000 }),(6,{ ent:=some (Xp n),alt:=[(Pi n)],hb:=320,shut:=some (.hole 2000) })]⟩),(7,⟨0,[],[(4,{ bor:=some 2001 }),(6,{ ent:=some (Xp n),alt:=[(Pi n)],hb:=310,shut:=some (.hole 2001) })]⟩)],join:=[],loop:=[(2,⟨Rb,A0n,A5 (A0m n) n⟩)] }
theorem A9v (α:Type) (n:Nat):Ao PP (Ai (Ael α n).reg):=⟨Ph n,V9 n,Ph n,V9 n,trivial⟩
theorem An8 (α:Type) (n:Nat):LO.Sound (α:=α) PP ⟨36,[]⟩ ⟨Rb,A0n,A5 (A0m n) n⟩ (.loop ((A1 Tryz.f37).at [1,0,1,0,0])):=Bj (D:=Ael α n) (A9v α n) n
theorem B6q (α:Type) (n:Nat):D3.OK PP TT ⟨36,[]⟩ (Ael α n) (A1 Tryz.f37) :=
 D3.OK.mk3 (A9v α n) (show Ab (A1 Tryz.f37) = [(2,(.loop ((A1 Tryz.f37).at [1,0,1,0,0])))] by kernel_rfl) ⟨Ad rfl (An8 α n),trivial⟩
theorem Ak2 (n:Nat):(Aek n).Sound PP:=Pf (fn:=Tryz.f37) (B6q _ n)

def Vf (n:Nat) (a0:Bool × LI × LI) (a1:Int):Option (Int × LI × LI) :=
 ob (R6 n a0.2.1 a1) fun a =>
 gd (Nat.beq a.2.length a0.2.1.length && true) (
  ob (R6 n a0.2.2 a.1) fun b =>
  gd (Nat.beq b.2.length a0.2.2.length && true) (
   some (b.1,a.2,b.2)))
def Aei (n:Nat):Ent3:=⟨38,[.mix [.im .bool,.own 3 hI,.own 3 hI],.im hI],[[.im hI]],fun x=>Vf n x.1 x.2⟩
def B6p (α:Type) (n:Nat):D3 α:={ reg:=[(1,⟨0,[],[(3,{ alt:=[(Pi n)],hb:=310 })]⟩),(2,⟨0,[],[(3,{ alt:=[(Pi n)],hb:=320 })]⟩)],join:=[],loop:=[] }
theorem Ak1 (n:Nat):(Aei n).Sound PP:=A6p (fn:=Tryz.f38) (D:=B6p _ n) ⟨Ph n,Ph n,trivial⟩

def Xm {α:Type} (n:Nat) (b:LI) (c a:Int) (f:LI->Int->Int->Option α) (k0 k1:Int->Option α):Option α :=
 bif (decide (a < (b.length:Int))) then
  gd (decide (0 <= a) && decide (a < (b.length:Int))) (
   bif ((b.getD a.toNat 0) != c) then
    k0 (-1)
   else
    f b (W (c + 1)) (W (a + 1)))
 else
  k1 c
abbrev Xl:Tm:=⟨[(0,.d hIs),(1,.d hI),(5,.d hI)],[],[],[]⟩
abbrev Axx:Tm:=⟨[(4,.d hI)],[],[],[]⟩
abbrev Axw:Tm:=⟨[(1,.d hI)],[],[],[]⟩
abbrev A6x:List (Exit × Tm):=[(.ret,Axx),(.exit 0,Axw)]
def A6w {α:Type} (n:Nat) (v:Xl.den) (f:Xl.den->Option α) (ks:KS α A6x):Option α:=Xm n v.1.1 v.1.2.1 v.1.2.2.1 (fun a b c=>f ((a,b,c,()),())) (fun w0=>ks.1 ((w0,()),())) (fun w0=>ks.2.1 ((w0,()),()))
def A4a {α:Type} (n m:Nat) (a:LI) (b c:Int) (k0 k1:Int->Option α):Option α:=A5 (A6w n) m ((a,b,c,()),()) (fun w=>k0 w.1.1,fun w=>k1 w.1.1,())
theorem Adx {α n m a b c k0 k1}:A4a (α:=α) n (m + 1) a b c k0 k1 = Xm n a b c (fun a b c=>A4a n m a b c k0 k1) k0 k1:=rfl
def f88 (n:Nat) (a0:LI) (a1:Int):Option Int :=
 A4a n n a0 a1 0
  (fun a=>(
   some a))
  (fun b=>(
   some b))
def Amq (n:Nat):Ent:=⟨88,[hIs,hI],[hI],fun x=>f88 n x.1 x.2⟩
def Amr (α:Type) (n:Nat):D3 α:={ reg:=[],join:=[],loop:=[(2,⟨Xl,A6x,A5 (A6w n) n⟩)] }
theorem Adw (α:Type) (n:Nat):Ao PP (Ai (Amr α n).reg):=trivial
theorem Ari (α:Type) (n:Nat):LO.Sound (α:=α) PP ⟨21,[]⟩ ⟨Xl,A6x,A5 (A6w n) n⟩ (.loop ((A1 Tryz.f88).at [1,0,1,0,0])):=Bj (D:=Amr α n) (Adw α n) n
theorem Ba3 (α:Type) (n:Nat):D3.OK PP TT ⟨21,[]⟩ (Amr α n) (A1 Tryz.f88) :=
 D3.OK.mk3 (Adw α n) (show Ab (A1 Tryz.f88) = [(2,(.loop ((A1 Tryz.f88).at [1,0,1,0,0])))] by kernel_rfl) ⟨Ad rfl (Ari α n),trivial⟩
theorem Arg (n:Nat):(Amq n).Sound PP:=fk (fn:=Tryz.f88) (Ba3 _ n)

def f39 (n:Nat) (a0:Rq) (a1:Int):Option Int :=
 ob (f88 n a0.2.1 a1) fun a =>
 bif (decide (a < 0)) then
  some (-1)
 else
  ob (f88 n a0.2.2 a) fun b =>
  bif (decide (b < 0)) then
   some (-1)
  else
   some b
def A4e (n:Nat):Ent:=⟨39,[hR,hI],[hI],fun x=>f39 n x.1 x.2⟩
def Bam (α:Type) (n:Nat):D3 α:={ reg:=[(1,⟨0,[],[(3,{ ent:=some (Amq n) })]⟩),(4,⟨0,[],[(3,{ ent:=some (Amq n) })]⟩)],join:=[],loop:=[] }
theorem A4d (n:Nat):(A4e n).Sound PP:=At (fn:=Tryz.f39) (D:=Bam _ n) ⟨Arg n,Arg n,trivial⟩

def f61 (n:Nat) (a0:Rq):Option Rq :=
 ob (f117 n a0.2.1) fun a =>
 ob (f117 n a0.2.2) fun b =>
 some (a0.1,a,b)
def An5 (n:Nat):Ent:=⟨61,[hR],[hR],fun x=>f61 n x⟩
def Baj (α:Type) (n:Nat):D3 α:={ reg:=[(1,⟨8,[],[(4,{ ent:=some (Kq n) }),(7,{ ent:=some (Kq n) })]⟩)],join:=[],loop:=[] }
theorem Arz (n:Nat):(An5 n).Sound PP:=At (fn:=Tryz.f61) (D:=Baj _ n) ⟨Jm n,Jm n,trivial⟩

abbrev Au9:Tm:=⟨[(1,.d hRs),(2,.d hRs),(3,.k (.hp 3 0 0)),(6,.k (.hp 6 0 0)),(7,.k (.hp 7 0 0))],[(3,.var 25 true false [.d hNs]),(6,.var 31 true false [.d .bool,.d .nil,.d .nil]),(7,.var 31 true false [.d .bool,.d .nil,.d .nil])],[],[]⟩
def f17 (n:Nat) (a0:LN) (a1 a2:LR):Option (Rq × Rq × Int) :=
 ob (f65 n [a1,a2]) fun c =>
 ob (f59 n a0 a1) fun d =>
 ob (f66 n a1 a2) fun e =>
 ob (f64 n [c,d,e]) fun b =>
 bif (b != 0) then
  some ((false,[],[]),(false,[],[]),b)
 else
  ob (Aeh n (0,a2) a0 a1) fun a =>
  bif (a.2 != 0) then
   some ((false,[],[]),(false,[],[]),a.2)
  else
   ob (f61 n a.1.1) fun f =>
   ob (f61 n a.1.2.2.2) fun g =>
   some (f,g,0)
def B0z (n:Nat):Ent:=⟨17,[hE,hRs,hRs],[hR,hR,hI],fun x=>f17 n x.1 x.2.1 x.2.2⟩
def B10 (α:Type) (n:Nat):D3 α:={ reg:=[(1,⟨0,[],[(2,{ sh:=some hRs }),(3,{ ent:=some (Ed n) }),(6,{ ent:=some (Ie n) }),(9,{ ent:=some (Id n) }),(10,{ sh:=some hI }),(11,{ ent:=some (Db n) })]⟩),(4,⟨0,[],[(4,{ ent:=some (Aeg n) })]⟩),(7,⟨5,[],[(2,{ ent:=some (An5 n) }),(5,{ ent:=some (An5 n) })]⟩)],join:=[],loop:=[],any:=[(1,Au9)] }
set_option maxHeartbeats 8000000 in
theorem B83 (n:Nat):Ar TT ⟨48,[]⟩ [(2,{ sh:=some hRs }),(3,{ ent:=some (Ed n) }),(6,{ ent:=some (Ie n) }),(9,{ ent:=some (Id n) }),(10,{ sh:=some hI }),(11,{ ent:=some (Db n) })] Au9 (Aa ((A1 Tryz.f17).at [1,0,0])):=by
 refine ⟨by kernel_rfl,fun w q hq=>?_⟩
 have e:WT [(2,{ sh:=some hRs }),(3,{ ent:=some (Ed n) }),(6,{ ent:=some (Ie n) }),(9,{ ent:=some (Id n) }),(10,{ sh:=some hI }),(11,{ ent:=some (Db n) })] (A8 (Aa ((A1 Tryz.f17).at [1,0,0])).toList) q = (∃ (y0:HL (Ed n).rs) (q0:List (Nat × RV)),q = (3,.sv (Al (Ed n).rs y0)) :: q0 /\ ∃ (y1:HL (Ie n).rs) (q1:List (Nat × RV)),q0 = (6,.sv (Al (Ie n).rs y1)) :: q1 /\ ∃ (y2:HL (Id n).rs) (q2:List (Nat × RV)),q1 = (9,.sv (Al (Id n).rs y2)) :: q2 /\ ∃ (y3:HL (Db n).rs) (q3:List (Nat × RV)),q2 = (11,.sv (Al (Db n).rs y3)) :: q3 /\ q3 = []):=by kernel_rfl
 rw [e] at hq;obtain ⟨y0,q0,rfl,y1,q1,rfl,y2,q2,rfl,y3,q3,rfl,rfl⟩:=hq
 all_goals exact .inr ⟨9,by kernel_rfl,by kernel_rfl,by kernel_rfl⟩
theorem Aze (α:Type) (n:Nat):Ao PP (Ai (B10 α n).reg):=⟨Ae8 n,As0 n,Arw n,Vd n,Ak0 n,Arz n,Arz n,trivial⟩
theorem Bav (α:Type) (n:Nat):D3.OK PP TT ⟨48,[]⟩ (B10 α n) (A1 Tryz.f17) :=
 D3.OK.mk3a (Aze α n) (show Ab (A1 Tryz.f17) = [] by kernel_rfl) trivial (show Av (A1 Tryz.f17) = [(1,Aa ((A1 Tryz.f17).at [1,0,0])),(7,Aa ((A1 Tryz.f17).at [1,1,1,1,0]))] by kernel_rfl) ⟨⟨B83 n,trivial⟩,trivial,trivial⟩
theorem B82 (n:Nat):(B0z n).Sound PP:=fk (fn:=Tryz.f17) (Bav _ n)

def Ra (n:Nat) (a0:Bool × LI × LI) (a1:Int):Option (Int × LI) :=
 ob (f87 n a0.2.1 a1) fun b =>
 ob (R6 n a0.2.2 b) fun a =>
 gd (Nat.beq a.2.length a0.2.2.length && true) (
  some (a.1,a.2))
def A7e (n:Nat):Ent3:=⟨38,[.mix [.im .bool,.im hIs,.own 3 hI],.im hI],[[.im hI]],fun x=>Ra n x.1 x.2⟩
def B2a (α:Type) (n:Nat):D3 α:={ reg:=[(1,⟨0,[],[(3,{ ent:=some (Xp n) })]⟩),(2,⟨0,[],[(3,{ alt:=[(Pi n)],hb:=310 })]⟩)],join:=[],loop:=[] }
theorem Aej (n:Nat):(A7e n).Sound PP:=A6p (fn:=Tryz.f38) (D:=B2a _ n) ⟨V9 n,Ph n,trivial⟩

def f38 (n:Nat) (a0:Rq) (a1:Int):Option Int :=
 ob (f87 n a0.2.1 a1) fun a =>
 ob (f87 n a0.2.2 a) fun b =>
 some b
def An7 (n:Nat):Ent:=⟨38,[hR,hI],[hI],fun x=>f38 n x.1 x.2⟩
def Ban (α:Type) (n:Nat):D3 α:={ reg:=[(1,⟨0,[],[(3,{ ent:=some (Xp n) })]⟩),(2,⟨0,[],[(3,{ ent:=some (Xp n) })]⟩)],join:=[],loop:=[] }
theorem As3 (n:Nat):(An7 n).Sound PP:=At (fn:=Tryz.f38) (D:=Ban _ n) ⟨V9 n,V9 n,trivial⟩

def f6 (n:Nat) (a0:LN) (a1 a2:LR):Option Bool :=
 ob (f29 n a0 1048576) fun x =>
 bif (decide (x < 0)) then
  some true
 else
  ob (f30 n a1 x) fun y =>
  bif (decide (y < 0)) then
   some true
  else
   ob (f30 n a2 y) fun g6 =>
   bif (decide (g6 < 0)) then
    some true
   else
    ob (f31 n a0) fun g7 =>
    ob (f32 n a1) fun g8 =>
    ob (f32 n a2) fun g9 =>
    ob (f40 n g7 g8 g9) fun a =>
    ob (And n a0) fun f =>
    ob (Aes n a1) fun g =>
    ob (Aes n a2) fun h =>
    ob (Aoo n f g h) fun h0 =>
    Ez h0 (fun b =>
     ob (f33 n b.1 a.1) fun h1 =>
     bif (!h1) then
      some false
     else
      ob (f33 n b.2.1 a.2.1) fun h2 =>
      bif (!h2) then
       some false
      else
       bif (b.2.2 != a.2.2) then
        some false
       else
        ob (f31 n a0) fun h3 =>
        ob (f34 n f h3) fun h4 =>
        bif (!h4) then
         some false
        else
         ob (f32 n a1) fun h5 =>
         ob (f35 n g h5) fun h6 =>
         bif (!h6) then
          some false
         else
          ob (f32 n a2) fun h7 =>
          ob (f35 n h h7) fun h8 =>
          bif (!h8) then
           some false
          else
           ob (Vg n f 1) fun z =>
           gd (Nat.beq z.2.length f.length && true) (
            ob (Je n g z.1) fun d0 =>
            gd (Nat.beq d0.2.length g.length && true) (
             ob (Je n h d0.1) fun d1 =>
             gd (Nat.beq d1.2.length h.length && true) (
              bif (decide (d1.1 < 0)) then
               some false
              else
               ob (f33 n b.1 a.1) fun h9 =>
               bif (!h9) then
                some false
               else
                ob (f33 n b.2.1 a.2.1) fun i0 =>
                bif (!i0) then
                 some false
                else
                 bif (b.2.2 != a.2.2) then
                  some false
                 else
                  ob (Vf n (b.1.1,b.1.2.1,b.1.2.2) 1) fun l =>
                  gd (Nat.beq l.2.1.length b.1.2.1.length && (Nat.beq l.2.2.length b.1.2.2.length && true)) (
                   ob (Vf n (b.2.1.1,b.2.1.2.1,b.2.1.2.2) l.1) fun j =>
                   gd (Nat.beq j.2.1.length b.2.1.2.1.length && (Nat.beq j.2.2.length b.2.1.2.2.length && true)) (
                    ob (f39 n (b.1.1,l.2) 1) fun d2 =>
                    bif (decide (d2 < 0)) then
                     some false
                    else
                     ob (f39 n (b.2.1.1,j.2) d2) fun d3 =>
                     bif (decide (d3 < 0)) then
                      some false
                     else
                      bif (d3 != j.1) then
                       some false
                      else
                       ob (f31 n a0) fun i1 =>
                       ob (f32 n a1) fun i2 =>
                       ob (f32 n a2) fun i3 =>
                       ob (f17 n i1 i2 i3) fun s =>
                       ob (f33 n s.1 a.1) fun i4 =>
                       bif (!i4) then
                        some false
                       else
                        ob (f33 n s.2.1 a.2.1) fun i5 =>
                        bif (!i5) then
                         some false
                        else
                         bif (s.2.2 != a.2.2) then
                          some false
                         else
                          ob (f39 n (b.1.1,l.2) 1) fun d4 =>
                          bif (decide (d4 < 0)) then
                           some false
                          else
                           ob (f39 n (b.2.1.1,j.2) d4) fun d5 =>
                           bif (decide (d5 < 0)) then
                            some false
                           else
                            bif (d5 != j.1) then
                             some false
                            else
                             some true)))))) (fun i6 =>
     Ez i6 (fun c =>
      ob (f33 n c.1 a.1) fun i7 =>
      bif (!i7) then
       some false
      else
       ob (f33 n (c.2.1.1,[],c.2.1.2.2) a.2.1) fun i8 =>
       bif (!i8) then
        some false
       else
        bif (c.2.2 != a.2.2) then
         some false
        else
         ob (f31 n a0) fun i9 =>
         ob (f34 n f i9) fun j0 =>
         bif (!j0) then
          some false
         else
          ob (f32 n a1) fun j1 =>
          ob (f35 n g j1) fun j2 =>
          bif (!j2) then
           some false
          else
           ob (f32 n a2) fun j3 =>
           ob (f35 n h j3) fun j4 =>
           bif (!j4) then
            some false
           else
            ob (Vg n f 1) fun d6 =>
            gd (Nat.beq d6.2.length f.length && true) (
             ob (Je n g d6.1) fun d7 =>
             gd (Nat.beq d7.2.length g.length && true) (
              ob (Je n h d7.1) fun d8 =>
              gd (Nat.beq d8.2.length h.length && true) (
               bif (decide (d8.1 < 0)) then
                some false
               else
                ob (f33 n c.1 a.1) fun j5 =>
                bif (!j5) then
                 some false
                else
                 ob (f33 n (c.2.1.1,[],c.2.1.2.2) a.2.1) fun j6 =>
                 bif (!j6) then
                  some false
                 else
                  bif (c.2.2 != a.2.2) then
                   some false
                  else
                   ob (Vf n (c.1.1,c.1.2.1,c.1.2.2) 1) fun m =>
                   gd (Nat.beq m.2.1.length c.1.2.1.length && (Nat.beq m.2.2.length c.1.2.2.length && true)) (
                    ob (Ra n (c.2.1.1,[],c.2.1.2.2) m.1) fun o =>
                    gd (Nat.beq o.2.length c.2.1.2.2.length && true) (
                     ob (f39 n (c.1.1,m.2) 1) fun d9 =>
                     bif (decide (d9 < 0)) then
                      some false
                     else
                      ob (f39 n (c.2.1.1,[],o.2) d9) fun e0 =>
                      bif (decide (e0 < 0)) then
                       some false
                      else
                       bif (e0 != o.1) then
                        some false
                       else
                        ob (f31 n a0) fun j7 =>
                        ob (f32 n a1) fun j8 =>
                        ob (f32 n a2) fun j9 =>
                        ob (f17 n j7 j8 j9) fun t =>
                        ob (f33 n t.1 a.1) fun k0 =>
                        bif (!k0) then
                         some false
                        else
                         ob (f33 n t.2.1 a.2.1) fun k1 =>
                         bif (!k1) then
                          some false
                         else
                          bif (t.2.2 != a.2.2) then
                           some false
                          else
                           ob (f39 n (c.1.1,m.2) 1) fun e1 =>
                           bif (decide (e1 < 0)) then
                            some false
                           else
                            ob (f39 n (c.2.1.1,[],o.2) e1) fun e2 =>
                            bif (decide (e2 < 0)) then
                             some false
                            else
                             bif (e2 != o.1) then
                              some false
                             else
                              some true)))))) (fun k2 =>
      Ez k2 (fun d =>
       ob (f33 n (d.1.1,[],d.1.2.2) a.1) fun k3 =>
       bif (!k3) then
        some false
       else
        ob (f33 n d.2.1 a.2.1) fun k4 =>
        bif (!k4) then
         some false
        else
         bif (d.2.2 != a.2.2) then
          some false
         else
          ob (f31 n a0) fun k5 =>
          ob (f34 n f k5) fun k6 =>
          bif (!k6) then
           some false
          else
           ob (f32 n a1) fun k7 =>
           ob (f35 n g k7) fun k8 =>
           bif (!k8) then
            some false
           else
            ob (f32 n a2) fun k9 =>
            ob (f35 n h k9) fun l0 =>
            bif (!l0) then
             some false
            else
             ob (Vg n f 1) fun e3 =>
             gd (Nat.beq e3.2.length f.length && true) (
              ob (Je n g e3.1) fun e4 =>
              gd (Nat.beq e4.2.length g.length && true) (
               ob (Je n h e4.1) fun e5 =>
               gd (Nat.beq e5.2.length h.length && true) (
                bif (decide (e5.1 < 0)) then
                 some false
                else
                 ob (f33 n (d.1.1,[],d.1.2.2) a.1) fun l1 =>
                 bif (!l1) then
                  some false
                 else
                  ob (f33 n d.2.1 a.2.1) fun l2 =>
                  bif (!l2) then
                   some false
                  else
                   bif (d.2.2 != a.2.2) then
                    some false
                   else
                    ob (Ra n (d.1.1,[],d.1.2.2) 1) fun q =>
                    gd (Nat.beq q.2.length d.1.2.2.length && true) (
                     ob (Vf n (d.2.1.1,d.2.1.2.1,d.2.1.2.2) q.1) fun k =>
                     gd (Nat.beq k.2.1.length d.2.1.2.1.length && (Nat.beq k.2.2.length d.2.1.2.2.length && true)) (
                      ob (f39 n (d.1.1,[],q.2) 1) fun e6 =>
                      bif (decide (e6 < 0)) then
                       some false
                      else
                       ob (f39 n (d.2.1.1,k.2) e6) fun e7 =>
                       bif (decide (e7 < 0)) then
                        some false
                       else
                        bif (e7 != k.1) then
                         some false
                        else
                         ob (f31 n a0) fun l3 =>
                         ob (f32 n a1) fun l4 =>
                         ob (f32 n a2) fun l5 =>
                         ob (f17 n l3 l4 l5) fun u =>
                         ob (f33 n u.1 a.1) fun l6 =>
                         bif (!l6) then
                          some false
                         else
                          ob (f33 n u.2.1 a.2.1) fun l7 =>
                          bif (!l7) then
                           some false
                          else
                           bif (u.2.2 != a.2.2) then
                            some false
                           else
                            ob (f39 n (d.1.1,[],q.2) 1) fun e8 =>
                            bif (decide (e8 < 0)) then
                             some false
                            else
                             ob (f39 n (d.2.1.1,k.2) e8) fun e9 =>
                             bif (decide (e9 < 0)) then
                              some false
                             else
                              bif (e9 != k.1) then
                               some false
                              else
                               some true)))))) (fun l8 =>
       Ez l8 (fun e =>
        ob (f33 n (e.1.1,[],e.1.2.2) a.1) fun l9 =>
        bif (!l9) then
         some false
        else
         ob (f33 n (e.2.1.1,[],e.2.1.2.2) a.2.1) fun m0 =>
         bif (!m0) then
          some false
         else
          bif (e.2.2 != a.2.2) then
           some false
          else
           ob (f31 n a0) fun m1 =>
           ob (f34 n f m1) fun m2 =>
           bif (!m2) then
            some false
           else
            ob (f32 n a1) fun m3 =>
            ob (f35 n g m3) fun m4 =>
            bif (!m4) then
             some false
            else
             ob (f32 n a2) fun m5 =>
             ob (f35 n h m5) fun m6 =>
             bif (!m6) then
              some false
             else
              ob (Vg n f 1) fun f0 =>
              gd (Nat.beq f0.2.length f.length && true) (
               ob (Je n g f0.1) fun f1 =>
               gd (Nat.beq f1.2.length g.length && true) (
                ob (Je n h f1.1) fun f2 =>
                gd (Nat.beq f2.2.length h.length && true) (
                 bif (decide (f2.1 < 0)) then
                  some false
                 else
                  ob (f33 n (e.1.1,[],e.1.2.2) a.1) fun m7 =>
                  bif (!m7) then
                   some false
                  else
                   ob (f33 n (e.2.1.1,[],e.2.1.2.2) a.2.1) fun m8 =>
                   bif (!m8) then
                    some false
                   else
                    bif (e.2.2 != a.2.2) then
                     some false
                    else
                     ob (Ra n (e.1.1,[],e.1.2.2) 1) fun r =>
                     gd (Nat.beq r.2.length e.1.2.2.length && true) (
                      ob (Ra n (e.2.1.1,[],e.2.1.2.2) r.1) fun p =>
                      gd (Nat.beq p.2.length e.2.1.2.2.length && true) (
                       ob (f39 n (e.1.1,[],r.2) 1) fun f3 =>
                       bif (decide (f3 < 0)) then
                        some false
                       else
                        ob (f39 n (e.2.1.1,[],p.2) f3) fun f4 =>
                        bif (decide (f4 < 0)) then
                         some false
                        else
                         bif (f4 != p.1) then
                          some false
                         else
                          ob (f31 n a0) fun m9 =>
                          ob (f32 n a1) fun n0 =>
                          ob (f32 n a2) fun n1 =>
                          ob (f17 n m9 n0 n1) fun v =>
                          ob (f33 n v.1 a.1) fun n2 =>
                          bif (!n2) then
                           some false
                          else
                           ob (f33 n v.2.1 a.2.1) fun n3 =>
                           bif (!n3) then
                            some false
                           else
                            bif (v.2.2 != a.2.2) then
                             some false
                            else
                             ob (f39 n (e.1.1,[],r.2) 1) fun f5 =>
                             bif (decide (f5 < 0)) then
                              some false
                             else
                              ob (f39 n (e.2.1.1,[],p.2) f5) fun f7 =>
                              bif (decide (f7 < 0)) then
                               some false
                              else
                               bif (f7 != p.1) then
                                some false
                               else
                                some true)))))) (fun i =>
        ob (f33 n (i.1.1,[],[]) a.1) fun n4 =>
        bif (!n4) then
         some false
        else
         ob (f33 n (i.2.1.1,[],[]) a.2.1) fun n5 =>
         bif (!n5) then
          some false
         else
          bif (i.2.2 != a.2.2) then
           some false
          else
           ob (f31 n a0) fun n6 =>
           ob (f34 n f n6) fun n7 =>
           bif (!n7) then
            some false
           else
            ob (f32 n a1) fun n8 =>
            ob (f35 n g n8) fun n9 =>
            bif (!n9) then
             some false
            else
             ob (f32 n a2) fun o0 =>
             ob (f35 n h o0) fun o1 =>
             bif (!o1) then
              some false
             else
              ob (Vg n f 1) fun f8 =>
              gd (Nat.beq f8.2.length f.length && true) (
               ob (Je n g f8.1) fun f9 =>
               gd (Nat.beq f9.2.length g.length && true) (
                ob (Je n h f9.1) fun g0 =>
                gd (Nat.beq g0.2.length h.length && true) (
                 bif (decide (g0.1 < 0)) then
                  some false
                 else
                  ob (f33 n (i.1.1,[],[]) a.1) fun o2 =>
                  bif (!o2) then
                   some false
                  else
                   ob (f33 n (i.2.1.1,[],[]) a.2.1) fun o3 =>
                   bif (!o3) then
                    some false
                   else
                    bif (i.2.2 != a.2.2) then
                     some false
                    else
                     ob (f38 n (i.1.1,[],[]) 1) fun o4 =>
                     ob (f38 n (i.2.1.1,[],[]) o4) fun g1 =>
                     ob (f39 n (i.1.1,[],[]) 1) fun g2 =>
                     bif (decide (g2 < 0)) then
                      some false
                     else
                      ob (f39 n (i.2.1.1,[],[]) g2) fun g3 =>
                      bif (decide (g3 < 0)) then
                       some false
                      else
                       bif (g3 != g1) then
                        some false
                       else
                        ob (f31 n a0) fun o5 =>
                        ob (f32 n a1) fun o6 =>
                        ob (f32 n a2) fun o7 =>
                        ob (f17 n o5 o6 o7) fun w =>
                        ob (f33 n w.1 a.1) fun o8 =>
                        bif (!o8) then
                         some false
                        else
                         ob (f33 n w.2.1 a.2.1) fun o9 =>
                         bif (!o9) then
                          some false
                         else
                          bif (w.2.2 != a.2.2) then
                           some false
                          else
                           ob (f39 n (i.1.1,[],[]) 1) fun g4 =>
                           bif (decide (g4 < 0)) then
                            some false
                           else
                            ob (f39 n (i.2.1.1,[],[]) g4) fun g5 =>
                            bif (decide (g5 < 0)) then
                             some false
                            else
                             bif (g5 != g1) then
                              some false
                             else
                              some true)))))))
def Bbf (n:Nat):Ent:=⟨6,[hE,hRs,hRs],[.bool],fun x=>f6 n x.1 x.2.1 x.2.2⟩
def Bbg (α:Type) (n:Nat):D3 α:={ reg:=[(2,⟨0,[],[(2,{ ent:=some (B0y n) })]⟩),(5,⟨0,[],[(2,{ ent:=some (Ane n) })]⟩),(8,⟨0,[],[(2,{ ent:=some (Ane n) })]⟩),(11,⟨0,[],[(1,{ ent:=some (Aby n) }),(3,{ ent:=some (Re n) }),(5,{ ent:=some (Re n) }),(6,{ ent:=some (B0v n) })]⟩),(12,⟨0,[],[(1,{ entB:=some (Asd n),hb:=310 })]⟩),(13,⟨0,[],[(1,{ entB:=some (Aeq n),hb:=320 })]⟩),(14,⟨0,[],[(1,{ entB:=some (Aeq n),hb:=330 })]⟩),(15,⟨0,[],[(3,{ entB:=some (Aub n),hb:=340 })]⟩),(16,⟨0,[],[(2,{ ent:=some (O4 n) }),(7,{ ent:=some (O4 n) })]⟩),(18,⟨3,[],[(2,{ ent:=some (Aby n) }),(3,{ ent:=some (B0x n) })]⟩),(20,⟨0,[],[(2,{ ent:=some (Re n) }),(3,{ ent:=some (An9 n) })]⟩),(22,⟨0,[],[(2,{ ent:=some (Re n) }),(3,{ ent:=some (An9 n) })]⟩),(25,⟨0,[],[(2,{ entB:=some (As5 n),hb:=350 })]⟩),(26,⟨0,[],[(2,{ alt:=[(Aek n)],hb:=360 })]⟩),(27,⟨0,[],[(2,{ alt:=[(Aek n)],hb:=370 })]⟩),(28,⟨0,[],[(5,{ ent:=some (O4 n) }),(11,{ ent:=some (O4 n) })]⟩),(31,⟨0,[],[(2,{ ent:=some (An7 n),alt:=[(Aei n),(A7e n)],hb:=380 })]⟩),(32,⟨0,[],[(2,{ ent:=some (An7 n),alt:=[(Aei n),(A7e n)],hb:=390 })]⟩),(34,⟨0,[],[(2,{ ent:=some (A4e n) })]⟩),(37,⟨0,[],[(2,{ ent:=some (A4e n) })]⟩),(42,⟨0,[],[(1,{ ent:=some (Aby n) }),(3,{ ent:=some (Re n) }),(5,{ ent:=some (Re n) }),(6,{ ent:=some (B0z n) })]⟩),(43,⟨0,[],[(2,{ ent:=some (O4 n) }),(7,{ ent:=some (O4 n) })]⟩),(46,⟨0,[],[(2,{ ent:=some (A4e n) })]⟩),(49,⟨0,[],[(2,{ ent:=some (A4e n) })]⟩)],join:=[],loop:=[] }
theorem Bad (n:Nat):(Bbf n).Sound PP:=At (fn:=Tryz.f6) (D:=Bbg _ n) ⟨B6y n,Ase n,Ase n,Aet n,Pl n,Pl n,B6n n,B2d n,Ak4 n,Ak4 n,B3s n,Mp n,Mp n,Aet n,B6s n,Pl n,As6 n,Pl n,As6 n,B2b n,Ak2 n,Ak2 n,Mp n,Mp n,Ak1 n,Aej n,As3 n,Ak1 n,Aej n,As3 n,A4d n,A4d n,Aet n,Pl n,Pl n,B82 n,Mp n,Mp n,A4d n,A4d n,trivial⟩

end Go.Ev
