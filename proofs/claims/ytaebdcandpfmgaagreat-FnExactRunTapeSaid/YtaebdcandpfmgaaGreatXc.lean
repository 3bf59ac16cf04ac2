/- DERIVED. What the functions compute, and that they do. -/
import Derived.Test.YtaebdcandpfmgaaGreatXb

set_option linter.all false
set_option linter.unusedVariables false
set_option linter.unusedSimpArgs false

namespace Go.Ev
open Go Go.Proofs Go.RowKit Go.Shelf
def f223 (n:Nat) (a0 a1:Rq):Option Rq :=
 ob (f200 n a0.2.1 a1.2.2) fun a =>
 ob (f200 n a0.2.2 a1.2.1) fun b =>
 ob (f201 n (!(a0.1 == a1.1)) a b) fun c =>
 some c
def Od (n:Nat):Ent:=⟨223,[hR,hR],[hR],fun x=>f223 n x.1 x.2⟩
def B51 (α:Type) (n:Nat):D3 α:={ reg:=[(1,⟨15,[],[(9,{ ent:=some (G9 n) }),(14,{ ent:=some (G9 n) }),(15,{ ent:=some (Oh n) })]⟩)],join:=[],loop:=[] }
theorem B04 (n:Nat):(Od n).Sound PP:=As (fn:=Tryz.f223) (D:=B51 _ n) ⟨Fo n,Fo n,Og n,trivial⟩

def f206 (n:Nat) (a0:Rq):Option Rq :=
 bif (!a0.1) then
  ob (f195 n a0) fun a =>
  ob (f117 n a0.2.1) fun b =>
  ob (f117 n a0.2.2) fun c =>
  some ((!a),b,c)
 else
  ob (f117 n a0.2.1) fun d =>
  ob (f117 n a0.2.2) fun e =>
  some (false,d,e)
def Aqj (n:Nat):Ent:=⟨206,[hR],[hR],fun x=>f206 n x⟩
def B5c (α:Type) (n:Nat):D3 α:={ reg:=[(1,⟨14,[],[(5,{ ent:=some (Ok n) }),(10,{ ent:=some (Jl n) }),(13,{ ent:=some (Jl n) })]⟩)],join:=[],loop:=[] }
theorem B0h (n:Nat):(Aqj n).Sound PP:=As (fn:=Tryz.f206) (D:=B5c _ n) ⟨Oj n,Ir n,Ir n,trivial⟩

def f232 (n:Nat) (a0 a1:Rq):Option Rq :=
 ob (f178 n a1 a0) fun a =>
 some a
def G6 (n:Nat):Ent:=⟨232,[hR,(.ref hR)],[hR],fun x=>f232 n x.1 x.2⟩
def B4s (α:Type) (n:Nat):D3 α:={ reg:=[(1,⟨0,[],[(2,{ ent:=some (Ak n) })]⟩)],join:=[],loop:=[] }
theorem Azy (n:Nat):(G6 n).Sound PP:=As (fn:=Tryz.f232) (D:=B4s _ n) ⟨C7 n,trivial⟩

def Z8 {α:Type} (n:Nat) (d:Rq) (p:Rq × (Bool × LI × LI × LR × Unit × Bool × LI × LI) × Rq) (b:LR) (e a:Int) (q:Bool) (r s:LI) (t:LR) (u:Bool) (v w:LI) (g h i:Bool) (j k:LI) (l:Bool) (m o:LI) (c:LR) (f:Rq->(Rq × (Bool × LI × LI × LR × Unit × Bool × LI × LI) × Rq)->LR->Int->Int->Bool->LI->LI->LR->Bool->LI->LI->Bool->Bool->Bool->LI->LI->Bool->LI->LI->LR->Option α) (k0:Bool->Bool->Bool->LI->LI->Bool->LI->LI->LR->Option α):Option α :=
 bif (decide (a < e)) then
  gd (decide (0 <= a) && decide (a < (b.length:Int))) (
   let x:=b.getD a.toNat (false,[],[])
   ob (f232 n x d) fun y =>
   gd (decide ((c.length + 1) * 56 <= 140737488355328)) (
    f d p b e (W (a + 1)) q r s t u v w g h i j k l m o (c ++ [y])))
 else
  k0 g h i j k l m o c
abbrev Ei:Tm:=⟨[(3,.d (.clo 232 (.ref hR))),(4,.d (.clo 233 (.pair (.ref hR) (.pair (.ref (.st (.pair .bool (.pair hIs (.pair hIs (.pair hRs (.pair .nil (.pair .bool (.pair hIs hIs))))))))) (.ref hR))))),(5,.k (.hp 5 0 0)),(10,.k (.hp 10 0 0)),(11,.k (.hp 11 0 0)),(18,.d hRs),(19,.d hI),(20,.d hI)],[(5,.var 81 true false [.d .bool,.d hIs,.d hIs,.d hRs,.d .nil,.d .bool,.d hIs,.d hIs]),(10,.var 81 true false [.d .bool,.d .nil,.d .nil,.d .nil,.d .nil,.d .bool,.d .nil,.d .nil]),(11,.var 81 false false [.d .bool,.d hIs,.d hIs,.k (.hw 31),.d .nil,.d .bool,.d hIs,.d hIs]),(31,.arr 31 hR false)],[13,30],[]⟩
abbrev Xf:Tm:=⟨[(10,.k (.hp 10 0 0)),(11,.k (.hp 11 0 0))],[(10,.var 81 true false [.d .bool,.d .nil,.d .nil,.d .nil,.d .nil,.d .bool,.d .nil,.d .nil]),(11,.var 81 false false [.d .bool,.d hIs,.d hIs,.k (.hw 31),.d .nil,.d .bool,.d hIs,.d hIs]),(31,.arr 31 hR false)],[5],[]⟩
abbrev Gs:List (Exit × Tm):=[(.exit 0,Xf)]
def Gr {α:Type} (n:Nat) (v:Ei.den) (f:Ei.den->Option α) (ks:KS α Gs):Option α:=Z8 n v.1.1 v.1.2.1 v.1.2.2.2.2.2.1 v.1.2.2.2.2.2.2.1 v.1.2.2.2.2.2.2.2.1 v.2.1.1 v.2.1.2.1 v.2.1.2.2.1 v.2.1.2.2.2.1 v.2.1.2.2.2.2.2.1 v.2.1.2.2.2.2.2.2.1 v.2.1.2.2.2.2.2.2.2.1 v.2.2.1.1 v.2.2.1.2.2.2.2.2.1 v.2.2.2.1.1 v.2.2.2.1.2.1 v.2.2.2.1.2.2.1 v.2.2.2.1.2.2.2.2.2.1 v.2.2.2.1.2.2.2.2.2.2.1 v.2.2.2.1.2.2.2.2.2.2.2.1 v.2.2.2.2.1 (fun a b c d e g h i j k l m o p q r s t u w x=>f ((a,b,(),(),(),c,d,e,()),((g,h,i,j,(),k,l,m,()),(o,(),(),(),(),p,(),(),()),(q,r,s,(),(),t,u,w,()),x,()))) (fun w0 w1 w2 w3 w4 w5 w6 w7 w8=>ks.1 (((),(),()),((w0,(),(),(),(),w1,(),(),()),(w2,w3,w4,(),(),w5,w6,w7,()),w8,())))
def A32 {α:Type} (n m:Nat) (a:Rq) (b:Rq × (Bool × LI × LI × LR × Unit × Bool × LI × LI) × Rq) (c:LR) (d e:Int) (f:Bool) (g h:LI) (i:LR) (j:Bool) (k l:LI) (o p q:Bool) (r s:LI) (t:Bool) (u v:LI) (x:LR) (k0:Bool->Bool->Bool->LI->LI->Bool->LI->LI->LR->Option α):Option α:=A5 (Gr n) m ((a,b,(),(),(),c,d,e,()),((f,g,h,i,(),j,k,l,()),(o,(),(),(),(),p,(),(),()),(q,r,s,(),(),t,u,v,()),x,())) (fun w=>k0 w.2.1.1 w.2.1.2.2.2.2.2.1 w.2.2.1.1 w.2.2.1.2.1 w.2.2.1.2.2.1 w.2.2.1.2.2.2.2.2.1 w.2.2.1.2.2.2.2.2.2.1 w.2.2.1.2.2.2.2.2.2.2.1 w.2.2.2.1,())
abbrev N0:Tm:=⟨[(3,.d (.clo 232 (.ref hR))),(4,.d (.clo 233 (.pair (.ref hR) (.pair (.ref (.st (.pair .bool (.pair hIs (.pair hIs (.pair hRs (.pair .nil (.pair .bool (.pair hIs hIs))))))))) (.ref hR))))),(5,.k (.hp 5 0 0)),(10,.k (.hp 10 0 0)),(11,.k (.hp 11 0 0)),(12,.d hI),(13,.k (.hp 13 0 0)),(18,.d hRs),(19,.d hI),(20,.d hI)],[(5,.var 81 true false [.d .bool,.d hIs,.d hIs,.d hRs,.d .nil,.d .bool,.d hIs,.d hIs]),(10,.var 81 true false [.d .bool,.d .nil,.d .nil,.d .nil,.d .nil,.d .bool,.d .nil,.d .nil]),(11,.var 81 true false [.d .bool,.d hIs,.d hIs,.d .nil,.d .nil,.d .bool,.d hIs,.d hIs]),(13,.var 31 true false [.d .bool,.d hIs,.d hIs])],[6,7],[]⟩
abbrev K5:Tm:=⟨[(3,.d (.clo 232 (.ref hR))),(4,.d (.clo 233 (.pair (.ref hR) (.pair (.ref (.st (.pair .bool (.pair hIs (.pair hIs (.pair hRs (.pair .nil (.pair .bool (.pair hIs hIs))))))))) (.ref hR))))),(5,.k (.hp 5 0 0)),(10,.k (.hp 10 0 0)),(11,.k (.hp 11 0 0)),(12,.d hI),(13,.k (.hp 13 0 0)),(18,.d hRs),(19,.d hI),(20,.d hI)],[(5,.var 81 true false [.d .bool,.d hIs,.d hIs,.d hRs,.d .nil,.d .bool,.d hIs,.d hIs]),(10,.var 81 true false [.d .bool,.d .nil,.d .nil,.d .nil,.d .nil,.d .bool,.d .nil,.d .nil]),(11,.var 81 false false [.d .bool,.d hIs,.d hIs,.k (.hw 31),.d .nil,.d .bool,.d hIs,.d hIs]),(13,.var 31 true false [.d .bool,.d hIs,.d hIs]),(31,.arr 31 hR false)],[],[]⟩
def Ud (n:Nat) (a0:Rq × LR × Unit × Rq) (a1 a2 a3:Rq) (a4:Rq × (Bool × LI × LI × LR × Unit × Bool × LI × LI) × Rq):Option (Rq × LR × Unit × Rq) :=
 bif (decide (0 < (a0.2.1.length:Int))) then
  gd (decide (0 < (a0.2.1.length:Int))) (
   let a:=a0.2.1.getD 0 (false,[],[])
   ob (f232 n a a3) fun b =>
   A32 n n a3 a4 a0.2.1 (a0.2.1.length:Int) 1 a0.1.1 a0.1.2.1 a0.1.2.2 a0.2.1 a0.2.2.2.1 a0.2.2.2.2.1 a0.2.2.2.2.2 false false a1.1 a1.2.1 a1.2.2 a2.1 a2.2.1 a2.2.2 [b]
    (fun j k c d e f g h i=>(
     some ((c,d,e),i,(),f,g,h))))
 else
  some (a1,[],(),a2)
def Cv (n:Nat):Ent:=⟨220,[(.st (.pair hR (.pair hRs (.pair .nil hR)))),hR,hR,(.clo 232 (.ref hR)),(.clo 233 (.pair (.ref hR) (.pair (.ref (.st (.pair .bool (.pair hIs (.pair hIs (.pair hRs (.pair .nil (.pair .bool (.pair hIs hIs))))))))) (.ref hR))))],[(.st (.pair hR (.pair hRs (.pair .nil hR))))],fun x=>Ud n x.1 x.2.1 x.2.2.1 x.2.2.2.1 x.2.2.2.2⟩
def In (α:Type) (n:Nat):D3 α:={ reg:=[(5,⟨0,[],[(4,{ ent:=some (G6 n) }),(5,{ sh:=some hR }),(6,{ sh:=some hR })]⟩)],join:=[],loop:=[(3,⟨Ei,Gs,A5 (Gr n) n⟩)],any:=[(5,N0),(5,K5)] }
set_option maxHeartbeats 8000000 in
theorem N1 (n:Nat):B4 TT ⟨46,[]⟩ [(4,{ ent:=some (G6 n) }),(5,{ sh:=some hR }),(6,{ sh:=some hR })] N0 (Af ((A1 Tryz.f220).at [1,1,0,1,0,0,1,1,0,0,1,0])):=by
 refine ⟨by kernel_rfl,fun w q hq=>?_⟩
 have e:WT [(4,{ ent:=some (G6 n) }),(5,{ sh:=some hR }),(6,{ sh:=some hR })] (A9 (Af ((A1 Tryz.f220).at [1,1,0,1,0,0,1,1,0,0,1,0])).toList) q = (∃ (y0:HL (G6 n).rs) (q0:List (Nat × RV)),q = (4,.sv (Aq (G6 n).rs y0)) :: q0 /\ q0 = []):=by kernel_rfl
 rw [e] at hq;obtain ⟨y0,q0,rfl,rfl⟩:=hq
 all_goals exact .inr ⟨6,by kernel_rfl,by kernel_rfl,by kernel_rfl⟩
set_option maxHeartbeats 8000000 in
theorem K6 (n:Nat):B4 TT ⟨46,[]⟩ [(4,{ ent:=some (G6 n) }),(5,{ sh:=some hR }),(6,{ sh:=some hR })] K5 (Af ((A1 Tryz.f220).at [1,1,0,1,0,0,1,1,0,0,1,0])):=by
 refine ⟨by kernel_rfl,fun w q hq=>?_⟩
 have e:WT [(4,{ ent:=some (G6 n) }),(5,{ sh:=some hR }),(6,{ sh:=some hR })] (A9 (Af ((A1 Tryz.f220).at [1,1,0,1,0,0,1,1,0,0,1,0])).toList) q = (∃ (y0:HL (G6 n).rs) (q0:List (Nat × RV)),q = (4,.sv (Aq (G6 n).rs y0)) :: q0 /\ q0 = []):=by kernel_rfl
 rw [e] at hq;obtain ⟨y0,q0,rfl,rfl⟩:=hq
 all_goals exact .inr ⟨6,by kernel_rfl,by kernel_rfl,by kernel_rfl⟩
theorem K4 (α:Type) (n:Nat):Al PP (Ah (In α n).reg):=⟨Azy n,trivial⟩
theorem Xe (α:Type) (n:Nat):D3.OK PP TT ⟨46,[]⟩ (In α n) ((A1 Tryz.f220).at [1,1,0,1,0,0]) :=
 D3.OK.mk3a (K4 α n) (show Aa ((A1 Tryz.f220).at [1,1,0,1,0,0]) = [] by kernel_rfl) trivial (show Ax ((A1 Tryz.f220).at [1,1,0,1,0,0]) = [(5,Af ((A1 Tryz.f220).at [1,1,0,1,0,0,1,1,0,0,1,0])),(7,Af ((A1 Tryz.f220).at [1,1,0,1,0,0,1,1,0,0,1,1,1,0]))] by kernel_rfl) ⟨⟨N1 n,K6 n,trivial⟩,trivial,trivial⟩
theorem Uc (α:Type) (n:Nat):LO.Sound (α:=α) PP ⟨46,[]⟩ ⟨Ei,Gs,A5 (Gr n) n⟩ (.loop ((A1 Tryz.f220).at [1,1,0,1,0,0])):=lk (Xe α n) n
theorem A5q (α:Type) (n:Nat):D3.OK PP TT ⟨46,[]⟩ (In α n) (A1 Tryz.f220) :=
 D3.OK.mk3a (K4 α n) (show Aa (A1 Tryz.f220) = [(3,(.loop ((A1 Tryz.f220).at [1,1,0,1,0,0])))] by kernel_rfl) ⟨Ab rfl (Uc α n),trivial⟩ (show Ax (A1 Tryz.f220) = [(5,Af ((A1 Tryz.f220).at [1,1,0,1,0,0,1,1,0,0,1,0])),(7,Af ((A1 Tryz.f220).at [1,1,0,1,0,0,1,1,0,0,1,1,1,0]))] by kernel_rfl) ⟨⟨N1 n,K6 n,trivial⟩,trivial,trivial⟩
theorem A31 (n:Nat):(Cv n).Sound PP:=fk (fn:=Tryz.f220) (A5q _ n)

abbrev Ahr:Tm:=⟨[(4,.k (.hp 4 0 0)),(5,.k (.hp 5 0 0)),(6,.k (.hp 6 0 0)),(7,.k (.hp 7 0 0)),(8,.k (.hp 8 0 0))],[(4,.var 81 true false [.d .bool,.d hIs,.d hIs,.d hRs,.d .nil,.d .bool,.d hIs,.d hIs]),(5,.var 31 true false [.d .bool,.d hIs,.d hIs]),(6,.var 31 true false [.d .bool,.d hIs,.d hIs]),(7,.var 31 true false [.d .bool,.d hIs,.d hIs]),(8,.var 81 true false [.d .bool,.d .nil,.d .nil,.d .nil,.d .nil,.d .bool,.d .nil,.d .nil])],[],[]⟩
def f224 (n:Nat) (a0:Rq × LR × Unit × Rq) (a1 a2 a3:Rq):Option (Rq × LR × Unit × Rq) :=
 ob (f178 n a2 a0.2.2.2) fun a =>
 ob (Ud n (a0.1,a0.2.1,(),a0.2.2.2) a1 a a2 (a3,(a0.1.1,a0.1.2.1,a0.1.2.2,a0.2.1,(),a0.2.2.2),a2)) fun b =>
 some b
def Ad1 (n:Nat):Ent:=⟨224,[(.st (.pair hR (.pair hRs (.pair .nil hR)))),hR,hR,hR],[(.st (.pair hR (.pair hRs (.pair .nil hR))))],fun x=>f224 n x.1 x.2.1 x.2.2.1 x.2.2.2⟩
def Aq0 (α:Type) (n:Nat):D3 α:={ reg:=[(1,⟨0,[],[(5,{ ent:=some (Ak n) }),(6,{ sh:=some (.ref hR) }),(7,{ sh:=some (.pair (.ref hR) (.pair (.ref (.st (.pair .bool (.pair hIs (.pair hIs (.pair hRs (.pair .nil (.pair .bool (.pair hIs hIs))))))))) (.ref hR))) }),(8,{ ent:=some (Cv n) })]⟩)],join:=[],loop:=[],any:=[(1,Ahr)] }
set_option maxHeartbeats 8000000 in
theorem B03 (n:Nat):B4 TT ⟨18,[]⟩ [(5,{ ent:=some (Ak n) }),(6,{ sh:=some (.ref hR) }),(7,{ sh:=some (.pair (.ref hR) (.pair (.ref (.st (.pair .bool (.pair hIs (.pair hIs (.pair hRs (.pair .nil (.pair .bool (.pair hIs hIs))))))))) (.ref hR))) }),(8,{ ent:=some (Cv n) })] Ahr (Af ((A1 Tryz.f224).at [1,0])):=by
 refine ⟨by kernel_rfl,fun w q hq=>?_⟩
 have e:WT [(5,{ ent:=some (Ak n) }),(6,{ sh:=some (.ref hR) }),(7,{ sh:=some (.pair (.ref hR) (.pair (.ref (.st (.pair .bool (.pair hIs (.pair hIs (.pair hRs (.pair .nil (.pair .bool (.pair hIs hIs))))))))) (.ref hR))) }),(8,{ ent:=some (Cv n) })] (A9 (Af ((A1 Tryz.f224).at [1,0])).toList) q = (∃ (y0:HL (Ak n).rs) (q0:List (Nat × RV)),q = (5,.sv (Aq (Ak n).rs y0)) :: q0 /\ ∃ (y1:HL (Cv n).rs) (q1:List (Nat × RV)),q0 = (8,.sv (Aq (Cv n).rs y1)) :: q1 /\ q1 = []):=by kernel_rfl
 rw [e] at hq;obtain ⟨y0,q0,rfl,y1,q1,rfl,rfl⟩:=hq
 all_goals exact .inl (Jc.mk (by kernel_rfl))
theorem Apz (α:Type) (n:Nat):Al PP (Ah (Aq0 α n).reg):=⟨C7 n,A31 n,trivial⟩
theorem B50 (α:Type) (n:Nat):D3.OK PP TT ⟨18,[]⟩ (Aq0 α n) (A1 Tryz.f224) :=
 D3.OK.mk3a (Apz α n) (show Aa (A1 Tryz.f224) = [] by kernel_rfl) trivial (show Ax (A1 Tryz.f224) = [(1,Af ((A1 Tryz.f224).at [1,0]))] by kernel_rfl) ⟨⟨B03 n,trivial⟩,trivial⟩
theorem Ahq (n:Nat):(Ad1 n).Sound PP:=fk (fn:=Tryz.f224) (B50 _ n)

abbrev Ahy:Tm:=⟨[(1,.k (.hp 1 0 0)),(2,.k (.hp 2 0 0))],[(1,.var 81 true false [.d .bool,.d hIs,.d hIs,.d hRs,.d .nil,.d .bool,.d hIs,.d hIs]),(2,.var 81 true false [.d .bool,.d .nil,.d .nil,.d .nil,.d .nil,.d .bool,.d .nil,.d .nil])],[],[]⟩
def f196 (n:Nat) (a0:Rq × LR × Unit × Rq):Option (Rq × LR × Unit × Rq) :=
 ob (f126 n 1) fun c =>
 ob (f223 n c a0.1) fun a =>
 ob (f178 n a a) fun b =>
 ob (f206 n b) fun d =>
 ob (f178 n b a) fun e =>
 ob (f126 n 2) fun f =>
 ob (f178 n e f) fun g =>
 ob (f224 n (a0.1,a0.2.1,(),a0.2.2.2) a d g) fun h =>
 some h
def Ar7 (n:Nat):Ent:=⟨196,[(.st (.pair hR (.pair hRs (.pair .nil hR))))],[(.st (.pair hR (.pair hRs (.pair .nil hR))))],fun x=>f196 n x⟩
def Ar8 (α:Type) (n:Nat):D3 α:={ reg:=[(1,⟨0,[],[(0,{ ent:=some (B7 n) }),(3,{ ent:=some (Od n) })]⟩),(2,⟨0,[],[(2,{ ent:=some (Ak n) })]⟩),(3,⟨9,[],[(3,{ ent:=some (Aqj n) }),(6,{ ent:=some (Ak n) }),(7,{ ent:=some (B7 n) }),(8,{ ent:=some (Ak n) }),(9,{ ent:=some (Ad1 n) })]⟩)],join:=[],loop:=[],any:=[(1,Ahy)] }
set_option maxHeartbeats 8000000 in
theorem B0v (n:Nat):B4 TT ⟨22,[]⟩ [(0,{ ent:=some (B7 n) }),(3,{ ent:=some (Od n) })] Ahy (Af ((A1 Tryz.f196).at [1,0])):=by
 refine ⟨by kernel_rfl,fun w q hq=>?_⟩
 have e:WT [(0,{ ent:=some (B7 n) }),(3,{ ent:=some (Od n) })] (A9 (Af ((A1 Tryz.f196).at [1,0])).toList) q = (∃ (y0:HL (B7 n).rs) (q0:List (Nat × RV)),q = (0,.sv (Aq (B7 n).rs y0)) :: q0 /\ ∃ (y1:HL (Od n).rs) (q1:List (Nat × RV)),q0 = (3,.sv (Aq (Od n).rs y1)) :: q1 /\ q1 = []):=by kernel_rfl
 rw [e] at hq;obtain ⟨y0,q0,rfl,y1,q1,rfl,rfl⟩:=hq
 all_goals exact .inr ⟨5,by kernel_rfl,by kernel_rfl,by kernel_rfl⟩
theorem Ar6 (α:Type) (n:Nat):Al PP (Ah (Ar8 α n).reg):=⟨C8 n,B04 n,C7 n,B0h n,C7 n,C8 n,C7 n,Ahq n,trivial⟩
theorem B5l (α:Type) (n:Nat):D3.OK PP TT ⟨22,[]⟩ (Ar8 α n) (A1 Tryz.f196) :=
 D3.OK.mk3a (Ar6 α n) (show Aa (A1 Tryz.f196) = [] by kernel_rfl) trivial (show Ax (A1 Tryz.f196) = [(1,Af ((A1 Tryz.f196).at [1,0])),(3,Af ((A1 Tryz.f196).at [1,1,1,0]))] by kernel_rfl) ⟨⟨B0v n,trivial⟩,trivial,trivial⟩
theorem B0u (n:Nat):(Ar7 n).Sound PP:=fk (fn:=Tryz.f196) (B5l _ n)

def A06 {α:Type} (n:Nat) (a b:Int) (c:Bool) (d e:LI) (g h:Bool) (i j:LI) (f:Int->Int->Bool->LI->LI->Bool->Bool->LI->LI->Option α) (k0:Bool->Bool->LI->LI->Option α):Option α :=
 bif (decide (b < a)) then
  ob (f200 n i d) fun k =>
  ob (f200 n j e) fun l =>
  f a (W (b + 1)) c d e g (!(h == c)) k l
 else
  k0 g h i j
abbrev Qu:Tm:=⟨[(2,.k (.hp 2 0 0)),(4,.k (.hp 4 0 0)),(5,.k (.hp 5 0 0)),(7,.d hI),(8,.d hI)],[(2,.var 31 true false [.d .bool,.d hIs,.d hIs]),(4,.var 31 true false [.d .bool,.d .nil,.d .nil]),(5,.var 31 true false [.d .bool,.d hIs,.d hIs])],[],[]⟩
abbrev Ar5:Tm:=⟨[(4,.k (.hp 4 0 0)),(5,.k (.hp 5 0 0))],[(4,.var 31 true false [.d .bool,.d .nil,.d .nil]),(5,.var 31 true false [.d .bool,.d hIs,.d hIs])],[2],[]⟩
abbrev A05:List (Exit × Tm):=[(.exit 0,Ar5)]
def A04 {α:Type} (n:Nat) (v:Qu.den) (f:Qu.den->Option α) (ks:KS α A05):Option α:=A06 n v.1.2.2.2.1 v.1.2.2.2.2.1 v.2.1.1 v.2.1.2.1 v.2.1.2.2.1 v.2.2.1.1 v.2.2.2.1.1 v.2.2.2.1.2.1 v.2.2.2.1.2.2.1 (fun a b c d e g h i j=>f (((),(),(),a,b,()),((c,d,e,()),(g,(),(),()),(h,i,j,()),()))) (fun w0 w1 w2 w3=>ks.1 (((),(),()),((w0,(),(),()),(w1,w2,w3,()),())))
def Oi {α:Type} (n m:Nat) (a b:Int) (c:Bool) (d e:LI) (f g:Bool) (h i:LI) (k0:Bool->Bool->LI->LI->Option α):Option α:=A5 (A04 n) m (((),(),(),a,b,()),((c,d,e,()),(f,(),(),()),(g,h,i,()),())) (fun w=>k0 w.2.1.1 w.2.2.1.1 w.2.2.1.2.1 w.2.2.1.2.2.1,())
theorem Ar4 {α n m a b c d e f g h i k0}:Oi (α:=α) n (m + 1) a b c d e f g h i k0 = A06 n a b c d e f g h i (fun a b c d e f g h i=>Oi n m a b c d e f g h i k0) k0:=rfl
def f197 (n:Nat) (a0:Rq) (a1:Int):Option Rq :=
 ob (f126 n 1) fun c =>
 Oi n n a1 0 a0.1 a0.2.1 a0.2.2 false c.1 c.2.1 c.2.2
  (fun j e a b=>(
   bif e then
    ob (f195 n (e,a,b)) fun d =>
    ob (f195 n ((!d),a,b)) fun f =>
    bif f then
     ob (f180 n) fun g =>
     some ((!d),a,g)
    else
     some ((!d),a,b)
   else
    ob (f195 n (false,a,b)) fun h =>
    bif h then
     ob (f180 n) fun i =>
     some (false,a,i)
    else
     some (false,a,b)))
def Uo (n:Nat):Ent:=⟨197,[hR,hI],[hR],fun x=>f197 n x.1 x.2⟩
def Adc (α:Type) (n:Nat):D3 α:={ reg:=[(1,⟨0,[],[(0,{ ent:=some (B7 n) })]⟩),(4,⟨15,[],[(9,{ ent:=some (G9 n) }),(14,{ ent:=some (G9 n) })]⟩),(6,⟨0,[],[(4,{ ent:=some (Ok n) })]⟩),(7,⟨0,[],[(1,{ ent:=some (Ok n) })]⟩),(8,⟨0,[],[(0,{ ent:=some (Oq n) })]⟩)],join:=[],loop:=[(3,⟨Qu,A05,A5 (A04 n) n⟩)] }
theorem A83 (α:Type) (n:Nat):Al PP (Ah (Adc α n).reg):=⟨C8 n,Fo n,Fo n,Oj n,Oj n,Oo n,trivial⟩
theorem Aln (α:Type) (n:Nat):LO.Sound (α:=α) PP ⟨40,[]⟩ ⟨Qu,A05,A5 (A04 n) n⟩ (.loop ((A1 Tryz.f197).at [1,1,0,1,0,0])):=Bb (D:=Adc α n) (A83 α n) n
theorem B5k (α:Type) (n:Nat):D3.OK PP TT ⟨40,[]⟩ (Adc α n) (A1 Tryz.f197) :=
 D3.OK.mk3 (A83 α n) (show Aa (A1 Tryz.f197) = [(3,(.loop ((A1 Tryz.f197).at [1,1,0,1,0,0])))] by kernel_rfl) ⟨Ab rfl (Aln α n),trivial⟩
theorem Wo (n:Nat):(Uo n).Sound PP:=fk (fn:=Tryz.f197) (B5k _ n)

def f131 (n:Nat) (a0:Rq):Option Bool :=
 bif (decide ((a0.2.1.length:Int) <= 40)) then
  some (decide ((a0.2.2.length:Int) <= 40))
 else
  some false
def Uv (n:Nat):Ent:=⟨131,[hR],[.bool],fun x=>f131 n x⟩
def B6q (α:Type) (n:Nat):D3 α:={ reg:=[],join:=[],loop:=[] }
theorem Wz (n:Nat):(Uv n).Sound PP:=As (fn:=Tryz.f131) (D:=B6q _ n) trivial

abbrev Ahv:Tm:=⟨[(4,.k (.hp 4 0 0)),(5,.k (.hp 5 0 0)),(6,.k (.hp 6 0 0)),(7,.k (.hp 7 0 0))],[(4,.var 31 true false [.d .bool,.d .nil,.d .nil]),(5,.var 31 true false [.d .bool,.d .nil,.d .nil]),(6,.var 31 true false [.d .bool,.d hIs,.d hIs]),(7,.var 31 true false [.d .bool,.d hIs,.d hIs])],[2],[]⟩
abbrev B0f:Tm:=⟨[(1,.d hI),(2,.k (.hp 2 0 0)),(4,.k (.hp 4 0 0)),(5,.k (.hp 5 0 0)),(6,.k (.hp 6 0 0)),(7,.k (.hp 7 0 0))],[(2,.var 81 true false [.d .bool,.d hIs,.d hIs,.d hRs,.d .nil,.d .bool,.d hIs,.d hIs]),(4,.var 31 true false [.d .bool,.d .nil,.d .nil]),(5,.var 31 true false [.d .bool,.d .nil,.d .nil]),(6,.var 31 true false [.d .bool,.d hIs,.d hIs]),(7,.var 31 true false [.d .bool,.d hIs,.d hIs])],[],[]⟩
def f209 (n:Nat) (a0:Rq × LR × Unit × Rq) (a1:Int):Option (Rq × Rq) :=
 ob (f126 n 0) fun a =>
 ob (f126 n 0) fun g =>
 let c:=fun (d:Bool) (e:LI) (f:LI)=>(
  bif (decide (a1 >= 2)) then
   ob (f197 n a0.1 (W (a1 - 2))) fun h =>
   ob (f126 n (W (a1 * (W (a1 - 1))))) fun i =>
   ob (f178 n h i) fun j =>
   some ((d,e,f),j)
  else
   some ((d,e,f),g))
 bif (decide (a1 >= 1)) then
  ob (f197 n a0.1 (W (a1 - 1))) fun k =>
  ob (f126 n a1) fun l =>
  ob (f178 n k l) fun b =>
  c b.1 b.2.1 b.2.2
 else
  c a.1 a.2.1 a.2.2
def Aqh (n:Nat):Ent:=⟨209,[(.st (.pair hR (.pair hRs (.pair .nil hR)))),hI],[hR,hR],fun x=>f209 n x.1 x.2⟩
def Aqi (α:Type) (n:Nat):D3 α:={ reg:=[(1,⟨0,[],[(0,{ ent:=some (B7 n) }),(1,{ ent:=some (B7 n) })]⟩),(3,⟨0,[],[(4,{ ent:=some (Uo n) }),(6,{ ent:=some (B7 n) }),(7,{ ent:=some (Ak n) })]⟩),(5,⟨0,[],[(4,{ ent:=some (Uo n) }),(9,{ ent:=some (B7 n) }),(10,{ ent:=some (Ak n) })]⟩)],join:=[(4,B0f)],loop:=[],any:=[(6,Ahv)] }
set_option maxHeartbeats 8000000 in
theorem B0g (n:Nat):B4 TT ⟨35,[]⟩ [] Ahv (Af ((A1 Tryz.f209).at [1,1,1,1,0])):=by
 refine ⟨by kernel_rfl,fun w q hq=>?_⟩
 have e:WT [] (A9 (Af ((A1 Tryz.f209).at [1,1,1,1,0])).toList) q = (q = []):=by kernel_rfl
 rw [e] at hq;obtain rfl:=hq
 all_goals exact .inr ⟨3,by kernel_rfl,by kernel_rfl,by kernel_rfl⟩
theorem Aqg (α:Type) (n:Nat):Al PP (Ah (Aqi α n).reg):=⟨C8 n,C8 n,Wo n,C8 n,C7 n,Wo n,C8 n,C7 n,trivial⟩
theorem B5b (α:Type) (n:Nat):D3.OK PP TT ⟨35,[]⟩ (Aqi α n) (A1 Tryz.f209) :=
 D3.OK.mk3a (Aqg α n) (show Aa (A1 Tryz.f209) = [] by kernel_rfl) trivial (show Ax (A1 Tryz.f209) = [(6,Af ((A1 Tryz.f209).at [1,1,1,1,0]))] by kernel_rfl) ⟨⟨B0g n,trivial⟩,trivial⟩
theorem B0e (n:Nat):(Aqh n).Sound PP:=fk (fn:=Tryz.f209) (B5b _ n)

def f198 (n:Nat) (a0:Rq × LR × Unit × Rq) (a1:Int):Option (Rq × LR × Unit × Rq) :=
 ob (f209 n a0 a1) fun a =>
 ob (f197 n a0.1 a1) fun b =>
 ob (f224 n a0 b a.1 a.2) fun c =>
 some c
def Ar3 (n:Nat):Ent:=⟨198,[(.st (.pair hR (.pair hRs (.pair .nil hR)))),hI],[(.st (.pair hR (.pair hRs (.pair .nil hR))))],fun x=>f198 n x.1 x.2⟩
def B5j (α:Type) (n:Nat):D3 α:={ reg:=[(1,⟨0,[],[(2,{ ent:=some (Aqh n) })]⟩),(2,⟨7,[],[(4,{ ent:=some (Uo n) }),(7,{ ent:=some (Ad1 n) })]⟩)],join:=[],loop:=[] }
theorem B0t (n:Nat):(Ar3 n).Sound PP:=As (fn:=Tryz.f198) (D:=B5j _ n) ⟨B0e n,Wo n,Ahq n,trivial⟩

abbrev Adp:Tm:=⟨[(2,.d hRs),(3,.k (.hw 1003)),(4,.k (.hp 4 0 0)),(5,.k (.hp 5 0 0)),(8,.k (.hp 8 0 0)),(10,.k (.hp 10 0 0)),(11,.k (.hp 11 0 0))],[(4,.var 84 true false [.d hI,.d .nil]),(5,.var 125 true false [.d hI,.d hI,.d hI,.d hI]),(8,.var 81 true false [.d .bool,.d .nil,.d .nil,.d .nil,.d .nil,.d .bool,.d .nil,.d .nil]),(10,.var 81 true false [.d .bool,.d .nil,.d .nil,.d .nil,.d .nil,.d .bool,.d .nil,.d .nil]),(11,.var 81 true false [.d .bool,.d .nil,.d .nil,.d .nil,.d .nil,.d .bool,.d .nil,.d .nil]),(1003,.arr 81 (.st (.pair hR (.pair hRs (.pair .nil hR)))) false)],[],[]⟩
abbrev Awq:Tm:=⟨[(2,.d hRs),(4,.k (.hp 4 0 0)),(5,.k (.hp 5 0 0)),(8,.k (.hp 8 0 0)),(10,.k (.hp 10 0 0)),(11,.k (.hp 11 0 0))],[(4,.var 84 true false [.d hI,.d .nil]),(5,.var 125 true false [.d hI,.d hI,.d hI,.d hI]),(8,.var 81 true false [.d .bool,.d .nil,.d .nil,.d .nil,.d .nil,.d .bool,.d .nil,.d .nil]),(10,.var 81 true false [.d .bool,.d hIs,.d hIs,.d hRs,.d .nil,.d .bool,.d hIs,.d hIs]),(11,.var 81 true false [.d .bool,.d hIs,.d hIs,.d hRs,.d .nil,.d .bool,.d hIs,.d hIs]),(1003,.arr 81 (.st (.pair hR (.pair hRs (.pair .nil hR)))) false)],[],[]⟩
def A9z (n:Nat) (a0:Int × Unit) (a1:Nq) (a2:LR) (a3:List (Rq × LR × Unit × Rq)):Option (((Rq × LR × Unit × Rq) × Int) × (List (Rq × LR × Unit × Rq))) :=
 let r:=fun (a:Bool) (b:LI) (c:LI) (f:LR) (g:Bool) (h:LI) (i:LI) (j:Bool) (k:LI) (l:LI) (m:LR) (o:Bool) (p:LI) (q:LI)=>(
  bif (a1.1 == 1) then
   ob (f126 n a1.2.2.2) fun s =>
   ob (f190 n (a0.1,()) s) fun t =>
   some ((t,0),a3)
  else
   bif (a1.1 == 2) then
    gd (decide (0 <= a1.2.2.2) && decide (a1.2.2.2 < (a2.length:Int))) (
     let u:=a2.getD a1.2.2.2.toNat (false,[],[])
     ob (f191 n (a0.1,()) u a1.2.2.2) fun v =>
     some ((v,0),a3))
   else
    bif (a1.1 == 3) then
     ob (f192 n ((a,b,c),f,(),g,h,i) ((j,k,l),m,(),o,p,q)) fun w =>
     some ((w,0),a3)
    else
     bif (a1.1 == 4) then
      ob (f126 n (-1)) fun x =>
      ob (f193 n ((j,k,l),m,(),o,p,q) x) fun y =>
      ob (f192 n ((a,b,c),f,(),g,h,i) y) fun z =>
      some ((z,0),a3)
     else
      bif (a1.1 == 5) then
       ob (f194 n ((a,b,c),f,(),g,h,i) ((j,k,l),m,(),o,p,q)) fun d0 =>
       some ((d0,0),a3)
      else
       bif (a1.1 == 6) then
        ob (f195 n (j,k,l)) fun d1 =>
        bif d1 then
         some ((((false,[],[]),[],(),false,[],[]),10),a3)
        else
         ob (f196 n ((j,k,l),m,(),o,p,q)) fun d2 =>
         ob (f194 n ((a,b,c),f,(),g,h,i) d2) fun d3 =>
         some ((d3,0),a3)
       else
        bif (a1.1 == 7) then
         ob (f126 n (-1)) fun d4 =>
         ob (f193 n ((a,b,c),f,(),g,h,i) d4) fun d5 =>
         some ((d5,0),a3)
        else
         ob (f197 n (a,b,c) a1.2.2.2) fun d6 =>
         ob (f131 n d6) fun d7 =>
         bif (!d7) then
          some ((((false,[],[]),[],(),false,[],[]),7),a3)
         else
          ob (f198 n ((a,b,c),f,(),g,h,i) a1.2.2.2) fun d8 =>
          some ((d8,0),a3))
 ob (f109 n a1) fun d9 =>
 bif (decide (d9 > 0)) then
  gd (decide (0 <= a1.2.1) && decide (a1.2.1 < (a3.length:Int))) (
   gd (decide (a1.2.1.toNat < a3.length)) (
    let d:=a3.getD a1.2.1.toNat ((false,[],[]),[],(),(false,[],[]))
    gd (decide (0 <= a1.2.2.1) && decide (a1.2.2.1 < (a3.length:Int))) (
     gd (decide (a1.2.2.1.toNat < a3.length)) (
      let e:=a3.getD a1.2.2.1.toNat ((false,[],[]),[],(),(false,[],[]))
      r d.1.1 d.1.2.1 d.1.2.2 d.2.1 d.2.2.2.1 d.2.2.2.2.1 d.2.2.2.2.2 e.1.1 e.1.2.1 e.1.2.2 e.2.1 e.2.2.2.1 e.2.2.2.2.1 e.2.2.2.2.2))))
 else
  r false [] [] [] false [] [] false [] [] [] false [] []
def Aic (n:Nat):Ent3:=⟨158,[.im (.st (.pair hI .nil)),.im hN,.im hRs,.one (.own 81 (.st (.pair hR (.pair hRs (.pair .nil hR)))))],[[.im (.st (.pair hR (.pair hRs (.pair .nil hR)))),.im hI]],fun x=>A9z n x.1 x.2.1 x.2.2.1 x.2.2.2⟩
def Aid (α:Type) (n:Nat):D3 α:={ reg:=[(2,⟨0,[],[(1,{ ent:=some (A3i n) })]⟩),(6,⟨4,[],[(3,{ ent:=some (B7 n) }),(4,{ ent:=some (Arh n) })]⟩),(8,⟨8,[],[(8,{ ent:=some (Arf n) })]⟩),(10,⟨0,[],[(2,{ ent:=some (Adg n) })]⟩),(12,⟨4,[],[(2,{ ent:=some (B7 n) }),(3,{ ent:=some (Adf n) }),(4,{ ent:=some (Adg n) })]⟩),(14,⟨0,[],[(2,{ ent:=some (Add n) })]⟩),(16,⟨0,[],[(2,{ ent:=some (Ok n) })]⟩),(18,⟨3,[],[(2,{ ent:=some (Ar7 n) }),(3,{ ent:=some (Add n) })]⟩),(20,⟨2,[],[(1,{ ent:=some (B7 n) }),(2,{ ent:=some (Adf n) })]⟩),(21,⟨0,[],[(4,{ ent:=some (Uo n) }),(5,{ ent:=some (Uv n) })]⟩),(23,⟨0,[],[(3,{ ent:=some (Ar3 n) })]⟩)],join:=[(4,Awq)],loop:=[],any:=[(3,Adp)] }
set_option maxHeartbeats 8000000 in
theorem Awr (n:Nat):B4 TT ⟨89,[]⟩ [] Adp (Af ((A1 Tryz.f158).at [1,1,0,1,0])):=by
 refine ⟨by kernel_rfl,fun w q hq=>?_⟩
 have e:WT [] (A9 (Af ((A1 Tryz.f158).at [1,1,0,1,0])).toList) q = (q = []):=by kernel_rfl
 rw [e] at hq;obtain rfl:=hq
 all_goals exact .inr ⟨11,by kernel_rfl,by kernel_rfl,by kernel_rfl⟩
theorem Am2 (α:Type) (n:Nat):Al PP (Ah (Aid α n).reg):=⟨A60 n,C8 n,B13 n,B11 n,Ai5 n,C8 n,Ai3 n,Ai5 n,Ahz n,Oj n,B0u n,Ahz n,C8 n,Ai3 n,Wo n,Wz n,B0t n,trivial⟩
theorem B1r (α:Type) (n:Nat):D3.OK PP TT ⟨89,[]⟩ (Aid α n) (A1 Tryz.f158) :=
 D3.OK.mk3a (Am2 α n) (show Aa (A1 Tryz.f158) = [] by kernel_rfl) trivial (show Ax (A1 Tryz.f158) = [(3,Af ((A1 Tryz.f158).at [1,1,0,1,0])),(6,Af ((A1 Tryz.f158).at [1,1,1,0,1,0,1,0,0])),(8,Af ((A1 Tryz.f158).at [1,1,1,0,1,0,1,1,1,0,0])),(12,Af ((A1 Tryz.f158).at [1,1,1,0,1,0,1,1,1,1,1,1,1,0,0])),(18,Af ((A1 Tryz.f158).at [1,1,1,0,1,0,1,1,1,1,1,1,1,1,1,1,1,0,1,0])),(20,Af ((A1 Tryz.f158).at [1,1,1,0,1,0,1,1,1,1,1,1,1,1,1,1,1,1,1,0,0]))] by kernel_rfl) ⟨⟨Awr n,trivial⟩,trivial,trivial,trivial,trivial,trivial,trivial⟩
theorem Awp (n:Nat):(Aic n).Sound PP:=O6 (fn:=Tryz.f158) (B1r _ n)

def f130 (n:Nat) (a0:Rq):Option Bool :=
 ob (f131 n a0) fun a =>
 some (!a)
def Ask (n:Nat):Ent:=⟨130,[hR],[.bool],fun x=>f130 n x⟩
def B6r (α:Type) (n:Nat):D3 α:={ reg:=[(1,⟨0,[],[(1,{ ent:=some (Uv n) })]⟩)],join:=[],loop:=[] }
theorem B1z (n:Nat):(Ask n).Sound PP:=As (fn:=Tryz.f130) (D:=B6r _ n) ⟨Wz n,trivial⟩

def Mc {α:Type} (n:Nat) (b:LR) (c a:Int) (f:LR->Int->Int->Option α) (k0:Int->Option α) (k1:Unit->Option α):Option α :=
 bif (decide (a < c)) then
  gd (decide (0 <= a) && decide (a < (b.length:Int))) (
   let d:=b.getD a.toNat (false,[],[])
   ob (f130 n d) fun e =>
   bif e then
    k0 a
   else
    f b c (W (a + 1)))
 else
  k1 ()
abbrev Ho:Tm:=⟨[(0,.d hRs),(1,.d (.fn 130)),(7,.d hI),(8,.d hI)],[],[],[]⟩
abbrev A9j:Tm:=⟨[(4,.d hI)],[],[],[]⟩
abbrev A9i:Tm:=⟨[],[],[],[]⟩
abbrev Mb:List (Exit × Tm):=[(.ret,A9j),(.exit 0,A9i)]
def Ma {α:Type} (n:Nat) (v:Ho.den) (f:Ho.den->Option α) (ks:KS α Mb):Option α:=Mc n v.1.1 v.1.2.2.1 v.1.2.2.2.1 (fun a b c=>f ((a,(),b,c,()),())) (fun w0=>ks.1 ((w0,()),())) (fun _=>ks.2.1 ((),()))
def Gc {α:Type} (n m:Nat) (a:LR) (b c:Int) (k0:Int->Option α) (k1:Unit->Option α):Option α:=A5 (Ma n) m ((a,(),b,c,()),()) (fun w=>k0 w.1.1,fun w=>k1 (),())
theorem A9h {α n m a b c k0 k1}:Gc (α:=α) n (m + 1) a b c k0 k1 = Mc n a b c (fun a b c=>Gc n m a b c k0 k1) k0 k1:=rfl
def A0r (n:Nat) (a0:LR) (a1:Unit):Option Int :=
 Gc n n a0 (a0.length:Int) 0
  (fun a=>(
   some a))
  (fun (_:Unit)=>(
   some (-1)))
def A3c (n:Nat):Ent:=⟨182,[hRs,(.fn 130)],[hI],fun x=>A0r n x.1 x.2⟩
def R4 (α:Type) (n:Nat):D3 α:={ reg:=[(4,⟨0,[],[(5,{ ent:=some (Ask n) })]⟩)],join:=[],loop:=[(2,⟨Ho,Mb,A5 (Ma n) n⟩)] }
theorem T0 (α:Type) (n:Nat):Al PP (Ah (R4 α n).reg):=⟨B1z n,trivial⟩
theorem A5v (α:Type) (n:Nat):LO.Sound (α:=α) PP ⟨19,[]⟩ ⟨Ho,Mb,A5 (Ma n) n⟩ (.loop ((A1 Tryz.f182).at [1,0,1,0,0])):=Bb (D:=R4 α n) (T0 α n) n
theorem Aly (α:Type) (n:Nat):D3.OK PP TT ⟨19,[]⟩ (R4 α n) (A1 Tryz.f182) :=
 D3.OK.mk3 (T0 α n) (show Aa (A1 Tryz.f182) = [(2,(.loop ((A1 Tryz.f182).at [1,0,1,0,0])))] by kernel_rfl) ⟨Ab rfl (A5v α n),trivial⟩
theorem Ag9 (n:Nat):(A3c n).Sound PP:=fk (fn:=Tryz.f182) (Aly _ n)

def A17 (n:Nat) (a0:LR) (a1:Unit):Option Bool :=
 ob (A0r n a0 a1) fun a =>
 some (decide (a >= 0))
def A3h (n:Nat):Ent:=⟨129,[hRs,(.fn 130)],[.bool],fun x=>A17 n x.1 x.2⟩
def Am8 (α:Type) (n:Nat):D3 α:={ reg:=[(1,⟨0,[],[(2,{ ent:=some (A3c n) })]⟩)],join:=[],loop:=[] }
theorem Agd (n:Nat):(A3h n).Sound PP:=As (fn:=Tryz.f129) (D:=Am8 _ n) ⟨Ag9 n,trivial⟩

def f76 (n:Nat) (a0:LR):Option (LR × Int) :=
 ob (A17 n a0 ()) fun a =>
 bif a then
  some ([],7)
 else
  some (a0,0)
def Akk (n:Nat):Ent:=⟨76,[hRs],[hRs,hI],fun x=>f76 n x⟩
def B8b (α:Type) (n:Nat):D3 α:={ reg:=[(1,⟨0,[],[(1,{ ent:=some (A3h n) })]⟩)],join:=[],loop:=[] }
theorem Ap0 (n:Nat):(Akk n).Sound PP:=As (fn:=Tryz.f76) (D:=B8b _ n) ⟨Agd n,trivial⟩

def f167 (n:Nat) (a0:Rq × LR × Unit × Rq):Option Bool :=
 ob (f76 n a0.2.1) fun a =>
 ob (f76 n []) fun b =>
 ob (f131 n a0.1) fun c =>
 bif c then
  ob (f131 n a0.2.2.2) fun d =>
  bif d then
   bif (a.2 == 0) then
    some (b.2 == 0)
   else
    some false
  else
   some false
 else
  some false
def As3 (n:Nat):Ent:=⟨167,[(.st (.pair hR (.pair hRs (.pair .nil hR))))],[.bool],fun x=>f167 n x⟩
def B67 (α:Type) (n:Nat):D3 α:={ reg:=[(1,⟨0,[],[(2,{ ent:=some (Akk n) })]⟩),(2,⟨0,[],[(2,{ ent:=some (Akk n) })]⟩),(3,⟨0,[],[(2,{ ent:=some (Uv n) }),(6,{ ent:=some (Uv n) })]⟩)],join:=[],loop:=[] }
theorem B1m (n:Nat):(As3 n).Sound PP:=As (fn:=Tryz.f167) (D:=B67 _ n) ⟨Ap0 n,Ap0 n,Wz n,Wz n,trivial⟩

def A1q {α:Type} (n:Nat) (e:LR) (c:LN) (g b h:Int) (d:List (Rq × LR × Unit × Rq)) (f:LR->LN->Int->Int->Int->(List (Rq × LR × Unit × Rq))->Option α) (k0:Int->Option α) (k1:(List (Rq × LR × Unit × Rq))->Option α):Option α :=
 bif (decide (b < g)) then
  gd (decide (0 <= b) && decide (b < (c.length:Int))) (
   let i:=c.getD b.toNat (0,0,0,0)
   ob (A9z n (h,()) i e d) fun a =>
   gd (Nat.beq a.2.length d.length && true) (
    bif (a.1.2 != 0) then
     k0 a.1.2
    else
     ob (f167 n a.1.1) fun j =>
     bif (!j) then
      k0 7
     else
      gd (decide ((a.2.length + 1) * 160 <= 140737488355328)) (
       f e c g (W (b + 1)) h (a.2 ++ [a.1.1]))))
 else
  k1 d
abbrev Rl:Tm:=⟨[(2,.d hRs),(3,.k (.hp 3 0 0)),(8,.k (.hw 13)),(14,.d hNs),(15,.d hI),(16,.d hI)],[(3,.var 84 true false [.d hI,.d .nil]),(13,.arr 81 (.st (.pair hR (.pair hRs (.pair .nil hR)))) false)],[10,11,36],[]⟩
abbrev At5:Tm:=⟨[(6,.d .nil),(7,.d hI)],[],[3,10,11,13],[]⟩
abbrev At4:Tm:=⟨[(8,.k (.hw 13))],[(13,.arr 81 (.st (.pair hR (.pair hRs (.pair .nil hR)))) false)],[3],[]⟩
abbrev A1p:List (Exit × Tm):=[(.ret,At5),(.exit 0,At4)]
def A1o {α:Type} (n:Nat) (v:Rl.den) (f:Rl.den->Option α) (ks:KS α A1p):Option α:=A1q n v.1.1 v.1.2.2.2.1 v.1.2.2.2.2.1 v.1.2.2.2.2.2.1 v.2.1.1 v.2.2.1 (fun a b c d e g=>f ((a,(),(),b,c,d,()),((e,(),()),g,()))) (fun w0=>ks.1 (((),w0,()),())) (fun w0=>ks.2.1 (((),()),(w0,())))
def X4 {α:Type} (n m:Nat) (a:LR) (b:LN) (c d e:Int) (f:List (Rq × LR × Unit × Rq)) (k0:Int->Option α) (k1:(List (Rq × LR × Unit × Rq))->Option α):Option α:=A5 (A1o n) m ((a,(),(),b,c,d,()),((e,(),()),f,())) (fun w=>k0 w.1.2.1,fun w=>k1 w.2.1,())
theorem At3 {α n m a b c d e f k0 k1}:X4 (α:=α) n (m + 1) a b c d e f k0 k1 = A1q n a b c d e f (fun a b c d e f=>X4 n m a b c d e f k0 k1) k0 k1:=rfl
def f104 (n:Nat) (a0:Int × Unit) (a1:LN) (a2:LR):Option ((List (Rq × LR × Unit × Rq)) × Int) :=
 X4 n n a2 a1 (a1.length:Int) 0 a0.1 []
  (fun a=>(
   some ([],a)))
  (fun b=>(
   some (b,0)))
def Aec (n:Nat):Ent:=⟨104,[(.st (.pair hI .nil)),hNs,hRs],[(.sl (.st (.pair hR (.pair hRs (.pair .nil hR))))),hI],fun x=>f104 n x.1 x.2.1 x.2.2⟩
def Aed (α:Type) (n:Nat):D3 α:={ reg:=[(1,⟨0,[],[(0,{ sh:=some (.st (.pair hR (.pair hRs (.pair .nil hR)))) })]⟩),(5,⟨0,[],[(4,{ alt:=[(Aic n)],hb:=310 })]⟩),(8,⟨0,[],[(1,{ ent:=some (As3 n) })]⟩),(10,⟨0,[],[(2,{ sh:=some (.st (.pair hR (.pair hRs (.pair .nil hR)))) })]⟩)],join:=[],loop:=[(3,⟨Rl,A1p,A5 (A1o n) n⟩)] }
theorem A8v (α:Type) (n:Nat):Al PP (Ah (Aed α n).reg):=⟨Awp n,B1m n,trivial⟩
theorem Amg (α:Type) (n:Nat):LO.Sound (α:=α) PP ⟨40,[]⟩ ⟨Rl,A1p,A5 (A1o n) n⟩ (.loop ((A1 Tryz.f104).at [1,1,0,1,0,0])):=Bb (D:=Aed α n) (A8v α n) n
theorem B75 (α:Type) (n:Nat):D3.OK PP TT ⟨40,[]⟩ (Aed α n) (A1 Tryz.f104) :=
 D3.OK.mk3 (A8v α n) (show Aa (A1 Tryz.f104) = [(3,(.loop ((A1 Tryz.f104).at [1,1,0,1,0,0])))] by kernel_rfl) ⟨Ab rfl (Amg α n),trivial⟩
theorem Aiu (n:Nat):(Aec n).Sound PP:=fk (fn:=Tryz.f104) (B75 _ n)

def f106 (n:Nat) (a0:Int) (a1:List (Rq × LR × Unit × Rq)):Option Rq :=
 gd (decide (0 <= a0) && decide (a0 < (a1.length:Int))) (
  let a:=a1.getD a0.toNat ((false,[],[]),[],(),(false,[],[]))
  some a.1)
def Aea (n:Nat):Ent:=⟨106,[hI,(.ref (.sl (.st (.pair hR (.pair hRs (.pair .nil hR))))))],[hR],fun x=>f106 n x.1 x.2⟩
def B74 (α:Type) (n:Nat):D3 α:={ reg:=[],join:=[],loop:=[] }
theorem Ais (n:Nat):(Aea n).Sound PP:=As (fn:=Tryz.f106) (D:=B74 _ n) trivial

def Oy (n:Nat) (a0:List Int):Option (List Int ⊕ Unit):=bif a0.isEmpty then some (.inr ()) else (Kl n a0).map .inl
def C9 (n:Nat):Ent3:=⟨117,[.im hIs],[[.one (.own 3 hI)],[.one (.emp hI)]],fun x=>Oy n x⟩
theorem A8p (n:Nat):(C9 n).Sound Tryz.prog:=by
 intro nt x z h
 cases x with
 | cons y l =>
  have h:(Kl n (y :: l)).map Sum.inl = some z:=h
  cases e:Kl n (y :: l) with
  | none=>rw [e] at h;cases h
  | some r =>
   rw [e] at h;obtain rfl:=QA h;exact A1h n nt (y :: l) r e
 | nil =>
  have h:some (Sum.inr ()) = some z:=h;obtain rfl:=QA h;exact Ae6 nt

abbrev Ahg:Tm:=⟨[(1,.k (.hp 1 0 0)),(2,.k (.hp 2 0 0))],[(1,.var 31 true false [.d .bool,.d hIs,.d hIs]),(2,.var 31 true false [.d .bool,.d .nil,.d .nil])],[],[]⟩
def Akn (n:Nat) (a0:Rq):Option ((Bool × LI × LI) ⊕ ((Bool × Unit × LI) ⊕ ((Bool × LI × Unit) ⊕ (Bool × Unit × Unit)))) :=
 ob (Oy n a0.2.1) fun b =>
 Gj b (fun a =>
  ob (Oy n a0.2.2) fun c =>
  Gj c (fun d =>
   some (.inl (a0.1,a,d))) (fun g =>
   some (.inr (.inr (.inl (a0.1,a,())))))) (fun h =>
  ob (Oy n a0.2.2) fun e =>
  Gj e (fun f =>
   some (.inr (.inl (a0.1,(),f)))) (fun i =>
   some (.inr (.inr (.inr (a0.1,(),()))))))
def Ap5 (n:Nat):Ent3:=⟨61,[.im hR],[[.mix [.im .bool,.own 3 hI,.own 3 hI]],[.mix [.im .bool,.emp hI,.own 3 hI]],[.mix [.im .bool,.own 3 hI,.emp hI]],[.mix [.im .bool,.emp hI,.emp hI]]],fun x=>Akn n x⟩
def Ap6 (α:Type) (n:Nat):D3 α:={ reg:=[(1,⟨0,[],[(4,{ entB:=some (C9 n),hb:=310 }),(7,{ entB:=some (C9 n),hb:=320 })]⟩)],join:=[],loop:=[],any:=[(1,Ahg)] }
set_option maxHeartbeats 8000000 in
theorem Azh (n:Nat):B4 TT ⟨12,[]⟩ [(4,{ entB:=some (C9 n),hb:=310 }),(7,{ entB:=some (C9 n),hb:=320 })] Ahg (Af ((A1 Tryz.f61).at [1,0])):=by
 refine ⟨by kernel_rfl,fun w q hq=>?_⟩
 have e:WT [(4,{ entB:=some (C9 n),hb:=310 }),(7,{ entB:=some (C9 n),hb:=320 })] (A9 (Af ((A1 Tryz.f61).at [1,0])).toList) q = (∃ (y0:HF (Aj 1000 (C9 n).ts) (C9 n).forms) (q0:List (Nat × RV)),q = (4,.bx (C9 n) y0) :: q0 /\ ∃ (y1:HF (Aj 1000 (C9 n).ts) (C9 n).forms) (q1:List (Nat × RV)),q0 = (7,.bx (C9 n) y1) :: q1 /\ q1 = []):=by kernel_rfl
 rw [e] at hq;obtain ⟨y0,q0,rfl,y1,q1,rfl,rfl⟩:=hq;all_goals rcases y0 with y0 | y0
 all_goals rcases y1 with y1 | y1
 all_goals exact .inl (Jc.mk (by kernel_rfl))
theorem Ap4 (α:Type) (n:Nat):Al PP (Ah (Ap6 α n).reg):=⟨A8p n,A8p n,trivial⟩
theorem B46 (α:Type) (n:Nat):D3.OK PP TT ⟨12,[]⟩ (Ap6 α n) (A1 Tryz.f61) :=
 D3.OK.mk3a (Ap4 α n) (show Aa (A1 Tryz.f61) = [] by kernel_rfl) trivial (show Ax (A1 Tryz.f61) = [(1,Af ((A1 Tryz.f61).at [1,0]))] by kernel_rfl) ⟨⟨Azh n,trivial⟩,trivial⟩
theorem Azg (n:Nat):(Ap5 n).Sound PP:=O6 (fn:=Tryz.f61) (B46 _ n)

def K2 {α:Type} (n:Nat) (c:List (Rq × LR × Unit × Rq)) (d b:Int) (a:LR) (f:(List (Rq × LR × Unit × Rq))->Int->Int->LR->Option α) (k0:LR->Option α):Option α :=
 bif (decide (b < d)) then
  ob (f106 n b c) fun h =>
  ob (Akn n h) fun i =>
  Gj i (fun j =>
   gd (decide ((a.length + 1) * 56 <= 140737488355328)) (
    f c d (W (b + 1)) (a ++ [j]))) (fun k =>
   Gj k (fun e =>
    gd (decide ((a.length + 1) * 56 <= 140737488355328)) (
     f c d (W (b + 1)) (a ++ [(e.1,[],e.2.2)]))) (fun l =>
    Gj l (fun g =>
     gd (decide ((a.length + 1) * 56 <= 140737488355328)) (
      f c d (W (b + 1)) (a ++ [(g.1,g.2.1,[])]))) (fun m =>
     none)))
 else
  k0 a
abbrev Gh:Tm:=⟨[(1,.d (.clo 106 (.ref (.sl (.st (.pair hR (.pair hRs (.pair .nil hR)))))))),(5,.k (.hw 7)),(8,.d hI),(9,.d hI)],[(7,.tree 31 hR false)],[],[]⟩
abbrev A63:Tm:=⟨[(5,.k (.hw 7))],[(7,.tree 31 hR false)],[],[]⟩
abbrev K1:List (Exit × Tm):=[(.exit 0,A63)]
def K0 {α:Type} (n:Nat) (v:Gh.den) (f:Gh.den->Option α) (ks:KS α K1):Option α:=K2 n v.1.1 v.1.2.2.1 v.1.2.2.2.1 v.2.1 (fun a b c d=>f ((a,(),b,c,()),(d,()))) (fun w0=>ks.1 (((),()),(w0,())))
def Hr {α:Type} (n m:Nat) (a:List (Rq × LR × Unit × Rq)) (b c:Int) (d:LR) (k0:LR->Option α):Option α:=A5 (K0 n) m ((a,(),b,c,()),(d,())) (fun w=>k0 w.2.1,())
theorem A62 {α n m a b c d k0}:Hr (α:=α) n (m + 1) a b c d k0 = K2 n a b c d (fun a b c d=>Hr n m a b c d k0) k0:=rfl
def N6 (n:Nat) (a0:Int) (a1:List (Rq × LR × Unit × Rq)):Option LR :=
 Hr n n a1 a0 0 []
  (fun a=>(
   some a))
def Y0 (n:Nat):Ent3:=⟨105,[.im hI,.im (.clo 106 (.ref (.sl (.st (.pair hR (.pair hRs (.pair .nil hR)))))))],[[.one (.tree 31 hR)]],fun x=>N6 n x.1 x.2⟩
def Nn (α:Type) (n:Nat):D3 α:={ reg:=[(1,⟨0,[],[(0,{ sh:=some hR,tr:=some hR })]⟩),(5,⟨0,[],[(3,{ ent:=some (Aea n) }),(4,{ entB:=some (Ap5 n),hb:=310 }),(5,{ sh:=some hR })]⟩)],join:=[],loop:=[(3,⟨Gh,K1,A5 (K0 n) n⟩)] }
theorem P1 (α:Type) (n:Nat):Al PP (Ah (Nn α n).reg):=⟨Ais n,Azg n,trivial⟩
theorem A3k (α:Type) (n:Nat):LO.Sound (α:=α) PP ⟨21,[]⟩ ⟨Gh,K1,A5 (K0 n) n⟩ (.loop ((A1 Tryz.f105).at [1,1,0,1,0,0])):=Bb (D:=Nn α n) (P1 α n) n
theorem Agf (α:Type) (n:Nat):D3.OK PP TT ⟨21,[]⟩ (Nn α n) (A1 Tryz.f105) :=
 D3.OK.mk3 (P1 α n) (show Aa (A1 Tryz.f105) = [(3,(.loop ((A1 Tryz.f105).at [1,1,0,1,0,0])))] by kernel_rfl) ⟨Ab rfl (A3k α n),trivial⟩
theorem Aeb (n:Nat):(Y0 n).Sound PP:=O6 (fn:=Tryz.f105) (Agf _ n)

def A59 (n:Nat) (a0:LN × Int) (a1:LR):Option ((LR × Int) ⊕ (Unit × Int)) :=
 ob (f103 n a0 a1) fun b =>
 bif (b != 0) then
  some (.inr ((),b))
 else
  ob (f104 n (0,()) a0.1 a1) fun a =>
  bif (a.2 != 0) then
   some (.inr ((),a.2))
  else
   ob (N6 n (a.1.length:Int) a.1) fun c =>
   some (.inl (c,0))
def Ap7 (n:Nat):Ent3:=⟨52,[.im (.st (.pair hNs hI)),.im hRs],[[.one (.tree 31 hR),.im hI],[.im .nil,.im hI]],fun x=>A59 n x.1 x.2⟩
def B48 (α:Type) (n:Nat):D3 α:={ reg:=[(1,⟨0,[],[(2,{ ent:=some (Aee n) })]⟩),(4,⟨0,[],[(4,{ ent:=some (Aec n) })]⟩),(7,⟨0,[],[(2,{ sh:=some (.ref (.sl (.st (.pair hR (.pair hRs (.pair .nil hR)))))) }),(3,{ entB:=some (Y0 n),hb:=310 })]⟩)],join:=[],loop:=[] }
theorem Azi (n:Nat):(Ap7 n).Sound PP:=Abj (fn:=Tryz.f52) (D:=B48 _ n) ⟨Aiv n,Aiu n,Aeb n,trivial⟩

def A50 {α:Type} (n:Nat) (b c:LI) (a:Int) (f:LI->LI->Int->Option α) (k0:Bool->Option α) (k1:Unit->Option α):Option α :=
 bif (decide (a < (b.length:Int))) then
  gd (decide (0 <= a) && decide (a < (b.length:Int))) (
   gd (decide (0 <= a) && decide (a < (c.length:Int))) (
    bif ((b.getD a.toNat 0) != (c.getD a.toNat 0)) then
     k0 false
    else
     f b c (W (a + 1))))
 else
  k1 ()
abbrev Vy:Tm:=⟨[(0,.d hIs),(1,.d hIs),(5,.d hI)],[],[],[]⟩
abbrev Avt:Tm:=⟨[(4,.d .bool)],[],[],[]⟩
abbrev Avs:Tm:=⟨[],[],[],[]⟩
abbrev A4z:List (Exit × Tm):=[(.ret,Avt),(.exit 0,Avs)]
def A4y {α:Type} (n:Nat) (v:Vy.den) (f:Vy.den->Option α) (ks:KS α A4z):Option α:=A50 n v.1.1 v.1.2.1 v.1.2.2.1 (fun a b c=>f ((a,b,c,()),())) (fun w0=>ks.1 ((w0,()),())) (fun _=>ks.2.1 ((),()))
def A2p {α:Type} (n m:Nat) (a b:LI) (c:Int) (k0:Bool->Option α) (k1:Unit->Option α):Option α:=A5 (A4y n) m ((a,b,c,()),()) (fun w=>k0 w.1.1,fun w=>k1 (),())
theorem Avr {α n m a b c k0 k1}:A2p (α:=α) n (m + 1) a b c k0 k1 = A50 n a b c (fun a b c=>A2p n m a b c k0 k1) k0 k1:=rfl
def f84 (n:Nat) (a0 a1:LI):Option Bool :=
 bif ((a0.length:Int) != (a1.length:Int)) then
  some false
 else
  A2p n n a0 a1 0
   (fun a=>(
    some a))
   (fun (_:Unit)=>(
    some true))
def Akf (n:Nat):Ent:=⟨84,[hIs,hIs],[.bool],fun x=>f84 n x.1 x.2⟩
def Akg (α:Type) (n:Nat):D3 α:={ reg:=[(6,⟨8,[],[]⟩)],join:=[],loop:=[(4,⟨Vy,A4z,A5 (A4y n) n⟩)] }
theorem Aby (α:Type) (n:Nat):Al PP (Ah (Akg α n).reg):=trivial
theorem Aov (α:Type) (n:Nat):LO.Sound (α:=α) PP ⟨26,[]⟩ ⟨Vy,A4z,A5 (A4y n) n⟩ (.loop ((A1 Tryz.f84).at [1,1,0,1,0,0])):=Bb (D:=Akg α n) (Aby α n) n
theorem B86 (α:Type) (n:Nat):D3.OK PP TT ⟨26,[]⟩ (Akg α n) (A1 Tryz.f84) :=
 D3.OK.mk3 (Aby α n) (show Aa (A1 Tryz.f84) = [(4,(.loop ((A1 Tryz.f84).at [1,1,0,1,0,0])))] by kernel_rfl) ⟨Ab rfl (Aov α n),trivial⟩
theorem Aot (n:Nat):(Akf n).Sound PP:=fk (fn:=Tryz.f84) (B86 _ n)

def f33 (n:Nat) (a0 a1:Rq):Option Bool :=
 bif (!(a0.1 == a1.1)) then
  some false
 else
  ob (f84 n a0.2.1 a1.2.1) fun a =>
  bif (!a) then
   some false
  else
   ob (f84 n a0.2.2 a1.2.2) fun b =>
   bif (!b) then
    some false
   else
    some true
def Ayc (n:Nat):Ent:=⟨33,[hR,hR],[.bool],fun x=>f33 n x.1 x.2⟩
def B8n (α:Type) (n:Nat):D3 α:={ reg:=[(3,⟨0,[],[(4,{ ent:=some (Akf n) })]⟩),(5,⟨0,[],[(4,{ ent:=some (Akf n) })]⟩)],join:=[],loop:=[] }
theorem B4j (n:Nat):(Ayc n).Sound PP:=As (fn:=Tryz.f33) (D:=B8n _ n) ⟨Aot n,Aot n,trivial⟩

def A5h {α:Type} (n:Nat) (b c:LR) (a:Int) (f:LR->LR->Int->Option α) (k0:Bool->Option α) (k1:Unit->Option α):Option α :=
 bif (decide (a < (b.length:Int))) then
  gd (decide (0 <= a) && decide (a < (b.length:Int))) (
   let d:=b.getD a.toNat (false,[],[])
   gd (decide (0 <= a) && decide (a < (c.length:Int))) (
    let e:=c.getD a.toNat (false,[],[])
    ob (f33 n d e) fun g =>
    bif (!g) then
     k0 false
    else
     f b c (W (a + 1))))
 else
  k1 ()
abbrev Wd:Tm:=⟨[(0,.d hRs),(1,.d hRs),(5,.d hI)],[],[],[]⟩
abbrev Aw7:Tm:=⟨[(4,.d .bool)],[],[],[]⟩
abbrev Aw6:Tm:=⟨[],[],[],[]⟩
abbrev A5g:List (Exit × Tm):=[(.ret,Aw7),(.exit 0,Aw6)]
def A5f {α:Type} (n:Nat) (v:Wd.den) (f:Wd.den->Option α) (ks:KS α A5g):Option α:=A5h n v.1.1 v.1.2.1 v.1.2.2.1 (fun a b c=>f ((a,b,c,()),())) (fun w0=>ks.1 ((w0,()),())) (fun _=>ks.2.1 ((),()))
def A2t {α:Type} (n m:Nat) (a b:LR) (c:Int) (k0:Bool->Option α) (k1:Unit->Option α):Option α:=A5 (A5f n) m ((a,b,c,()),()) (fun w=>k0 w.1.1,fun w=>k1 (),())
theorem Aw5 {α n m a b c k0 k1}:A2t (α:=α) n (m + 1) a b c k0 k1 = A5h n a b c (fun a b c=>A2t n m a b c k0 k1) k0 k1:=rfl
def f35 (n:Nat) (a0 a1:LR):Option Bool :=
 bif ((a0.length:Int) != (a1.length:Int)) then
  some false
 else
  A2t n n a0 a1 0
   (fun a=>(
    some a))
   (fun (_:Unit)=>(
    some true))
def A2u (n:Nat):Ent:=⟨35,[hRs,hRs],[.bool],fun x=>f35 n x.1 x.2⟩
def Aks (α:Type) (n:Nat):D3 α:={ reg:=[(6,⟨8,[],[(8,{ ent:=some (Ayc n) })]⟩)],join:=[],loop:=[(4,⟨Wd,A5g,A5 (A5f n) n⟩)] }
theorem Acg (α:Type) (n:Nat):Al PP (Ah (Aks α n).reg):=⟨B4j n,trivial⟩
theorem Apf (α:Type) (n:Nat):LO.Sound (α:=α) PP ⟨27,[]⟩ ⟨Wd,A5g,A5 (A5f n) n⟩ (.loop ((A1 Tryz.f35).at [1,1,0,1,0,0])):=Bb (D:=Aks α n) (Acg α n) n
theorem B8m (α:Type) (n:Nat):D3.OK PP TT ⟨27,[]⟩ (Aks α n) (A1 Tryz.f35) :=
 D3.OK.mk3 (Acg α n) (show Aa (A1 Tryz.f35) = [(4,(.loop ((A1 Tryz.f35).at [1,1,0,1,0,0])))] by kernel_rfl) ⟨Ab rfl (Apf α n),trivial⟩
theorem A2s (n:Nat):(A2u n).Sound PP:=fk (fn:=Tryz.f35) (B8m _ n)

def f140 (n:Nat) (a0 a1:Nq):Option Bool :=
 bif (a0.1 != a1.1) then
  some false
 else
  bif (a0.2.1 != a1.2.1) then
   some false
  else
   bif (a0.2.2.1 != a1.2.2.1) then
    some false
   else
    bif (a0.2.2.2 != a1.2.2.2) then
     some false
    else
     some true
def Ash (n:Nat):Ent:=⟨140,[hN,hN],[.bool],fun x=>f140 n x.1 x.2⟩
def B6m (α:Type) (n:Nat):D3 α:={ reg:=[],join:=[],loop:=[] }
theorem B1x (n:Nat):(Ash n).Sound PP:=As (fn:=Tryz.f140) (D:=B6m _ n) trivial

def A4x {α:Type} (n:Nat) (b c:LN) (a:Int) (f:LN->LN->Int->Option α) (k0:Bool->Option α) (k1:Unit->Option α):Option α :=
 bif (decide (a < (b.length:Int))) then
  gd (decide (0 <= a) && decide (a < (b.length:Int))) (
   let d:=b.getD a.toNat (0,0,0,0)
   gd (decide (0 <= a) && decide (a < (c.length:Int))) (
    let e:=c.getD a.toNat (0,0,0,0)
    ob (f140 n d e) fun g =>
    bif (!g) then
     k0 false
    else
     f b c (W (a + 1))))
 else
  k1 ()
abbrev Vx:Tm:=⟨[(0,.d hNs),(1,.d hNs),(5,.d hI)],[],[],[]⟩
abbrev Avq:Tm:=⟨[(4,.d .bool)],[],[],[]⟩
abbrev Avp:Tm:=⟨[],[],[],[]⟩
abbrev A4w:List (Exit × Tm):=[(.ret,Avq),(.exit 0,Avp)]
def A4v {α:Type} (n:Nat) (v:Vx.den) (f:Vx.den->Option α) (ks:KS α A4w):Option α:=A4x n v.1.1 v.1.2.1 v.1.2.2.1 (fun a b c=>f ((a,b,c,()),())) (fun w0=>ks.1 ((w0,()),())) (fun _=>ks.2.1 ((),()))
def A2o {α:Type} (n m:Nat) (a b:LN) (c:Int) (k0:Bool->Option α) (k1:Unit->Option α):Option α:=A5 (A4v n) m ((a,b,c,()),()) (fun w=>k0 w.1.1,fun w=>k1 (),())
theorem Avo {α n m a b c k0 k1}:A2o (α:=α) n (m + 1) a b c k0 k1 = A4x n a b c (fun a b c=>A2o n m a b c k0 k1) k0 k1:=rfl
def f85 (n:Nat) (a0 a1:LN):Option Bool :=
 bif ((a0.length:Int) != (a1.length:Int)) then
  some false
 else
  A2o n n a0 a1 0
   (fun a=>(
    some a))
   (fun (_:Unit)=>(
    some true))
def Ay1 (n:Nat):Ent:=⟨85,[hNs,hNs],[.bool],fun x=>f85 n x.1 x.2⟩
def Ake (α:Type) (n:Nat):D3 α:={ reg:=[(6,⟨8,[],[(8,{ ent:=some (Ash n) })]⟩)],join:=[],loop:=[(4,⟨Vx,A4w,A5 (A4v n) n⟩)] }
theorem Abw (α:Type) (n:Nat):Al PP (Ah (Ake α n).reg):=⟨B1x n,trivial⟩
theorem Aos (α:Type) (n:Nat):LO.Sound (α:=α) PP ⟨27,[]⟩ ⟨Vx,A4w,A5 (A4v n) n⟩ (.loop ((A1 Tryz.f85).at [1,1,0,1,0,0])):=Bb (D:=Ake α n) (Abw α n) n
theorem B85 (α:Type) (n:Nat):D3.OK PP TT ⟨27,[]⟩ (Ake α n) (A1 Tryz.f85) :=
 D3.OK.mk3 (Abw α n) (show Aa (A1 Tryz.f85) = [(4,(.loop ((A1 Tryz.f85).at [1,1,0,1,0,0])))] by kernel_rfl) ⟨Ab rfl (Aos α n),trivial⟩
theorem B3t (n:Nat):(Ay1 n).Sound PP:=fk (fn:=Tryz.f85) (B85 _ n)

def f45 (n:Nat) (a0 a1:LN × Int):Option Bool :=
 ob (f85 n a0.1 a1.1) fun a =>
 bif (!a) then
  some false
 else
  bif (a0.2 != a1.2) then
   some false
  else
   some true
def Ay9 (n:Nat):Ent:=⟨45,[(.st (.pair hNs hI)),(.st (.pair hNs hI))],[.bool],fun x=>f45 n x.1 x.2⟩
def B8i (α:Type) (n:Nat):D3 α:={ reg:=[(1,⟨0,[],[(4,{ ent:=some (Ay1 n) })]⟩)],join:=[],loop:=[] }
theorem B4c (n:Nat):(Ay9 n).Sound PP:=As (fn:=Tryz.f45) (D:=B8i _ n) ⟨B3t n,trivial⟩

def Lt {α:Type} (n:Nat) (c a:Int) (b:LN) (f:Int->Int->LN->Option α) (k0:Int->LN->Option α):Option α :=
 bif (decide (a < (b.length:Int))) then
  gd (decide (0 <= a) && decide (a < (b.length:Int))) (
   gd (decide (a.toNat < b.length)) (
    gd (decide (0 <= a) && decide (a < (((b.set a.toNat (c,((b.getD a.toNat (0,0,0,0)).2).1,(((b.getD a.toNat (0,0,0,0)).2).2))).length:Nat):Int))) (
     gd (decide (a.toNat < (b.set a.toNat (c,((b.getD a.toNat (0,0,0,0)).2).1,(((b.getD a.toNat (0,0,0,0)).2).2))).length)) (
      gd (decide (0 <= a) && decide (a < ((((b.set a.toNat (c,((b.getD a.toNat (0,0,0,0)).2).1,(((b.getD a.toNat (0,0,0,0)).2).2))).set a.toNat (((b.set a.toNat (c,((b.getD a.toNat (0,0,0,0)).2).1,(((b.getD a.toNat (0,0,0,0)).2).2))).getD a.toNat (0,0,0,0)).1,(W (c + 1)),((((b.set a.toNat (c,((b.getD a.toNat (0,0,0,0)).2).1,(((b.getD a.toNat (0,0,0,0)).2).2))).getD a.toNat (0,0,0,0)).2).2))).length:Nat):Int))) (
       gd (decide (a.toNat < ((b.set a.toNat (c,((b.getD a.toNat (0,0,0,0)).2).1,(((b.getD a.toNat (0,0,0,0)).2).2))).set a.toNat (((b.set a.toNat (c,((b.getD a.toNat (0,0,0,0)).2).1,(((b.getD a.toNat (0,0,0,0)).2).2))).getD a.toNat (0,0,0,0)).1,(W (c + 1)),((((b.set a.toNat (c,((b.getD a.toNat (0,0,0,0)).2).1,(((b.getD a.toNat (0,0,0,0)).2).2))).getD a.toNat (0,0,0,0)).2).2))).length)) (
        gd (decide (0 <= a) && decide (a < (((((b.set a.toNat (c,((b.getD a.toNat (0,0,0,0)).2).1,(((b.getD a.toNat (0,0,0,0)).2).2))).set a.toNat (((b.set a.toNat (c,((b.getD a.toNat (0,0,0,0)).2).1,(((b.getD a.toNat (0,0,0,0)).2).2))).getD a.toNat (0,0,0,0)).1,(W (c + 1)),((((b.set a.toNat (c,((b.getD a.toNat (0,0,0,0)).2).1,(((b.getD a.toNat (0,0,0,0)).2).2))).getD a.toNat (0,0,0,0)).2).2))).set a.toNat ((((b.set a.toNat (c,((b.getD a.toNat (0,0,0,0)).2).1,(((b.getD a.toNat (0,0,0,0)).2).2))).set a.toNat (((b.set a.toNat (c,((b.getD a.toNat (0,0,0,0)).2).1,(((b.getD a.toNat (0,0,0,0)).2).2))).getD a.toNat (0,0,0,0)).1,(W (c + 1)),((((b.set a.toNat (c,((b.getD a.toNat (0,0,0,0)).2).1,(((b.getD a.toNat (0,0,0,0)).2).2))).getD a.toNat (0,0,0,0)).2).2))).getD a.toNat (0,0,0,0)).1,((((b.set a.toNat (c,((b.getD a.toNat (0,0,0,0)).2).1,(((b.getD a.toNat (0,0,0,0)).2).2))).set a.toNat (((b.set a.toNat (c,((b.getD a.toNat (0,0,0,0)).2).1,(((b.getD a.toNat (0,0,0,0)).2).2))).getD a.toNat (0,0,0,0)).1,(W (c + 1)),((((b.set a.toNat (c,((b.getD a.toNat (0,0,0,0)).2).1,(((b.getD a.toNat (0,0,0,0)).2).2))).getD a.toNat (0,0,0,0)).2).2))).getD a.toNat (0,0,0,0)).2).1,(W ((W (c + 1)) + 1)),(((((b.set a.toNat (c,((b.getD a.toNat (0,0,0,0)).2).1,(((b.getD a.toNat (0,0,0,0)).2).2))).set a.toNat (((b.set a.toNat (c,((b.getD a.toNat (0,0,0,0)).2).1,(((b.getD a.toNat (0,0,0,0)).2).2))).getD a.toNat (0,0,0,0)).1,(W (c + 1)),((((b.set a.toNat (c,((b.getD a.toNat (0,0,0,0)).2).1,(((b.getD a.toNat (0,0,0,0)).2).2))).getD a.toNat (0,0,0,0)).2).2))).getD a.toNat (0,0,0,0)).2).2).2)).length:Nat):Int))) (
         gd (decide (a.toNat < (((b.set a.toNat (c,((b.getD a.toNat (0,0,0,0)).2).1,(((b.getD a.toNat (0,0,0,0)).2).2))).set a.toNat (((b.set a.toNat (c,((b.getD a.toNat (0,0,0,0)).2).1,(((b.getD a.toNat (0,0,0,0)).2).2))).getD a.toNat (0,0,0,0)).1,(W (c + 1)),((((b.set a.toNat (c,((b.getD a.toNat (0,0,0,0)).2).1,(((b.getD a.toNat (0,0,0,0)).2).2))).getD a.toNat (0,0,0,0)).2).2))).set a.toNat ((((b.set a.toNat (c,((b.getD a.toNat (0,0,0,0)).2).1,(((b.getD a.toNat (0,0,0,0)).2).2))).set a.toNat (((b.set a.toNat (c,((b.getD a.toNat (0,0,0,0)).2).1,(((b.getD a.toNat (0,0,0,0)).2).2))).getD a.toNat (0,0,0,0)).1,(W (c + 1)),((((b.set a.toNat (c,((b.getD a.toNat (0,0,0,0)).2).1,(((b.getD a.toNat (0,0,0,0)).2).2))).getD a.toNat (0,0,0,0)).2).2))).getD a.toNat (0,0,0,0)).1,((((b.set a.toNat (c,((b.getD a.toNat (0,0,0,0)).2).1,(((b.getD a.toNat (0,0,0,0)).2).2))).set a.toNat (((b.set a.toNat (c,((b.getD a.toNat (0,0,0,0)).2).1,(((b.getD a.toNat (0,0,0,0)).2).2))).getD a.toNat (0,0,0,0)).1,(W (c + 1)),((((b.set a.toNat (c,((b.getD a.toNat (0,0,0,0)).2).1,(((b.getD a.toNat (0,0,0,0)).2).2))).getD a.toNat (0,0,0,0)).2).2))).getD a.toNat (0,0,0,0)).2).1,(W ((W (c + 1)) + 1)),(((((b.set a.toNat (c,((b.getD a.toNat (0,0,0,0)).2).1,(((b.getD a.toNat (0,0,0,0)).2).2))).set a.toNat (((b.set a.toNat (c,((b.getD a.toNat (0,0,0,0)).2).1,(((b.getD a.toNat (0,0,0,0)).2).2))).getD a.toNat (0,0,0,0)).1,(W (c + 1)),((((b.set a.toNat (c,((b.getD a.toNat (0,0,0,0)).2).1,(((b.getD a.toNat (0,0,0,0)).2).2))).getD a.toNat (0,0,0,0)).2).2))).getD a.toNat (0,0,0,0)).2).2).2)).length)) (
          f (W ((W ((W ((W (c + 1)) + 1)) + 1)) + 1)) (W (a + 1)) ((((b.set a.toNat (c,((b.getD a.toNat (0,0,0,0)).2).1,(((b.getD a.toNat (0,0,0,0)).2).2))).set a.toNat (((b.set a.toNat (c,((b.getD a.toNat (0,0,0,0)).2).1,(((b.getD a.toNat (0,0,0,0)).2).2))).getD a.toNat (0,0,0,0)).1,(W (c + 1)),((((b.set a.toNat (c,((b.getD a.toNat (0,0,0,0)).2).1,(((b.getD a.toNat (0,0,0,0)).2).2))).getD a.toNat (0,0,0,0)).2).2))).set a.toNat ((((b.set a.toNat (c,((b.getD a.toNat (0,0,0,0)).2).1,(((b.getD a.toNat (0,0,0,0)).2).2))).set a.toNat (((b.set a.toNat (c,((b.getD a.toNat (0,0,0,0)).2).1,(((b.getD a.toNat (0,0,0,0)).2).2))).getD a.toNat (0,0,0,0)).1,(W (c + 1)),((((b.set a.toNat (c,((b.getD a.toNat (0,0,0,0)).2).1,(((b.getD a.toNat (0,0,0,0)).2).2))).getD a.toNat (0,0,0,0)).2).2))).getD a.toNat (0,0,0,0)).1,((((b.set a.toNat (c,((b.getD a.toNat (0,0,0,0)).2).1,(((b.getD a.toNat (0,0,0,0)).2).2))).set a.toNat (((b.set a.toNat (c,((b.getD a.toNat (0,0,0,0)).2).1,(((b.getD a.toNat (0,0,0,0)).2).2))).getD a.toNat (0,0,0,0)).1,(W (c + 1)),((((b.set a.toNat (c,((b.getD a.toNat (0,0,0,0)).2).1,(((b.getD a.toNat (0,0,0,0)).2).2))).getD a.toNat (0,0,0,0)).2).2))).getD a.toNat (0,0,0,0)).2).1,(W ((W (c + 1)) + 1)),(((((b.set a.toNat (c,((b.getD a.toNat (0,0,0,0)).2).1,(((b.getD a.toNat (0,0,0,0)).2).2))).set a.toNat (((b.set a.toNat (c,((b.getD a.toNat (0,0,0,0)).2).1,(((b.getD a.toNat (0,0,0,0)).2).2))).getD a.toNat (0,0,0,0)).1,(W (c + 1)),((((b.set a.toNat (c,((b.getD a.toNat (0,0,0,0)).2).1,(((b.getD a.toNat (0,0,0,0)).2).2))).getD a.toNat (0,0,0,0)).2).2))).getD a.toNat (0,0,0,0)).2).2).2)).set a.toNat (((((b.set a.toNat (c,((b.getD a.toNat (0,0,0,0)).2).1,(((b.getD a.toNat (0,0,0,0)).2).2))).set a.toNat (((b.set a.toNat (c,((b.getD a.toNat (0,0,0,0)).2).1,(((b.getD a.toNat (0,0,0,0)).2).2))).getD a.toNat (0,0,0,0)).1,(W (c + 1)),((((b.set a.toNat (c,((b.getD a.toNat (0,0,0,0)).2).1,(((b.getD a.toNat (0,0,0,0)).2).2))).getD a.toNat (0,0,0,0)).2).2))).set a.toNat ((((b.set a.toNat (c,((b.getD a.toNat (0,0,0,0)).2).1,(((b.getD a.toNat (0,0,0,0)).2).2))).set a.toNat (((b.set a.toNat (c,((b.getD a.toNat (0,0,0,0)).2).1,(((b.getD a.toNat (0,0,0,0)).2).2))).getD a.toNat (0,0,0,0)).1,(W (c + 1)),((((b.set a.toNat (c,((b.getD a.toNat (0,0,0,0)).2).1,(((b.getD a.toNat (0,0,0,0)).2).2))).getD a.toNat (0,0,0,0)).2).2))).getD a.toNat (0,0,0,0)).1,((((b.set a.toNat (c,((b.getD a.toNat (0,0,0,0)).2).1,(((b.getD a.toNat (0,0,0,0)).2).2))).set a.toNat (((b.set a.toNat (c,((b.getD a.toNat (0,0,0,0)).2).1,(((b.getD a.toNat (0,0,0,0)).2).2))).getD a.toNat (0,0,0,0)).1,(W (c + 1)),((((b.set a.toNat (c,((b.getD a.toNat (0,0,0,0)).2).1,(((b.getD a.toNat (0,0,0,0)).2).2))).getD a.toNat (0,0,0,0)).2).2))).getD a.toNat (0,0,0,0)).2).1,(W ((W (c + 1)) + 1)),(((((b.set a.toNat (c,((b.getD a.toNat (0,0,0,0)).2).1,(((b.getD a.toNat (0,0,0,0)).2).2))).set a.toNat (((b.set a.toNat (c,((b.getD a.toNat (0,0,0,0)).2).1,(((b.getD a.toNat (0,0,0,0)).2).2))).getD a.toNat (0,0,0,0)).1,(W (c + 1)),((((b.set a.toNat (c,((b.getD a.toNat (0,0,0,0)).2).1,(((b.getD a.toNat (0,0,0,0)).2).2))).getD a.toNat (0,0,0,0)).2).2))).getD a.toNat (0,0,0,0)).2).2).2)).getD a.toNat (0,0,0,0)).1,(((((b.set a.toNat (c,((b.getD a.toNat (0,0,0,0)).2).1,(((b.getD a.toNat (0,0,0,0)).2).2))).set a.toNat (((b.set a.toNat (c,((b.getD a.toNat (0,0,0,0)).2).1,(((b.getD a.toNat (0,0,0,0)).2).2))).getD a.toNat (0,0,0,0)).1,(W (c + 1)),((((b.set a.toNat (c,((b.getD a.toNat (0,0,0,0)).2).1,(((b.getD a.toNat (0,0,0,0)).2).2))).getD a.toNat (0,0,0,0)).2).2))).set a.toNat ((((b.set a.toNat (c,((b.getD a.toNat (0,0,0,0)).2).1,(((b.getD a.toNat (0,0,0,0)).2).2))).set a.toNat (((b.set a.toNat (c,((b.getD a.toNat (0,0,0,0)).2).1,(((b.getD a.toNat (0,0,0,0)).2).2))).getD a.toNat (0,0,0,0)).1,(W (c + 1)),((((b.set a.toNat (c,((b.getD a.toNat (0,0,0,0)).2).1,(((b.getD a.toNat (0,0,0,0)).2).2))).getD a.toNat (0,0,0,0)).2).2))).getD a.toNat (0,0,0,0)).1,((((b.set a.toNat (c,((b.getD a.toNat (0,0,0,0)).2).1,(((b.getD a.toNat (0,0,0,0)).2).2))).set a.toNat (((b.set a.toNat (c,((b.getD a.toNat (0,0,0,0)).2).1,(((b.getD a.toNat (0,0,0,0)).2).2))).getD a.toNat (0,0,0,0)).1,(W (c + 1)),((((b.set a.toNat (c,((b.getD a.toNat (0,0,0,0)).2).1,(((b.getD a.toNat (0,0,0,0)).2).2))).getD a.toNat (0,0,0,0)).2).2))).getD a.toNat (0,0,0,0)).2).1,(W ((W (c + 1)) + 1)),(((((b.set a.toNat (c,((b.getD a.toNat (0,0,0,0)).2).1,(((b.getD a.toNat (0,0,0,0)).2).2))).set a.toNat (((b.set a.toNat (c,((b.getD a.toNat (0,0,0,0)).2).1,(((b.getD a.toNat (0,0,0,0)).2).2))).getD a.toNat (0,0,0,0)).1,(W (c + 1)),((((b.set a.toNat (c,((b.getD a.toNat (0,0,0,0)).2).1,(((b.getD a.toNat (0,0,0,0)).2).2))).getD a.toNat (0,0,0,0)).2).2))).getD a.toNat (0,0,0,0)).2).2).2)).getD a.toNat (0,0,0,0)).2).1,((((((b.set a.toNat (c,((b.getD a.toNat (0,0,0,0)).2).1,(((b.getD a.toNat (0,0,0,0)).2).2))).set a.toNat (((b.set a.toNat (c,((b.getD a.toNat (0,0,0,0)).2).1,(((b.getD a.toNat (0,0,0,0)).2).2))).getD a.toNat (0,0,0,0)).1,(W (c + 1)),((((b.set a.toNat (c,((b.getD a.toNat (0,0,0,0)).2).1,(((b.getD a.toNat (0,0,0,0)).2).2))).getD a.toNat (0,0,0,0)).2).2))).set a.toNat ((((b.set a.toNat (c,((b.getD a.toNat (0,0,0,0)).2).1,(((b.getD a.toNat (0,0,0,0)).2).2))).set a.toNat (((b.set a.toNat (c,((b.getD a.toNat (0,0,0,0)).2).1,(((b.getD a.toNat (0,0,0,0)).2).2))).getD a.toNat (0,0,0,0)).1,(W (c + 1)),((((b.set a.toNat (c,((b.getD a.toNat (0,0,0,0)).2).1,(((b.getD a.toNat (0,0,0,0)).2).2))).getD a.toNat (0,0,0,0)).2).2))).getD a.toNat (0,0,0,0)).1,((((b.set a.toNat (c,((b.getD a.toNat (0,0,0,0)).2).1,(((b.getD a.toNat (0,0,0,0)).2).2))).set a.toNat (((b.set a.toNat (c,((b.getD a.toNat (0,0,0,0)).2).1,(((b.getD a.toNat (0,0,0,0)).2).2))).getD a.toNat (0,0,0,0)).1,(W (c + 1)),((((b.set a.toNat (c,((b.getD a.toNat (0,0,0,0)).2).1,(((b.getD a.toNat (0,0,0,0)).2).2))).getD a.toNat (0,0,0,0)).2).2))).getD a.toNat (0,0,0,0)).2).1,(W ((W (c + 1)) + 1)),(((((b.set a.toNat (c,((b.getD a.toNat (0,0,0,0)).2).1,(((b.getD a.toNat (0,0,0,0)).2).2))).set a.toNat (((b.set a.toNat (c,((b.getD a.toNat (0,0,0,0)).2).1,(((b.getD a.toNat (0,0,0,0)).2).2))).getD a.toNat (0,0,0,0)).1,(W (c + 1)),((((b.set a.toNat (c,((b.getD a.toNat (0,0,0,0)).2).1,(((b.getD a.toNat (0,0,0,0)).2).2))).getD a.toNat (0,0,0,0)).2).2))).getD a.toNat (0,0,0,0)).2).2).2)).getD a.toNat (0,0,0,0)).2).2).1,(W ((W ((W (c + 1)) + 1)) + 1))))))))))))
 else
  k0 c b
abbrev Pz:Tm:=⟨[(0,.k (.hw 1000)),(1,.d hI),(5,.d hI)],[(1000,.arr 125 hN false)],[],[]⟩
abbrev Aoq:Tm:=⟨[(1,.d hI)],[(1000,.arr 125 hN false)],[],[]⟩
abbrev Yq:List (Exit × Tm):=[(.exit 0,Aoq)]
def Yp {α:Type} (n:Nat) (v:Pz.den) (f:Pz.den->Option α) (ks:KS α Yq):Option α:=Lt n v.1.2.1 v.1.2.2.1 v.2.1 (fun a b c=>f (((),a,b,()),(c,()))) (fun w0 w1=>ks.1 ((w0,()),(w1,())))
def Vw {α:Type} (n m:Nat) (a b:Int) (c:LN) (k0:Int->LN->Option α):Option α:=A5 (Yp n) m (((),a,b,()),(c,())) (fun w=>k0 w.1.1 w.2.1,())
theorem A7g {α n m a b c k0}:Vw (α:=α) n (m + 1) a b c k0 = Lt n a b c (fun a b c=>Vw n m a b c k0) k0:=rfl
def Akd (n:Nat) (a0:LN) (a1:Int):Option (Int × LN) :=
 Vw n n a1 0 a0
  (fun a b=>(
   some (a,b)))
def Aor (n:Nat):Ent3:=⟨86,[.one (.own 125 hN),.im hI],[[.im hI]],fun x=>Akd n x.1 x.2⟩
def Abv (α:Type) (n:Nat):D3 α:={ reg:=[],join:=[],loop:=[(2,⟨Pz,Yq,A5 (Yp n) n⟩)] }
theorem A7f (α:Type) (n:Nat):Al PP (Ah (Abv α n).reg):=trivial
theorem Akc (α:Type) (n:Nat):LO.Sound (α:=α) PP ⟨41,[]⟩ ⟨Pz,Yq,A5 (Yp n) n⟩ (.loop ((A1 Tryz.f86).at [1,0,1,0,0])):=Bb (D:=Abv α n) (A7f α n) n
theorem B3s (α:Type) (n:Nat):D3.OK PP TT ⟨41,[]⟩ (Abv α n) (A1 Tryz.f86) :=
 D3.OK.mk3 (A7f α n) (show Aa (A1 Tryz.f86) = [(2,(.loop ((A1 Tryz.f86).at [1,0,1,0,0])))] by kernel_rfl) ⟨Ab rfl (Akc α n),trivial⟩
theorem Az9 (n:Nat):(Aor n).Sound PP:=O6 (fn:=Tryz.f86) (B3s _ n)

def Ac8 (n:Nat) (a0:LN × Int) (a1:Int):Option (Int × LN) :=
 ob (Akd n a0.1 a1) fun a =>
 gd (Nat.beq a.2.length a0.1.length && true) (
  some (a.1,a.2))
def Apa (n:Nat):Ent3:=⟨46,[.mix [.own 125 hN,.im hI],.im hI],[[.im hI]],fun x=>Ac8 n x.1 x.2⟩
def B4b (α:Type) (n:Nat):D3 α:={ reg:=[(1,⟨0,[],[(3,{ entB:=some (Aor n),hb:=310 })]⟩)],join:=[],loop:=[] }
theorem Azk (n:Nat):(Apa n).Sound PP:=Abj (fn:=Tryz.f46) (D:=B4b _ n) ⟨Az9 n,trivial⟩

def Ahe {α:Type} (n:Nat) (b:LI) (c a:Int) (f:LI->Int->Int->Option α) (k0:Int->Option α):Option α :=
 bif (decide (a < (b.length:Int))) then
  gd (decide (0 <= a) && decide (a < (b.length:Int))) (
   none)
 else
  k0 c
abbrev Vu:Tm:=⟨[(0,.d hIs),(1,.d hI),(5,.d hI)],[],[],[]⟩
abbrev Avn:Tm:=⟨[(1,.d hI)],[],[],[]⟩
abbrev A4s:List (Exit × Tm):=[(.exit 0,Avn)]
def A4r {α:Type} (n:Nat) (v:Vu.den) (f:Vu.den->Option α) (ks:KS α A4s):Option α:=Ahe n v.1.1 v.1.2.1 v.1.2.2.1 (fun a b c=>f ((a,b,c,()),())) (fun w0=>ks.1 ((w0,()),()))
def Abs {α:Type} (n m:Nat) (a:LI) (b c:Int) (k0:Int->Option α):Option α:=A5 (A4r n) m ((a,b,c,()),()) (fun w=>k0 w.1.1,())
theorem Avm {α n m a b c k0}:Abs (α:=α) n (m + 1) a b c k0 = Ahe n a b c (fun a b c=>Abs n m a b c k0) k0:=rfl
def f87 (n:Nat) (a0:LI) (a1:Int):Option Int :=
 Abs n n a0 a1 0
  (fun a=>(
   some a))
def Ak9 (n:Nat):Ent:=⟨87,[hIs,hI],[hI],fun x=>f87 n x.1 x.2⟩
def Aka (α:Type) (n:Nat):D3 α:={ reg:=[],join:=[],loop:=[(2,⟨Vu,A4s,A5 (A4r n) n⟩)] }
theorem Abr (α:Type) (n:Nat):Al PP (Ah (Aka α n).reg):=trivial
theorem Aoo (α:Type) (n:Nat):LO.Sound (α:=α) PP ⟨19,[]⟩ ⟨Vu,A4s,A5 (A4r n) n⟩ (.loop ((A1 Tryz.f87).at [1,0,1,0,0])):=Bb (D:=Aka α n) (Abr α n) n
theorem B84 (α:Type) (n:Nat):D3.OK PP TT ⟨19,[]⟩ (Aka α n) (A1 Tryz.f87) :=
 D3.OK.mk3 (Abr α n) (show Aa (A1 Tryz.f87) = [(2,(.loop ((A1 Tryz.f87).at [1,0,1,0,0])))] by kernel_rfl) ⟨Ab rfl (Aoo α n),trivial⟩
theorem Aon (n:Nat):(Ak9 n).Sound PP:=fk (fn:=Tryz.f87) (B84 _ n)

def Py {α:Type} (n:Nat) (c a:Int) (b:LI) (f:Int->Int->LI->Option α) (k0:Int->LI->Option α):Option α :=
 bif (decide (a < (b.length:Int))) then
  gd (decide (0 <= a) && decide (a < (b.length:Int))) (
   gd (decide (a.toNat < b.length)) (
    f (W (c + 1)) (W (a + 1)) (b.set a.toNat c)))
 else
  k0 c b
abbrev Px:Tm:=⟨[(0,.k (.hw 1000)),(1,.d hI),(5,.d hI)],[(1000,.arr 3 hI false)],[],[]⟩
abbrev Aop:Tm:=⟨[(1,.d hI)],[(1000,.arr 3 hI false)],[],[]⟩
abbrev Yo:List (Exit × Tm):=[(.exit 0,Aop)]
def Yn {α:Type} (n:Nat) (v:Px.den) (f:Px.den->Option α) (ks:KS α Yo):Option α:=Py n v.1.2.1 v.1.2.2.1 v.2.1 (fun a b c=>f (((),a,b,()),(c,()))) (fun w0 w1=>ks.1 ((w0,()),(w1,())))
def Vv {α:Type} (n m:Nat) (a b:Int) (c:LI) (k0:Int->LI->Option α):Option α:=A5 (Yn n) m (((),a,b,()),(c,())) (fun w=>k0 w.1.1 w.2.1,())
theorem A7e {α n m a b c k0}:Vv (α:=α) n (m + 1) a b c k0 = Py n a b c (fun a b c=>Vv n m a b c k0) k0:=rfl
def A4u (n:Nat) (a0:LI) (a1:Int):Option (Int × LI) :=
 Vv n n a1 0 a0
  (fun a b=>(
   some (a,b)))
def Abt (n:Nat):Ent3:=⟨87,[.one (.own 3 hI),.im hI],[[.im hI]],fun x=>A4u n x.1 x.2⟩
def Abu (α:Type) (n:Nat):D3 α:={ reg:=[],join:=[],loop:=[(2,⟨Px,Yo,A5 (Yn n) n⟩)] }
theorem A7d (α:Type) (n:Nat):Al PP (Ah (Abu α n).reg):=trivial
theorem Akb (α:Type) (n:Nat):LO.Sound (α:=α) PP ⟨19,[]⟩ ⟨Px,Yo,A5 (Yn n) n⟩ (.loop ((A1 Tryz.f87).at [1,0,1,0,0])):=Bb (D:=Abu α n) (A7d α n) n
theorem B3r (α:Type) (n:Nat):D3.OK PP TT ⟨19,[]⟩ (Abu α n) (A1 Tryz.f87) :=
 D3.OK.mk3 (A7d α n) (show Aa (A1 Tryz.f87) = [(2,(.loop ((A1 Tryz.f87).at [1,0,1,0,0])))] by kernel_rfl) ⟨Ab rfl (Akb α n),trivial⟩
theorem Ahf (n:Nat):(Abt n).Sound PP:=O6 (fn:=Tryz.f87) (B3r _ n)

def Q5 {α:Type} (n:Nat) (e a:Int) (d:LR) (f:Int->Int->LR->Option α) (k0:Int->LR->Option α):Option α :=
 bif (decide (a < (d.length:Int))) then
  gd (decide (0 <= a) && decide (a < (d.length:Int))) (
   gd (decide (a.toNat < d.length)) (
    let b:=d.set a.toNat (((Int.tmod e 3) == 0),((d.getD a.toNat (false,[],[])).2))
    gd (decide (0 <= a) && decide (a < (b.length:Int))) (
     gd (decide (a.toNat < b.length)) (
      let h:=b.getD a.toNat (false,[],[])
      bif h.2.1.isEmpty then
       ob (f87 n [] (W (e + 1))) fun m =>
       gd (decide (0 <= a) && decide (a < (b.length:Int))) (
        gd (decide (a.toNat < b.length)) (
         let i:=b.getD a.toNat (false,[],[])
         bif i.2.2.isEmpty then
          ob (f87 n [] m) fun o =>
          f o (W (a + 1)) b
         else
          ob (A4u n i.2.2 m) fun j =>
          gd (Nat.beq j.2.length i.2.2.length && true) (
           gd (decide (a.toNat < b.length)) (
            let p:=b.set a.toNat ((b.getD a.toNat (false,[],[])).1,((b.getD a.toNat (false,[],[])).2).1,j.2)
            f j.1 (W (a + 1)) p))))
      else
       ob (A4u n h.2.1 (W (e + 1))) fun g =>
       gd (Nat.beq g.2.length h.2.1.length && true) (
        gd (decide (a.toNat < b.length)) (
         let c:=b.set a.toNat ((b.getD a.toNat (false,[],[])).1,g.2,((b.getD a.toNat (false,[],[])).2).2)
         gd (decide (0 <= a) && decide (a < (c.length:Int))) (
          gd (decide (a.toNat < c.length)) (
           let k:=c.getD a.toNat (false,[],[])
           bif k.2.2.isEmpty then
            ob (f87 n [] g.1) fun q =>
            f q (W (a + 1)) c
           else
            ob (A4u n k.2.2 g.1) fun l =>
            gd (Nat.beq l.2.length k.2.2.length && true) (
             gd (decide (a.toNat < c.length)) (
              let r:=c.set a.toNat ((c.getD a.toNat (false,[],[])).1,((c.getD a.toNat (false,[],[])).2).1,l.2)
              f l.1 (W (a + 1)) r))))))))))
 else
  k0 e d
abbrev Q3:Tm:=⟨[(0,.k (.hw 1000)),(1,.d hI),(5,.d hI)],[(1000,.tree 31 hR false)],[],[]⟩
abbrev Apd:Tm:=⟨[(1,.d hI)],[(1000,.tree 31 hR false)],[],[]⟩
abbrev Yv:List (Exit × Tm):=[(.exit 0,Apd)]
def Yu {α:Type} (n:Nat) (v:Q3.den) (f:Q3.den->Option α) (ks:KS α Yv):Option α:=Q5 n v.1.2.1 v.1.2.2.1 v.2.1 (fun a b c=>f (((),a,b,()),(c,()))) (fun w0 w1=>ks.1 ((w0,()),(w1,())))
def O9 {α:Type} (n m:Nat) (a b:Int) (c:LR) (k0:Int->LR->Option α):Option α:=A5 (Yu n) m (((),a,b,()),(c,())) (fun w=>k0 w.1.1 w.2.1,())
theorem A7l {α n m a b c k0}:O9 (α:=α) n (m + 1) a b c k0 = Q5 n a b c (fun a b c=>O9 n m a b c k0) k0:=rfl
def A5e (n:Nat) (a0:LR) (a1:Int):Option (Int × LR) :=
 O9 n n a1 0 a0
  (fun a b=>(
   some (a,b)))
def Acd (n:Nat):Ent3:=⟨37,[.one (.tree 31 hR),.im hI],[[.im hI]],fun x=>A5e n x.1 x.2⟩
def Ace (α:Type) (n:Nat):D3 α:={ reg:=[(6,⟨0,[],[(4,{ bor:=some 2000 }),(6,{ ent:=some (Ak9 n),alt:=[(Abt n)],hb:=320,shut:=some (.hole 2000) })]⟩),(7,⟨0,[],[(4,{ bor:=some 2001 }),(6,{ ent:=some (Ak9 n),alt:=[(Abt n)],hb:=310,shut:=some (.hole 2001) })]⟩)],join:=[],loop:=[(2,⟨Q3,Yv,A5 (Yu n) n⟩)] }
theorem A7k (α:Type) (n:Nat):Al PP (Ah (Ace α n).reg):=⟨Ahf n,Aon n,Ahf n,Aon n,trivial⟩
theorem Akr (α:Type) (n:Nat):LO.Sound (α:=α) PP ⟨36,[]⟩ ⟨Q3,Yv,A5 (Yu n) n⟩ (.loop ((A1 Tryz.f37).at [1,0,1,0,0])):=Bb (D:=Ace α n) (A7k α n) n
theorem B4i (α:Type) (n:Nat):D3.OK PP TT ⟨36,[]⟩ (Ace α n) (A1 Tryz.f37) :=
 D3.OK.mk3 (A7k α n) (show Aa (A1 Tryz.f37) = [(2,(.loop ((A1 Tryz.f37).at [1,0,1,0,0])))] by kernel_rfl) ⟨Ab rfl (Akr α n),trivial⟩
theorem Ahi (n:Nat):(Acd n).Sound PP:=O6 (fn:=Tryz.f37) (B4i _ n)

def Vt {α:Type} (n:Nat) (b:LI) (c a:Int) (f:LI->Int->Int->Option α) (k0 k1:Int->Option α):Option α :=
 bif (decide (a < (b.length:Int))) then
  gd (decide (0 <= a) && decide (a < (b.length:Int))) (
   bif ((b.getD a.toNat 0) != c) then
    k0 (-1)
   else
    f b (W (c + 1)) (W (a + 1)))
 else
  k1 c
abbrev Vs:Tm:=⟨[(0,.d hIs),(1,.d hI),(5,.d hI)],[],[],[]⟩
abbrev Avl:Tm:=⟨[(4,.d hI)],[],[],[]⟩
abbrev Avk:Tm:=⟨[(1,.d hI)],[],[],[]⟩
abbrev A4q:List (Exit × Tm):=[(.ret,Avl),(.exit 0,Avk)]
def A4p {α:Type} (n:Nat) (v:Vs.den) (f:Vs.den->Option α) (ks:KS α A4q):Option α:=Vt n v.1.1 v.1.2.1 v.1.2.2.1 (fun a b c=>f ((a,b,c,()),())) (fun w0=>ks.1 ((w0,()),())) (fun w0=>ks.2.1 ((w0,()),()))
def A2n {α:Type} (n m:Nat) (a:LI) (b c:Int) (k0 k1:Int->Option α):Option α:=A5 (A4p n) m ((a,b,c,()),()) (fun w=>k0 w.1.1,fun w=>k1 w.1.1,())
theorem Abq {α n m a b c k0 k1}:A2n (α:=α) n (m + 1) a b c k0 k1 = Vt n a b c (fun a b c=>A2n n m a b c k0 k1) k0 k1:=rfl
def f88 (n:Nat) (a0:LI) (a1:Int):Option Int :=
 A2n n n a0 a1 0
  (fun a=>(
   some a))
  (fun b=>(
   some b))
def Ak7 (n:Nat):Ent:=⟨88,[hIs,hI],[hI],fun x=>f88 n x.1 x.2⟩
def Ak8 (α:Type) (n:Nat):D3 α:={ reg:=[],join:=[],loop:=[(2,⟨Vs,A4q,A5 (A4p n) n⟩)] }
theorem Abp (α:Type) (n:Nat):Al PP (Ah (Ak8 α n).reg):=trivial
theorem Aom (α:Type) (n:Nat):LO.Sound (α:=α) PP ⟨21,[]⟩ ⟨Vs,A4q,A5 (A4p n) n⟩ (.loop ((A1 Tryz.f88).at [1,0,1,0,0])):=Bb (D:=Ak8 α n) (Abp α n) n
theorem B83 (α:Type) (n:Nat):D3.OK PP TT ⟨21,[]⟩ (Ak8 α n) (A1 Tryz.f88) :=
 D3.OK.mk3 (Abp α n) (show Aa (A1 Tryz.f88) = [(2,(.loop ((A1 Tryz.f88).at [1,0,1,0,0])))] by kernel_rfl) ⟨Ab rfl (Aom α n),trivial⟩
theorem Aok (n:Nat):(Ak7 n).Sound PP:=fk (fn:=Tryz.f88) (B83 _ n)

def W9 {α:Type} (n:Nat) (b:LR) (c a:Int) (f:LR->Int->Int->Option α) (k0 k1:Int->Option α):Option α :=
 bif (decide (a < (b.length:Int))) then
  gd (decide (0 <= a) && decide (a < (b.length:Int))) (
   let g:=b.getD a.toNat (false,[],[])
   bif (!(g.1 == ((Int.tmod c 3) == 0))) then
    k0 (-1)
   else
    gd (decide (0 <= a) && decide (a < (b.length:Int))) (
     let h:=b.getD a.toNat (false,[],[])
     ob (f88 n h.2.1 (W (c + 1))) fun d =>
     bif (decide (d < 0)) then
      k0 (-1)
     else
      gd (decide (0 <= a) && decide (a < (b.length:Int))) (
       let i:=b.getD a.toNat (false,[],[])
       ob (f88 n i.2.2 d) fun e =>
       bif (decide (e < 0)) then
        k0 (-1)
       else
        f b e (W (a + 1)))))
 else
  k1 c
abbrev W8:Tm:=⟨[(0,.d hRs),(1,.d hI),(5,.d hI)],[],[],[]⟩
abbrev Aw2:Tm:=⟨[(4,.d hI)],[],[],[]⟩
abbrev Aw1:Tm:=⟨[(1,.d hI)],[],[],[]⟩
abbrev A5b:List (Exit × Tm):=[(.ret,Aw2),(.exit 0,Aw1)]
def A5a {α:Type} (n:Nat) (v:W8.den) (f:W8.den->Option α) (ks:KS α A5b):Option α:=W9 n v.1.1 v.1.2.1 v.1.2.2.1 (fun a b c=>f ((a,b,c,()),())) (fun w0=>ks.1 ((w0,()),())) (fun w0=>ks.2.1 ((w0,()),()))
def A2r {α:Type} (n m:Nat) (a:LR) (b c:Int) (k0 k1:Int->Option α):Option α:=A5 (A5a n) m ((a,b,c,()),()) (fun w=>k0 w.1.1,fun w=>k1 w.1.1,())
theorem Yt {α n m a b c k0 k1}:A2r (α:=α) n (m + 1) a b c k0 k1 = W9 n a b c (fun a b c=>A2r n m a b c k0 k1) k0 k1:=rfl
def f47 (n:Nat) (a0:LR) (a1:Int):Option Int :=
 A2r n n a0 a1 0
  (fun a=>(
   some a))
  (fun b=>(
   some b))
def Ako (n:Nat):Ent:=⟨47,[hRs,hI],[hI],fun x=>f47 n x.1 x.2⟩
def Akp (α:Type) (n:Nat):D3 α:={ reg:=[(7,⟨0,[],[(6,{ ent:=some (Ak7 n) })]⟩),(10,⟨0,[],[(6,{ ent:=some (Ak7 n) })]⟩)],join:=[],loop:=[(2,⟨W8,A5b,A5 (A5a n) n⟩)] }
theorem Ac7 (α:Type) (n:Nat):Al PP (Ah (Akp α n).reg):=⟨Aok n,Aok n,trivial⟩
theorem Ap9 (α:Type) (n:Nat):LO.Sound (α:=α) PP ⟨42,[]⟩ ⟨W8,A5b,A5 (A5a n) n⟩ (.loop ((A1 Tryz.f47).at [1,0,1,0,0])):=Bb (D:=Akp α n) (Ac7 α n) n
theorem B8h (α:Type) (n:Nat):D3.OK PP TT ⟨42,[]⟩ (Akp α n) (A1 Tryz.f47) :=
 D3.OK.mk3 (Ac7 α n) (show Aa (A1 Tryz.f47) = [(2,(.loop ((A1 Tryz.f47).at [1,0,1,0,0])))] by kernel_rfl) ⟨Ab rfl (Ap9 α n),trivial⟩
theorem Ap8 (n:Nat):(Ako n).Sound PP:=fk (fn:=Tryz.f47) (B8h _ n)

def f61 (n:Nat) (a0:Rq):Option Rq :=
 ob (f117 n a0.2.1) fun a =>
 ob (f117 n a0.2.2) fun b =>
 some (a0.1,a,b)
def Ay6 (n:Nat):Ent:=⟨61,[hR],[hR],fun x=>f61 n x⟩
def B8e (α:Type) (n:Nat):D3 α:={ reg:=[(1,⟨8,[],[(4,{ ent:=some (Jl n) }),(7,{ ent:=some (Jl n) })]⟩)],join:=[],loop:=[] }
theorem B45 (n:Nat):(Ay6 n).Sound PP:=As (fn:=Tryz.f61) (D:=B8e _ n) ⟨Ir n,Ir n,trivial⟩

def Mf {α:Type} (n:Nat) (c:List (Rq × LR × Unit × Rq)) (d a:Int) (b:LR) (f:(List (Rq × LR × Unit × Rq))->Int->Int->LR->Option α) (k0:LR->Option α):Option α :=
 bif (decide (a < d)) then
  ob (f106 n a c) fun e =>
  ob (f61 n e) fun g =>
  gd (decide ((b.length + 1) * 56 <= 140737488355328)) (
   f c d (W (a + 1)) (b ++ [g]))
 else
  k0 b
abbrev Hq:Tm:=⟨[(1,.d (.clo 106 (.ref (.sl (.st (.pair hR (.pair hRs (.pair .nil hR)))))))),(5,.k (.hw 7)),(8,.d hI),(9,.d hI)],[(7,.arr 31 hR false)],[17],[]⟩
abbrev A9l:Tm:=⟨[(5,.k (.hw 7))],[(7,.arr 31 hR false)],[],[]⟩
abbrev Me:List (Exit × Tm):=[(.exit 0,A9l)]
def Md {α:Type} (n:Nat) (v:Hq.den) (f:Hq.den->Option α) (ks:KS α Me):Option α:=Mf n v.1.1 v.1.2.2.1 v.1.2.2.2.1 v.2.1 (fun a b c d=>f ((a,(),b,c,()),(d,()))) (fun w0=>ks.1 (((),()),(w0,())))
def J7 {α:Type} (n m:Nat) (a:List (Rq × LR × Unit × Rq)) (b c:Int) (d:LR) (k0:LR->Option α):Option α:=A5 (Md n) m ((a,(),b,c,()),(d,())) (fun w=>k0 w.2.1,())
theorem A9k {α n m a b c d k0}:J7 (α:=α) n (m + 1) a b c d k0 = Mf n a b c d (fun a b c d=>J7 n m a b c d k0) k0:=rfl
def Rk (n:Nat) (a0:Int) (a1:List (Rq × LR × Unit × Rq)):Option LR :=
 J7 n n a1 a0 0 []
  (fun a=>(
   some a))
def A3j (n:Nat):Ent:=⟨105,[hI,(.clo 106 (.ref (.sl (.st (.pair hR (.pair hRs (.pair .nil hR)))))))],[hRs],fun x=>Rk n x.1 x.2⟩
def Rj (α:Type) (n:Nat):D3 α:={ reg:=[(1,⟨0,[],[(0,{ sh:=some hR })]⟩),(5,⟨0,[],[(3,{ ent:=some (Aea n) }),(4,{ ent:=some (Ay6 n) }),(5,{ sh:=some hR })]⟩)],join:=[],loop:=[(3,⟨Hq,Me,A5 (Md n) n⟩)] }
theorem T1 (α:Type) (n:Nat):Al PP (Ah (Rj α n).reg):=⟨Ais n,B45 n,trivial⟩
theorem A61 (α:Type) (n:Nat):LO.Sound (α:=α) PP ⟨21,[]⟩ ⟨Hq,Me,A5 (Md n) n⟩ (.loop ((A1 Tryz.f105).at [1,1,0,1,0,0])):=Bb (D:=Rj α n) (T1 α n) n
theorem Amf (α:Type) (n:Nat):D3.OK PP TT ⟨21,[]⟩ (Rj α n) (A1 Tryz.f105) :=
 D3.OK.mk3 (T1 α n) (show Aa (A1 Tryz.f105) = [(3,(.loop ((A1 Tryz.f105).at [1,1,0,1,0,0])))] by kernel_rfl) ⟨Ab rfl (A61 α n),trivial⟩
theorem Age (n:Nat):(A3j n).Sound PP:=fk (fn:=Tryz.f105) (Amf _ n)

def f52 (n:Nat) (a0:LN × Int) (a1:LR):Option (LR × Int) :=
 ob (f103 n a0 a1) fun b =>
 bif (b != 0) then
  some ([],b)
 else
  ob (f104 n (0,()) a0.1 a1) fun a =>
  bif (a.2 != 0) then
   some ([],a.2)
  else
   ob (Rk n (a.1.length:Int) a.1) fun c =>
   some (c,0)
def Ay7 (n:Nat):Ent:=⟨52,[(.st (.pair hNs hI)),hRs],[hRs,hI],fun x=>f52 n x.1 x.2⟩
def B8f (α:Type) (n:Nat):D3 α:={ reg:=[(1,⟨0,[],[(2,{ ent:=some (Aee n) })]⟩),(4,⟨0,[],[(4,{ ent:=some (Aec n) })]⟩),(7,⟨0,[],[(2,{ sh:=some (.ref (.sl (.st (.pair hR (.pair hRs (.pair .nil hR)))))) }),(3,{ ent:=some (A3j n) })]⟩)],join:=[],loop:=[] }
theorem B47 (n:Nat):(Ay7 n).Sound PP:=As (fn:=Tryz.f52) (D:=B8f _ n) ⟨Aiv n,Aiu n,Age n,trivial⟩

def Ahh {α:Type} (n:Nat) (b:LR) (c a:Int) (f:LR->Int->Int->Option α) (k0:Int->Option α):Option α :=
 bif (decide (a < (b.length:Int))) then
  gd (decide (0 <= a) && decide (a < (b.length:Int))) (
   none)
 else
  k0 c
abbrev Wc:Tm:=⟨[(0,.d hRs),(1,.d hI),(5,.d hI)],[],[],[]⟩
abbrev Aw4:Tm:=⟨[(1,.d hI)],[],[],[]⟩
abbrev A5d:List (Exit × Tm):=[(.exit 0,Aw4)]
def A5c {α:Type} (n:Nat) (v:Wc.den) (f:Wc.den->Option α) (ks:KS α A5d):Option α:=Ahh n v.1.1 v.1.2.1 v.1.2.2.1 (fun a b c=>f ((a,b,c,()),())) (fun w0=>ks.1 ((w0,()),()))
def Acc {α:Type} (n m:Nat) (a:LR) (b c:Int) (k0:Int->Option α):Option α:=A5 (A5c n) m ((a,b,c,()),()) (fun w=>k0 w.1.1,())
theorem Aw3 {α n m a b c k0}:Acc (α:=α) n (m + 1) a b c k0 = Ahh n a b c (fun a b c=>Acc n m a b c k0) k0:=rfl
def f37 (n:Nat) (a0:LR) (a1:Int):Option Int :=
 Acc n n a0 a1 0
  (fun a=>(
   some a))
def Ayb (n:Nat):Ent:=⟨37,[hRs,hI],[hI],fun x=>f37 n x.1 x.2⟩
def Akq (α:Type) (n:Nat):D3 α:={ reg:=[],join:=[],loop:=[(2,⟨Wc,A5d,A5 (A5c n) n⟩)] }
theorem Acb (α:Type) (n:Nat):Al PP (Ah (Akq α n).reg):=trivial
theorem Apc (α:Type) (n:Nat):LO.Sound (α:=α) PP ⟨36,[]⟩ ⟨Wc,A5d,A5 (A5c n) n⟩ (.loop ((A1 Tryz.f37).at [1,0,1,0,0])):=Bb (D:=Akq α n) (Acb α n) n
theorem B8l (α:Type) (n:Nat):D3.OK PP TT ⟨36,[]⟩ (Akq α n) (A1 Tryz.f37) :=
 D3.OK.mk3 (Acb α n) (show Aa (A1 Tryz.f37) = [(2,(.loop ((A1 Tryz.f37).at [1,0,1,0,0])))] by kernel_rfl) ⟨Ab rfl (Apc α n),trivial⟩
theorem B4h (n:Nat):(Ayb n).Sound PP:=fk (fn:=Tryz.f37) (B8l _ n)

def f10 (n:Nat) (a0:LN × Int) (a1:LR):Option Bool :=
 ob (f41 n a0 1048576) fun f =>
 bif (decide (f < 0)) then
  some true
 else
  ob (f30 n a1 f) fun t =>
  bif (decide (t < 0)) then
   some true
  else
   ob (f43 n a0) fun u =>
   ob (f32 n a1) fun v =>
   ob (f51 n u v) fun a =>
   ob (Aca n a0) fun b =>
   ob (Akv n a1) fun c =>
   ob (A59 n b c) fun w =>
   Gj w (fun d =>
    ob (f35 n d.1 a.1) fun x =>
    bif (!x) then
     some false
    else
     bif (d.2 != a.2) then
      some false
     else
      ob (f43 n a0) fun y =>
      ob (f45 n b y) fun z =>
      bif (!z) then
       some false
      else
       ob (f32 n a1) fun d0 =>
       ob (f35 n c d0) fun d1 =>
       bif (!d1) then
        some false
       else
        ob (Ac8 n (b.1,b.2) 1) fun g =>
        gd (Nat.beq g.2.length b.1.length && true) (
         ob (A5e n c g.1) fun h =>
         gd (Nat.beq h.2.length c.length && true) (
          bif (decide (h.1 < 0)) then
           some false
          else
           ob (f35 n d.1 a.1) fun d2 =>
           bif (!d2) then
            some false
           else
            bif (d.2 != a.2) then
             some false
            else
             ob (A5e n d.1 1) fun e =>
             gd (Nat.beq e.2.length d.1.length && true) (
              ob (f47 n e.2 1) fun i =>
              bif (decide (i < 0)) then
               some false
              else
               bif (i != e.1) then
                some false
               else
                ob (f43 n a0) fun d3 =>
                ob (f32 n a1) fun d4 =>
                ob (f52 n d3 d4) fun j =>
                ob (f35 n j.1 a.1) fun d5 =>
                bif (!d5) then
                 some false
                else
                 bif (j.2 != a.2) then
                  some false
                 else
                  ob (f47 n e.2 1) fun k =>
                  bif (decide (k < 0)) then
                   some false
                  else
                   bif (k != e.1) then
                    some false
                   else
                    some true)))) (fun l =>
    ob (f35 n [] a.1) fun d6 =>
    bif (!d6) then
     some false
    else
     bif (l.2 != a.2) then
      some false
     else
      ob (f43 n a0) fun d7 =>
      ob (f45 n b d7) fun d8 =>
      bif (!d8) then
       some false
      else
       ob (f32 n a1) fun d9 =>
       ob (f35 n c d9) fun e0 =>
       bif (!e0) then
        some false
       else
        ob (Ac8 n (b.1,b.2) 1) fun m =>
        gd (Nat.beq m.2.length b.1.length && true) (
         ob (A5e n c m.1) fun o =>
         gd (Nat.beq o.2.length c.length && true) (
          bif (decide (o.1 < 0)) then
           some false
          else
           ob (f35 n [] a.1) fun e1 =>
           bif (!e1) then
            some false
           else
            bif (l.2 != a.2) then
             some false
            else
             ob (f37 n [] 1) fun p =>
             ob (f47 n [] 1) fun q =>
             bif (decide (q < 0)) then
              some false
             else
              bif (q != p) then
               some false
              else
               ob (f43 n a0) fun e2 =>
               ob (f32 n a1) fun e3 =>
               ob (f52 n e2 e3) fun r =>
               ob (f35 n r.1 a.1) fun e4 =>
               bif (!e4) then
                some false
               else
                bif (r.2 != a.2) then
                 some false
                else
                 ob (f47 n [] 1) fun s =>
                 bif (decide (s < 0)) then
                  some false
                 else
                  bif (s != p) then
                   some false
                  else
                   some true)))
def B8q (n:Nat):Ent:=⟨10,[(.st (.pair hNs hI)),hRs],[.bool],fun x=>f10 n x.1 x.2⟩
def B8r (α:Type) (n:Nat):D3 α:={ reg:=[(2,⟨0,[],[(2,{ ent:=some (Aya n) })]⟩),(5,⟨0,[],[(2,{ ent:=some (Ayd n) })]⟩),(8,⟨0,[],[(1,{ ent:=some (A9w n) }),(3,{ ent:=some (A9x n) }),(4,{ ent:=some (Ay8 n) })]⟩),(9,⟨0,[],[(1,{ entB:=some (Apb n),hb:=310 })]⟩),(10,⟨0,[],[(1,{ entB:=some (Apj n),hb:=320 })]⟩),(11,⟨0,[],[(2,{ entB:=some (Ap7 n),hb:=330 })]⟩),(12,⟨0,[],[(2,{ ent:=some (A2u n) })]⟩),(14,⟨3,[],[(2,{ ent:=some (A9w n) }),(3,{ ent:=some (Ay9 n) })]⟩),(16,⟨0,[],[(2,{ ent:=some (A9x n) }),(3,{ ent:=some (A2u n) })]⟩),(19,⟨0,[],[(2,{ entB:=some (Apa n),hb:=340 })]⟩),(20,⟨0,[],[(2,{ alt:=[(Acd n)],hb:=350 })]⟩),(21,⟨0,[],[(5,{ ent:=some (A2u n) })]⟩),(24,⟨0,[],[(2,{ ent:=some (Ayb n),alt:=[(Acd n)],hb:=360 })]⟩),(26,⟨0,[],[(2,{ ent:=some (Ako n) })]⟩),(31,⟨0,[],[(1,{ ent:=some (A9w n) }),(3,{ ent:=some (A9x n) }),(4,{ ent:=some (Ay7 n) })]⟩),(32,⟨0,[],[(2,{ ent:=some (A2u n) })]⟩),(35,⟨0,[],[(2,{ ent:=some (Ako n) })]⟩)],join:=[],loop:=[] }
theorem B71 (n:Nat):(B8q n).Sound PP:=As (fn:=Tryz.f10) (D:=B8r _ n) ⟨B4g n,B4n n,Ac9 n,Ach n,B49 n,Azm n,Azq n,Azi n,A2s n,Ac9 n,B4c n,Ach n,A2s n,Azk n,Ahi n,A2s n,Ahi n,B4h n,Ap8 n,Ac9 n,Ach n,B47 n,A2s n,Ap8 n,trivial⟩

end Go.Ev
