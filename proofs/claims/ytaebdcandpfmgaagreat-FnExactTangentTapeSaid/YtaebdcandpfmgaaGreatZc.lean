/- DERIVED. What the functions compute, and that they do. -/
import Derived.Test.YtaebdcandpfmgaaGreatZb

set_option linter.all false
set_option linter.unusedVariables false
set_option linter.unusedSimpArgs false

namespace Go.Ev
open Go Go.Proofs Go.RowKit Go.Shelf
abbrev B5k:Tm:=⟨[(2,.d hI),(3,.k (.hp 3 0 0)),(6,.k (.hp 6 0 0)),(7,.k (.hp 7 0 0))],[(3,.var 84 true false [.d hI,.d hRs]),(6,.var 81 true false [.d .bool,.d .nil,.d .nil,.d .nil,.d .nil,.d .bool,.d .nil,.d .nil]),(7,.var 81 false false [.d .bool,.d hIs,.d hIs,.k (.hw 313),.k (.hw 314),.d .bool,.d hIs,.d hIs]),(313,.arr 31 hR false),(314,.arr 31 hR false)],[4],[]⟩
def Af5 (n:Nat) (a0:Int × LR) (a1:Rq) (a2:Int):Option (Rq × LR × LR × Rq) :=
 ob (Ajp n a0 a1) λa =>
 let b:=λ(c:LR)=>(
  gd ((!a0.2.isEmpty)) (
   gd (decide (0<=a2)&&decide (a2<(a0.2.length:Int))) (
    let d:=a0.2.getD a2.toNat (false,[],[])
    some ((a.1,a.2.1,a.2.2.1),c,a.2.2.2.2.1,d))))
 bif (decide (a2<a0.1)) then
  ob (f126 n 1) λe =>
  gd (decide (0<=a2)&&decide (a2<(a.2.2.2.1.length:Int))) (
   gd (decide (a2.toNat<a.2.2.2.1.length)) (
    b (a.2.2.2.1.set a2.toNat e)))
 else
  b a.2.2.2.1
def Ap7 (n:Nat):Ent:=⟨191,[(.st (.pair hI hRs)),hR,hI],[(.st (.pair hR (.pair hRs (.pair hRs hR))))],λx=>Af5 n x.1 x.2.1 x.2.2⟩
def Bb5 (α:Type) (n:Nat):D3 α:={ reg:=[(1,⟨0,[],[(2,{ alt:=[(Ajn n)],hb:=310 })]⟩),(3,⟨4,[],[(3,{ ent:=some (As n) })]⟩)],join:=[(4,B5k)],loop:=[] }
theorem B5j (n:Nat):(Ap7 n).Sound PP:=Ay (fn:=Tryz.f191) (D:=Bb5 _ n) ⟨Azk n,B2 n,trivial⟩

def Azd {α:Type} (n:Nat) (c:LR) (i a:Int) (s:Bool) (t u:LI) (v b:LR) (w:Bool) (x y:LI) (z:Bool) (d0 d1:LI) (d e:LR) (d2:Bool) (d3 d4:LI) (j k l:Bool) (m o:LI) (p:Bool) (q r:LI) (g h:LR) (f:LR->Int->Int->Bool->LI->LI->LR->LR->Bool->LI->LI->Bool->LI->LI->LR->LR->Bool->LI->LI->Bool->Bool->Bool->LI->LI->Bool->LI->LI->LR->LR->Option α) (k0:Bool->Bool->Bool->LI->LI->Bool->LI->LI->LR->LR->Option α):Option α :=
 bif (decide (a<i)) then
  gd (decide (0<=a)&&decide (a<(c.length:Int))) (
   let d5:=c.getD a.toNat (false,[],[])
   gd (decide (0<=a)&&decide (a<(d.length:Int))) (
    let d6:=d.getD a.toNat (false,[],[])
    ob (f161 n d5 d6) λd7 =>
    gd (decide ((g.length+1)*56<=140737488355328)) (
     gd ((!b.isEmpty)) (
      gd (decide (0<=a)&&decide (a<(b.length:Int))) (
       let d8:=b.getD a.toNat (false,[],[])
       gd (decide (0<=a)&&decide (a<(e.length:Int))) (
        let d9:=e.getD a.toNat (false,[],[])
        ob (f161 n d8 d9) λe0 =>
        gd (decide ((h.length+1)*56<=140737488355328)) (
         f c i (W (a+1)) s t u v b w x y z d0 d1 d e d2 d3 d4 j k l m o p q r (g++[d7]) (h++[e0]))))))))
 else
  k0 j k l m o p q r g h
abbrev Pp:Tm:=⟨[(2,.k (.hp 2 0 0)),(3,.k (.hp 3 0 0)),(4,.k (.hp 4 0 0)),(5,.k (.hp 5 0 0)),(20,.d hRs),(21,.d hI),(22,.d hI)],[(2,.var 81 true false [.d .bool,.d hIs,.d hIs,.d hRs,.d hRs,.d .bool,.d hIs,.d hIs]),(3,.var 81 true false [.d .bool,.d hIs,.d hIs,.d hRs,.d hRs,.d .bool,.d hIs,.d hIs]),(4,.var 81 true false [.d .bool,.d .nil,.d .nil,.d .nil,.d .nil,.d .bool,.d .nil,.d .nil]),(5,.var 81 false false [.d .bool,.d hIs,.d hIs,.k (.hw 37),.k (.hw 56),.d .bool,.d hIs,.d hIs]),(37,.arr 31 hR false),(56,.arr 31 hR false)],[55],[]⟩
abbrev At5:Tm:=⟨[(4,.k (.hp 4 0 0)),(5,.k (.hp 5 0 0))],[(4,.var 81 true false [.d .bool,.d .nil,.d .nil,.d .nil,.d .nil,.d .bool,.d .nil,.d .nil]),(5,.var 81 false false [.d .bool,.d hIs,.d hIs,.k (.hw 37),.k (.hw 56),.d .bool,.d hIs,.d hIs]),(37,.arr 31 hR false),(56,.arr 31 hR false)],[2,3],[]⟩
abbrev Xs:List (Exit × Tm):=[(.exit 0,At5)]
def Xr {α:Type} (n:Nat) (v:Pp.den) (f:Pp.den->Option α) (ks:KS α Xs):Option α:=Azd n v.1.2.2.2.2.1 v.1.2.2.2.2.2.1 v.1.2.2.2.2.2.2.1 v.2.1.1 v.2.1.2.1 v.2.1.2.2.1 v.2.1.2.2.2.1 v.2.1.2.2.2.2.1 v.2.1.2.2.2.2.2.1 v.2.1.2.2.2.2.2.2.1 v.2.1.2.2.2.2.2.2.2.1 v.2.2.1.1 v.2.2.1.2.1 v.2.2.1.2.2.1 v.2.2.1.2.2.2.1 v.2.2.1.2.2.2.2.1 v.2.2.1.2.2.2.2.2.1 v.2.2.1.2.2.2.2.2.2.1 v.2.2.1.2.2.2.2.2.2.2.1 v.2.2.2.1.1 v.2.2.2.1.2.2.2.2.2.1 v.2.2.2.2.1.1 v.2.2.2.2.1.2.1 v.2.2.2.2.1.2.2.1 v.2.2.2.2.1.2.2.2.2.2.1 v.2.2.2.2.1.2.2.2.2.2.2.1 v.2.2.2.2.1.2.2.2.2.2.2.2.1 v.2.2.2.2.2.1 v.2.2.2.2.2.2.1 (λa b c d e g h i j k l m o p q r s t u w x y z d0 d1 d2 d3 d4 d5=>f (((),(),(),(),a,b,c,()),((d,e,g,h,i,j,k,l,()),(m,o,p,q,r,s,t,u,()),(w,(),(),(),(),x,(),(),()),(y,z,d0,(),(),d1,d2,d3,()),d4,d5,()))) (λw0 w1 w2 w3 w4 w5 w6 w7 w8 w9=>ks.1 (((),(),()),((w0,(),(),(),(),w1,(),(),()),(w2,w3,w4,(),(),w5,w6,w7,()),w8,w9,())))
def B5g {α:Type} (n m:Nat) (a:LR) (b c:Int) (d:Bool) (e f:LI) (g h:LR) (i:Bool) (j k:LI) (l:Bool) (o p:LI) (q r:LR) (s:Bool) (t u:LI) (v x y:Bool) (z d0:LI) (d1:Bool) (d2 d3:LI) (d4 d5:LR) (k0:Bool->Bool->Bool->LI->LI->Bool->LI->LI->LR->LR->Option α):Option α:=A5 (Xr n) m (((),(),(),(),a,b,c,()),((d,e,f,g,h,i,j,k,()),(l,o,p,q,r,s,t,u,()),(v,(),(),(),(),x,(),(),()),(y,z,d0,(),(),d1,d2,d3,()),d4,d5,())) (λw=>k0 w.2.1.1 w.2.1.2.2.2.2.2.1 w.2.2.1.1 w.2.2.1.2.1 w.2.2.1.2.2.1 w.2.2.1.2.2.2.2.2.1 w.2.2.1.2.2.2.2.2.2.1 w.2.2.1.2.2.2.2.2.2.2.1 w.2.2.2.1 w.2.2.2.2.1,())
abbrev Ajg:Tm:=⟨[(2,.k (.hp 2 0 0)),(3,.k (.hp 3 0 0)),(4,.k (.hp 4 0 0))],[(2,.var 81 true false [.d .bool,.d hIs,.d hIs,.d hRs,.d hRs,.d .bool,.d hIs,.d hIs]),(3,.var 81 true false [.d .bool,.d hIs,.d hIs,.d hRs,.d hRs,.d .bool,.d hIs,.d hIs]),(4,.var 81 true false [.d .bool,.d .nil,.d .nil,.d .nil,.d .nil,.d .bool,.d .nil,.d .nil])],[],[]⟩
abbrev Ajf:Tm:=⟨[(2,.k (.hp 2 0 0)),(3,.k (.hp 3 0 0)),(4,.k (.hp 4 0 0)),(5,.k (.hp 5 0 0)),(6,.d hI),(7,.k (.hp 7 0 0)),(20,.d hRs),(21,.d hI),(22,.d hI)],[(2,.var 81 true false [.d .bool,.d hIs,.d hIs,.d hRs,.d hRs,.d .bool,.d hIs,.d hIs]),(3,.var 81 true false [.d .bool,.d hIs,.d hIs,.d hRs,.d hRs,.d .bool,.d hIs,.d hIs]),(4,.var 81 true false [.d .bool,.d .nil,.d .nil,.d .nil,.d .nil,.d .bool,.d .nil,.d .nil]),(5,.var 81 true false [.d .bool,.d hIs,.d hIs,.d .nil,.d .nil,.d .bool,.d hIs,.d hIs]),(7,.var 31 true false [.d .bool,.d hIs,.d hIs])],[],[]⟩
abbrev A78:Tm:=⟨[(2,.k (.hp 2 0 0)),(3,.k (.hp 3 0 0)),(4,.k (.hp 4 0 0)),(5,.k (.hp 5 0 0)),(6,.d hI),(7,.k (.hp 7 0 0)),(20,.d hRs),(21,.d hI),(22,.d hI)],[(2,.var 81 true false [.d .bool,.d hIs,.d hIs,.d hRs,.d hRs,.d .bool,.d hIs,.d hIs]),(3,.var 81 true false [.d .bool,.d hIs,.d hIs,.d hRs,.d hRs,.d .bool,.d hIs,.d hIs]),(4,.var 81 true false [.d .bool,.d .nil,.d .nil,.d .nil,.d .nil,.d .bool,.d .nil,.d .nil]),(5,.var 81 false false [.d .bool,.d hIs,.d hIs,.k (.hw 37),.k (.hw 56),.d .bool,.d hIs,.d hIs]),(7,.var 31 true false [.d .bool,.d hIs,.d hIs]),(37,.arr 31 hR false),(56,.arr 31 hR false)],[],[]⟩
abbrev Aje:Tm:=⟨[(2,.k (.hp 2 0 0)),(3,.k (.hp 3 0 0)),(4,.k (.hp 4 0 0)),(5,.k (.hp 5 0 0)),(6,.d hI),(20,.d hRs),(21,.d hI),(22,.d hI)],[(2,.var 81 true false [.d .bool,.d hIs,.d hIs,.d hRs,.d hRs,.d .bool,.d hIs,.d hIs]),(3,.var 81 true false [.d .bool,.d hIs,.d hIs,.d hRs,.d hRs,.d .bool,.d hIs,.d hIs]),(4,.var 81 true false [.d .bool,.d .nil,.d .nil,.d .nil,.d .nil,.d .bool,.d .nil,.d .nil]),(5,.var 81 false false [.d .bool,.d hIs,.d hIs,.k (.hw 37),.d .nil,.d .bool,.d hIs,.d hIs]),(37,.arr 31 hR false)],[7,36],[]⟩
abbrev A77:Tm:=⟨[(2,.k (.hp 2 0 0)),(3,.k (.hp 3 0 0)),(4,.k (.hp 4 0 0)),(5,.k (.hp 5 0 0)),(6,.d hI),(20,.d hRs),(21,.d hI),(22,.d hI)],[(2,.var 81 true false [.d .bool,.d hIs,.d hIs,.d hRs,.d hRs,.d .bool,.d hIs,.d hIs]),(3,.var 81 true false [.d .bool,.d hIs,.d hIs,.d hRs,.d hRs,.d .bool,.d hIs,.d hIs]),(4,.var 81 true false [.d .bool,.d .nil,.d .nil,.d .nil,.d .nil,.d .bool,.d .nil,.d .nil]),(5,.var 81 false false [.d .bool,.d hIs,.d hIs,.k (.hw 37),.k (.hw 56),.d .bool,.d hIs,.d hIs]),(37,.arr 31 hR false),(56,.arr 31 hR false)],[7,36],[]⟩
def Mk (n:Nat) (a0 a1:Rq × LR × LR × Rq):Option (Rq × LR × LR × Rq) :=
 ob (f161 n a0.1 a1.1) λa =>
 ob (f161 n a0.2.2.2 a1.2.2.2) λb =>
 bif (decide (0<(a0.2.1.length:Int))) then
  gd (decide (0<(a0.2.1.length:Int))) (
   let c:=a0.2.1.getD 0 (false,[],[])
   gd (decide (0<(a1.2.1.length:Int))) (
    let d:=a1.2.1.getD 0 (false,[],[])
    ob (f161 n c d) λe =>
    gd ((!a0.2.2.1.isEmpty)) (
     gd (decide (0<(a0.2.2.1.length:Int))) (
      let f:=a0.2.2.1.getD 0 (false,[],[])
      gd (decide (0<(a1.2.2.1.length:Int))) (
       let g:=a1.2.2.1.getD 0 (false,[],[])
       ob (f161 n f g) λh =>
       B5g n n a0.2.1 (a0.2.1.length:Int) 1 a0.1.1 a0.1.2.1 a0.1.2.2 a0.2.1 a0.2.2.1 a0.2.2.2.1 a0.2.2.2.2.1 a0.2.2.2.2.2 a1.1.1 a1.1.2.1 a1.1.2.2 a1.2.1 a1.2.2.1 a1.2.2.2.1 a1.2.2.2.2.1 a1.2.2.2.2.2 false false a.1 a.2.1 a.2.2 b.1 b.2.1 b.2.2 [e] [h]
        (λr s i j k l m o p q=>(
         some ((i,j,k),p,q,l,m,o))))))))
 else
  some (a,[],[],b)
def Aag (n:Nat):Ent:=⟨192,[(.st (.pair hR (.pair hRs (.pair hRs hR)))),(.st (.pair hR (.pair hRs (.pair hRs hR))))],[(.st (.pair hR (.pair hRs (.pair hRs hR))))],λx=>Mk n x.1 x.2⟩
def Aah (α:Type) (n:Nat):D3 α:={ reg:=[(1,⟨0,[],[(4,{ ent:=some (Ag n) }),(9,{ ent:=some (Ag n) })]⟩),(5,⟨0,[],[(8,{ ent:=some (Ag n) }),(9,{ sh:=some hR }),(10,{ sh:=some hR })]⟩),(7,⟨0,[],[(12,{ ent:=some (Ag n) }),(13,{ sh:=some hR }),(14,{ sh:=some hR })]⟩)],join:=[],loop:=[(3,⟨Pp,Xs,A5 (Xr n) n⟩)],any:=[(1,Ajg),(5,Ajf),(5,A78),(7,Aje),(7,A77)] }
set_option maxHeartbeats 8000000 in
theorem B5h (n:Nat):Al TT ⟨60,[]⟩ [(4,{ ent:=some (Ag n) }),(9,{ ent:=some (Ag n) })] Ajg (A6 ((A0 Tryz.f192).at [1,0])):=by
 refine ⟨by kernel_rfl,λw q hq=>?_⟩
 have e:WT [(4,{ ent:=some (Ag n) }),(9,{ ent:=some (Ag n) })] (A7 (A6 ((A0 Tryz.f192).at [1,0])).toList) q=(∃ (y0:HL (Ag n).rs) (q0:List (Nat × RV)),q=(4,.sv (Ai (Ag n).rs y0))::q0 /\ ∃ (y1:HL (Ag n).rs) (q1:List (Nat × RV)),q0=(9,.sv (Ai (Ag n).rs y1))::q1/\q1=[]):=by kernel_rfl
 rw [e] at hq;obtain ⟨y0,q0,rfl,y1,q1,rfl,rfl⟩:=hq
 all_goals exact .inr ⟨12,by kernel_rfl,by kernel_rfl,by kernel_rfl⟩
set_option maxHeartbeats 8000000 in
theorem Aji (n:Nat):Al TT ⟨60,[]⟩ [(8,{ ent:=some (Ag n) }),(9,{ sh:=some hR }),(10,{ sh:=some hR })] Ajf (A6 ((A0 Tryz.f192).at [1,1,0,1,0,0,1,1,0,0,1,0])):=by
 refine ⟨by kernel_rfl,λw q hq=>?_⟩
 have e:WT [(8,{ ent:=some (Ag n) }),(9,{ sh:=some hR }),(10,{ sh:=some hR })] (A7 (A6 ((A0 Tryz.f192).at [1,1,0,1,0,0,1,1,0,0,1,0])).toList) q=(∃ (y0:HL (Ag n).rs) (q0:List (Nat × RV)),q=(8,.sv (Ai (Ag n).rs y0))::q0/\q0=[]):=by kernel_rfl
 rw [e] at hq;obtain ⟨y0,q0,rfl,rfl⟩:=hq
 all_goals exact .inr ⟨10,by kernel_rfl,by kernel_rfl,by kernel_rfl⟩
set_option maxHeartbeats 8000000 in
theorem A7a (n:Nat):Al TT ⟨60,[]⟩ [(8,{ ent:=some (Ag n) }),(9,{ sh:=some hR }),(10,{ sh:=some hR })] A78 (A6 ((A0 Tryz.f192).at [1,1,0,1,0,0,1,1,0,0,1,0])):=by
 refine ⟨by kernel_rfl,λw q hq=>?_⟩
 have e:WT [(8,{ ent:=some (Ag n) }),(9,{ sh:=some hR }),(10,{ sh:=some hR })] (A7 (A6 ((A0 Tryz.f192).at [1,1,0,1,0,0,1,1,0,0,1,0])).toList) q=(∃ (y0:HL (Ag n).rs) (q0:List (Nat × RV)),q=(8,.sv (Ai (Ag n).rs y0))::q0/\q0=[]):=by kernel_rfl
 rw [e] at hq;obtain ⟨y0,q0,rfl,rfl⟩:=hq
 all_goals exact .inr ⟨10,by kernel_rfl,by kernel_rfl,by kernel_rfl⟩
set_option maxHeartbeats 8000000 in
theorem Ajh (n:Nat):Al TT ⟨60,[]⟩ [(12,{ ent:=some (Ag n) }),(13,{ sh:=some hR }),(14,{ sh:=some hR })] Aje (A6 ((A0 Tryz.f192).at [1,1,0,1,0,0,1,1,0,0,1,1,1,0])):=by
 refine ⟨by kernel_rfl,λw q hq=>?_⟩
 have e:WT [(12,{ ent:=some (Ag n) }),(13,{ sh:=some hR }),(14,{ sh:=some hR })] (A7 (A6 ((A0 Tryz.f192).at [1,1,0,1,0,0,1,1,0,0,1,1,1,0])).toList) q=(∃ (y0:HL (Ag n).rs) (q0:List (Nat × RV)),q=(12,.sv (Ai (Ag n).rs y0))::q0/\q0=[]):=by kernel_rfl
 rw [e] at hq;obtain ⟨y0,q0,rfl,rfl⟩:=hq
 all_goals exact .inr ⟨14,by kernel_rfl,by kernel_rfl,by kernel_rfl⟩
set_option maxHeartbeats 8000000 in
theorem A79 (n:Nat):Al TT ⟨60,[]⟩ [(12,{ ent:=some (Ag n) }),(13,{ sh:=some hR }),(14,{ sh:=some hR })] A77 (A6 ((A0 Tryz.f192).at [1,1,0,1,0,0,1,1,0,0,1,1,1,0])):=by
 refine ⟨by kernel_rfl,λw q hq=>?_⟩
 have e:WT [(12,{ ent:=some (Ag n) }),(13,{ sh:=some hR }),(14,{ sh:=some hR })] (A7 (A6 ((A0 Tryz.f192).at [1,1,0,1,0,0,1,1,0,0,1,1,1,0])).toList) q=(∃ (y0:HL (Ag n).rs) (q0:List (Nat × RV)),q=(12,.sv (Ai (Ag n).rs y0))::q0/\q0=[]):=by kernel_rfl
 rw [e] at hq;obtain ⟨y0,q0,rfl,rfl⟩:=hq
 all_goals exact .inr ⟨14,by kernel_rfl,by kernel_rfl,by kernel_rfl⟩
theorem A76 (α:Type) (n:Nat):Ao PP (Ah (Aah α n).reg):=⟨Co n,Co n,Co n,Co n,trivial⟩
theorem At4 (α:Type) (n:Nat):D3.OK PP TT ⟨60,[]⟩ (Aah α n) ((A0 Tryz.f192).at [1,1,0,1,0,0]) :=
 D3.OK.mk3a (A76 α n) (show Ab ((A0 Tryz.f192).at [1,1,0,1,0,0])=[] by kernel_rfl) trivial (show Au ((A0 Tryz.f192).at [1,1,0,1,0,0])=[(5,A6 ((A0 Tryz.f192).at [1,1,0,1,0,0,1,1,0,0,1,0])),(7,A6 ((A0 Tryz.f192).at [1,1,0,1,0,0,1,1,0,0,1,1,1,0]))] by kernel_rfl) ⟨⟨Aji n,A7a n,trivial⟩,⟨Ajh n,A79 n,trivial⟩,trivial⟩
theorem Amk (α:Type) (n:Nat):LO.Sound (α:=α) PP ⟨60,[]⟩ ⟨Pp,Xs,A5 (Xr n) n⟩ (.loop ((A0 Tryz.f192).at [1,1,0,1,0,0])):=lk (At4 α n) n
theorem Bb2 (α:Type) (n:Nat):D3.OK PP TT ⟨60,[]⟩ (Aah α n) (A0 Tryz.f192) :=
 D3.OK.mk3a (A76 α n) (show Ab (A0 Tryz.f192)=[(3,(.loop ((A0 Tryz.f192).at [1,1,0,1,0,0])))] by kernel_rfl) ⟨Ad rfl (Amk α n),trivial⟩ (show Au (A0 Tryz.f192)=[(1,A6 ((A0 Tryz.f192).at [1,0])),(5,A6 ((A0 Tryz.f192).at [1,1,0,1,0,0,1,1,0,0,1,0])),(7,A6 ((A0 Tryz.f192).at [1,1,0,1,0,0,1,1,0,0,1,1,1,0]))] by kernel_rfl) ⟨⟨B5h n,trivial⟩,⟨Aji n,A7a n,trivial⟩,⟨Ajh n,A79 n,trivial⟩,trivial⟩
theorem Ajd (n:Nat):(Aag n).Sound PP:=fk (fn:=Tryz.f192) (Bb2 _ n)

def f222 (n:Nat) (a0:Int) (a1:Bool × LI × LI × LR × LR × Bool × LI × LI) (a2:Rq):Option Rq :=
 gd (decide (0<=a0)&&decide (a0<(a1.2.2.2.2.1.length:Int))) (
  let a:=a1.2.2.2.2.1.getD a0.toNat (false,[],[])
  ob (f178 n a a2) λb =>
  some b)
def He (n:Nat):Ent:=⟨222,[hI,(.ref (.st (.pair .bool (.pair hIs (.pair hIs (.pair hRs (.pair hRs (.pair .bool (.pair hIs hIs))))))))),(.ref hR)],[hR],λx=>f222 n x.1 x.2.1 x.2.2⟩
def Bfg (α:Type) (n:Nat):D3 α:={ reg:=[(1,⟨6,[],[(6,{ ent:=some (Aa n) })]⟩)],join:=[],loop:=[] }
theorem Ba4 (n:Nat):(He n).Sound PP:=Ay (fn:=Tryz.f222) (D:=Bfg _ n) ⟨Ax n,trivial⟩

def A0q {α:Type} (n:Nat) (g:Rq) (b:(Bool × LI × LI × LR × LR × Bool × LI × LI) × Rq) (c:LR) (h a:Int) (s:Bool) (t u:LI) (v i:LR) (w:Bool) (x y:LI) (j k l:Bool) (m o:LI) (p:Bool) (q r:LI) (d e:LR) (f:Rq->((Bool × LI × LI × LR × LR × Bool × LI × LI) × Rq)->LR->Int->Int->Bool->LI->LI->LR->LR->Bool->LI->LI->Bool->Bool->Bool->LI->LI->Bool->LI->LI->LR->LR->Option α) (k0:Bool->Bool->Bool->LI->LI->Bool->LI->LI->LR->LR->Option α):Option α :=
 bif (decide (a<h)) then
  gd (decide (0<=a)&&decide (a<(c.length:Int))) (
   let z:=c.getD a.toNat (false,[],[])
   ob (f221 n z g) λd0 =>
   gd (decide ((d.length+1)*56<=140737488355328)) (
    gd ((!i.isEmpty)) (
     ob (f222 n a b.1 b.2) λd1 =>
     gd (decide ((e.length+1)*56<=140737488355328)) (
      f g b c h (W (a+1)) s t u v i w x y j k l m o p q r (d++[d0]) (e++[d1])))))
 else
  k0 j k l m o p q r d e
abbrev Ep:Tm:=⟨[(3,.d (.clo 221 (.ref hR))),(4,.d (.clo 222 (.pair (.ref (.st (.pair .bool (.pair hIs (.pair hIs (.pair hRs (.pair hRs (.pair .bool (.pair hIs hIs))))))))) (.ref hR)))),(5,.k (.hp 5 0 0)),(10,.k (.hp 10 0 0)),(11,.k (.hp 11 0 0)),(18,.d hRs),(19,.d hI),(20,.d hI)],[(5,.var 81 true false [.d .bool,.d hIs,.d hIs,.d hRs,.d hRs,.d .bool,.d hIs,.d hIs]),(10,.var 81 true false [.d .bool,.d .nil,.d .nil,.d .nil,.d .nil,.d .bool,.d .nil,.d .nil]),(11,.var 81 false false [.d .bool,.d hIs,.d hIs,.k (.hw 31),.k (.hw 42),.d .bool,.d hIs,.d hIs]),(31,.arr 31 hR false),(42,.arr 31 hR false)],[41],[]⟩
abbrev Xe:Tm:=⟨[(10,.k (.hp 10 0 0)),(11,.k (.hp 11 0 0))],[(10,.var 81 true false [.d .bool,.d .nil,.d .nil,.d .nil,.d .nil,.d .bool,.d .nil,.d .nil]),(11,.var 81 false false [.d .bool,.d hIs,.d hIs,.k (.hw 31),.k (.hw 42),.d .bool,.d hIs,.d hIs]),(31,.arr 31 hR false),(42,.arr 31 hR false)],[5],[]⟩
abbrev Gy:List (Exit × Tm):=[(.exit 0,Xe)]
def Gx {α:Type} (n:Nat) (v:Ep.den) (f:Ep.den->Option α) (ks:KS α Gy):Option α:=A0q n v.1.1 v.1.2.1 v.1.2.2.2.2.2.1 v.1.2.2.2.2.2.2.1 v.1.2.2.2.2.2.2.2.1 v.2.1.1 v.2.1.2.1 v.2.1.2.2.1 v.2.1.2.2.2.1 v.2.1.2.2.2.2.1 v.2.1.2.2.2.2.2.1 v.2.1.2.2.2.2.2.2.1 v.2.1.2.2.2.2.2.2.2.1 v.2.2.1.1 v.2.2.1.2.2.2.2.2.1 v.2.2.2.1.1 v.2.2.2.1.2.1 v.2.2.2.1.2.2.1 v.2.2.2.1.2.2.2.2.2.1 v.2.2.2.1.2.2.2.2.2.2.1 v.2.2.2.1.2.2.2.2.2.2.2.1 v.2.2.2.2.1 v.2.2.2.2.2.1 (λa b c d e g h i j k l m o p q r s t u w x y z=>f ((a,b,(),(),(),c,d,e,()),((g,h,i,j,k,l,m,o,()),(p,(),(),(),(),q,(),(),()),(r,s,t,(),(),u,w,x,()),y,z,()))) (λw0 w1 w2 w3 w4 w5 w6 w7 w8 w9=>ks.1 (((),(),()),((w0,(),(),(),(),w1,(),(),()),(w2,w3,w4,(),(),w5,w6,w7,()),w8,w9,())))
def A2r {α:Type} (n m:Nat) (a:Rq) (b:(Bool × LI × LI × LR × LR × Bool × LI × LI) × Rq) (c:LR) (d e:Int) (f:Bool) (g h:LI) (i j:LR) (k:Bool) (l o:LI) (p q r:Bool) (s t:LI) (u:Bool) (v x:LI) (y z:LR) (k0:Bool->Bool->Bool->LI->LI->Bool->LI->LI->LR->LR->Option α):Option α:=A5 (Gx n) m ((a,b,(),(),(),c,d,e,()),((f,g,h,i,j,k,l,o,()),(p,(),(),(),(),q,(),(),()),(r,s,t,(),(),u,v,x,()),y,z,())) (λw=>k0 w.2.1.1 w.2.1.2.2.2.2.2.1 w.2.2.1.1 w.2.2.1.2.1 w.2.2.1.2.2.1 w.2.2.1.2.2.2.2.2.1 w.2.2.1.2.2.2.2.2.2.1 w.2.2.1.2.2.2.2.2.2.2.1 w.2.2.2.1 w.2.2.2.2.1,())
abbrev O5:Tm:=⟨[(3,.d (.clo 221 (.ref hR))),(4,.d (.clo 222 (.pair (.ref (.st (.pair .bool (.pair hIs (.pair hIs (.pair hRs (.pair hRs (.pair .bool (.pair hIs hIs))))))))) (.ref hR)))),(5,.k (.hp 5 0 0)),(10,.k (.hp 10 0 0)),(11,.k (.hp 11 0 0)),(12,.d hI),(13,.k (.hp 13 0 0)),(18,.d hRs),(19,.d hI),(20,.d hI)],[(5,.var 81 true false [.d .bool,.d hIs,.d hIs,.d hRs,.d hRs,.d .bool,.d hIs,.d hIs]),(10,.var 81 true false [.d .bool,.d .nil,.d .nil,.d .nil,.d .nil,.d .bool,.d .nil,.d .nil]),(11,.var 81 true false [.d .bool,.d hIs,.d hIs,.d .nil,.d .nil,.d .bool,.d hIs,.d hIs]),(13,.var 31 true false [.d .bool,.d hIs,.d hIs])],[6,7],[]⟩
abbrev Lb:Tm:=⟨[(3,.d (.clo 221 (.ref hR))),(4,.d (.clo 222 (.pair (.ref (.st (.pair .bool (.pair hIs (.pair hIs (.pair hRs (.pair hRs (.pair .bool (.pair hIs hIs))))))))) (.ref hR)))),(5,.k (.hp 5 0 0)),(10,.k (.hp 10 0 0)),(11,.k (.hp 11 0 0)),(12,.d hI),(13,.k (.hp 13 0 0)),(18,.d hRs),(19,.d hI),(20,.d hI)],[(5,.var 81 true false [.d .bool,.d hIs,.d hIs,.d hRs,.d hRs,.d .bool,.d hIs,.d hIs]),(10,.var 81 true false [.d .bool,.d .nil,.d .nil,.d .nil,.d .nil,.d .bool,.d .nil,.d .nil]),(11,.var 81 false false [.d .bool,.d hIs,.d hIs,.k (.hw 31),.k (.hw 42),.d .bool,.d hIs,.d hIs]),(13,.var 31 true false [.d .bool,.d hIs,.d hIs]),(31,.arr 31 hR false),(42,.arr 31 hR false)],[],[]⟩
abbrev O4:Tm:=⟨[(3,.d (.clo 221 (.ref hR))),(4,.d (.clo 222 (.pair (.ref (.st (.pair .bool (.pair hIs (.pair hIs (.pair hRs (.pair hRs (.pair .bool (.pair hIs hIs))))))))) (.ref hR)))),(5,.k (.hp 5 0 0)),(10,.k (.hp 10 0 0)),(11,.k (.hp 11 0 0)),(12,.d hI),(18,.d hRs),(19,.d hI),(20,.d hI)],[(5,.var 81 true false [.d .bool,.d hIs,.d hIs,.d hRs,.d hRs,.d .bool,.d hIs,.d hIs]),(10,.var 81 true false [.d .bool,.d .nil,.d .nil,.d .nil,.d .nil,.d .bool,.d .nil,.d .nil]),(11,.var 81 false false [.d .bool,.d hIs,.d hIs,.k (.hw 31),.d .nil,.d .bool,.d hIs,.d hIs]),(31,.arr 31 hR false)],[13,30],[]⟩
abbrev La:Tm:=⟨[(3,.d (.clo 221 (.ref hR))),(4,.d (.clo 222 (.pair (.ref (.st (.pair .bool (.pair hIs (.pair hIs (.pair hRs (.pair hRs (.pair .bool (.pair hIs hIs))))))))) (.ref hR)))),(5,.k (.hp 5 0 0)),(10,.k (.hp 10 0 0)),(11,.k (.hp 11 0 0)),(12,.d hI),(18,.d hRs),(19,.d hI),(20,.d hI)],[(5,.var 81 true false [.d .bool,.d hIs,.d hIs,.d hRs,.d hRs,.d .bool,.d hIs,.d hIs]),(10,.var 81 true false [.d .bool,.d .nil,.d .nil,.d .nil,.d .nil,.d .bool,.d .nil,.d .nil]),(11,.var 81 false false [.d .bool,.d hIs,.d hIs,.k (.hw 31),.k (.hw 42),.d .bool,.d hIs,.d hIs]),(31,.arr 31 hR false),(42,.arr 31 hR false)],[13,30],[]⟩
def Vm (n:Nat) (a0:Rq × LR × LR × Rq) (a1 a2 a3:Rq) (a4:(Bool × LI × LI × LR × LR × Bool × LI × LI) × Rq):Option (Rq × LR × LR × Rq) :=
 bif (decide (0<(a0.2.1.length:Int))) then
  gd (decide (0<(a0.2.1.length:Int))) (
   let a:=a0.2.1.getD 0 (false,[],[])
   ob (f221 n a a3) λb =>
   gd ((!a0.2.2.1.isEmpty)) (
    ob (f222 n 0 a4.1 a4.2) λc =>
    A2r n n a3 a4 a0.2.1 (a0.2.1.length:Int) 1 a0.1.1 a0.1.2.1 a0.1.2.2 a0.2.1 a0.2.2.1 a0.2.2.2.1 a0.2.2.2.2.1 a0.2.2.2.2.2 false false a1.1 a1.2.1 a1.2.2 a2.1 a2.2.1 a2.2.2 [b] [c]
     (λl m d e f g h i j k=>(
      some ((d,e,f),j,k,g,h,i)))))
 else
  some (a1,[],[],a2)
def D9 (n:Nat):Ent:=⟨220,[(.st (.pair hR (.pair hRs (.pair hRs hR)))),hR,hR,(.clo 221 (.ref hR)),(.clo 222 (.pair (.ref (.st (.pair .bool (.pair hIs (.pair hIs (.pair hRs (.pair hRs (.pair .bool (.pair hIs hIs))))))))) (.ref hR)))],[(.st (.pair hR (.pair hRs (.pair hRs hR))))],λx=>Vm n x.1 x.2.1 x.2.2.1 x.2.2.2.1 x.2.2.2.2⟩
def J0 (α:Type) (n:Nat):D3 α:={ reg:=[(5,⟨0,[],[(4,{ ent:=some (Cg n) }),(5,{ sh:=some hR }),(6,{ sh:=some hR })]⟩),(7,⟨0,[],[(4,{ ent:=some (He n) }),(5,{ sh:=some hR }),(6,{ sh:=some hR })]⟩)],join:=[],loop:=[(3,⟨Ep,Gy,A5 (Gx n) n⟩)],any:=[(5,O5),(5,Lb),(7,O4),(7,La)] }
set_option maxHeartbeats 8000000 in
theorem O7 (n:Nat):Al TT ⟨46,[]⟩ [(4,{ ent:=some (Cg n) }),(5,{ sh:=some hR }),(6,{ sh:=some hR })] O5 (A6 ((A0 Tryz.f220).at [1,1,0,1,0,0,1,1,0,0,1,0])):=by
 refine ⟨by kernel_rfl,λw q hq=>?_⟩
 have e:WT [(4,{ ent:=some (Cg n) }),(5,{ sh:=some hR }),(6,{ sh:=some hR })] (A7 (A6 ((A0 Tryz.f220).at [1,1,0,1,0,0,1,1,0,0,1,0])).toList) q=(∃ (y0:HL (Cg n).rs) (q0:List (Nat × RV)),q=(4,.sv (Ai (Cg n).rs y0))::q0/\q0=[]):=by kernel_rfl
 rw [e] at hq;obtain ⟨y0,q0,rfl,rfl⟩:=hq
 all_goals exact .inr ⟨6,by kernel_rfl,by kernel_rfl,by kernel_rfl⟩
set_option maxHeartbeats 8000000 in
theorem Ld (n:Nat):Al TT ⟨46,[]⟩ [(4,{ ent:=some (Cg n) }),(5,{ sh:=some hR }),(6,{ sh:=some hR })] Lb (A6 ((A0 Tryz.f220).at [1,1,0,1,0,0,1,1,0,0,1,0])):=by
 refine ⟨by kernel_rfl,λw q hq=>?_⟩
 have e:WT [(4,{ ent:=some (Cg n) }),(5,{ sh:=some hR }),(6,{ sh:=some hR })] (A7 (A6 ((A0 Tryz.f220).at [1,1,0,1,0,0,1,1,0,0,1,0])).toList) q=(∃ (y0:HL (Cg n).rs) (q0:List (Nat × RV)),q=(4,.sv (Ai (Cg n).rs y0))::q0/\q0=[]):=by kernel_rfl
 rw [e] at hq;obtain ⟨y0,q0,rfl,rfl⟩:=hq
 all_goals exact .inr ⟨6,by kernel_rfl,by kernel_rfl,by kernel_rfl⟩
set_option maxHeartbeats 8000000 in
theorem O6 (n:Nat):Al TT ⟨46,[]⟩ [(4,{ ent:=some (He n) }),(5,{ sh:=some hR }),(6,{ sh:=some hR })] O4 (A6 ((A0 Tryz.f220).at [1,1,0,1,0,0,1,1,0,0,1,1,1,0])):=by
 refine ⟨by kernel_rfl,λw q hq=>?_⟩
 have e:WT [(4,{ ent:=some (He n) }),(5,{ sh:=some hR }),(6,{ sh:=some hR })] (A7 (A6 ((A0 Tryz.f220).at [1,1,0,1,0,0,1,1,0,0,1,1,1,0])).toList) q=(∃ (y0:HL (He n).rs) (q0:List (Nat × RV)),q=(4,.sv (Ai (He n).rs y0))::q0/\q0=[]):=by kernel_rfl
 rw [e] at hq;obtain ⟨y0,q0,rfl,rfl⟩:=hq
 all_goals exact .inr ⟨6,by kernel_rfl,by kernel_rfl,by kernel_rfl⟩
set_option maxHeartbeats 8000000 in
theorem Lc (n:Nat):Al TT ⟨46,[]⟩ [(4,{ ent:=some (He n) }),(5,{ sh:=some hR }),(6,{ sh:=some hR })] La (A6 ((A0 Tryz.f220).at [1,1,0,1,0,0,1,1,0,0,1,1,1,0])):=by
 refine ⟨by kernel_rfl,λw q hq=>?_⟩
 have e:WT [(4,{ ent:=some (He n) }),(5,{ sh:=some hR }),(6,{ sh:=some hR })] (A7 (A6 ((A0 Tryz.f220).at [1,1,0,1,0,0,1,1,0,0,1,1,1,0])).toList) q=(∃ (y0:HL (He n).rs) (q0:List (Nat × RV)),q=(4,.sv (Ai (He n).rs y0))::q0/\q0=[]):=by kernel_rfl
 rw [e] at hq;obtain ⟨y0,q0,rfl,rfl⟩:=hq
 all_goals exact .inr ⟨6,by kernel_rfl,by kernel_rfl,by kernel_rfl⟩
theorem L9 (α:Type) (n:Nat):Ao PP (Ah (J0 α n).reg):=⟨Aoi n,Ba4 n,trivial⟩
theorem Xd (α:Type) (n:Nat):D3.OK PP TT ⟨46,[]⟩ (J0 α n) ((A0 Tryz.f220).at [1,1,0,1,0,0]) :=
 D3.OK.mk3a (L9 α n) (show Ab ((A0 Tryz.f220).at [1,1,0,1,0,0])=[] by kernel_rfl) trivial (show Au ((A0 Tryz.f220).at [1,1,0,1,0,0])=[(5,A6 ((A0 Tryz.f220).at [1,1,0,1,0,0,1,1,0,0,1,0])),(7,A6 ((A0 Tryz.f220).at [1,1,0,1,0,0,1,1,0,0,1,1,1,0]))] by kernel_rfl) ⟨⟨O7 n,Ld n,trivial⟩,⟨O6 n,Lc n,trivial⟩,trivial⟩
theorem Vu (α:Type) (n:Nat):LO.Sound (α:=α) PP ⟨46,[]⟩ ⟨Ep,Gy,A5 (Gx n) n⟩ (.loop ((A0 Tryz.f220).at [1,1,0,1,0,0])):=lk (Xd α n) n
theorem A6s (α:Type) (n:Nat):D3.OK PP TT ⟨46,[]⟩ (J0 α n) (A0 Tryz.f220) :=
 D3.OK.mk3a (L9 α n) (show Ab (A0 Tryz.f220)=[(3,(.loop ((A0 Tryz.f220).at [1,1,0,1,0,0])))] by kernel_rfl) ⟨Ad rfl (Vu α n),trivial⟩ (show Au (A0 Tryz.f220)=[(5,A6 ((A0 Tryz.f220).at [1,1,0,1,0,0,1,1,0,0,1,0])),(7,A6 ((A0 Tryz.f220).at [1,1,0,1,0,0,1,1,0,0,1,1,1,0]))] by kernel_rfl) ⟨⟨O7 n,Ld n,trivial⟩,⟨O6 n,Lc n,trivial⟩,trivial⟩
theorem A2q (n:Nat):(D9 n).Sound PP:=fk (fn:=Tryz.f220) (A6s _ n)

abbrev Ajb:Tm:=⟨[(2,.k (.hp 2 0 0)),(3,.k (.hp 3 0 0)),(4,.k (.hp 4 0 0))],[(2,.var 81 true false [.d .bool,.d hIs,.d hIs,.d hRs,.d hRs,.d .bool,.d hIs,.d hIs]),(3,.var 31 true false [.d .bool,.d hIs,.d hIs]),(4,.var 81 true false [.d .bool,.d .nil,.d .nil,.d .nil,.d .nil,.d .bool,.d .nil,.d .nil])],[],[]⟩
def Mj (n:Nat) (a0:Rq × LR × LR × Rq) (a1:Rq):Option (Rq × LR × LR × Rq) :=
 ob (f178 n a0.1 a1) λa =>
 ob (f178 n a0.2.2.2 a1) λb =>
 ob (Vm n a0 a b a1 ((a0.1.1,a0.1.2.1,a0.1.2.2,a0.2),a1)) λc =>
 some c
def Aaf (n:Nat):Ent:=⟨193,[(.st (.pair hR (.pair hRs (.pair hRs hR)))),hR],[(.st (.pair hR (.pair hRs (.pair hRs hR))))],λx=>Mj n x.1 x.2⟩
def Ap0 (α:Type) (n:Nat):D3 α:={ reg:=[(1,⟨0,[],[(4,{ ent:=some (Aa n) }),(8,{ ent:=some (Aa n) }),(9,{ sh:=some (.ref hR) }),(10,{ sh:=some (.pair (.ref (.st (.pair .bool (.pair hIs (.pair hIs (.pair hRs (.pair hRs (.pair .bool (.pair hIs hIs))))))))) (.ref hR)) }),(11,{ ent:=some (D9 n) })]⟩)],join:=[],loop:=[],any:=[(1,Ajb)] }
set_option maxHeartbeats 8000000 in
theorem B5f (n:Nat):Al TT ⟨17,[]⟩ [(4,{ ent:=some (Aa n) }),(8,{ ent:=some (Aa n) }),(9,{ sh:=some (.ref hR) }),(10,{ sh:=some (.pair (.ref (.st (.pair .bool (.pair hIs (.pair hIs (.pair hRs (.pair hRs (.pair .bool (.pair hIs hIs))))))))) (.ref hR)) }),(11,{ ent:=some (D9 n) })] Ajb (A6 ((A0 Tryz.f193).at [1,0])):=by
 refine ⟨by kernel_rfl,λw q hq=>?_⟩
 have e:WT [(4,{ ent:=some (Aa n) }),(8,{ ent:=some (Aa n) }),(9,{ sh:=some (.ref hR) }),(10,{ sh:=some (.pair (.ref (.st (.pair .bool (.pair hIs (.pair hIs (.pair hRs (.pair hRs (.pair .bool (.pair hIs hIs))))))))) (.ref hR)) }),(11,{ ent:=some (D9 n) })] (A7 (A6 ((A0 Tryz.f193).at [1,0])).toList) q=(∃ (y0:HL (Aa n).rs) (q0:List (Nat × RV)),q=(4,.sv (Ai (Aa n).rs y0))::q0 /\ ∃ (y1:HL (Aa n).rs) (q1:List (Nat × RV)),q0=(8,.sv (Ai (Aa n).rs y1))::q1 /\ ∃ (y2:HL (D9 n).rs) (q2:List (Nat × RV)),q1=(11,.sv (Ai (D9 n).rs y2))::q2/\q2=[]):=by kernel_rfl
 rw [e] at hq;obtain ⟨y0,q0,rfl,y1,q1,rfl,y2,q2,rfl,rfl⟩:=hq
 all_goals exact .inl (Gs.mk (by kernel_rfl))
theorem At3 (α:Type) (n:Nat):Ao PP (Ah (Ap0 α n).reg):=⟨Ax n,Ax n,A2q n,trivial⟩
theorem Bb0 (α:Type) (n:Nat):D3.OK PP TT ⟨17,[]⟩ (Ap0 α n) (A0 Tryz.f193) :=
 D3.OK.mk3a (At3 α n) (show Ab (A0 Tryz.f193)=[] by kernel_rfl) trivial (show Au (A0 Tryz.f193)=[(1,A6 ((A0 Tryz.f193).at [1,0]))] by kernel_rfl) ⟨⟨B5f n,trivial⟩,trivial⟩
theorem Aja (n:Nat):(Aaf n).Sound PP:=fk (fn:=Tryz.f193) (Bb0 _ n)

def Az8 {α:Type} (n:Nat) (c:LR) (p a:Int) (d:Bool) (e g:LI) (d6 b:LR) (q:Bool) (r s:LI) (h:Bool) (i j:LI) (k l:LR) (t:Bool) (u v:LI) (w x y:Bool) (z d0:LI) (d1:Bool) (d2 d3:LI) (m o:LR) (f:LR->Int->Int->Bool->LI->LI->LR->LR->Bool->LI->LI->Bool->LI->LI->LR->LR->Bool->LI->LI->Bool->Bool->Bool->LI->LI->Bool->LI->LI->LR->LR->Option α) (k0:Bool->Bool->Bool->LI->LI->Bool->LI->LI->LR->LR->Option α):Option α :=
 bif (decide (a<p)) then
  gd (decide (0<=a)&&decide (a<(c.length:Int))) (
   let d4:=c.getD a.toNat (false,[],[])
   gd (decide (0<=a)&&decide (a<(k.length:Int))) (
    let d5:=k.getD a.toNat (false,[],[])
    ob (f178 n d4 (h,i,j)) λd7 =>
    ob (f178 n (d,e,g) d5) λd8 =>
    ob (f161 n d7 d8) λd9 =>
    gd (decide ((m.length+1)*56<=140737488355328)) (
     gd ((!b.isEmpty)) (
      gd (decide (0<=a)&&decide (a<(b.length:Int))) (
       let e0:=b.getD a.toNat (false,[],[])
       ob (f178 n e0 (h,i,j)) λe1 =>
       ob (f178 n d4 (t,u,v)) λe2 =>
       ob (f161 n e1 e2) λe3 =>
       ob (f178 n (q,r,s) d5) λe4 =>
       ob (f161 n e3 e4) λe5 =>
       gd (decide (0<=a)&&decide (a<(l.length:Int))) (
        let e6:=l.getD a.toNat (false,[],[])
        ob (f178 n (d,e,g) e6) λe7 =>
        ob (f161 n e5 e7) λe8 =>
        gd (decide ((o.length+1)*56<=140737488355328)) (
         f c p (W (a+1)) d e g d6 b q r s h i j k l t u v w x y z d0 d1 d2 d3 (m++[d9]) (o++[e8]))))))))
 else
  k0 w x y z d0 d1 d2 d3 m o
abbrev Po:Tm:=⟨[(2,.k (.hp 2 0 0)),(3,.k (.hp 3 0 0)),(4,.k (.hp 4 0 0)),(5,.k (.hp 5 0 0)),(28,.d hRs),(29,.d hI),(30,.d hI)],[(2,.var 81 true false [.d .bool,.d hIs,.d hIs,.d hRs,.d hRs,.d .bool,.d hIs,.d hIs]),(3,.var 81 true false [.d .bool,.d hIs,.d hIs,.d hRs,.d hRs,.d .bool,.d hIs,.d hIs]),(4,.var 81 true false [.d .bool,.d .nil,.d .nil,.d .nil,.d .nil,.d .bool,.d .nil,.d .nil]),(5,.var 81 false false [.d .bool,.d hIs,.d hIs,.k (.hw 52),.k (.hw 88),.d .bool,.d hIs,.d hIs]),(52,.arr 31 hR false),(88,.arr 31 hR false)],[8,9,87],[]⟩
abbrev At1:Tm:=⟨[(4,.k (.hp 4 0 0)),(5,.k (.hp 5 0 0))],[(4,.var 81 true false [.d .bool,.d .nil,.d .nil,.d .nil,.d .nil,.d .bool,.d .nil,.d .nil]),(5,.var 81 false false [.d .bool,.d hIs,.d hIs,.k (.hw 52),.k (.hw 88),.d .bool,.d hIs,.d hIs]),(52,.arr 31 hR false),(88,.arr 31 hR false)],[2,3],[]⟩
abbrev Xq:List (Exit × Tm):=[(.exit 0,At1)]
def Xp {α:Type} (n:Nat) (v:Po.den) (f:Po.den->Option α) (ks:KS α Xq):Option α:=Az8 n v.1.2.2.2.2.1 v.1.2.2.2.2.2.1 v.1.2.2.2.2.2.2.1 v.2.1.1 v.2.1.2.1 v.2.1.2.2.1 v.2.1.2.2.2.1 v.2.1.2.2.2.2.1 v.2.1.2.2.2.2.2.1 v.2.1.2.2.2.2.2.2.1 v.2.1.2.2.2.2.2.2.2.1 v.2.2.1.1 v.2.2.1.2.1 v.2.2.1.2.2.1 v.2.2.1.2.2.2.1 v.2.2.1.2.2.2.2.1 v.2.2.1.2.2.2.2.2.1 v.2.2.1.2.2.2.2.2.2.1 v.2.2.1.2.2.2.2.2.2.2.1 v.2.2.2.1.1 v.2.2.2.1.2.2.2.2.2.1 v.2.2.2.2.1.1 v.2.2.2.2.1.2.1 v.2.2.2.2.1.2.2.1 v.2.2.2.2.1.2.2.2.2.2.1 v.2.2.2.2.1.2.2.2.2.2.2.1 v.2.2.2.2.1.2.2.2.2.2.2.2.1 v.2.2.2.2.2.1 v.2.2.2.2.2.2.1 (λa b c d e g h i j k l m o p q r s t u w x y z d0 d1 d2 d3 d4 d5=>f (((),(),(),(),a,b,c,()),((d,e,g,h,i,j,k,l,()),(m,o,p,q,r,s,t,u,()),(w,(),(),(),(),x,(),(),()),(y,z,d0,(),(),d1,d2,d3,()),d4,d5,()))) (λw0 w1 w2 w3 w4 w5 w6 w7 w8 w9=>ks.1 (((),(),()),((w0,(),(),(),(),w1,(),(),()),(w2,w3,w4,(),(),w5,w6,w7,()),w8,w9,())))
def B5c {α:Type} (n m:Nat) (a:LR) (b c:Int) (d:Bool) (e f:LI) (g h:LR) (i:Bool) (j k:LI) (l:Bool) (o p:LI) (q r:LR) (s:Bool) (t u:LI) (v x y:Bool) (z d0:LI) (d1:Bool) (d2 d3:LI) (d4 d5:LR) (k0:Bool->Bool->Bool->LI->LI->Bool->LI->LI->LR->LR->Option α):Option α:=A5 (Xp n) m (((),(),(),(),a,b,c,()),((d,e,f,g,h,i,j,k,()),(l,o,p,q,r,s,t,u,()),(v,(),(),(),(),x,(),(),()),(y,z,d0,(),(),d1,d2,d3,()),d4,d5,())) (λw=>k0 w.2.1.1 w.2.1.2.2.2.2.2.1 w.2.2.1.1 w.2.2.1.2.1 w.2.2.1.2.2.1 w.2.2.1.2.2.2.2.2.1 w.2.2.1.2.2.2.2.2.2.1 w.2.2.1.2.2.2.2.2.2.2.1 w.2.2.2.1 w.2.2.2.2.1,())
abbrev Aj4:Tm:=⟨[(2,.k (.hp 2 0 0)),(3,.k (.hp 3 0 0)),(4,.k (.hp 4 0 0))],[(2,.var 81 true false [.d .bool,.d hIs,.d hIs,.d hRs,.d hRs,.d .bool,.d hIs,.d hIs]),(3,.var 81 true false [.d .bool,.d hIs,.d hIs,.d hRs,.d hRs,.d .bool,.d hIs,.d hIs]),(4,.var 81 true false [.d .bool,.d .nil,.d .nil,.d .nil,.d .nil,.d .bool,.d .nil,.d .nil])],[],[]⟩
abbrev Aj3:Tm:=⟨[(2,.k (.hp 2 0 0)),(3,.k (.hp 3 0 0)),(4,.k (.hp 4 0 0)),(5,.k (.hp 5 0 0)),(6,.d hI),(7,.k (.hp 7 0 0)),(8,.k (.hp 8 0 0)),(28,.d hRs),(29,.d hI),(30,.d hI)],[(2,.var 81 true false [.d .bool,.d hIs,.d hIs,.d hRs,.d hRs,.d .bool,.d hIs,.d hIs]),(3,.var 81 true false [.d .bool,.d hIs,.d hIs,.d hRs,.d hRs,.d .bool,.d hIs,.d hIs]),(4,.var 81 true false [.d .bool,.d .nil,.d .nil,.d .nil,.d .nil,.d .bool,.d .nil,.d .nil]),(5,.var 81 true false [.d .bool,.d hIs,.d hIs,.d .nil,.d .nil,.d .bool,.d hIs,.d hIs]),(7,.var 31 true false [.d .bool,.d hIs,.d hIs]),(8,.var 31 true false [.d .bool,.d hIs,.d hIs])],[],[]⟩
abbrev A72:Tm:=⟨[(2,.k (.hp 2 0 0)),(3,.k (.hp 3 0 0)),(4,.k (.hp 4 0 0)),(5,.k (.hp 5 0 0)),(6,.d hI),(7,.k (.hp 7 0 0)),(8,.k (.hp 8 0 0)),(28,.d hRs),(29,.d hI),(30,.d hI)],[(2,.var 81 true false [.d .bool,.d hIs,.d hIs,.d hRs,.d hRs,.d .bool,.d hIs,.d hIs]),(3,.var 81 true false [.d .bool,.d hIs,.d hIs,.d hRs,.d hRs,.d .bool,.d hIs,.d hIs]),(4,.var 81 true false [.d .bool,.d .nil,.d .nil,.d .nil,.d .nil,.d .bool,.d .nil,.d .nil]),(5,.var 81 false false [.d .bool,.d hIs,.d hIs,.k (.hw 52),.k (.hw 88),.d .bool,.d hIs,.d hIs]),(7,.var 31 true false [.d .bool,.d hIs,.d hIs]),(8,.var 31 true false [.d .bool,.d hIs,.d hIs]),(52,.arr 31 hR false),(88,.arr 31 hR false)],[],[]⟩
abbrev Aj2:Tm:=⟨[(2,.k (.hp 2 0 0)),(3,.k (.hp 3 0 0)),(4,.k (.hp 4 0 0)),(5,.k (.hp 5 0 0)),(6,.d hI),(7,.k (.hp 7 0 0)),(8,.k (.hp 8 0 0)),(28,.d hRs),(29,.d hI),(30,.d hI)],[(2,.var 81 true false [.d .bool,.d hIs,.d hIs,.d hRs,.d hRs,.d .bool,.d hIs,.d hIs]),(3,.var 81 true false [.d .bool,.d hIs,.d hIs,.d hRs,.d hRs,.d .bool,.d hIs,.d hIs]),(4,.var 81 true false [.d .bool,.d .nil,.d .nil,.d .nil,.d .nil,.d .bool,.d .nil,.d .nil]),(5,.var 81 false false [.d .bool,.d hIs,.d hIs,.k (.hw 52),.d .nil,.d .bool,.d hIs,.d hIs]),(7,.var 31 true false [.d .bool,.d hIs,.d hIs]),(8,.var 31 true false [.d .bool,.d hIs,.d hIs]),(52,.arr 31 hR false)],[51],[]⟩
abbrev A71:Tm:=⟨[(2,.k (.hp 2 0 0)),(3,.k (.hp 3 0 0)),(4,.k (.hp 4 0 0)),(5,.k (.hp 5 0 0)),(6,.d hI),(7,.k (.hp 7 0 0)),(8,.k (.hp 8 0 0)),(28,.d hRs),(29,.d hI),(30,.d hI)],[(2,.var 81 true false [.d .bool,.d hIs,.d hIs,.d hRs,.d hRs,.d .bool,.d hIs,.d hIs]),(3,.var 81 true false [.d .bool,.d hIs,.d hIs,.d hRs,.d hRs,.d .bool,.d hIs,.d hIs]),(4,.var 81 true false [.d .bool,.d .nil,.d .nil,.d .nil,.d .nil,.d .bool,.d .nil,.d .nil]),(5,.var 81 false false [.d .bool,.d hIs,.d hIs,.k (.hw 52),.k (.hw 88),.d .bool,.d hIs,.d hIs]),(7,.var 31 true false [.d .bool,.d hIs,.d hIs]),(8,.var 31 true false [.d .bool,.d hIs,.d hIs]),(52,.arr 31 hR false),(88,.arr 31 hR false)],[51],[]⟩
abbrev Aj1:Tm:=⟨[(2,.k (.hp 2 0 0)),(3,.k (.hp 3 0 0)),(4,.k (.hp 4 0 0)),(5,.k (.hp 5 0 0)),(6,.d hI),(8,.k (.hp 8 0 0)),(9,.k (.hp 9 0 0)),(28,.d hRs),(29,.d hI),(30,.d hI)],[(2,.var 81 true false [.d .bool,.d hIs,.d hIs,.d hRs,.d hRs,.d .bool,.d hIs,.d hIs]),(3,.var 81 true false [.d .bool,.d hIs,.d hIs,.d hRs,.d hRs,.d .bool,.d hIs,.d hIs]),(4,.var 81 true false [.d .bool,.d .nil,.d .nil,.d .nil,.d .nil,.d .bool,.d .nil,.d .nil]),(5,.var 81 false false [.d .bool,.d hIs,.d hIs,.k (.hw 52),.d .nil,.d .bool,.d hIs,.d hIs]),(8,.var 31 true false [.d .bool,.d hIs,.d hIs]),(9,.var 31 true false [.d .bool,.d hIs,.d hIs]),(52,.arr 31 hR false)],[7],[]⟩
abbrev A70:Tm:=⟨[(2,.k (.hp 2 0 0)),(3,.k (.hp 3 0 0)),(4,.k (.hp 4 0 0)),(5,.k (.hp 5 0 0)),(6,.d hI),(8,.k (.hp 8 0 0)),(9,.k (.hp 9 0 0)),(28,.d hRs),(29,.d hI),(30,.d hI)],[(2,.var 81 true false [.d .bool,.d hIs,.d hIs,.d hRs,.d hRs,.d .bool,.d hIs,.d hIs]),(3,.var 81 true false [.d .bool,.d hIs,.d hIs,.d hRs,.d hRs,.d .bool,.d hIs,.d hIs]),(4,.var 81 true false [.d .bool,.d .nil,.d .nil,.d .nil,.d .nil,.d .bool,.d .nil,.d .nil]),(5,.var 81 false false [.d .bool,.d hIs,.d hIs,.k (.hw 52),.k (.hw 88),.d .bool,.d hIs,.d hIs]),(8,.var 31 true false [.d .bool,.d hIs,.d hIs]),(9,.var 31 true false [.d .bool,.d hIs,.d hIs]),(52,.arr 31 hR false),(88,.arr 31 hR false)],[7],[]⟩
def Mi (n:Nat) (a0 a1:Rq × LR × LR × Rq):Option (Rq × LR × LR × Rq) :=
 ob (f178 n a0.1 a1.1) λa =>
 ob (f178 n a0.2.2.2 a1.1) λe =>
 ob (f178 n a0.1 a1.2.2.2) λf =>
 ob (f161 n e f) λb =>
 bif (decide (0<(a0.2.1.length:Int))) then
  gd (decide (0<(a0.2.1.length:Int))) (
   let c:=a0.2.1.getD 0 (false,[],[])
   gd (decide (0<(a1.2.1.length:Int))) (
    let d:=a1.2.1.getD 0 (false,[],[])
    ob (f178 n c a1.1) λg =>
    ob (f178 n a0.1 d) λh =>
    ob (f161 n g h) λi =>
    gd ((!a0.2.2.1.isEmpty)) (
     gd (decide (0<(a0.2.2.1.length:Int))) (
      let j:=a0.2.2.1.getD 0 (false,[],[])
      ob (f178 n j a1.1) λk =>
      ob (f178 n c a1.2.2.2) λl =>
      ob (f161 n k l) λm =>
      ob (f178 n a0.2.2.2 d) λo =>
      ob (f161 n m o) λp =>
      gd (decide (0<(a1.2.2.1.length:Int))) (
       let q:=a1.2.2.1.getD 0 (false,[],[])
       ob (f178 n a0.1 q) λr =>
       ob (f161 n p r) λs =>
       B5c n n a0.2.1 (a0.2.1.length:Int) 1 a0.1.1 a0.1.2.1 a0.1.2.2 a0.2.1 a0.2.2.1 a0.2.2.2.1 a0.2.2.2.2.1 a0.2.2.2.2.2 a1.1.1 a1.1.2.1 a1.1.2.2 a1.2.1 a1.2.2.1 a1.2.2.2.1 a1.2.2.2.2.1 a1.2.2.2.2.2 false false a.1 a.2.1 a.2.2 b.1 b.2.1 b.2.2 [i] [s]
        (λd1 d2 t u v w x y z d0=>(
         some ((t,u,v),z,d0,w,x,y))))))))
 else
  some (a,[],[],b)
def Aad (n:Nat):Ent:=⟨194,[(.st (.pair hR (.pair hRs (.pair hRs hR)))),(.st (.pair hR (.pair hRs (.pair hRs hR))))],[(.st (.pair hR (.pair hRs (.pair hRs hR))))],λx=>Mi n x.1 x.2⟩
def Aae (α:Type) (n:Nat):D3 α:={ reg:=[(1,⟨0,[],[(4,{ ent:=some (Aa n) }),(9,{ ent:=some (Aa n) }),(14,{ ent:=some (Aa n) }),(15,{ ent:=some (Ag n) })]⟩),(6,⟨0,[],[(5,{ ent:=some (Aa n) }),(9,{ ent:=some (Aa n) }),(10,{ ent:=some (Ag n) }),(11,{ sh:=some hR }),(12,{ sh:=some hR })]⟩),(8,⟨0,[],[(7,{ ent:=some (Aa n) }),(11,{ ent:=some (Aa n) }),(12,{ ent:=some (Ag n) })]⟩),(9,⟨0,[],[(6,{ ent:=some (Aa n) }),(7,{ ent:=some (Ag n) }),(15,{ ent:=some (Aa n) }),(16,{ ent:=some (Ag n) }),(17,{ sh:=some hR }),(18,{ sh:=some hR })]⟩)],join:=[],loop:=[(3,⟨Po,Xq,A5 (Xp n) n⟩)],any:=[(1,Aj4),(6,Aj3),(6,A72),(8,Aj2),(8,A71),(9,Aj1),(9,A70)] }
set_option maxHeartbeats 8000000 in
theorem B5d (n:Nat):Al TT ⟨92,[]⟩ [(4,{ ent:=some (Aa n) }),(9,{ ent:=some (Aa n) }),(14,{ ent:=some (Aa n) }),(15,{ ent:=some (Ag n) })] Aj4 (A6 ((A0 Tryz.f194).at [1,0])):=by
 refine ⟨by kernel_rfl,λw q hq=>?_⟩
 have e:WT [(4,{ ent:=some (Aa n) }),(9,{ ent:=some (Aa n) }),(14,{ ent:=some (Aa n) }),(15,{ ent:=some (Ag n) })] (A7 (A6 ((A0 Tryz.f194).at [1,0])).toList) q=(∃ (y0:HL (Aa n).rs) (q0:List (Nat × RV)),q=(4,.sv (Ai (Aa n).rs y0))::q0 /\ ∃ (y1:HL (Aa n).rs) (q1:List (Nat × RV)),q0=(9,.sv (Ai (Aa n).rs y1))::q1 /\ ∃ (y2:HL (Aa n).rs) (q2:List (Nat × RV)),q1=(14,.sv (Ai (Aa n).rs y2))::q2 /\ ∃ (y3:HL (Ag n).rs) (q3:List (Nat × RV)),q2=(15,.sv (Ai (Ag n).rs y3))::q3/\q3=[]):=by kernel_rfl
 rw [e] at hq;obtain ⟨y0,q0,rfl,y1,q1,rfl,y2,q2,rfl,y3,q3,rfl,rfl⟩:=hq
 all_goals exact .inr ⟨18,by kernel_rfl,by kernel_rfl,by kernel_rfl⟩
set_option maxHeartbeats 8000000 in
theorem Aj7 (n:Nat):Al TT ⟨92,[]⟩ [(5,{ ent:=some (Aa n) }),(9,{ ent:=some (Aa n) }),(10,{ ent:=some (Ag n) }),(11,{ sh:=some hR }),(12,{ sh:=some hR })] Aj3 (A6 ((A0 Tryz.f194).at [1,1,0,1,0,0,1,1,0,0,1,1,0])):=by
 refine ⟨by kernel_rfl,λw q hq=>?_⟩
 have e:WT [(5,{ ent:=some (Aa n) }),(9,{ ent:=some (Aa n) }),(10,{ ent:=some (Ag n) }),(11,{ sh:=some hR }),(12,{ sh:=some hR })] (A7 (A6 ((A0 Tryz.f194).at [1,1,0,1,0,0,1,1,0,0,1,1,0])).toList) q=(∃ (y0:HL (Aa n).rs) (q0:List (Nat × RV)),q=(5,.sv (Ai (Aa n).rs y0))::q0 /\ ∃ (y1:HL (Aa n).rs) (q1:List (Nat × RV)),q0=(9,.sv (Ai (Aa n).rs y1))::q1 /\ ∃ (y2:HL (Ag n).rs) (q2:List (Nat × RV)),q1=(10,.sv (Ai (Ag n).rs y2))::q2/\q2=[]):=by kernel_rfl
 rw [e] at hq;obtain ⟨y0,q0,rfl,y1,q1,rfl,y2,q2,rfl,rfl⟩:=hq
 all_goals exact .inr ⟨12,by kernel_rfl,by kernel_rfl,by kernel_rfl⟩
set_option maxHeartbeats 8000000 in
theorem A75 (n:Nat):Al TT ⟨92,[]⟩ [(5,{ ent:=some (Aa n) }),(9,{ ent:=some (Aa n) }),(10,{ ent:=some (Ag n) }),(11,{ sh:=some hR }),(12,{ sh:=some hR })] A72 (A6 ((A0 Tryz.f194).at [1,1,0,1,0,0,1,1,0,0,1,1,0])):=by
 refine ⟨by kernel_rfl,λw q hq=>?_⟩
 have e:WT [(5,{ ent:=some (Aa n) }),(9,{ ent:=some (Aa n) }),(10,{ ent:=some (Ag n) }),(11,{ sh:=some hR }),(12,{ sh:=some hR })] (A7 (A6 ((A0 Tryz.f194).at [1,1,0,1,0,0,1,1,0,0,1,1,0])).toList) q=(∃ (y0:HL (Aa n).rs) (q0:List (Nat × RV)),q=(5,.sv (Ai (Aa n).rs y0))::q0 /\ ∃ (y1:HL (Aa n).rs) (q1:List (Nat × RV)),q0=(9,.sv (Ai (Aa n).rs y1))::q1 /\ ∃ (y2:HL (Ag n).rs) (q2:List (Nat × RV)),q1=(10,.sv (Ai (Ag n).rs y2))::q2/\q2=[]):=by kernel_rfl
 rw [e] at hq;obtain ⟨y0,q0,rfl,y1,q1,rfl,y2,q2,rfl,rfl⟩:=hq
 all_goals exact .inr ⟨12,by kernel_rfl,by kernel_rfl,by kernel_rfl⟩
set_option maxHeartbeats 8000000 in
theorem Aj6 (n:Nat):Al TT ⟨92,[]⟩ [(7,{ ent:=some (Aa n) }),(11,{ ent:=some (Aa n) }),(12,{ ent:=some (Ag n) })] Aj2 (A6 ((A0 Tryz.f194).at [1,1,0,1,0,0,1,1,0,0,1,1,1,1,0,0])):=by
 refine ⟨by kernel_rfl,λw q hq=>?_⟩
 have e:WT [(7,{ ent:=some (Aa n) }),(11,{ ent:=some (Aa n) }),(12,{ ent:=some (Ag n) })] (A7 (A6 ((A0 Tryz.f194).at [1,1,0,1,0,0,1,1,0,0,1,1,1,1,0,0])).toList) q=(∃ (y0:HL (Aa n).rs) (q0:List (Nat × RV)),q=(7,.sv (Ai (Aa n).rs y0))::q0 /\ ∃ (y1:HL (Aa n).rs) (q1:List (Nat × RV)),q0=(11,.sv (Ai (Aa n).rs y1))::q1 /\ ∃ (y2:HL (Ag n).rs) (q2:List (Nat × RV)),q1=(12,.sv (Ai (Ag n).rs y2))::q2/\q2=[]):=by kernel_rfl
 rw [e] at hq;obtain ⟨y0,q0,rfl,y1,q1,rfl,y2,q2,rfl,rfl⟩:=hq
 all_goals exact .inr ⟨14,by kernel_rfl,by kernel_rfl,by kernel_rfl⟩
set_option maxHeartbeats 8000000 in
theorem A74 (n:Nat):Al TT ⟨92,[]⟩ [(7,{ ent:=some (Aa n) }),(11,{ ent:=some (Aa n) }),(12,{ ent:=some (Ag n) })] A71 (A6 ((A0 Tryz.f194).at [1,1,0,1,0,0,1,1,0,0,1,1,1,1,0,0])):=by
 refine ⟨by kernel_rfl,λw q hq=>?_⟩
 have e:WT [(7,{ ent:=some (Aa n) }),(11,{ ent:=some (Aa n) }),(12,{ ent:=some (Ag n) })] (A7 (A6 ((A0 Tryz.f194).at [1,1,0,1,0,0,1,1,0,0,1,1,1,1,0,0])).toList) q=(∃ (y0:HL (Aa n).rs) (q0:List (Nat × RV)),q=(7,.sv (Ai (Aa n).rs y0))::q0 /\ ∃ (y1:HL (Aa n).rs) (q1:List (Nat × RV)),q0=(11,.sv (Ai (Aa n).rs y1))::q1 /\ ∃ (y2:HL (Ag n).rs) (q2:List (Nat × RV)),q1=(12,.sv (Ai (Ag n).rs y2))::q2/\q2=[]):=by kernel_rfl
 rw [e] at hq;obtain ⟨y0,q0,rfl,y1,q1,rfl,y2,q2,rfl,rfl⟩:=hq
 all_goals exact .inr ⟨14,by kernel_rfl,by kernel_rfl,by kernel_rfl⟩
set_option maxHeartbeats 8000000 in
theorem Aj5 (n:Nat):Al TT ⟨92,[]⟩ [(6,{ ent:=some (Aa n) }),(7,{ ent:=some (Ag n) }),(15,{ ent:=some (Aa n) }),(16,{ ent:=some (Ag n) }),(17,{ sh:=some hR }),(18,{ sh:=some hR })] Aj1 (A6 ((A0 Tryz.f194).at [1,1,0,1,0,0,1,1,0,0,1,1,1,1,0,1])):=by
 refine ⟨by kernel_rfl,λw q hq=>?_⟩
 have e:WT [(6,{ ent:=some (Aa n) }),(7,{ ent:=some (Ag n) }),(15,{ ent:=some (Aa n) }),(16,{ ent:=some (Ag n) }),(17,{ sh:=some hR }),(18,{ sh:=some hR })] (A7 (A6 ((A0 Tryz.f194).at [1,1,0,1,0,0,1,1,0,0,1,1,1,1,0,1])).toList) q=(∃ (y0:HL (Aa n).rs) (q0:List (Nat × RV)),q=(6,.sv (Ai (Aa n).rs y0))::q0 /\ ∃ (y1:HL (Ag n).rs) (q1:List (Nat × RV)),q0=(7,.sv (Ai (Ag n).rs y1))::q1 /\ ∃ (y2:HL (Aa n).rs) (q2:List (Nat × RV)),q1=(15,.sv (Ai (Aa n).rs y2))::q2 /\ ∃ (y3:HL (Ag n).rs) (q3:List (Nat × RV)),q2=(16,.sv (Ai (Ag n).rs y3))::q3/\q3=[]):=by kernel_rfl
 rw [e] at hq;obtain ⟨y0,q0,rfl,y1,q1,rfl,y2,q2,rfl,y3,q3,rfl,rfl⟩:=hq
 all_goals exact .inr ⟨18,by kernel_rfl,by kernel_rfl,by kernel_rfl⟩
set_option maxHeartbeats 8000000 in
theorem A73 (n:Nat):Al TT ⟨92,[]⟩ [(6,{ ent:=some (Aa n) }),(7,{ ent:=some (Ag n) }),(15,{ ent:=some (Aa n) }),(16,{ ent:=some (Ag n) }),(17,{ sh:=some hR }),(18,{ sh:=some hR })] A70 (A6 ((A0 Tryz.f194).at [1,1,0,1,0,0,1,1,0,0,1,1,1,1,0,1])):=by
 refine ⟨by kernel_rfl,λw q hq=>?_⟩
 have e:WT [(6,{ ent:=some (Aa n) }),(7,{ ent:=some (Ag n) }),(15,{ ent:=some (Aa n) }),(16,{ ent:=some (Ag n) }),(17,{ sh:=some hR }),(18,{ sh:=some hR })] (A7 (A6 ((A0 Tryz.f194).at [1,1,0,1,0,0,1,1,0,0,1,1,1,1,0,1])).toList) q=(∃ (y0:HL (Aa n).rs) (q0:List (Nat × RV)),q=(6,.sv (Ai (Aa n).rs y0))::q0 /\ ∃ (y1:HL (Ag n).rs) (q1:List (Nat × RV)),q0=(7,.sv (Ai (Ag n).rs y1))::q1 /\ ∃ (y2:HL (Aa n).rs) (q2:List (Nat × RV)),q1=(15,.sv (Ai (Aa n).rs y2))::q2 /\ ∃ (y3:HL (Ag n).rs) (q3:List (Nat × RV)),q2=(16,.sv (Ai (Ag n).rs y3))::q3/\q3=[]):=by kernel_rfl
 rw [e] at hq;obtain ⟨y0,q0,rfl,y1,q1,rfl,y2,q2,rfl,y3,q3,rfl,rfl⟩:=hq
 all_goals exact .inr ⟨18,by kernel_rfl,by kernel_rfl,by kernel_rfl⟩
theorem A6z (α:Type) (n:Nat):Ao PP (Ah (Aae α n).reg):=⟨Ax n,Ax n,Ax n,Co n,Ax n,Ax n,Co n,Ax n,Ax n,Co n,Ax n,Co n,Ax n,Co n,trivial⟩
theorem At0 (α:Type) (n:Nat):D3.OK PP TT ⟨92,[]⟩ (Aae α n) ((A0 Tryz.f194).at [1,1,0,1,0,0]) :=
 D3.OK.mk3a (A6z α n) (show Ab ((A0 Tryz.f194).at [1,1,0,1,0,0])=[] by kernel_rfl) trivial (show Au ((A0 Tryz.f194).at [1,1,0,1,0,0])=[(6,A6 ((A0 Tryz.f194).at [1,1,0,1,0,0,1,1,0,0,1,1,0])),(8,A6 ((A0 Tryz.f194).at [1,1,0,1,0,0,1,1,0,0,1,1,1,1,0,0])),(9,A6 ((A0 Tryz.f194).at [1,1,0,1,0,0,1,1,0,0,1,1,1,1,0,1]))] by kernel_rfl) ⟨⟨Aj7 n,A75 n,trivial⟩,⟨Aj6 n,A74 n,trivial⟩,⟨Aj5 n,A73 n,trivial⟩,trivial⟩
theorem Amj (α:Type) (n:Nat):LO.Sound (α:=α) PP ⟨92,[]⟩ ⟨Po,Xq,A5 (Xp n) n⟩ (.loop ((A0 Tryz.f194).at [1,1,0,1,0,0])):=lk (At0 α n) n
theorem Bax (α:Type) (n:Nat):D3.OK PP TT ⟨92,[]⟩ (Aae α n) (A0 Tryz.f194) :=
 D3.OK.mk3a (A6z α n) (show Ab (A0 Tryz.f194)=[(3,(.loop ((A0 Tryz.f194).at [1,1,0,1,0,0])))] by kernel_rfl) ⟨Ad rfl (Amj α n),trivial⟩ (show Au (A0 Tryz.f194)=[(1,A6 ((A0 Tryz.f194).at [1,0])),(6,A6 ((A0 Tryz.f194).at [1,1,0,1,0,0,1,1,0,0,1,1,0])),(8,A6 ((A0 Tryz.f194).at [1,1,0,1,0,0,1,1,0,0,1,1,1,1,0,0])),(9,A6 ((A0 Tryz.f194).at [1,1,0,1,0,0,1,1,0,0,1,1,1,1,0,1]))] by kernel_rfl) ⟨⟨B5d n,trivial⟩,⟨Aj7 n,A75 n,trivial⟩,⟨Aj6 n,A74 n,trivial⟩,⟨Aj5 n,A73 n,trivial⟩,trivial⟩
theorem Aj0 (n:Nat):(Aad n).Sound PP:=fk (fn:=Tryz.f194) (Bax _ n)

def f233 (n:Nat) (a0:Int) (a1:Rq) (a2:Bool × LI × LI × LR × LR × Bool × LI × LI) (a3:Rq):Option Rq :=
 gd (decide (0<=a0)&&decide (a0<(a2.2.2.2.1.length:Int))) (
  let a:=a2.2.2.2.1.getD a0.toNat (false,[],[])
  ob (f178 n a1 a) λb =>
  ob (f178 n b a2.2.2.2.2.2) λc =>
  gd (decide (0<=a0)&&decide (a0<(a2.2.2.2.2.1.length:Int))) (
   let d:=a2.2.2.2.2.1.getD a0.toNat (false,[],[])
   ob (f178 n a3 d) λe =>
   ob (f161 n c e) λf =>
   some f))
def Hc (n:Nat):Ent:=⟨233,[hI,(.ref hR),(.ref (.st (.pair .bool (.pair hIs (.pair hIs (.pair hRs (.pair hRs (.pair .bool (.pair hIs hIs))))))))),(.ref hR)],[hR],λx=>f233 n x.1 x.2.1 x.2.2.1 x.2.2.2⟩
def Bf5 (α:Type) (n:Nat):D3 α:={ reg:=[(1,⟨16,[],[(6,{ ent:=some (Aa n) }),(9,{ ent:=some (Aa n) }),(16,{ ent:=some (Aa n) }),(17,{ ent:=some (Ag n) })]⟩)],join:=[],loop:=[] }
theorem B9x (n:Nat):(Hc n).Sound PP:=Ay (fn:=Tryz.f233) (D:=Bf5 _ n) ⟨Ax n,Ax n,Ax n,Co n,trivial⟩

def A0n {α:Type} (n:Nat) (g:Rq) (b:Rq × (Bool × LI × LI × LR × LR × Bool × LI × LI) × Rq) (c:LR) (h a:Int) (s:Bool) (t u:LI) (v i:LR) (w:Bool) (x y:LI) (j k l:Bool) (m o:LI) (p:Bool) (q r:LI) (d e:LR) (f:Rq->(Rq × (Bool × LI × LI × LR × LR × Bool × LI × LI) × Rq)->LR->Int->Int->Bool->LI->LI->LR->LR->Bool->LI->LI->Bool->Bool->Bool->LI->LI->Bool->LI->LI->LR->LR->Option α) (k0:Bool->Bool->Bool->LI->LI->Bool->LI->LI->LR->LR->Option α):Option α :=
 bif (decide (a<h)) then
  gd (decide (0<=a)&&decide (a<(c.length:Int))) (
   let z:=c.getD a.toNat (false,[],[])
   ob (f232 n z g) λd0 =>
   gd (decide ((d.length+1)*56<=140737488355328)) (
    gd ((!i.isEmpty)) (
     ob (f233 n a b.1 b.2.1 b.2.2) λd1 =>
     gd (decide ((e.length+1)*56<=140737488355328)) (
      f g b c h (W (a+1)) s t u v i w x y j k l m o p q r (d++[d0]) (e++[d1])))))
 else
  k0 j k l m o p q r d e
abbrev Eo:Tm:=⟨[(3,.d (.clo 232 (.ref hR))),(4,.d (.clo 233 (.pair (.ref hR) (.pair (.ref (.st (.pair .bool (.pair hIs (.pair hIs (.pair hRs (.pair hRs (.pair .bool (.pair hIs hIs))))))))) (.ref hR))))),(5,.k (.hp 5 0 0)),(10,.k (.hp 10 0 0)),(11,.k (.hp 11 0 0)),(18,.d hRs),(19,.d hI),(20,.d hI)],[(5,.var 81 true false [.d .bool,.d hIs,.d hIs,.d hRs,.d hRs,.d .bool,.d hIs,.d hIs]),(10,.var 81 true false [.d .bool,.d .nil,.d .nil,.d .nil,.d .nil,.d .bool,.d .nil,.d .nil]),(11,.var 81 false false [.d .bool,.d hIs,.d hIs,.k (.hw 31),.k (.hw 42),.d .bool,.d hIs,.d hIs]),(31,.arr 31 hR false),(42,.arr 31 hR false)],[41],[]⟩
abbrev Xa:Tm:=⟨[(10,.k (.hp 10 0 0)),(11,.k (.hp 11 0 0))],[(10,.var 81 true false [.d .bool,.d .nil,.d .nil,.d .nil,.d .nil,.d .bool,.d .nil,.d .nil]),(11,.var 81 false false [.d .bool,.d hIs,.d hIs,.k (.hw 31),.k (.hw 42),.d .bool,.d hIs,.d hIs]),(31,.arr 31 hR false),(42,.arr 31 hR false)],[5],[]⟩
abbrev Gw:List (Exit × Tm):=[(.exit 0,Xa)]
def Gv {α:Type} (n:Nat) (v:Eo.den) (f:Eo.den->Option α) (ks:KS α Gw):Option α:=A0n n v.1.1 v.1.2.1 v.1.2.2.2.2.2.1 v.1.2.2.2.2.2.2.1 v.1.2.2.2.2.2.2.2.1 v.2.1.1 v.2.1.2.1 v.2.1.2.2.1 v.2.1.2.2.2.1 v.2.1.2.2.2.2.1 v.2.1.2.2.2.2.2.1 v.2.1.2.2.2.2.2.2.1 v.2.1.2.2.2.2.2.2.2.1 v.2.2.1.1 v.2.2.1.2.2.2.2.2.1 v.2.2.2.1.1 v.2.2.2.1.2.1 v.2.2.2.1.2.2.1 v.2.2.2.1.2.2.2.2.2.1 v.2.2.2.1.2.2.2.2.2.2.1 v.2.2.2.1.2.2.2.2.2.2.2.1 v.2.2.2.2.1 v.2.2.2.2.2.1 (λa b c d e g h i j k l m o p q r s t u w x y z=>f ((a,b,(),(),(),c,d,e,()),((g,h,i,j,k,l,m,o,()),(p,(),(),(),(),q,(),(),()),(r,s,t,(),(),u,w,x,()),y,z,()))) (λw0 w1 w2 w3 w4 w5 w6 w7 w8 w9=>ks.1 (((),(),()),((w0,(),(),(),(),w1,(),(),()),(w2,w3,w4,(),(),w5,w6,w7,()),w8,w9,())))
def A2o {α:Type} (n m:Nat) (a:Rq) (b:Rq × (Bool × LI × LI × LR × LR × Bool × LI × LI) × Rq) (c:LR) (d e:Int) (f:Bool) (g h:LI) (i j:LR) (k:Bool) (l o:LI) (p q r:Bool) (s t:LI) (u:Bool) (v x:LI) (y z:LR) (k0:Bool->Bool->Bool->LI->LI->Bool->LI->LI->LR->LR->Option α):Option α:=A5 (Gv n) m ((a,b,(),(),(),c,d,e,()),((f,g,h,i,j,k,l,o,()),(p,(),(),(),(),q,(),(),()),(r,s,t,(),(),u,v,x,()),y,z,())) (λw=>k0 w.2.1.1 w.2.1.2.2.2.2.2.1 w.2.2.1.1 w.2.2.1.2.1 w.2.2.1.2.2.1 w.2.2.1.2.2.2.2.2.1 w.2.2.1.2.2.2.2.2.2.1 w.2.2.1.2.2.2.2.2.2.2.1 w.2.2.2.1 w.2.2.2.2.1,())
abbrev O1:Tm:=⟨[(3,.d (.clo 232 (.ref hR))),(4,.d (.clo 233 (.pair (.ref hR) (.pair (.ref (.st (.pair .bool (.pair hIs (.pair hIs (.pair hRs (.pair hRs (.pair .bool (.pair hIs hIs))))))))) (.ref hR))))),(5,.k (.hp 5 0 0)),(10,.k (.hp 10 0 0)),(11,.k (.hp 11 0 0)),(12,.d hI),(13,.k (.hp 13 0 0)),(18,.d hRs),(19,.d hI),(20,.d hI)],[(5,.var 81 true false [.d .bool,.d hIs,.d hIs,.d hRs,.d hRs,.d .bool,.d hIs,.d hIs]),(10,.var 81 true false [.d .bool,.d .nil,.d .nil,.d .nil,.d .nil,.d .bool,.d .nil,.d .nil]),(11,.var 81 true false [.d .bool,.d hIs,.d hIs,.d .nil,.d .nil,.d .bool,.d hIs,.d hIs]),(13,.var 31 true false [.d .bool,.d hIs,.d hIs])],[6,7],[]⟩
abbrev L6:Tm:=⟨[(3,.d (.clo 232 (.ref hR))),(4,.d (.clo 233 (.pair (.ref hR) (.pair (.ref (.st (.pair .bool (.pair hIs (.pair hIs (.pair hRs (.pair hRs (.pair .bool (.pair hIs hIs))))))))) (.ref hR))))),(5,.k (.hp 5 0 0)),(10,.k (.hp 10 0 0)),(11,.k (.hp 11 0 0)),(12,.d hI),(13,.k (.hp 13 0 0)),(18,.d hRs),(19,.d hI),(20,.d hI)],[(5,.var 81 true false [.d .bool,.d hIs,.d hIs,.d hRs,.d hRs,.d .bool,.d hIs,.d hIs]),(10,.var 81 true false [.d .bool,.d .nil,.d .nil,.d .nil,.d .nil,.d .bool,.d .nil,.d .nil]),(11,.var 81 false false [.d .bool,.d hIs,.d hIs,.k (.hw 31),.k (.hw 42),.d .bool,.d hIs,.d hIs]),(13,.var 31 true false [.d .bool,.d hIs,.d hIs]),(31,.arr 31 hR false),(42,.arr 31 hR false)],[],[]⟩
abbrev O0:Tm:=⟨[(3,.d (.clo 232 (.ref hR))),(4,.d (.clo 233 (.pair (.ref hR) (.pair (.ref (.st (.pair .bool (.pair hIs (.pair hIs (.pair hRs (.pair hRs (.pair .bool (.pair hIs hIs))))))))) (.ref hR))))),(5,.k (.hp 5 0 0)),(10,.k (.hp 10 0 0)),(11,.k (.hp 11 0 0)),(12,.d hI),(18,.d hRs),(19,.d hI),(20,.d hI)],[(5,.var 81 true false [.d .bool,.d hIs,.d hIs,.d hRs,.d hRs,.d .bool,.d hIs,.d hIs]),(10,.var 81 true false [.d .bool,.d .nil,.d .nil,.d .nil,.d .nil,.d .bool,.d .nil,.d .nil]),(11,.var 81 false false [.d .bool,.d hIs,.d hIs,.k (.hw 31),.d .nil,.d .bool,.d hIs,.d hIs]),(31,.arr 31 hR false)],[13,30],[]⟩
abbrev L5:Tm:=⟨[(3,.d (.clo 232 (.ref hR))),(4,.d (.clo 233 (.pair (.ref hR) (.pair (.ref (.st (.pair .bool (.pair hIs (.pair hIs (.pair hRs (.pair hRs (.pair .bool (.pair hIs hIs))))))))) (.ref hR))))),(5,.k (.hp 5 0 0)),(10,.k (.hp 10 0 0)),(11,.k (.hp 11 0 0)),(12,.d hI),(18,.d hRs),(19,.d hI),(20,.d hI)],[(5,.var 81 true false [.d .bool,.d hIs,.d hIs,.d hRs,.d hRs,.d .bool,.d hIs,.d hIs]),(10,.var 81 true false [.d .bool,.d .nil,.d .nil,.d .nil,.d .nil,.d .bool,.d .nil,.d .nil]),(11,.var 81 false false [.d .bool,.d hIs,.d hIs,.k (.hw 31),.k (.hw 42),.d .bool,.d hIs,.d hIs]),(31,.arr 31 hR false),(42,.arr 31 hR false)],[13,30],[]⟩
def Vl (n:Nat) (a0:Rq × LR × LR × Rq) (a1 a2 a3:Rq) (a4:Rq × (Bool × LI × LI × LR × LR × Bool × LI × LI) × Rq):Option (Rq × LR × LR × Rq) :=
 bif (decide (0<(a0.2.1.length:Int))) then
  gd (decide (0<(a0.2.1.length:Int))) (
   let a:=a0.2.1.getD 0 (false,[],[])
   ob (f232 n a a3) λb =>
   gd ((!a0.2.2.1.isEmpty)) (
    ob (f233 n 0 a4.1 a4.2.1 a4.2.2) λc =>
    A2o n n a3 a4 a0.2.1 (a0.2.1.length:Int) 1 a0.1.1 a0.1.2.1 a0.1.2.2 a0.2.1 a0.2.2.1 a0.2.2.2.1 a0.2.2.2.2.1 a0.2.2.2.2.2 false false a1.1 a1.2.1 a1.2.2 a2.1 a2.2.1 a2.2.2 [b] [c]
     (λl m d e f g h i j k=>(
      some ((d,e,f),j,k,g,h,i)))))
 else
  some (a1,[],[],a2)
def D8 (n:Nat):Ent:=⟨220,[(.st (.pair hR (.pair hRs (.pair hRs hR)))),hR,hR,(.clo 232 (.ref hR)),(.clo 233 (.pair (.ref hR) (.pair (.ref (.st (.pair .bool (.pair hIs (.pair hIs (.pair hRs (.pair hRs (.pair .bool (.pair hIs hIs))))))))) (.ref hR))))],[(.st (.pair hR (.pair hRs (.pair hRs hR))))],λx=>Vl n x.1 x.2.1 x.2.2.1 x.2.2.2.1 x.2.2.2.2⟩
def Iz (α:Type) (n:Nat):D3 α:={ reg:=[(5,⟨0,[],[(4,{ ent:=some (Cf n) }),(5,{ sh:=some hR }),(6,{ sh:=some hR })]⟩),(7,⟨0,[],[(4,{ ent:=some (Hc n) }),(5,{ sh:=some hR }),(6,{ sh:=some hR })]⟩)],join:=[],loop:=[(3,⟨Eo,Gw,A5 (Gv n) n⟩)],any:=[(5,O1),(5,L6),(7,O0),(7,L5)] }
set_option maxHeartbeats 8000000 in
theorem O3 (n:Nat):Al TT ⟨46,[]⟩ [(4,{ ent:=some (Cf n) }),(5,{ sh:=some hR }),(6,{ sh:=some hR })] O1 (A6 ((A0 Tryz.f220).at [1,1,0,1,0,0,1,1,0,0,1,0])):=by
 refine ⟨by kernel_rfl,λw q hq=>?_⟩
 have e:WT [(4,{ ent:=some (Cf n) }),(5,{ sh:=some hR }),(6,{ sh:=some hR })] (A7 (A6 ((A0 Tryz.f220).at [1,1,0,1,0,0,1,1,0,0,1,0])).toList) q=(∃ (y0:HL (Cf n).rs) (q0:List (Nat × RV)),q=(4,.sv (Ai (Cf n).rs y0))::q0/\q0=[]):=by kernel_rfl
 rw [e] at hq;obtain ⟨y0,q0,rfl,rfl⟩:=hq
 all_goals exact .inr ⟨6,by kernel_rfl,by kernel_rfl,by kernel_rfl⟩
set_option maxHeartbeats 8000000 in
theorem L8 (n:Nat):Al TT ⟨46,[]⟩ [(4,{ ent:=some (Cf n) }),(5,{ sh:=some hR }),(6,{ sh:=some hR })] L6 (A6 ((A0 Tryz.f220).at [1,1,0,1,0,0,1,1,0,0,1,0])):=by
 refine ⟨by kernel_rfl,λw q hq=>?_⟩
 have e:WT [(4,{ ent:=some (Cf n) }),(5,{ sh:=some hR }),(6,{ sh:=some hR })] (A7 (A6 ((A0 Tryz.f220).at [1,1,0,1,0,0,1,1,0,0,1,0])).toList) q=(∃ (y0:HL (Cf n).rs) (q0:List (Nat × RV)),q=(4,.sv (Ai (Cf n).rs y0))::q0/\q0=[]):=by kernel_rfl
 rw [e] at hq;obtain ⟨y0,q0,rfl,rfl⟩:=hq
 all_goals exact .inr ⟨6,by kernel_rfl,by kernel_rfl,by kernel_rfl⟩
set_option maxHeartbeats 8000000 in
theorem O2 (n:Nat):Al TT ⟨46,[]⟩ [(4,{ ent:=some (Hc n) }),(5,{ sh:=some hR }),(6,{ sh:=some hR })] O0 (A6 ((A0 Tryz.f220).at [1,1,0,1,0,0,1,1,0,0,1,1,1,0])):=by
 refine ⟨by kernel_rfl,λw q hq=>?_⟩
 have e:WT [(4,{ ent:=some (Hc n) }),(5,{ sh:=some hR }),(6,{ sh:=some hR })] (A7 (A6 ((A0 Tryz.f220).at [1,1,0,1,0,0,1,1,0,0,1,1,1,0])).toList) q=(∃ (y0:HL (Hc n).rs) (q0:List (Nat × RV)),q=(4,.sv (Ai (Hc n).rs y0))::q0/\q0=[]):=by kernel_rfl
 rw [e] at hq;obtain ⟨y0,q0,rfl,rfl⟩:=hq
 all_goals exact .inr ⟨6,by kernel_rfl,by kernel_rfl,by kernel_rfl⟩
set_option maxHeartbeats 8000000 in
theorem L7 (n:Nat):Al TT ⟨46,[]⟩ [(4,{ ent:=some (Hc n) }),(5,{ sh:=some hR }),(6,{ sh:=some hR })] L5 (A6 ((A0 Tryz.f220).at [1,1,0,1,0,0,1,1,0,0,1,1,1,0])):=by
 refine ⟨by kernel_rfl,λw q hq=>?_⟩
 have e:WT [(4,{ ent:=some (Hc n) }),(5,{ sh:=some hR }),(6,{ sh:=some hR })] (A7 (A6 ((A0 Tryz.f220).at [1,1,0,1,0,0,1,1,0,0,1,1,1,0])).toList) q=(∃ (y0:HL (Hc n).rs) (q0:List (Nat × RV)),q=(4,.sv (Ai (Hc n).rs y0))::q0/\q0=[]):=by kernel_rfl
 rw [e] at hq;obtain ⟨y0,q0,rfl,rfl⟩:=hq
 all_goals exact .inr ⟨6,by kernel_rfl,by kernel_rfl,by kernel_rfl⟩
theorem L4 (α:Type) (n:Nat):Ao PP (Ah (Iz α n).reg):=⟨Ao8 n,B9x n,trivial⟩
theorem X9 (α:Type) (n:Nat):D3.OK PP TT ⟨46,[]⟩ (Iz α n) ((A0 Tryz.f220).at [1,1,0,1,0,0]) :=
 D3.OK.mk3a (L4 α n) (show Ab ((A0 Tryz.f220).at [1,1,0,1,0,0])=[] by kernel_rfl) trivial (show Au ((A0 Tryz.f220).at [1,1,0,1,0,0])=[(5,A6 ((A0 Tryz.f220).at [1,1,0,1,0,0,1,1,0,0,1,0])),(7,A6 ((A0 Tryz.f220).at [1,1,0,1,0,0,1,1,0,0,1,1,1,0]))] by kernel_rfl) ⟨⟨O3 n,L8 n,trivial⟩,⟨O2 n,L7 n,trivial⟩,trivial⟩
theorem Vt (α:Type) (n:Nat):LO.Sound (α:=α) PP ⟨46,[]⟩ ⟨Eo,Gw,A5 (Gv n) n⟩ (.loop ((A0 Tryz.f220).at [1,1,0,1,0,0])):=lk (X9 α n) n
theorem A6p (α:Type) (n:Nat):D3.OK PP TT ⟨46,[]⟩ (Iz α n) (A0 Tryz.f220) :=
 D3.OK.mk3a (L4 α n) (show Ab (A0 Tryz.f220)=[(3,(.loop ((A0 Tryz.f220).at [1,1,0,1,0,0])))] by kernel_rfl) ⟨Ad rfl (Vt α n),trivial⟩ (show Au (A0 Tryz.f220)=[(5,A6 ((A0 Tryz.f220).at [1,1,0,1,0,0,1,1,0,0,1,0])),(7,A6 ((A0 Tryz.f220).at [1,1,0,1,0,0,1,1,0,0,1,1,1,0]))] by kernel_rfl) ⟨⟨O3 n,L8 n,trivial⟩,⟨O2 n,L7 n,trivial⟩,trivial⟩
theorem A2n (n:Nat):(D8 n).Sound PP:=fk (fn:=Tryz.f220) (A6p _ n)

abbrev Aik:Tm:=⟨[(4,.k (.hp 4 0 0)),(5,.k (.hp 5 0 0)),(6,.k (.hp 6 0 0)),(7,.k (.hp 7 0 0)),(8,.k (.hp 8 0 0))],[(4,.var 81 true false [.d .bool,.d hIs,.d hIs,.d hRs,.d hRs,.d .bool,.d hIs,.d hIs]),(5,.var 31 true false [.d .bool,.d hIs,.d hIs]),(6,.var 31 true false [.d .bool,.d hIs,.d hIs]),(7,.var 31 true false [.d .bool,.d hIs,.d hIs]),(8,.var 81 true false [.d .bool,.d .nil,.d .nil,.d .nil,.d .nil,.d .bool,.d .nil,.d .nil])],[],[]⟩
def Zp (n:Nat) (a0:Rq × LR × LR × Rq) (a1 a2 a3:Rq):Option (Rq × LR × LR × Rq) :=
 ob (f178 n a2 a0.2.2.2) λa =>
 ob (Vl n a0 a1 a a2 (a3,(a0.1.1,a0.1.2.1,a0.1.2.2,a0.2),a2)) λb =>
 some b
def Aa9 (n:Nat):Ent:=⟨224,[(.st (.pair hR (.pair hRs (.pair hRs hR)))),hR,hR,hR],[(.st (.pair hR (.pair hRs (.pair hRs hR))))],λx=>Zp n x.1 x.2.1 x.2.2.1 x.2.2.2⟩
def Aoe (α:Type) (n:Nat):D3 α:={ reg:=[(1,⟨0,[],[(5,{ ent:=some (Aa n) }),(6,{ sh:=some (.ref hR) }),(7,{ sh:=some (.pair (.ref hR) (.pair (.ref (.st (.pair .bool (.pair hIs (.pair hIs (.pair hRs (.pair hRs (.pair .bool (.pair hIs hIs))))))))) (.ref hR))) }),(8,{ ent:=some (D8 n) })]⟩)],join:=[],loop:=[],any:=[(1,Aik)] }
set_option maxHeartbeats 8000000 in
theorem B54 (n:Nat):Al TT ⟨18,[]⟩ [(5,{ ent:=some (Aa n) }),(6,{ sh:=some (.ref hR) }),(7,{ sh:=some (.pair (.ref hR) (.pair (.ref (.st (.pair .bool (.pair hIs (.pair hIs (.pair hRs (.pair hRs (.pair .bool (.pair hIs hIs))))))))) (.ref hR))) }),(8,{ ent:=some (D8 n) })] Aik (A6 ((A0 Tryz.f224).at [1,0])):=by
 refine ⟨by kernel_rfl,λw q hq=>?_⟩
 have e:WT [(5,{ ent:=some (Aa n) }),(6,{ sh:=some (.ref hR) }),(7,{ sh:=some (.pair (.ref hR) (.pair (.ref (.st (.pair .bool (.pair hIs (.pair hIs (.pair hRs (.pair hRs (.pair .bool (.pair hIs hIs))))))))) (.ref hR))) }),(8,{ ent:=some (D8 n) })] (A7 (A6 ((A0 Tryz.f224).at [1,0])).toList) q=(∃ (y0:HL (Aa n).rs) (q0:List (Nat × RV)),q=(5,.sv (Ai (Aa n).rs y0))::q0 /\ ∃ (y1:HL (D8 n).rs) (q1:List (Nat × RV)),q0=(8,.sv (Ai (D8 n).rs y1))::q1/\q1=[]):=by kernel_rfl
 rw [e] at hq;obtain ⟨y0,q0,rfl,y1,q1,rfl,rfl⟩:=hq
 all_goals exact .inl (Gs.mk (by kernel_rfl))
theorem Ash (α:Type) (n:Nat):Ao PP (Ah (Aoe α n).reg):=⟨Ax n,A2n n,trivial⟩
theorem Ba2 (α:Type) (n:Nat):D3.OK PP TT ⟨18,[]⟩ (Aoe α n) (A0 Tryz.f224) :=
 D3.OK.mk3a (Ash α n) (show Ab (A0 Tryz.f224)=[] by kernel_rfl) trivial (show Au (A0 Tryz.f224)=[(1,A6 ((A0 Tryz.f224).at [1,0]))] by kernel_rfl) ⟨⟨B54 n,trivial⟩,trivial⟩
theorem Aij (n:Nat):(Aa9 n).Sound PP:=fk (fn:=Tryz.f224) (Ba2 _ n)

abbrev Aiz:Tm:=⟨[(1,.k (.hp 1 0 0)),(2,.k (.hp 2 0 0))],[(1,.var 81 true false [.d .bool,.d hIs,.d hIs,.d hRs,.d hRs,.d .bool,.d hIs,.d hIs]),(2,.var 81 true false [.d .bool,.d .nil,.d .nil,.d .nil,.d .nil,.d .bool,.d .nil,.d .nil])],[],[]⟩
def Zx (n:Nat) (a0:Rq × LR × LR × Rq):Option (Rq × LR × LR × Rq) :=
 ob (f126 n 1) λc =>
 ob (f223 n c a0.1) λa =>
 ob (f178 n a a) λb =>
 ob (f206 n b) λd =>
 ob (f178 n b a) λe =>
 ob (f126 n 2) λf =>
 ob (f178 n e f) λg =>
 ob (Zp n a0 a d g) λh =>
 some h
def Aot (n:Nat):Ent:=⟨196,[(.st (.pair hR (.pair hRs (.pair hRs hR))))],[(.st (.pair hR (.pair hRs (.pair hRs hR))))],λx=>Zx n x⟩
def Aou (α:Type) (n:Nat):D3 α:={ reg:=[(1,⟨0,[],[(0,{ ent:=some (As n) }),(3,{ ent:=some (G4 n) })]⟩),(2,⟨0,[],[(2,{ ent:=some (Aa n) })]⟩),(3,⟨9,[],[(3,{ ent:=some (Ait n) }),(6,{ ent:=some (Aa n) }),(7,{ ent:=some (As n) }),(8,{ ent:=some (Aa n) }),(9,{ ent:=some (Aa9 n) })]⟩)],join:=[],loop:=[],any:=[(1,Aiz)] }
set_option maxHeartbeats 8000000 in
theorem B5b (n:Nat):Al TT ⟨22,[]⟩ [(0,{ ent:=some (As n) }),(3,{ ent:=some (G4 n) })] Aiz (A6 ((A0 Tryz.f196).at [1,0])):=by
 refine ⟨by kernel_rfl,λw q hq=>?_⟩
 have e:WT [(0,{ ent:=some (As n) }),(3,{ ent:=some (G4 n) })] (A7 (A6 ((A0 Tryz.f196).at [1,0])).toList) q=(∃ (y0:HL (As n).rs) (q0:List (Nat × RV)),q=(0,.sv (Ai (As n).rs y0))::q0 /\ ∃ (y1:HL (G4 n).rs) (q1:List (Nat × RV)),q0=(3,.sv (Ai (G4 n).rs y1))::q1/\q1=[]):=by kernel_rfl
 rw [e] at hq;obtain ⟨y0,q0,rfl,y1,q1,rfl,rfl⟩:=hq
 all_goals exact .inr ⟨5,by kernel_rfl,by kernel_rfl,by kernel_rfl⟩
theorem Asz (α:Type) (n:Nat):Ao PP (Ah (Aou α n).reg):=⟨B2 n,Aoh n,Ax n,Aop n,Ax n,B2 n,Ax n,Aij n,trivial⟩
theorem Bau (α:Type) (n:Nat):D3.OK PP TT ⟨22,[]⟩ (Aou α n) (A0 Tryz.f196) :=
 D3.OK.mk3a (Asz α n) (show Ab (A0 Tryz.f196)=[] by kernel_rfl) trivial (show Au (A0 Tryz.f196)=[(1,A6 ((A0 Tryz.f196).at [1,0])),(3,A6 ((A0 Tryz.f196).at [1,1,1,0]))] by kernel_rfl) ⟨⟨B5b n,trivial⟩,trivial,trivial⟩
theorem B5a (n:Nat):(Aot n).Sound PP:=fk (fn:=Tryz.f196) (Bau _ n)

abbrev Ais:Tm:=⟨[(4,.k (.hp 4 0 0)),(5,.k (.hp 5 0 0)),(6,.k (.hp 6 0 0)),(7,.k (.hp 7 0 0))],[(4,.var 31 true false [.d .bool,.d .nil,.d .nil]),(5,.var 31 true false [.d .bool,.d .nil,.d .nil]),(6,.var 31 true false [.d .bool,.d hIs,.d hIs]),(7,.var 31 true false [.d .bool,.d hIs,.d hIs])],[2],[]⟩
abbrev B56:Tm:=⟨[(1,.d hI),(2,.k (.hp 2 0 0)),(4,.k (.hp 4 0 0)),(5,.k (.hp 5 0 0)),(6,.k (.hp 6 0 0)),(7,.k (.hp 7 0 0))],[(2,.var 81 true false [.d .bool,.d hIs,.d hIs,.d hRs,.d hRs,.d .bool,.d hIs,.d hIs]),(4,.var 31 true false [.d .bool,.d .nil,.d .nil]),(5,.var 31 true false [.d .bool,.d .nil,.d .nil]),(6,.var 31 true false [.d .bool,.d hIs,.d hIs]),(7,.var 31 true false [.d .bool,.d hIs,.d hIs])],[],[]⟩
def Af4 (n:Nat) (a0:Rq × LR × LR × Rq) (a1:Int):Option (Rq × Rq) :=
 ob (f126 n 0) λa =>
 ob (f126 n 0) λg =>
 let c:=λ(d:Bool) (e:LI) (f:LI)=>(
  bif (decide (a1>=2)) then
   ob (f197 n a0.1 (W (a1-2))) λh =>
   ob (f126 n (W (a1*(W (a1-1))))) λi =>
   ob (f178 n h i) λj =>
   some ((d,e,f),j)
  else
   some ((d,e,f),g))
 bif (decide (a1>=1)) then
  ob (f197 n a0.1 (W (a1-1))) λk =>
  ob (f126 n a1) λl =>
  ob (f178 n k l) λb =>
  c b.1 b.2.1 b.2.2
 else
  c a.1 a.2.1 a.2.2
def Aom (n:Nat):Ent:=⟨209,[(.st (.pair hR (.pair hRs (.pair hRs hR)))),hI],[hR,hR],λx=>Af4 n x.1 x.2⟩
def Aon (α:Type) (n:Nat):D3 α:={ reg:=[(1,⟨0,[],[(0,{ ent:=some (As n) }),(1,{ ent:=some (As n) })]⟩),(3,⟨0,[],[(4,{ ent:=some (J1 n) }),(6,{ ent:=some (As n) }),(7,{ ent:=some (Aa n) })]⟩),(5,⟨0,[],[(4,{ ent:=some (J1 n) }),(9,{ ent:=some (As n) }),(10,{ ent:=some (Aa n) })]⟩)],join:=[(4,B56)],loop:=[],any:=[(6,Ais)] }
set_option maxHeartbeats 8000000 in
theorem B57 (n:Nat):Al TT ⟨35,[]⟩ [] Ais (A6 ((A0 Tryz.f209).at [1,1,1,1,0])):=by
 refine ⟨by kernel_rfl,λw q hq=>?_⟩
 have e:WT [] (A7 (A6 ((A0 Tryz.f209).at [1,1,1,1,0])).toList) q=(q=[]):=by kernel_rfl
 rw [e] at hq;obtain rfl:=hq
 all_goals exact .inr ⟨3,by kernel_rfl,by kernel_rfl,by kernel_rfl⟩
theorem Asp (α:Type) (n:Nat):Ao PP (Ah (Aon α n).reg):=⟨B2 n,B2 n,Id n,B2 n,Ax n,Id n,B2 n,Ax n,trivial⟩
theorem Bad (α:Type) (n:Nat):D3.OK PP TT ⟨35,[]⟩ (Aon α n) (A0 Tryz.f209) :=
 D3.OK.mk3a (Asp α n) (show Ab (A0 Tryz.f209)=[] by kernel_rfl) trivial (show Au (A0 Tryz.f209)=[(6,A6 ((A0 Tryz.f209).at [1,1,1,1,0]))] by kernel_rfl) ⟨⟨B57 n,trivial⟩,trivial⟩
theorem B55 (n:Nat):(Aom n).Sound PP:=fk (fn:=Tryz.f209) (Bad _ n)

def Zw (n:Nat) (a0:Rq × LR × LR × Rq) (a1:Int):Option (Rq × LR × LR × Rq) :=
 ob (Af4 n a0 a1) λa =>
 ob (f197 n a0.1 a1) λb =>
 ob (Zp n a0 b a.1 a.2) λc =>
 some c
def Aos (n:Nat):Ent:=⟨198,[(.st (.pair hR (.pair hRs (.pair hRs hR)))),hI],[(.st (.pair hR (.pair hRs (.pair hRs hR))))],λx=>Zw n x.1 x.2⟩
def Bas (α:Type) (n:Nat):D3 α:={ reg:=[(1,⟨0,[],[(2,{ ent:=some (Aom n) })]⟩),(2,⟨7,[],[(4,{ ent:=some (J1 n) }),(7,{ ent:=some (Aa9 n) })]⟩)],join:=[],loop:=[] }
theorem B59 (n:Nat):(Aos n).Sound PP:=Ay (fn:=Tryz.f198) (D:=Bas _ n) ⟨B55 n,Id n,Aij n,trivial⟩

abbrev Adh:Tm:=⟨[(2,.d hRs),(3,.k (.hw 1003)),(4,.k (.hp 4 0 0)),(5,.k (.hp 5 0 0)),(8,.k (.hp 8 0 0)),(10,.k (.hp 10 0 0)),(11,.k (.hp 11 0 0))],[(4,.var 84 true false [.d hI,.d hRs]),(5,.var 125 true false [.d hI,.d hI,.d hI,.d hI]),(8,.var 81 true false [.d .bool,.d .nil,.d .nil,.d .nil,.d .nil,.d .bool,.d .nil,.d .nil]),(10,.var 81 true false [.d .bool,.d .nil,.d .nil,.d .nil,.d .nil,.d .bool,.d .nil,.d .nil]),(11,.var 81 true false [.d .bool,.d .nil,.d .nil,.d .nil,.d .nil,.d .bool,.d .nil,.d .nil]),(1003,.arr 81 (.st (.pair hR (.pair hRs (.pair hRs hR)))) false)],[],[]⟩
abbrev B0c:Tm:=⟨[(2,.d hRs),(4,.k (.hp 4 0 0)),(5,.k (.hp 5 0 0)),(8,.k (.hp 8 0 0)),(10,.k (.hp 10 0 0)),(11,.k (.hp 11 0 0))],[(4,.var 84 true false [.d hI,.d hRs]),(5,.var 125 true false [.d hI,.d hI,.d hI,.d hI]),(8,.var 81 true false [.d .bool,.d .nil,.d .nil,.d .nil,.d .nil,.d .bool,.d .nil,.d .nil]),(10,.var 81 true false [.d .bool,.d hIs,.d hIs,.d hRs,.d hRs,.d .bool,.d hIs,.d hIs]),(11,.var 81 true false [.d .bool,.d hIs,.d hIs,.d hRs,.d hRs,.d .bool,.d hIs,.d hIs]),(1003,.arr 81 (.st (.pair hR (.pair hRs (.pair hRs hR)))) false)],[],[]⟩
def Rf (n:Nat) (a0:Int × LR) (a1:Nq) (a2:LR) (a3:List (Rq × LR × LR × Rq)):Option (((Rq × LR × LR × Rq) × Int) × (List (Rq × LR × LR × Rq))) :=
 let t:=λ(c:Bool) (d:LI) (e:LI) (f:LR) (g:LR) (h:Bool) (i:LI) (j:LI) (k:Bool) (l:LI) (m:LI) (o:LR) (p:LR) (q:Bool) (r:LI) (s:LI)=>(
  bif (a1.1==1) then
   ob (f126 n a1.2.2.2) λu =>
   ob (Af6 n a0 u) λv =>
   some ((v,0),a3)
  else
   bif (a1.1==2) then
    gd (decide (0<=a1.2.2.2)&&decide (a1.2.2.2<(a2.length:Int))) (
     let w:=a2.getD a1.2.2.2.toNat (false,[],[])
     ob (Af5 n a0 w a1.2.2.2) λx =>
     some ((x,0),a3))
   else
    bif (a1.1==3) then
     ob (Mk n ((c,d,e),f,g,h,i,j) ((k,l,m),o,p,q,r,s)) λy =>
     some ((y,0),a3)
    else
     bif (a1.1==4) then
      ob (f126 n (-1)) λz =>
      ob (Mj n ((k,l,m),o,p,q,r,s) z) λd0 =>
      ob (Mk n ((c,d,e),f,g,h,i,j) d0) λd1 =>
      some ((d1,0),a3)
     else
      bif (a1.1==5) then
       ob (Mi n ((c,d,e),f,g,h,i,j) ((k,l,m),o,p,q,r,s)) λd2 =>
       some ((d2,0),a3)
      else
       bif (a1.1==6) then
        ob (f195 n (k,l,m)) λd3 =>
        bif d3 then
         some ((((false,[],[]),[],[],false,[],[]),10),a3)
        else
         ob (Zx n ((k,l,m),o,p,q,r,s)) λd4 =>
         ob (Mi n ((c,d,e),f,g,h,i,j) d4) λd5 =>
         some ((d5,0),a3)
       else
        bif (a1.1==7) then
         ob (f126 n (-1)) λd6 =>
         ob (Mj n ((c,d,e),f,g,h,i,j) d6) λd7 =>
         some ((d7,0),a3)
        else
         ob (f197 n (c,d,e) a1.2.2.2) λd8 =>
         ob (f131 n d8) λd9 =>
         bif (!d9) then
          some ((((false,[],[]),[],[],false,[],[]),7),a3)
         else
          ob (Zw n ((c,d,e),f,g,h,i,j) a1.2.2.2) λe0 =>
          some ((e0,0),a3))
 ob (f109 n a1) λe1 =>
 bif (decide (e1>0)) then
  gd (decide (0<=a1.2.1)&&decide (a1.2.1<(a3.length:Int))) (
   gd (decide (a1.2.1.toNat<a3.length)) (
    let a:=a3.getD a1.2.1.toNat ((false,[],[]),[],[],(false,[],[]))
    gd (decide (0<=a1.2.2.1)&&decide (a1.2.2.1<(a3.length:Int))) (
     gd (decide (a1.2.2.1.toNat<a3.length)) (
      let b:=a3.getD a1.2.2.1.toNat ((false,[],[]),[],[],(false,[],[]))
      t a.1.1 a.1.2.1 a.1.2.2 a.2.1 a.2.2.1 a.2.2.2.1 a.2.2.2.2.1 a.2.2.2.2.2 b.1.1 b.1.2.1 b.1.2.2 b.2.1 b.2.2.1 b.2.2.2.1 b.2.2.2.2.1 b.2.2.2.2.2))))
 else
  t false [] [] [] [] false [] [] false [] [] [] [] false [] []
def A4k (n:Nat):Ent3:=⟨158,[.im (.st (.pair hI hRs)),.im hN,.im hRs,.one (.own 81 (.st (.pair hR (.pair hRs (.pair hRs hR)))))],[[.im (.st (.pair hR (.pair hRs (.pair hRs hR)))),.im hI]],λx=>Rf n x.1 x.2.1 x.2.2.1 x.2.2.2⟩
def Ajy (α:Type) (n:Nat):D3 α:={ reg:=[(2,⟨0,[],[(1,{ ent:=some (Y2 n) })]⟩),(6,⟨4,[],[(3,{ ent:=some (As n) }),(4,{ ent:=some (Ap8 n) })]⟩),(8,⟨8,[],[(8,{ ent:=some (Ap7 n) })]⟩),(10,⟨0,[],[(2,{ ent:=some (Aag n) })]⟩),(12,⟨4,[],[(2,{ ent:=some (As n) }),(3,{ ent:=some (Aaf n) }),(4,{ ent:=some (Aag n) })]⟩),(14,⟨0,[],[(2,{ ent:=some (Aad n) })]⟩),(16,⟨0,[],[(2,{ ent:=some (Od n) })]⟩),(18,⟨3,[],[(2,{ ent:=some (Aot n) }),(3,{ ent:=some (Aad n) })]⟩),(20,⟨2,[],[(1,{ ent:=some (As n) }),(2,{ ent:=some (Aaf n) })]⟩),(21,⟨0,[],[(4,{ ent:=some (J1 n) }),(5,{ ent:=some (Rk n) })]⟩),(23,⟨0,[],[(3,{ ent:=some (Aos n) })]⟩)],join:=[(4,B0c)],loop:=[],any:=[(3,Adh)] }
set_option maxHeartbeats 8000000 in
theorem B0d (n:Nat):Al TT ⟨89,[]⟩ [] Adh (A6 ((A0 Tryz.f158).at [1,1,0,1,0])):=by
 refine ⟨by kernel_rfl,λw q hq=>?_⟩
 have e:WT [] (A7 (A6 ((A0 Tryz.f158).at [1,1,0,1,0])).toList) q=(q=[]):=by kernel_rfl
 rw [e] at hq;obtain rfl:=hq
 all_goals exact .inr ⟨11,by kernel_rfl,by kernel_rfl,by kernel_rfl⟩
theorem Amo (α:Type) (n:Nat):Ao PP (Ah (Ajy α n).reg):=⟨A0b n,B2 n,B5l n,B5j n,Ajd n,B2 n,Aja n,Ajd n,Aj0 n,N0 n,B5a n,Aj0 n,B2 n,Aja n,Id n,Rj n,B59 n,trivial⟩
theorem B5v (α:Type) (n:Nat):D3.OK PP TT ⟨89,[]⟩ (Ajy α n) (A0 Tryz.f158) :=
 D3.OK.mk3a (Amo α n) (show Ab (A0 Tryz.f158)=[] by kernel_rfl) trivial (show Au (A0 Tryz.f158)=[(3,A6 ((A0 Tryz.f158).at [1,1,0,1,0])),(6,A6 ((A0 Tryz.f158).at [1,1,1,0,1,0,1,0,0])),(8,A6 ((A0 Tryz.f158).at [1,1,1,0,1,0,1,1,1,0,0])),(12,A6 ((A0 Tryz.f158).at [1,1,1,0,1,0,1,1,1,1,1,1,1,0,0])),(18,A6 ((A0 Tryz.f158).at [1,1,1,0,1,0,1,1,1,1,1,1,1,1,1,1,1,0,1,0])),(20,A6 ((A0 Tryz.f158).at [1,1,1,0,1,0,1,1,1,1,1,1,1,1,1,1,1,1,1,0,0]))] by kernel_rfl) ⟨⟨B0d n,trivial⟩,trivial,trivial,trivial,trivial,trivial,trivial⟩
theorem Adg (n:Nat):(A4k n).Sound PP:=Lz (fn:=Tryz.f158) (B5v _ n)

def f159 (n:Nat) (a0:Int) (a1:List (Rq × LR × LR × Rq)):Option Rq :=
 gd (decide (0<=a0)&&decide (a0<(a1.length:Int))) (
  let a:=a1.getD a0.toNat ((false,[],[]),[],[],(false,[],[]))
  some a.2.2.2)
def Ajw (n:Nat):Ent:=⟨159,[hI,(.ref (.sl (.st (.pair hR (.pair hRs (.pair hRs hR))))))],[hR],λx=>f159 n x.1 x.2⟩
def Bgr (α:Type) (n:Nat):D3 α:={ reg:=[],join:=[],loop:=[] }
theorem Apd (n:Nat):(Ajw n).Sound PP:=Ay (fn:=Tryz.f159) (D:=Bgr _ n) trivial

def Rn (n:Nat) (a0:List Int):Option (List Int ⊕ Unit):=bif a0.isEmpty then some (.inr ()) else (Ml n a0).map .inl
def Cq (n:Nat):Ent3:=⟨117,[.im hIs],[[.one (.own 3 hI)],[.one (.emp hI)]],λx=>Rn n x⟩
theorem Adq (n:Nat):(Cq n).Sound Tryz.prog:=by
 intro nt x z h
 cases x with
 | cons y l =>
  have h:(Ml n (y::l)).map Sum.inl=some z:=h
  cases e:Ml n (y::l) with
  | none=>rw [e] at h;cases h
  | some r =>
   rw [e] at h;obtain rfl:=QA h;exact A50 n nt (y::l) r e
 | nil =>
  have h:some (Sum.inr ())=some z:=h;obtain rfl:=QA h;exact Akk nt

abbrev Ao2:Tm:=⟨[(1,.k (.hp 1 0 0)),(2,.k (.hp 2 0 0))],[(1,.var 31 true false [.d .bool,.d hIs,.d hIs]),(2,.var 31 true false [.d .bool,.d .nil,.d .nil])],[],[]⟩
def Arw (n:Nat) (a0:Rq):Option ((Bool × LI × LI) ⊕ ((Bool × Unit × LI) ⊕ ((Bool × LI × Unit) ⊕ (Bool × Unit × Unit)))) :=
 ob (Rn n a0.2.1) λb =>
 Fv b (λa =>
  ob (Rn n a0.2.2) λc =>
  Fv c (λd =>
   some (.inl (a0.1,a,d))) (λg =>
   some (.inr (.inr (.inl (a0.1,a,())))))) (λh =>
  ob (Rn n a0.2.2) λe =>
  Fv e (λf =>
   some (.inr (.inl (a0.1,(),f)))) (λi =>
   some (.inr (.inr (.inr (a0.1,(),()))))))
def Ax5 (n:Nat):Ent3:=⟨61,[.im hR],[[.mix [.im .bool,.own 3 hI,.own 3 hI]],[.mix [.im .bool,.emp hI,.own 3 hI]],[.mix [.im .bool,.own 3 hI,.emp hI]],[.mix [.im .bool,.emp hI,.emp hI]]],λx=>Arw n x⟩
def Ax6 (α:Type) (n:Nat):D3 α:={ reg:=[(1,⟨0,[],[(4,{ entB:=some (Cq n),hb:=310 }),(7,{ entB:=some (Cq n),hb:=320 })]⟩)],join:=[],loop:=[],any:=[(1,Ao2)] }
set_option maxHeartbeats 8000000 in
theorem B9j (n:Nat):Al TT ⟨12,[]⟩ [(4,{ entB:=some (Cq n),hb:=310 }),(7,{ entB:=some (Cq n),hb:=320 })] Ao2 (A6 ((A0 Tryz.f61).at [1,0])):=by
 refine ⟨by kernel_rfl,λw q hq=>?_⟩
 have e:WT [(4,{ entB:=some (Cq n),hb:=310 }),(7,{ entB:=some (Cq n),hb:=320 })] (A7 (A6 ((A0 Tryz.f61).at [1,0])).toList) q=(∃ (y0:HF (Ap 1000 (Cq n).ts) (Cq n).forms) (q0:List (Nat × RV)),q=(4,.bx (Cq n) y0)::q0 /\ ∃ (y1:HF (Ap 1000 (Cq n).ts) (Cq n).forms) (q1:List (Nat × RV)),q0=(7,.bx (Cq n) y1)::q1/\q1=[]):=by kernel_rfl
 rw [e] at hq;obtain ⟨y0,q0,rfl,y1,q1,rfl,rfl⟩:=hq;all_goals rcases y0 with y0 | y0
 all_goals rcases y1 with y1 | y1
 all_goals exact .inl (Gs.mk (by kernel_rfl))
theorem Ax4 (α:Type) (n:Nat):Ao PP (Ah (Ax6 α n).reg):=⟨Adq n,Adq n,trivial⟩
theorem Bek (α:Type) (n:Nat):D3.OK PP TT ⟨12,[]⟩ (Ax6 α n) (A0 Tryz.f61) :=
 D3.OK.mk3a (Ax4 α n) (show Ab (A0 Tryz.f61)=[] by kernel_rfl) trivial (show Au (A0 Tryz.f61)=[(1,A6 ((A0 Tryz.f61).at [1,0]))] by kernel_rfl) ⟨⟨B9j n,trivial⟩,trivial⟩
theorem B9i (n:Nat):(Ax5 n).Sound PP:=Lz (fn:=Tryz.f61) (Bek _ n)

def Lw {α:Type} (n:Nat) (c:List (Rq × LR × LR × Rq)) (d b:Int) (a:LR) (f:(List (Rq × LR × LR × Rq))->Int->Int->LR->Option α) (k0:LR->Option α):Option α :=
 bif (decide (b<d)) then
  ob (f159 n b c) λh =>
  ob (Arw n h) λi =>
  Fv i (λj =>
   gd (decide ((a.length+1)*56<=140737488355328)) (
    f c d (W (b+1)) (a++[j]))) (λk =>
   Fv k (λe =>
    gd (decide ((a.length+1)*56<=140737488355328)) (
     f c d (W (b+1)) (a++[(e.1,[],e.2.2)]))) (λl =>
    Fv l (λg =>
     gd (decide ((a.length+1)*56<=140737488355328)) (
      f c d (W (b+1)) (a++[(g.1,g.2.1,[])]))) (λm =>
     none)))
 else
  k0 a
abbrev Ho:Tm:=⟨[(1,.d (.clo 159 (.ref (.sl (.st (.pair hR (.pair hRs (.pair hRs hR)))))))),(5,.k (.hw 7)),(8,.d hI),(9,.d hI)],[(7,.tree 31 hR false)],[],[]⟩
abbrev Aaw:Tm:=⟨[(5,.k (.hw 7))],[(7,.tree 31 hR false)],[],[]⟩
abbrev Lv:List (Exit × Tm):=[(.exit 0,Aaw)]
def Lu {α:Type} (n:Nat) (v:Ho.den) (f:Ho.den->Option α) (ks:KS α Lv):Option α:=Lw n v.1.1 v.1.2.2.1 v.1.2.2.2.1 v.2.1 (λa b c d=>f ((a,(),b,c,()),(d,()))) (λw0=>ks.1 (((),()),(w0,())))
def G7 {α:Type} (n m:Nat) (a:List (Rq × LR × LR × Rq)) (b c:Int) (d:LR) (k0:LR->Option α):Option α:=A5 (Lu n) m ((a,(),b,c,()),(d,())) (λw=>k0 w.2.1,())
theorem Aav {α n m a b c d k0}:G7 (α:=α) n (m+1) a b c d k0=Lw n a b c d (λa b c d=>G7 n m a b c d k0) k0:=rfl
def Pr (n:Nat) (a0:Int) (a1:List (Rq × LR × LR × Rq)):Option LR :=
 G7 n n a1 a0 0 []
  (λa=>(
   some a))
def A1d (n:Nat):Ent3:=⟨105,[.im hI,.im (.clo 159 (.ref (.sl (.st (.pair hR (.pair hRs (.pair hRs hR)))))))],[[.one (.tree 31 hR)]],λx=>Pr n x.1 x.2⟩
def Qb (α:Type) (n:Nat):D3 α:={ reg:=[(1,⟨0,[],[(0,{ sh:=some hR,tr:=some hR })]⟩),(5,⟨0,[],[(3,{ ent:=some (Ajw n) }),(4,{ entB:=some (Ax5 n),hb:=310 }),(5,{ sh:=some hR })]⟩)],join:=[],loop:=[(3,⟨Ho,Lv,A5 (Lu n) n⟩)] }
theorem Rp (α:Type) (n:Nat):Ao PP (Ah (Qb α n).reg):=⟨Apd n,B9i n,trivial⟩
theorem A7n (α:Type) (n:Nat):LO.Sound (α:=α) PP ⟨21,[]⟩ ⟨Ho,Lv,A5 (Lu n) n⟩ (.loop ((A0 Tryz.f105).at [1,1,0,1,0,0])):=Ba (D:=Qb α n) (Rp α n) n
theorem Amu (α:Type) (n:Nat):D3.OK PP TT ⟨21,[]⟩ (Qb α n) (A0 Tryz.f105) :=
 D3.OK.mk3 (Rp α n) (show Ab (A0 Tryz.f105)=[(3,(.loop ((A0 Tryz.f105).at [1,1,0,1,0,0])))] by kernel_rfl) ⟨Ad rfl (A7n α n),trivial⟩
theorem Ako (n:Nat):(A1d n).Sound PP:=Lz (fn:=Tryz.f105) (Amu _ n)

def A22 {α:Type} (n:Nat) (e:LR) (c:LN) (g a h:Int) (i:LR) (d:List (Rq × LR × LR × Rq)) (f:LR->LN->Int->Int->Int->LR->(List (Rq × LR × LR × Rq))->Option α) (k0:(List (Rq × LR × LR × Rq))->Option α):Option α :=
 bif (decide (a<g)) then
  gd (decide (0<=a)&&decide (a<(c.length:Int))) (
   let j:=c.getD a.toNat (0,0,0,0)
   ob (Rf n (h,i) j e d) λb =>
   gd (Nat.beq b.2.length d.length&&true) (
    gd (decide ((b.2.length+1)*160<=140737488355328)) (
     f e c g (W (a+1)) h i (b.2++[b.1.1]))))
 else
  k0 d
abbrev Su:Tm:=⟨[(1,.d hRs),(7,.k (.hp 7 0 0)),(8,.k (.hp 8 0 0)),(17,.d hNs),(18,.d hI),(19,.d hI)],[(7,.var 118 false false [.k (.hw 13)]),(8,.var 84 true false [.d hI,.d hRs]),(13,.arr 81 (.st (.pair hR (.pair hRs (.pair hRs hR)))) false)],[3,10,11,33],[]⟩
abbrev Aw9:Tm:=⟨[(7,.k (.hp 7 0 0))],[(7,.var 118 false false [.k (.hw 13)]),(13,.arr 81 (.st (.pair hR (.pair hRs (.pair hRs hR)))) false)],[8],[]⟩
abbrev A21:List (Exit × Tm):=[(.exit 0,Aw9)]
def A20 {α:Type} (n:Nat) (v:Su.den) (f:Su.den->Option α) (ks:KS α A21):Option α:=A22 n v.1.1 v.1.2.2.2.1 v.1.2.2.2.2.1 v.1.2.2.2.2.2.1 v.2.2.1.1 v.2.2.1.2.1 v.2.2.2.1 (λa b c d e g h=>f ((a,(),(),b,c,d,()),(((),()),(e,g,()),h,()))) (λw0=>ks.1 (((),()),(((),()),w0,())))
def Yy {α:Type} (n m:Nat) (a:LR) (b:LN) (c d e:Int) (f:LR) (g:List (Rq × LR × LR × Rq)) (k0:(List (Rq × LR × LR × Rq))->Option α):Option α:=A5 (A20 n) m ((a,(),(),b,c,d,()),(((),()),(e,f,()),g,())) (λw=>k0 w.2.2.1,())
theorem Aw8 {α n m a b c d e f g k0}:Yy (α:=α) n (m+1) a b c d e f g k0=A22 n a b c d e f g (λa b c d e f g=>Yy n m a b c d e f g k0) k0:=rfl
def Ar8 (n:Nat) (a0:LN × Int) (a1 a2:LR):Option LR :=
 Yy n n a1 a0.1 (a0.1.length:Int) 0 0 a2 []
  (λa=>(
   ob (Pr n (a.length:Int) a) λb =>
   some b))
def Awa (n:Nat):Ent3:=⟨97,[.im (.st (.pair hNs hI)),.im hRs,.im hRs],[[.one (.tree 31 hR)]],λx=>Ar8 n x.1 x.2.1 x.2.2⟩
def Ah0 (α:Type) (n:Nat):D3 α:={ reg:=[(1,⟨0,[],[(0,{ sh:=some (.st (.pair hR (.pair hRs (.pair hRs hR)))) })]⟩),(5,⟨0,[],[(4,{ alt:=[(A4k n)],hb:=310 })]⟩),(6,⟨0,[],[(2,{ sh:=some (.st (.pair hR (.pair hRs (.pair hRs hR)))) })]⟩),(8,⟨0,[],[(0,{ shut:=some (.stl 7 0 (.sl (.st (.pair hR (.pair hRs (.pair hRs hR)))))) }),(2,{ sh:=some (.ref (.sl (.st (.pair hR (.pair hRs (.pair hRs hR)))))) }),(3,{ entB:=some (A1d n),hb:=320 })]⟩)],join:=[],loop:=[(3,⟨Su,A21,A5 (A20 n) n⟩)] }
theorem Ac7 (α:Type) (n:Nat):Ao PP (Ah (Ah0 α n).reg):=⟨Adg n,Ako n,trivial⟩
theorem Ar7 (α:Type) (n:Nat):LO.Sound (α:=α) PP ⟨40,[]⟩ ⟨Su,A21,A5 (A20 n) n⟩ (.loop ((A0 Tryz.f97).at [1,1,0,1,0,0])):=Ba (D:=Ah0 α n) (Ac7 α n) n
theorem Bdx (α:Type) (n:Nat):D3.OK PP TT ⟨40,[]⟩ (Ah0 α n) (A0 Tryz.f97) :=
 D3.OK.mk3 (Ac7 α n) (show Ab (A0 Tryz.f97)=[(3,(.loop ((A0 Tryz.f97).at [1,1,0,1,0,0])))] by kernel_rfl) ⟨Ad rfl (Ar7 α n),trivial⟩
theorem B94 (n:Nat):(Awa n).Sound PP:=Lz (fn:=Tryz.f97) (Bdx _ n)

def Ars (n:Nat) (a0:LR):Option (((Unit × Int) × LR) ⊕ ((Unit × Int) × LR)) :=
 ob (Ka n a0 ()) λa =>
 bif a then
  some (.inr (((),7),a0))
 else
  some (.inl (((),0),a0))
def Awz (n:Nat):Ent3:=⟨76,[.one (.tree 31 hR)],[[.one (.back 1000),.im hI],[.im .nil,.im hI]],λx=>Ars n x⟩
def Beh (α:Type) (n:Nat):D3 α:={ reg:=[(1,⟨0,[],[(1,{ ent:=some (Uc n) })]⟩)],join:=[],loop:=[] }
theorem B9e (n:Nat):(Awz n).Sound PP:=A8r (fn:=Tryz.f76) (D:=Beh _ n) ⟨A1b n,trivial⟩

def A9t (n:Nat) (a0:LN × Int) (a1 a2:LR):Option ((LR × Int) ⊕ (Unit × Int)) :=
 ob (f96 n a0 a1 a2) λb =>
 bif (b.2 != 0) then
  some (.inr ((),b.2))
 else
  ob (Ar8 n a0 a1 a2) λc =>
  ob (Ars n c) λe =>
  Fv e (λd =>
   some (.inl (d.2,d.1.2))) (λa =>
   gd (Nat.beq a.2.length c.length&&true) (
    some (.inr (a.1.1,a.1.2))))
def Axa (n:Nat):Ent3:=⟨44,[.im (.st (.pair hNs hI)),.im hRs,.im hRs],[[.one (.tree 31 hR),.im hI],[.im .nil,.im hI]],λx=>A9t n x.1 x.2.1 x.2.2⟩
def Ber (α:Type) (n:Nat):D3 α:={ reg:=[(1,⟨0,[],[(3,{ ent:=some (Ar9 n) })]⟩),(4,⟨0,[],[(3,{ entB:=some (Awa n),hb:=310 }),(4,{ entB:=some (Awz n),hb:=320 })]⟩)],join:=[],loop:=[] }
theorem B9n (n:Nat):(Axa n).Sound PP:=A8r (fn:=Tryz.f44) (D:=Ber _ n) ⟨Awb n,B94 n,B9e n,trivial⟩

def A9i {α:Type} (n:Nat) (b c:LI) (a:Int) (f:LI->LI->Int->Option α) (k0:Bool->Option α) (k1:Unit->Option α):Option α :=
 bif (decide (a<(b.length:Int))) then
  gd (decide (0<=a)&&decide (a<(b.length:Int))) (
   gd (decide (0<=a)&&decide (a<(c.length:Int))) (
    bif ((b.getD a.toNat 0) != (c.getD a.toNat 0)) then
     k0 false
    else
     f b c (W (a+1))))
 else
  k1 ()
abbrev Za:Tm:=⟨[(0,.d hIs),(1,.d hIs),(5,.d hI)],[],[],[]⟩
abbrev B4f:Tm:=⟨[(4,.d .bool)],[],[],[]⟩
abbrev B4e:Tm:=⟨[],[],[],[]⟩
abbrev A9h:List (Exit × Tm):=[(.ret,B4f),(.exit 0,B4e)]
def A9g {α:Type} (n:Nat) (v:Za.den) (f:Za.den->Option α) (ks:KS α A9h):Option α:=A9i n v.1.1 v.1.2.1 v.1.2.2.1 (λa b c=>f ((a,b,c,()),())) (λw0=>ks.1 ((w0,()),())) (λ_=>ks.2.1 ((),()))
def A6d {α:Type} (n m:Nat) (a b:LI) (c:Int) (k0:Bool->Option α) (k1:Unit->Option α):Option α:=A5 (A9g n) m ((a,b,c,()),()) (λw=>k0 w.1.1,λw=>k1 (),())
theorem B4d {α n m a b c k0 k1}:A6d (α:=α) n (m+1) a b c k0 k1=A9i n a b c (λa b c=>A6d n m a b c k0 k1) k0 k1:=rfl
def f84 (n:Nat) (a0 a1:LI):Option Bool :=
 bif ((a0.length:Int) != (a1.length:Int)) then
  some false
 else
  A6d n n a0 a1 0
   (λa=>(
    some a))
   (λ(_:Unit)=>(
    some true))
def Arn (n:Nat):Ent:=⟨84,[hIs,hIs],[.bool],λx=>f84 n x.1 x.2⟩
def Aro (α:Type) (n:Nat):D3 α:={ reg:=[(6,⟨8,[],[]⟩)],join:=[],loop:=[(4,⟨Za,A9h,A5 (A9g n) n⟩)] }
theorem Ahf (α:Type) (n:Nat):Ao PP (Ah (Aro α n).reg):=trivial
theorem Awu (α:Type) (n:Nat):LO.Sound (α:=α) PP ⟨26,[]⟩ ⟨Za,A9h,A5 (A9g n) n⟩ (.loop ((A0 Tryz.f84).at [1,1,0,1,0,0])):=Ba (D:=Aro α n) (Ahf α n) n
theorem Bit (α:Type) (n:Nat):D3.OK PP TT ⟨26,[]⟩ (Aro α n) (A0 Tryz.f84) :=
 D3.OK.mk3 (Ahf α n) (show Ab (A0 Tryz.f84)=[(4,(.loop ((A0 Tryz.f84).at [1,1,0,1,0,0])))] by kernel_rfl) ⟨Ad rfl (Awu α n),trivial⟩
theorem Aws (n:Nat):(Arn n).Sound PP:=fk (fn:=Tryz.f84) (Bit _ n)

def f33 (n:Nat) (a0 a1:Rq):Option Bool :=
 bif (!(a0.1==a1.1)) then
  some false
 else
  ob (f84 n a0.2.1 a1.2.1) λa =>
  bif (!a) then
   some false
  else
   ob (f84 n a0.2.2 a1.2.2) λb =>
   bif (!b) then
    some false
   else
    some true
def B7z (n:Nat):Ent:=⟨33,[hR,hR],[.bool],λx=>f33 n x.1 x.2⟩
def Bje (α:Type) (n:Nat):D3 α:={ reg:=[(3,⟨0,[],[(4,{ ent:=some (Arn n) })]⟩),(5,⟨0,[],[(4,{ ent:=some (Arn n) })]⟩)],join:=[],loop:=[] }
theorem Bey (n:Nat):(B7z n).Sound PP:=Ay (fn:=Tryz.f33) (D:=Bje _ n) ⟨Aws n,Aws n,trivial⟩

def Aa0 {α:Type} (n:Nat) (b c:LR) (a:Int) (f:LR->LR->Int->Option α) (k0:Bool->Option α) (k1:Unit->Option α):Option α :=
 bif (decide (a<(b.length:Int))) then
  gd (decide (0<=a)&&decide (a<(b.length:Int))) (
   let d:=b.getD a.toNat (false,[],[])
   gd (decide (0<=a)&&decide (a<(c.length:Int))) (
    let e:=c.getD a.toNat (false,[],[])
    ob (f33 n d e) λg =>
    bif (!g) then
     k0 false
    else
     f b c (W (a+1))))
 else
  k1 ()
abbrev Zj:Tm:=⟨[(0,.d hRs),(1,.d hRs),(5,.d hI)],[],[],[]⟩
abbrev B4t:Tm:=⟨[(4,.d .bool)],[],[],[]⟩
abbrev B4s:Tm:=⟨[],[],[],[]⟩
abbrev A9z:List (Exit × Tm):=[(.ret,B4t),(.exit 0,B4s)]
def A9y {α:Type} (n:Nat) (v:Zj.den) (f:Zj.den->Option α) (ks:KS α A9z):Option α:=Aa0 n v.1.1 v.1.2.1 v.1.2.2.1 (λa b c=>f ((a,b,c,()),())) (λw0=>ks.1 ((w0,()),())) (λ_=>ks.2.1 ((),()))
def A6i {α:Type} (n m:Nat) (a b:LR) (c:Int) (k0:Bool->Option α) (k1:Unit->Option α):Option α:=A5 (A9y n) m ((a,b,c,()),()) (λw=>k0 w.1.1,λw=>k1 (),())
theorem B4r {α n m a b c k0 k1}:A6i (α:=α) n (m+1) a b c k0 k1=Aa0 n a b c (λa b c=>A6i n m a b c k0 k1) k0 k1:=rfl
def f35 (n:Nat) (a0 a1:LR):Option Bool :=
 bif ((a0.length:Int) != (a1.length:Int)) then
  some false
 else
  A6i n n a0 a1 0
   (λa=>(
    some a))
   (λ(_:Unit)=>(
    some true))
def Zk (n:Nat):Ent:=⟨35,[hRs,hRs],[.bool],λx=>f35 n x.1 x.2⟩
def As1 (α:Type) (n:Nat):D3 α:={ reg:=[(6,⟨8,[],[(8,{ ent:=some (B7z n) })]⟩)],join:=[],loop:=[(4,⟨Zj,A9z,A5 (A9y n) n⟩)] }
theorem Ahy (α:Type) (n:Nat):Ao PP (Ah (As1 α n).reg):=⟨Bey n,trivial⟩
theorem Axe (α:Type) (n:Nat):LO.Sound (α:=α) PP ⟨27,[]⟩ ⟨Zj,A9z,A5 (A9y n) n⟩ (.loop ((A0 Tryz.f35).at [1,1,0,1,0,0])):=Ba (D:=As1 α n) (Ahy α n) n
theorem Bjd (α:Type) (n:Nat):D3.OK PP TT ⟨27,[]⟩ (As1 α n) (A0 Tryz.f35) :=
 D3.OK.mk3 (Ahy α n) (show Ab (A0 Tryz.f35)=[(4,(.loop ((A0 Tryz.f35).at [1,1,0,1,0,0])))] by kernel_rfl) ⟨Ad rfl (Axe α n),trivial⟩
theorem X2 (n:Nat):(Zk n).Sound PP:=fk (fn:=Tryz.f35) (Bjd _ n)

def f140 (n:Nat) (a0 a1:Nq):Option Bool :=
 bif (a0.1 != a1.1) then
  some false
 else
  bif (a0.2.1 != a1.2.1) then
   some false
  else
   bif (a0.2.2.1 != a1.2.2.1) then
    some false
   else
    bif (a0.2.2.2 != a1.2.2.2) then
     some false
    else
     some true
def B0m (n:Nat):Ent:=⟨140,[hN,hN],[.bool],λx=>f140 n x.1 x.2⟩
def Bh3 (α:Type) (n:Nat):D3 α:={ reg:=[],join:=[],loop:=[] }
theorem Bc4 (n:Nat):(B0m n).Sound PP:=Ay (fn:=Tryz.f140) (D:=Bh3 _ n) trivial

def A9f {α:Type} (n:Nat) (b c:LN) (a:Int) (f:LN->LN->Int->Option α) (k0:Bool->Option α) (k1:Unit->Option α):Option α :=
 bif (decide (a<(b.length:Int))) then
  gd (decide (0<=a)&&decide (a<(b.length:Int))) (
   let d:=b.getD a.toNat (0,0,0,0)
   gd (decide (0<=a)&&decide (a<(c.length:Int))) (
    let e:=c.getD a.toNat (0,0,0,0)
    ob (f140 n d e) λg =>
    bif (!g) then
     k0 false
    else
     f b c (W (a+1))))
 else
  k1 ()
abbrev Z9:Tm:=⟨[(0,.d hNs),(1,.d hNs),(5,.d hI)],[],[],[]⟩
abbrev B4c:Tm:=⟨[(4,.d .bool)],[],[],[]⟩
abbrev B4b:Tm:=⟨[],[],[],[]⟩
abbrev A9e:List (Exit × Tm):=[(.ret,B4c),(.exit 0,B4b)]
def A9d {α:Type} (n:Nat) (v:Z9.den) (f:Z9.den->Option α) (ks:KS α A9e):Option α:=A9f n v.1.1 v.1.2.1 v.1.2.2.1 (λa b c=>f ((a,b,c,()),())) (λw0=>ks.1 ((w0,()),())) (λ_=>ks.2.1 ((),()))
def A6c {α:Type} (n m:Nat) (a b:LN) (c:Int) (k0:Bool->Option α) (k1:Unit->Option α):Option α:=A5 (A9d n) m ((a,b,c,()),()) (λw=>k0 w.1.1,λw=>k1 (),())
theorem B4a {α n m a b c k0 k1}:A6c (α:=α) n (m+1) a b c k0 k1=A9f n a b c (λa b c=>A6c n m a b c k0 k1) k0 k1:=rfl
def f85 (n:Nat) (a0 a1:LN):Option Bool :=
 bif ((a0.length:Int) != (a1.length:Int)) then
  some false
 else
  A6c n n a0 a1 0
   (λa=>(
    some a))
   (λ(_:Unit)=>(
    some true))
def B7o (n:Nat):Ent:=⟨85,[hNs,hNs],[.bool],λx=>f85 n x.1 x.2⟩
def Arm (α:Type) (n:Nat):D3 α:={ reg:=[(6,⟨8,[],[(8,{ ent:=some (B0m n) })]⟩)],join:=[],loop:=[(4,⟨Z9,A9e,A5 (A9d n) n⟩)] }
theorem Ahd (α:Type) (n:Nat):Ao PP (Ah (Arm α n).reg):=⟨Bc4 n,trivial⟩
theorem Awr (α:Type) (n:Nat):LO.Sound (α:=α) PP ⟨27,[]⟩ ⟨Z9,A9e,A5 (A9d n) n⟩ (.loop ((A0 Tryz.f85).at [1,1,0,1,0,0])):=Ba (D:=Arm α n) (Ahd α n) n
theorem Bis (α:Type) (n:Nat):D3.OK PP TT ⟨27,[]⟩ (Arm α n) (A0 Tryz.f85) :=
 D3.OK.mk3 (Ahd α n) (show Ab (A0 Tryz.f85)=[(4,(.loop ((A0 Tryz.f85).at [1,1,0,1,0,0])))] by kernel_rfl) ⟨Ad rfl (Awr α n),trivial⟩
theorem Be7 (n:Nat):(B7o n).Sound PP:=fk (fn:=Tryz.f85) (Bis _ n)

def f45 (n:Nat) (a0 a1:LN × Int):Option Bool :=
 ob (f85 n a0.1 a1.1) λa =>
 bif (!a) then
  some false
 else
  bif (a0.2 != a1.2) then
   some false
  else
   some true
def B7u (n:Nat):Ent:=⟨45,[(.st (.pair hNs hI)),(.st (.pair hNs hI))],[.bool],λx=>f45 n x.1 x.2⟩
def Bj7 (α:Type) (n:Nat):D3 α:={ reg:=[(1,⟨0,[],[(4,{ ent:=some (B7o n) })]⟩)],join:=[],loop:=[] }
theorem Beo (n:Nat):(B7u n).Sound PP:=Ay (fn:=Tryz.f45) (D:=Bj7 _ n) ⟨Be7 n,trivial⟩

def Nr {α:Type} (n:Nat) (c a:Int) (b:LN) (f:Int->Int->LN->Option α) (k0:Int->LN->Option α):Option α :=
 bif (decide (a<(b.length:Int))) then
  gd (decide (0<=a)&&decide (a<(b.length:Int))) (
   gd (decide (a.toNat<b.length)) (
    gd (decide (0<=a)&&decide (a<(((b.set a.toNat (c,((b.getD a.toNat (0,0,0,0)).2).1,(((b.getD a.toNat (0,0,0,0)).2).2))).length:Nat):Int))) (
     gd (decide (a.toNat<(b.set a.toNat (c,((b.getD a.toNat (0,0,0,0)).2).1,(((b.getD a.toNat (0,0,0,0)).2).2))).length)) (
      gd (decide (0<=a)&&decide (a<((((b.set a.toNat (c,((b.getD a.toNat (0,0,0,0)).2).1,(((b.getD a.toNat (0,0,0,0)).2).2))).set a.toNat (((b.set a.toNat (c,((b.getD a.toNat (0,0,0,0)).2).1,(((b.getD a.toNat (0,0,0,0)).2).2))).getD a.toNat (0,0,0,0)).1,(W (c+1)),((((b.set a.toNat (c,((b.getD a.toNat (0,0,0,0)).2).1,(((b.getD a.toNat (0,0,0,0)).2).2))).getD a.toNat (0,0,0,0)).2).2))).length:Nat):Int))) (
       gd (decide (a.toNat<((b.set a.toNat (c,((b.getD a.toNat (0,0,0,0)).2).1,(((b.getD a.toNat (0,0,0,0)).2).2))).set a.toNat (((b.set a.toNat (c,((b.getD a.toNat (0,0,0,0)).2).1,(((b.getD a.toNat (0,0,0,0)).2).2))).getD a.toNat (0,0,0,0)).1,(W (c+1)),((((b.set a.toNat (c,((b.getD a.toNat (0,0,0,0)).2).1,(((b.getD a.toNat (0,0,0,0)).2).2))).getD a.toNat (0,0,0,0)).2).2))).length)) (
        gd (decide (0<=a)&&decide (a<(((((b.set a.toNat (c,((b.getD a.toNat (0,0,0,0)).2).1,(((b.getD a.toNat (0,0,0,0)).2).2))).set a.toNat (((b.set a.toNat (c,((b.getD a.toNat (0,0,0,0)).2).1,(((b.getD a.toNat (0,0,0,0)).2).2))).getD a.toNat (0,0,0,0)).1,(W (c+1)),((((b.set a.toNat (c,((b.getD a.toNat (0,0,0,0)).2).1,(((b.getD a.toNat (0,0,0,0)).2).2))).getD a.toNat (0,0,0,0)).2).2))).set a.toNat ((((b.set a.toNat (c,((b.getD a.toNat (0,0,0,0)).2).1,(((b.getD a.toNat (0,0,0,0)).2).2))).set a.toNat (((b.set a.toNat (c,((b.getD a.toNat (0,0,0,0)).2).1,(((b.getD a.toNat (0,0,0,0)).2).2))).getD a.toNat (0,0,0,0)).1,(W (c+1)),((((b.set a.toNat (c,((b.getD a.toNat (0,0,0,0)).2).1,(((b.getD a.toNat (0,0,0,0)).2).2))).getD a.toNat (0,0,0,0)).2).2))).getD a.toNat (0,0,0,0)).1,((((b.set a.toNat (c,((b.getD a.toNat (0,0,0,0)).2).1,(((b.getD a.toNat (0,0,0,0)).2).2))).set a.toNat (((b.set a.toNat (c,((b.getD a.toNat (0,0,0,0)).2).1,(((b.getD a.toNat (0,0,0,0)).2).2))).getD a.toNat (0,0,0,0)).1,(W (c+1)),((((b.set a.toNat (c,((b.getD a.toNat (0,0,0,0)).2).1,(((b.getD a.toNat (0,0,0,0)).2).2))).getD a.toNat (0,0,0,0)).2).2))).getD a.toNat (0,0,0,0)).2).1,(W ((W (c+1))+1)),(((((b.set a.toNat (c,((b.getD a.toNat (0,0,0,0)).2).1,(((b.getD a.toNat (0,0,0,0)).2).2))).set a.toNat (((b.set a.toNat (c,((b.getD a.toNat (0,0,0,0)).2).1,(((b.getD a.toNat (0,0,0,0)).2).2))).getD a.toNat (0,0,0,0)).1,(W (c+1)),((((b.set a.toNat (c,((b.getD a.toNat (0,0,0,0)).2).1,(((b.getD a.toNat (0,0,0,0)).2).2))).getD a.toNat (0,0,0,0)).2).2))).getD a.toNat (0,0,0,0)).2).2).2)).length:Nat):Int))) (
         gd (decide (a.toNat<(((b.set a.toNat (c,((b.getD a.toNat (0,0,0,0)).2).1,(((b.getD a.toNat (0,0,0,0)).2).2))).set a.toNat (((b.set a.toNat (c,((b.getD a.toNat (0,0,0,0)).2).1,(((b.getD a.toNat (0,0,0,0)).2).2))).getD a.toNat (0,0,0,0)).1,(W (c+1)),((((b.set a.toNat (c,((b.getD a.toNat (0,0,0,0)).2).1,(((b.getD a.toNat (0,0,0,0)).2).2))).getD a.toNat (0,0,0,0)).2).2))).set a.toNat ((((b.set a.toNat (c,((b.getD a.toNat (0,0,0,0)).2).1,(((b.getD a.toNat (0,0,0,0)).2).2))).set a.toNat (((b.set a.toNat (c,((b.getD a.toNat (0,0,0,0)).2).1,(((b.getD a.toNat (0,0,0,0)).2).2))).getD a.toNat (0,0,0,0)).1,(W (c+1)),((((b.set a.toNat (c,((b.getD a.toNat (0,0,0,0)).2).1,(((b.getD a.toNat (0,0,0,0)).2).2))).getD a.toNat (0,0,0,0)).2).2))).getD a.toNat (0,0,0,0)).1,((((b.set a.toNat (c,((b.getD a.toNat (0,0,0,0)).2).1,(((b.getD a.toNat (0,0,0,0)).2).2))).set a.toNat (((b.set a.toNat (c,((b.getD a.toNat (0,0,0,0)).2).1,(((b.getD a.toNat (0,0,0,0)).2).2))).getD a.toNat (0,0,0,0)).1,(W (c+1)),((((b.set a.toNat (c,((b.getD a.toNat (0,0,0,0)).2).1,(((b.getD a.toNat (0,0,0,0)).2).2))).getD a.toNat (0,0,0,0)).2).2))).getD a.toNat (0,0,0,0)).2).1,(W ((W (c+1))+1)),(((((b.set a.toNat (c,((b.getD a.toNat (0,0,0,0)).2).1,(((b.getD a.toNat (0,0,0,0)).2).2))).set a.toNat (((b.set a.toNat (c,((b.getD a.toNat (0,0,0,0)).2).1,(((b.getD a.toNat (0,0,0,0)).2).2))).getD a.toNat (0,0,0,0)).1,(W (c+1)),((((b.set a.toNat (c,((b.getD a.toNat (0,0,0,0)).2).1,(((b.getD a.toNat (0,0,0,0)).2).2))).getD a.toNat (0,0,0,0)).2).2))).getD a.toNat (0,0,0,0)).2).2).2)).length)) (
          f (W ((W ((W ((W (c+1))+1))+1))+1)) (W (a+1)) ((((b.set a.toNat (c,((b.getD a.toNat (0,0,0,0)).2).1,(((b.getD a.toNat (0,0,0,0)).2).2))).set a.toNat (((b.set a.toNat (c,((b.getD a.toNat (0,0,0,0)).2).1,(((b.getD a.toNat (0,0,0,0)).2).2))).getD a.toNat (0,0,0,0)).1,(W (c+1)),((((b.set a.toNat (c,((b.getD a.toNat (0,0,0,0)).2).1,(((b.getD a.toNat (0,0,0,0)).2).2))).getD a.toNat (0,0,0,0)).2).2))).set a.toNat ((((b.set a.toNat (c,((b.getD a.toNat (0,0,0,0)).2).1,(((b.getD a.toNat (0,0,0,0)).2).2))).set a.toNat (((b.set a.toNat (c,((b.getD a.toNat (0,0,0,0)).2).1,(((b.getD a.toNat (0,0,0,0)).2).2))).getD a.toNat (0,0,0,0)).1,(W (c+1)),((((b.set a.toNat (c,((b.getD a.toNat (0,0,0,0)).2).1,(((b.getD a.toNat (0,0,0,0)).2).2))).getD a.toNat (0,0,0,0)).2).2))).getD a.toNat (0,0,0,0)).1,((((b.set a.toNat (c,((b.getD a.toNat (0,0,0,0)).2).1,(((b.getD a.toNat (0,0,0,0)).2).2))).set a.toNat (((b.set a.toNat (c,((b.getD a.toNat (0,0,0,0)).2).1,(((b.getD a.toNat (0,0,0,0)).2).2))).getD a.toNat (0,0,0,0)).1,(W (c+1)),((((b.set a.toNat (c,((b.getD a.toNat (0,0,0,0)).2).1,(((b.getD a.toNat (0,0,0,0)).2).2))).getD a.toNat (0,0,0,0)).2).2))).getD a.toNat (0,0,0,0)).2).1,(W ((W (c+1))+1)),(((((b.set a.toNat (c,((b.getD a.toNat (0,0,0,0)).2).1,(((b.getD a.toNat (0,0,0,0)).2).2))).set a.toNat (((b.set a.toNat (c,((b.getD a.toNat (0,0,0,0)).2).1,(((b.getD a.toNat (0,0,0,0)).2).2))).getD a.toNat (0,0,0,0)).1,(W (c+1)),((((b.set a.toNat (c,((b.getD a.toNat (0,0,0,0)).2).1,(((b.getD a.toNat (0,0,0,0)).2).2))).getD a.toNat (0,0,0,0)).2).2))).getD a.toNat (0,0,0,0)).2).2).2)).set a.toNat (((((b.set a.toNat (c,((b.getD a.toNat (0,0,0,0)).2).1,(((b.getD a.toNat (0,0,0,0)).2).2))).set a.toNat (((b.set a.toNat (c,((b.getD a.toNat (0,0,0,0)).2).1,(((b.getD a.toNat (0,0,0,0)).2).2))).getD a.toNat (0,0,0,0)).1,(W (c+1)),((((b.set a.toNat (c,((b.getD a.toNat (0,0,0,0)).2).1,(((b.getD a.toNat (0,0,0,0)).2).2))).getD a.toNat (0,0,0,0)).2).2))).set a.toNat ((((b.set a.toNat (c,((b.getD a.toNat (0,0,0,0)).2).1,(((b.getD a.toNat (0,0,0,0)).2).2))).set a.toNat (((b.set a.toNat (c,((b.getD a.toNat (0,0,0,0)).2).1,(((b.getD a.toNat (0,0,0,0)).2).2))).getD a.toNat (0,0,0,0)).1,(W (c+1)),((((b.set a.toNat (c,((b.getD a.toNat (0,0,0,0)).2).1,(((b.getD a.toNat (0,0,0,0)).2).2))).getD a.toNat (0,0,0,0)).2).2))).getD a.toNat (0,0,0,0)).1,((((b.set a.toNat (c,((b.getD a.toNat (0,0,0,0)).2).1,(((b.getD a.toNat (0,0,0,0)).2).2))).set a.toNat (((b.set a.toNat (c,((b.getD a.toNat (0,0,0,0)).2).1,(((b.getD a.toNat (0,0,0,0)).2).2))).getD a.toNat (0,0,0,0)).1,(W (c+1)),((((b.set a.toNat (c,((b.getD a.toNat (0,0,0,0)).2).1,(((b.getD a.toNat (0,0,0,0)).2).2))).getD a.toNat (0,0,0,0)).2).2))).getD a.toNat (0,0,0,0)).2).1,(W ((W (c+1))+1)),(((((b.set a.toNat (c,((b.getD a.toNat (0,0,0,0)).2).1,(((b.getD a.toNat (0,0,0,0)).2).2))).set a.toNat (((b.set a.toNat (c,((b.getD a.toNat (0,0,0,0)).2).1,(((b.getD a.toNat (0,0,0,0)).2).2))).getD a.toNat (0,0,0,0)).1,(W (c+1)),((((b.set a.toNat (c,((b.getD a.toNat (0,0,0,0)).2).1,(((b.getD a.toNat (0,0,0,0)).2).2))).getD a.toNat (0,0,0,0)).2).2))).getD a.toNat (0,0,0,0)).2).2).2)).getD a.toNat (0,0,0,0)).1,(((((b.set a.toNat (c,((b.getD a.toNat (0,0,0,0)).2).1,(((b.getD a.toNat (0,0,0,0)).2).2))).set a.toNat (((b.set a.toNat (c,((b.getD a.toNat (0,0,0,0)).2).1,(((b.getD a.toNat (0,0,0,0)).2).2))).getD a.toNat (0,0,0,0)).1,(W (c+1)),((((b.set a.toNat (c,((b.getD a.toNat (0,0,0,0)).2).1,(((b.getD a.toNat (0,0,0,0)).2).2))).getD a.toNat (0,0,0,0)).2).2))).set a.toNat ((((b.set a.toNat (c,((b.getD a.toNat (0,0,0,0)).2).1,(((b.getD a.toNat (0,0,0,0)).2).2))).set a.toNat (((b.set a.toNat (c,((b.getD a.toNat (0,0,0,0)).2).1,(((b.getD a.toNat (0,0,0,0)).2).2))).getD a.toNat (0,0,0,0)).1,(W (c+1)),((((b.set a.toNat (c,((b.getD a.toNat (0,0,0,0)).2).1,(((b.getD a.toNat (0,0,0,0)).2).2))).getD a.toNat (0,0,0,0)).2).2))).getD a.toNat (0,0,0,0)).1,((((b.set a.toNat (c,((b.getD a.toNat (0,0,0,0)).2).1,(((b.getD a.toNat (0,0,0,0)).2).2))).set a.toNat (((b.set a.toNat (c,((b.getD a.toNat (0,0,0,0)).2).1,(((b.getD a.toNat (0,0,0,0)).2).2))).getD a.toNat (0,0,0,0)).1,(W (c+1)),((((b.set a.toNat (c,((b.getD a.toNat (0,0,0,0)).2).1,(((b.getD a.toNat (0,0,0,0)).2).2))).getD a.toNat (0,0,0,0)).2).2))).getD a.toNat (0,0,0,0)).2).1,(W ((W (c+1))+1)),(((((b.set a.toNat (c,((b.getD a.toNat (0,0,0,0)).2).1,(((b.getD a.toNat (0,0,0,0)).2).2))).set a.toNat (((b.set a.toNat (c,((b.getD a.toNat (0,0,0,0)).2).1,(((b.getD a.toNat (0,0,0,0)).2).2))).getD a.toNat (0,0,0,0)).1,(W (c+1)),((((b.set a.toNat (c,((b.getD a.toNat (0,0,0,0)).2).1,(((b.getD a.toNat (0,0,0,0)).2).2))).getD a.toNat (0,0,0,0)).2).2))).getD a.toNat (0,0,0,0)).2).2).2)).getD a.toNat (0,0,0,0)).2).1,((((((b.set a.toNat (c,((b.getD a.toNat (0,0,0,0)).2).1,(((b.getD a.toNat (0,0,0,0)).2).2))).set a.toNat (((b.set a.toNat (c,((b.getD a.toNat (0,0,0,0)).2).1,(((b.getD a.toNat (0,0,0,0)).2).2))).getD a.toNat (0,0,0,0)).1,(W (c+1)),((((b.set a.toNat (c,((b.getD a.toNat (0,0,0,0)).2).1,(((b.getD a.toNat (0,0,0,0)).2).2))).getD a.toNat (0,0,0,0)).2).2))).set a.toNat ((((b.set a.toNat (c,((b.getD a.toNat (0,0,0,0)).2).1,(((b.getD a.toNat (0,0,0,0)).2).2))).set a.toNat (((b.set a.toNat (c,((b.getD a.toNat (0,0,0,0)).2).1,(((b.getD a.toNat (0,0,0,0)).2).2))).getD a.toNat (0,0,0,0)).1,(W (c+1)),((((b.set a.toNat (c,((b.getD a.toNat (0,0,0,0)).2).1,(((b.getD a.toNat (0,0,0,0)).2).2))).getD a.toNat (0,0,0,0)).2).2))).getD a.toNat (0,0,0,0)).1,((((b.set a.toNat (c,((b.getD a.toNat (0,0,0,0)).2).1,(((b.getD a.toNat (0,0,0,0)).2).2))).set a.toNat (((b.set a.toNat (c,((b.getD a.toNat (0,0,0,0)).2).1,(((b.getD a.toNat (0,0,0,0)).2).2))).getD a.toNat (0,0,0,0)).1,(W (c+1)),((((b.set a.toNat (c,((b.getD a.toNat (0,0,0,0)).2).1,(((b.getD a.toNat (0,0,0,0)).2).2))).getD a.toNat (0,0,0,0)).2).2))).getD a.toNat (0,0,0,0)).2).1,(W ((W (c+1))+1)),(((((b.set a.toNat (c,((b.getD a.toNat (0,0,0,0)).2).1,(((b.getD a.toNat (0,0,0,0)).2).2))).set a.toNat (((b.set a.toNat (c,((b.getD a.toNat (0,0,0,0)).2).1,(((b.getD a.toNat (0,0,0,0)).2).2))).getD a.toNat (0,0,0,0)).1,(W (c+1)),((((b.set a.toNat (c,((b.getD a.toNat (0,0,0,0)).2).1,(((b.getD a.toNat (0,0,0,0)).2).2))).getD a.toNat (0,0,0,0)).2).2))).getD a.toNat (0,0,0,0)).2).2).2)).getD a.toNat (0,0,0,0)).2).2).1,(W ((W ((W (c+1))+1))+1))))))))))))
 else
  k0 c b
abbrev Sy:Tm:=⟨[(0,.k (.hw 1000)),(1,.d hI),(5,.d hI)],[(1000,.arr 125 hN false)],[],[]⟩
abbrev Awp:Tm:=⟨[(1,.d hI)],[(1000,.arr 125 hN false)],[],[]⟩
abbrev A26:List (Exit × Tm):=[(.exit 0,Awp)]
def A25 {α:Type} (n:Nat) (v:Sy.den) (f:Sy.den->Option α) (ks:KS α A26):Option α:=Nr n v.1.2.1 v.1.2.2.1 v.2.1 (λa b c=>f (((),a,b,()),(c,()))) (λw0 w1=>ks.1 ((w0,()),(w1,())))
def Z8 {α:Type} (n m:Nat) (a b:Int) (c:LN) (k0:Int->LN->Option α):Option α:=A5 (A25 n) m (((),a,b,()),(c,())) (λw=>k0 w.1.1 w.2.1,())
theorem Acd {α n m a b c k0}:Z8 (α:=α) n (m+1) a b c k0=Nr n a b c (λa b c=>Z8 n m a b c k0) k0:=rfl
def Arl (n:Nat) (a0:LN) (a1:Int):Option (Int × LN) :=
 Z8 n n a1 0 a0
  (λa b=>(
   some (a,b)))
def Awq (n:Nat):Ent3:=⟨86,[.one (.own 125 hN),.im hI],[[.im hI]],λx=>Arl n x.1 x.2⟩
def Ahc (α:Type) (n:Nat):D3 α:={ reg:=[],join:=[],loop:=[(2,⟨Sy,A26,A5 (A25 n) n⟩)] }
theorem Acc (α:Type) (n:Nat):Ao PP (Ah (Ahc α n).reg):=trivial
theorem Ark (α:Type) (n:Nat):LO.Sound (α:=α) PP ⟨41,[]⟩ ⟨Sy,A26,A5 (A25 n) n⟩ (.loop ((A0 Tryz.f86).at [1,0,1,0,0])):=Ba (D:=Ahc α n) (Acc α n) n
theorem Be6 (α:Type) (n:Nat):D3.OK PP TT ⟨41,[]⟩ (Ahc α n) (A0 Tryz.f86) :=
 D3.OK.mk3 (Acc α n) (show Ab (A0 Tryz.f86)=[(2,(.loop ((A0 Tryz.f86).at [1,0,1,0,0])))] by kernel_rfl) ⟨Ad rfl (Ark α n),trivial⟩
theorem B99 (n:Nat):(Awq n).Sound PP:=Lz (fn:=Tryz.f86) (Be6 _ n)

def Ahq (n:Nat) (a0:LN × Int) (a1:Int):Option (Int × LN) :=
 ob (Arl n a0.1 a1) λa =>
 gd (Nat.beq a.2.length a0.1.length&&true) (
  some (a.1,a.2))
def Ax9 (n:Nat):Ent3:=⟨46,[.mix [.own 125 hN,.im hI],.im hI],[[.im hI]],λx=>Ahq n x.1 x.2⟩
def Ben (α:Type) (n:Nat):D3 α:={ reg:=[(1,⟨0,[],[(3,{ entB:=some (Awq n),hb:=310 })]⟩)],join:=[],loop:=[] }
theorem B9l (n:Nat):(Ax9 n).Sound PP:=A8r (fn:=Tryz.f46) (D:=Ben _ n) ⟨B99 n,trivial⟩

def Anz {α:Type} (n:Nat) (b:LI) (c a:Int) (f:LI->Int->Int->Option α) (k0:Int->Option α):Option α :=
 bif (decide (a<(b.length:Int))) then
  gd (decide (0<=a)&&decide (a<(b.length:Int))) (
   none)
 else
  k0 c
abbrev Z6:Tm:=⟨[(0,.d hIs),(1,.d hI),(5,.d hI)],[],[],[]⟩
abbrev B49:Tm:=⟨[(1,.d hI)],[],[],[]⟩
abbrev A9a:List (Exit × Tm):=[(.exit 0,B49)]
def A99 {α:Type} (n:Nat) (v:Z6.den) (f:Z6.den->Option α) (ks:KS α A9a):Option α:=Anz n v.1.1 v.1.2.1 v.1.2.2.1 (λa b c=>f ((a,b,c,()),())) (λw0=>ks.1 ((w0,()),()))
def Ah9 {α:Type} (n m:Nat) (a:LI) (b c:Int) (k0:Int->Option α):Option α:=A5 (A99 n) m ((a,b,c,()),()) (λw=>k0 w.1.1,())
theorem B48 {α n m a b c k0}:Ah9 (α:=α) n (m+1) a b c k0=Anz n a b c (λa b c=>Ah9 n m a b c k0) k0:=rfl
def f87 (n:Nat) (a0:LI) (a1:Int):Option Int :=
 Ah9 n n a0 a1 0
  (λa=>(
   some a))
def Arh (n:Nat):Ent:=⟨87,[hIs,hI],[hI],λx=>f87 n x.1 x.2⟩
def Ari (α:Type) (n:Nat):D3 α:={ reg:=[],join:=[],loop:=[(2,⟨Z6,A9a,A5 (A99 n) n⟩)] }
theorem Ah8 (α:Type) (n:Nat):Ao PP (Ah (Ari α n).reg):=trivial
theorem Awn (α:Type) (n:Nat):LO.Sound (α:=α) PP ⟨19,[]⟩ ⟨Z6,A9a,A5 (A99 n) n⟩ (.loop ((A0 Tryz.f87).at [1,0,1,0,0])):=Ba (D:=Ari α n) (Ah8 α n) n
theorem Bir (α:Type) (n:Nat):D3.OK PP TT ⟨19,[]⟩ (Ari α n) (A0 Tryz.f87) :=
 D3.OK.mk3 (Ah8 α n) (show Ab (A0 Tryz.f87)=[(2,(.loop ((A0 Tryz.f87).at [1,0,1,0,0])))] by kernel_rfl) ⟨Ad rfl (Awn α n),trivial⟩
theorem Awm (n:Nat):(Arh n).Sound PP:=fk (fn:=Tryz.f87) (Bir _ n)

def Sx {α:Type} (n:Nat) (c a:Int) (b:LI) (f:Int->Int->LI->Option α) (k0:Int->LI->Option α):Option α :=
 bif (decide (a<(b.length:Int))) then
  gd (decide (0<=a)&&decide (a<(b.length:Int))) (
   gd (decide (a.toNat<b.length)) (
    f (W (c+1)) (W (a+1)) (b.set a.toNat c)))
 else
  k0 c b
abbrev Sw:Tm:=⟨[(0,.k (.hw 1000)),(1,.d hI),(5,.d hI)],[(1000,.arr 3 hI false)],[],[]⟩
abbrev Awo:Tm:=⟨[(1,.d hI)],[(1000,.arr 3 hI false)],[],[]⟩
abbrev A24:List (Exit × Tm):=[(.exit 0,Awo)]
def A23 {α:Type} (n:Nat) (v:Sw.den) (f:Sw.den->Option α) (ks:KS α A24):Option α:=Sx n v.1.2.1 v.1.2.2.1 v.2.1 (λa b c=>f (((),a,b,()),(c,()))) (λw0 w1=>ks.1 ((w0,()),(w1,())))
def Z7 {α:Type} (n m:Nat) (a b:Int) (c:LI) (k0:Int->LI->Option α):Option α:=A5 (A23 n) m (((),a,b,()),(c,())) (λw=>k0 w.1.1 w.2.1,())
theorem Acb {α n m a b c k0}:Z7 (α:=α) n (m+1) a b c k0=Sx n a b c (λa b c=>Z7 n m a b c k0) k0:=rfl
def A9c (n:Nat) (a0:LI) (a1:Int):Option (Int × LI) :=
 Z7 n n a1 0 a0
  (λa b=>(
   some (a,b)))
def Aha (n:Nat):Ent3:=⟨87,[.one (.own 3 hI),.im hI],[[.im hI]],λx=>A9c n x.1 x.2⟩
def Ahb (α:Type) (n:Nat):D3 α:={ reg:=[],join:=[],loop:=[(2,⟨Sw,A24,A5 (A23 n) n⟩)] }
theorem Aca (α:Type) (n:Nat):Ao PP (Ah (Ahb α n).reg):=trivial
theorem Arj (α:Type) (n:Nat):LO.Sound (α:=α) PP ⟨19,[]⟩ ⟨Sw,A24,A5 (A23 n) n⟩ (.loop ((A0 Tryz.f87).at [1,0,1,0,0])):=Ba (D:=Ahb α n) (Aca α n) n
theorem Be5 (α:Type) (n:Nat):D3.OK PP TT ⟨19,[]⟩ (Ahb α n) (A0 Tryz.f87) :=
 D3.OK.mk3 (Aca α n) (show Ab (A0 Tryz.f87)=[(2,(.loop ((A0 Tryz.f87).at [1,0,1,0,0])))] by kernel_rfl) ⟨Ad rfl (Arj α n),trivial⟩
theorem Ao0 (n:Nat):(Aha n).Sound PP:=Lz (fn:=Tryz.f87) (Be5 _ n)

def T3 {α:Type} (n:Nat) (e a:Int) (d:LR) (f:Int->Int->LR->Option α) (k0:Int->LR->Option α):Option α :=
 bif (decide (a<(d.length:Int))) then
  gd (decide (0<=a)&&decide (a<(d.length:Int))) (
   gd (decide (a.toNat<d.length)) (
    let b:=d.set a.toNat (((Int.tmod e 3)==0),((d.getD a.toNat (false,[],[])).2))
    gd (decide (0<=a)&&decide (a<(b.length:Int))) (
     gd (decide (a.toNat<b.length)) (
      let h:=b.getD a.toNat (false,[],[])
      bif h.2.1.isEmpty then
       ob (f87 n [] (W (e+1))) λm =>
       gd (decide (0<=a)&&decide (a<(b.length:Int))) (
        gd (decide (a.toNat<b.length)) (
         let i:=b.getD a.toNat (false,[],[])
         bif i.2.2.isEmpty then
          ob (f87 n [] m) λo =>
          f o (W (a+1)) b
         else
          ob (A9c n i.2.2 m) λj =>
          gd (Nat.beq j.2.length i.2.2.length&&true) (
           gd (decide (a.toNat<b.length)) (
            let p:=b.set a.toNat ((b.getD a.toNat (false,[],[])).1,((b.getD a.toNat (false,[],[])).2).1,j.2)
            f j.1 (W (a+1)) p))))
      else
       ob (A9c n h.2.1 (W (e+1))) λg =>
       gd (Nat.beq g.2.length h.2.1.length&&true) (
        gd (decide (a.toNat<b.length)) (
         let c:=b.set a.toNat ((b.getD a.toNat (false,[],[])).1,g.2,((b.getD a.toNat (false,[],[])).2).2)
         gd (decide (0<=a)&&decide (a<(c.length:Int))) (
          gd (decide (a.toNat<c.length)) (
           let k:=c.getD a.toNat (false,[],[])
           bif k.2.2.isEmpty then
            ob (f87 n [] g.1) λq =>
            f q (W (a+1)) c
           else
            ob (A9c n k.2.2 g.1) λl =>
            gd (Nat.beq l.2.length k.2.2.length&&true) (
             gd (decide (a.toNat<c.length)) (
              let r:=c.set a.toNat ((c.getD a.toNat (false,[],[])).1,((c.getD a.toNat (false,[],[])).2).1,l.2)
              f l.1 (W (a+1)) r))))))))))
 else
  k0 e d
abbrev T2:Tm:=⟨[(0,.k (.hw 1000)),(1,.d hI),(5,.d hI)],[(1000,.tree 31 hR false)],[],[]⟩
abbrev Axd:Tm:=⟨[(1,.d hI)],[(1000,.tree 31 hR false)],[],[]⟩
abbrev A2b:List (Exit × Tm):=[(.exit 0,Axd)]
def A2a {α:Type} (n:Nat) (v:T2.den) (f:T2.den->Option α) (ks:KS α A2b):Option α:=T3 n v.1.2.1 v.1.2.2.1 v.2.1 (λa b c=>f (((),a,b,()),(c,()))) (λw0 w1=>ks.1 ((w0,()),(w1,())))
def Qu {α:Type} (n m:Nat) (a b:Int) (c:LR) (k0:Int->LR->Option α):Option α:=A5 (A2a n) m (((),a,b,()),(c,())) (λw=>k0 w.1.1 w.2.1,())
theorem Aci {α n m a b c k0}:Qu (α:=α) n (m+1) a b c k0=T3 n a b c (λa b c=>Qu n m a b c k0) k0:=rfl
def X1 (n:Nat) (a0:LR) (a1:Int):Option (Int × LR) :=
 Qu n n a1 0 a0
  (λa b=>(
   some (a,b)))
def A6h (n:Nat):Ent3:=⟨37,[.one (.tree 31 hR),.im hI],[[.im hI]],λx=>X1 n x.1 x.2⟩
def Ahv (α:Type) (n:Nat):D3 α:={ reg:=[(6,⟨0,[],[(4,{ bor:=some 2000 }),(6,{ ent:=some (Arh n),alt:=[(Aha n)],hb:=320,shut:=some (.hole 2000) })]⟩),(7,⟨0,[],[(4,{ bor:=some 2001 }),(6,{ ent:=some (Arh n),alt:=[(Aha n)],hb:=310,shut:=some (.hole 2001) })]⟩)],join:=[],loop:=[(2,⟨T2,A2b,A5 (A2a n) n⟩)] }
theorem Ach (α:Type) (n:Nat):Ao PP (Ah (Ahv α n).reg):=⟨Ao0 n,Awm n,Ao0 n,Awm n,trivial⟩
theorem As0 (α:Type) (n:Nat):LO.Sound (α:=α) PP ⟨36,[]⟩ ⟨T2,A2b,A5 (A2a n) n⟩ (.loop ((A0 Tryz.f37).at [1,0,1,0,0])):=Ba (D:=Ahv α n) (Ach α n) n
theorem Bex (α:Type) (n:Nat):D3.OK PP TT ⟨36,[]⟩ (Ahv α n) (A0 Tryz.f37) :=
 D3.OK.mk3 (Ach α n) (show Ab (A0 Tryz.f37)=[(2,(.loop ((A0 Tryz.f37).at [1,0,1,0,0])))] by kernel_rfl) ⟨Ad rfl (As0 α n),trivial⟩
theorem A9w (n:Nat):(A6h n).Sound PP:=Lz (fn:=Tryz.f37) (Bex _ n)

def Z5 {α:Type} (n:Nat) (b:LI) (c a:Int) (f:LI->Int->Int->Option α) (k0 k1:Int->Option α):Option α :=
 bif (decide (a<(b.length:Int))) then
  gd (decide (0<=a)&&decide (a<(b.length:Int))) (
   bif ((b.getD a.toNat 0) != c) then
    k0 (-1)
   else
    f b (W (c+1)) (W (a+1)))
 else
  k1 c
abbrev Z3:Tm:=⟨[(0,.d hIs),(1,.d hI),(5,.d hI)],[],[],[]⟩
abbrev B47:Tm:=⟨[(4,.d hI)],[],[],[]⟩
abbrev B46:Tm:=⟨[(1,.d hI)],[],[],[]⟩
abbrev A98:List (Exit × Tm):=[(.ret,B47),(.exit 0,B46)]
def A97 {α:Type} (n:Nat) (v:Z3.den) (f:Z3.den->Option α) (ks:KS α A98):Option α:=Z5 n v.1.1 v.1.2.1 v.1.2.2.1 (λa b c=>f ((a,b,c,()),())) (λw0=>ks.1 ((w0,()),())) (λw0=>ks.2.1 ((w0,()),()))
def A6b {α:Type} (n m:Nat) (a:LI) (b c:Int) (k0 k1:Int->Option α):Option α:=A5 (A97 n) m ((a,b,c,()),()) (λw=>k0 w.1.1,λw=>k1 w.1.1,())
theorem Ah7 {α n m a b c k0 k1}:A6b (α:=α) n (m+1) a b c k0 k1=Z5 n a b c (λa b c=>A6b n m a b c k0 k1) k0 k1:=rfl
def f88 (n:Nat) (a0:LI) (a1:Int):Option Int :=
 A6b n n a0 a1 0
  (λa=>(
   some a))
  (λb=>(
   some b))
def Arf (n:Nat):Ent:=⟨88,[hIs,hI],[hI],λx=>f88 n x.1 x.2⟩
def Arg (α:Type) (n:Nat):D3 α:={ reg:=[],join:=[],loop:=[(2,⟨Z3,A98,A5 (A97 n) n⟩)] }
theorem Ah6 (α:Type) (n:Nat):Ao PP (Ah (Arg α n).reg):=trivial
theorem Awl (α:Type) (n:Nat):LO.Sound (α:=α) PP ⟨21,[]⟩ ⟨Z3,A98,A5 (A97 n) n⟩ (.loop ((A0 Tryz.f88).at [1,0,1,0,0])):=Ba (D:=Arg α n) (Ah6 α n) n
theorem Biq (α:Type) (n:Nat):D3.OK PP TT ⟨21,[]⟩ (Arg α n) (A0 Tryz.f88) :=
 D3.OK.mk3 (Ah6 α n) (show Ab (A0 Tryz.f88)=[(2,(.loop ((A0 Tryz.f88).at [1,0,1,0,0])))] by kernel_rfl) ⟨Ad rfl (Awl α n),trivial⟩
theorem Awj (n:Nat):(Arf n).Sound PP:=fk (fn:=Tryz.f88) (Biq _ n)

def Zh {α:Type} (n:Nat) (b:LR) (c a:Int) (f:LR->Int->Int->Option α) (k0 k1:Int->Option α):Option α :=
 bif (decide (a<(b.length:Int))) then
  gd (decide (0<=a)&&decide (a<(b.length:Int))) (
   let g:=b.getD a.toNat (false,[],[])
   bif (!(g.1==((Int.tmod c 3)==0))) then
    k0 (-1)
   else
    gd (decide (0<=a)&&decide (a<(b.length:Int))) (
     let h:=b.getD a.toNat (false,[],[])
     ob (f88 n h.2.1 (W (c+1))) λd =>
     bif (decide (d<0)) then
      k0 (-1)
     else
      gd (decide (0<=a)&&decide (a<(b.length:Int))) (
       let i:=b.getD a.toNat (false,[],[])
       ob (f88 n i.2.2 d) λe =>
       bif (decide (e<0)) then
        k0 (-1)
       else
        f b e (W (a+1)))))
 else
  k1 c
abbrev Zg:Tm:=⟨[(0,.d hRs),(1,.d hI),(5,.d hI)],[],[],[]⟩
abbrev B4o:Tm:=⟨[(4,.d hI)],[],[],[]⟩
abbrev B4n:Tm:=⟨[(1,.d hI)],[],[],[]⟩
abbrev A9s:List (Exit × Tm):=[(.ret,B4o),(.exit 0,B4n)]
def A9r {α:Type} (n:Nat) (v:Zg.den) (f:Zg.den->Option α) (ks:KS α A9s):Option α:=Zh n v.1.1 v.1.2.1 v.1.2.2.1 (λa b c=>f ((a,b,c,()),())) (λw0=>ks.1 ((w0,()),())) (λw0=>ks.2.1 ((w0,()),()))
def A6g {α:Type} (n m:Nat) (a:LR) (b c:Int) (k0 k1:Int->Option α):Option α:=A5 (A9r n) m ((a,b,c,()),()) (λw=>k0 w.1.1,λw=>k1 w.1.1,())
theorem A29 {α n m a b c k0 k1}:A6g (α:=α) n (m+1) a b c k0 k1=Zh n a b c (λa b c=>A6g n m a b c k0 k1) k0 k1:=rfl
def f47 (n:Nat) (a0:LR) (a1:Int):Option Int :=
 A6g n n a0 a1 0
  (λa=>(
   some a))
  (λb=>(
   some b))
def Arx (n:Nat):Ent:=⟨47,[hRs,hI],[hI],λx=>f47 n x.1 x.2⟩
def Ary (α:Type) (n:Nat):D3 α:={ reg:=[(7,⟨0,[],[(6,{ ent:=some (Arf n) })]⟩),(10,⟨0,[],[(6,{ ent:=some (Arf n) })]⟩)],join:=[],loop:=[(2,⟨Zg,A9s,A5 (A9r n) n⟩)] }
theorem Ahp (α:Type) (n:Nat):Ao PP (Ah (Ary α n).reg):=⟨Awj n,Awj n,trivial⟩
theorem Ax8 (α:Type) (n:Nat):LO.Sound (α:=α) PP ⟨42,[]⟩ ⟨Zg,A9s,A5 (A9r n) n⟩ (.loop ((A0 Tryz.f47).at [1,0,1,0,0])):=Ba (D:=Ary α n) (Ahp α n) n
theorem Bj6 (α:Type) (n:Nat):D3.OK PP TT ⟨42,[]⟩ (Ary α n) (A0 Tryz.f47) :=
 D3.OK.mk3 (Ahp α n) (show Ab (A0 Tryz.f47)=[(2,(.loop ((A0 Tryz.f47).at [1,0,1,0,0])))] by kernel_rfl) ⟨Ad rfl (Ax8 α n),trivial⟩
theorem Ax7 (n:Nat):(Arx n).Sound PP:=fk (fn:=Tryz.f47) (Bj6 _ n)

def Oq {α:Type} (n:Nat) (c:List (Rq × LR × LR × Rq)) (d a:Int) (b:LR) (f:(List (Rq × LR × LR × Rq))->Int->Int->LR->Option α) (k0:LR->Option α):Option α :=
 bif (decide (a<d)) then
  ob (f159 n a c) λe =>
  ob (f61 n e) λg =>
  gd (decide ((b.length+1)*56<=140737488355328)) (
   f c d (W (a+1)) (b++[g]))
 else
  k0 b
abbrev J5:Tm:=⟨[(1,.d (.clo 159 (.ref (.sl (.st (.pair hR (.pair hRs (.pair hRs hR)))))))),(5,.k (.hw 7)),(8,.d hI),(9,.d hI)],[(7,.arr 31 hR false)],[17],[]⟩
abbrev Aen:Tm:=⟨[(5,.k (.hw 7))],[(7,.arr 31 hR false)],[],[]⟩
abbrev Oo:List (Exit × Tm):=[(.exit 0,Aen)]
def On {α:Type} (n:Nat) (v:J5.den) (f:J5.den->Option α) (ks:KS α Oo):Option α:=Oq n v.1.1 v.1.2.2.1 v.1.2.2.2.1 v.2.1 (λa b c d=>f ((a,(),b,c,()),(d,()))) (λw0=>ks.1 (((),()),(w0,())))
def Hj {α:Type} (n m:Nat) (a:List (Rq × LR × LR × Rq)) (b c:Int) (d:LR) (k0:LR->Option α):Option α:=A5 (On n) m ((a,(),b,c,()),(d,())) (λw=>k0 w.2.1,())
theorem Aem {α n m a b c d k0}:Hj (α:=α) n (m+1) a b c d k0=Oq n a b c d (λa b c d=>Hj n m a b c d k0) k0:=rfl
def Uj (n:Nat) (a0:Int) (a1:List (Rq × LR × LR × Rq)):Option LR :=
 Hj n n a1 a0 0 []
  (λa=>(
   some a))
def A7m (n:Nat):Ent:=⟨105,[hI,(.clo 159 (.ref (.sl (.st (.pair hR (.pair hRs (.pair hRs hR)))))))],[hRs],λx=>Uj n x.1 x.2⟩
def Ui (α:Type) (n:Nat):D3 α:={ reg:=[(1,⟨0,[],[(0,{ sh:=some hR })]⟩),(5,⟨0,[],[(3,{ ent:=some (Ajw n) }),(4,{ ent:=some (Arv n) }),(5,{ sh:=some hR })]⟩)],join:=[],loop:=[(3,⟨J5,Oo,A5 (On n) n⟩)] }
theorem Vr (α:Type) (n:Nat):Ao PP (Ah (Ui α n).reg):=⟨Apd n,Ax3 n,trivial⟩
theorem Aau (α:Type) (n:Nat):LO.Sound (α:=α) PP ⟨21,[]⟩ ⟨J5,Oo,A5 (On n) n⟩ (.loop ((A0 Tryz.f105).at [1,1,0,1,0,0])):=Ba (D:=Ui α n) (Vr α n) n
theorem Atx (α:Type) (n:Nat):D3.OK PP TT ⟨21,[]⟩ (Ui α n) (A0 Tryz.f105) :=
 D3.OK.mk3 (Vr α n) (show Ab (A0 Tryz.f105)=[(3,(.loop ((A0 Tryz.f105).at [1,1,0,1,0,0])))] by kernel_rfl) ⟨Ad rfl (Aau α n),trivial⟩
theorem Amt (n:Nat):(A7m n).Sound PP:=fk (fn:=Tryz.f105) (Atx _ n)

def A8v {α:Type} (n:Nat) (e:LR) (c:LN) (g a h:Int) (i:LR) (d:List (Rq × LR × LR × Rq)) (f:LR->LN->Int->Int->Int->LR->(List (Rq × LR × LR × Rq))->Option α) (k0:(List (Rq × LR × LR × Rq))->Option α):Option α :=
 bif (decide (a<g)) then
  gd (decide (0<=a)&&decide (a<(c.length:Int))) (
   let j:=c.getD a.toNat (0,0,0,0)
   ob (Rf n (h,i) j e d) λb =>
   gd (Nat.beq b.2.length d.length&&true) (
    gd (decide ((b.2.length+1)*160<=140737488355328)) (
     f e c g (W (a+1)) h i (b.2++[b.1.1]))))
 else
  k0 d
abbrev Yx:Tm:=⟨[(1,.d hRs),(7,.k (.hp 7 0 0)),(8,.k (.hp 8 0 0)),(17,.d hNs),(18,.d hI),(19,.d hI)],[(7,.var 118 false false [.k (.hw 13)]),(8,.var 84 true false [.d hI,.d hRs]),(13,.arr 81 (.st (.pair hR (.pair hRs (.pair hRs hR)))) false)],[3,10,11,33],[]⟩
abbrev B3s:Tm:=⟨[(7,.k (.hp 7 0 0))],[(7,.var 118 false false [.k (.hw 13)]),(13,.arr 81 (.st (.pair hR (.pair hRs (.pair hRs hR)))) false)],[8],[]⟩
abbrev A8u:List (Exit × Tm):=[(.exit 0,B3s)]
def A8t {α:Type} (n:Nat) (v:Yx.den) (f:Yx.den->Option α) (ks:KS α A8u):Option α:=A8v n v.1.1 v.1.2.2.2.1 v.1.2.2.2.2.1 v.1.2.2.2.2.2.1 v.2.2.1.1 v.2.2.1.2.1 v.2.2.2.1 (λa b c d e g h=>f ((a,(),(),b,c,d,()),(((),()),(e,g,()),h,()))) (λw0=>ks.1 (((),()),(((),()),w0,())))
def A68 {α:Type} (n m:Nat) (a:LR) (b:LN) (c d e:Int) (f:LR) (g:List (Rq × LR × LR × Rq)) (k0:(List (Rq × LR × LR × Rq))->Option α):Option α:=A5 (A8t n) m ((a,(),(),b,c,d,()),(((),()),(e,f,()),g,())) (λw=>k0 w.2.2.1,())
theorem B3r {α n m a b c d e f g k0}:A68 (α:=α) n (m+1) a b c d e f g k0=A8v n a b c d e f g (λa b c d e f g=>A68 n m a b c d e f g k0) k0:=rfl
def f97 (n:Nat) (a0:LN × Int) (a1 a2:LR):Option LR :=
 A68 n n a1 a0.1 (a0.1.length:Int) 0 0 a2 []
  (λa=>(
   ob (Uj n (a.length:Int) a) λb =>
   some b))
def B7g (n:Nat):Ent:=⟨97,[(.st (.pair hNs hI)),hRs,hRs],[hRs],λx=>f97 n x.1 x.2.1 x.2.2⟩
def Ar6 (α:Type) (n:Nat):D3 α:={ reg:=[(1,⟨0,[],[(0,{ sh:=some (.st (.pair hR (.pair hRs (.pair hRs hR)))) })]⟩),(5,⟨0,[],[(4,{ alt:=[(A4k n)],hb:=310 })]⟩),(6,⟨0,[],[(2,{ sh:=some (.st (.pair hR (.pair hRs (.pair hRs hR)))) })]⟩),(8,⟨0,[],[(0,{ shut:=some (.stl 7 0 (.sl (.st (.pair hR (.pair hRs (.pair hRs hR)))))) }),(2,{ sh:=some (.ref (.sl (.st (.pair hR (.pair hRs (.pair hRs hR)))))) }),(3,{ ent:=some (A7m n) })]⟩)],join:=[],loop:=[(3,⟨Yx,A8u,A5 (A8t n) n⟩)] }
theorem Agz (α:Type) (n:Nat):Ao PP (Ah (Ar6 α n).reg):=⟨Adg n,Amt n,trivial⟩
theorem Aw7 (α:Type) (n:Nat):LO.Sound (α:=α) PP ⟨40,[]⟩ ⟨Yx,A8u,A5 (A8t n) n⟩ (.loop ((A0 Tryz.f97).at [1,1,0,1,0,0])):=Ba (D:=Ar6 α n) (Agz α n) n
theorem Bii (α:Type) (n:Nat):D3.OK PP TT ⟨40,[]⟩ (Ar6 α n) (A0 Tryz.f97) :=
 D3.OK.mk3 (Agz α n) (show Ab (A0 Tryz.f97)=[(3,(.loop ((A0 Tryz.f97).at [1,1,0,1,0,0])))] by kernel_rfl) ⟨Ad rfl (Aw7 α n),trivial⟩
theorem Bdw (n:Nat):(B7g n).Sound PP:=fk (fn:=Tryz.f97) (Bii _ n)

def f44 (n:Nat) (a0:LN × Int) (a1 a2:LR):Option (LR × Int) :=
 ob (f96 n a0 a1 a2) λa =>
 bif (a.2 != 0) then
  some ([],a.2)
 else
  ob (f97 n a0 a1 a2) λc =>
  ob (f76 n c) λb =>
  some (b.1,b.2)
def B7v (n:Nat):Ent:=⟨44,[(.st (.pair hNs hI)),hRs,hRs],[hRs,hI],λx=>f44 n x.1 x.2.1 x.2.2⟩
def Bj8 (α:Type) (n:Nat):D3 α:={ reg:=[(1,⟨0,[],[(3,{ ent:=some (Ar9 n) })]⟩),(4,⟨0,[],[(3,{ ent:=some (B7g n) }),(4,{ ent:=some (Af1 n) })]⟩)],join:=[],loop:=[] }
theorem Beq (n:Nat):(B7v n).Sound PP:=Ay (fn:=Tryz.f44) (D:=Bj8 _ n) ⟨Awb n,Bdw n,Ahj n,trivial⟩

def Ao3 {α:Type} (n:Nat) (b:LR) (c a:Int) (f:LR->Int->Int->Option α) (k0:Int->Option α):Option α :=
 bif (decide (a<(b.length:Int))) then
  gd (decide (0<=a)&&decide (a<(b.length:Int))) (
   none)
 else
  k0 c
abbrev Zi:Tm:=⟨[(0,.d hRs),(1,.d hI),(5,.d hI)],[],[],[]⟩
abbrev B4q:Tm:=⟨[(1,.d hI)],[],[],[]⟩
abbrev A9v:List (Exit × Tm):=[(.exit 0,B4q)]
def A9u {α:Type} (n:Nat) (v:Zi.den) (f:Zi.den->Option α) (ks:KS α A9v):Option α:=Ao3 n v.1.1 v.1.2.1 v.1.2.2.1 (λa b c=>f ((a,b,c,()),())) (λw0=>ks.1 ((w0,()),()))
def Ahu {α:Type} (n m:Nat) (a:LR) (b c:Int) (k0:Int->Option α):Option α:=A5 (A9u n) m ((a,b,c,()),()) (λw=>k0 w.1.1,())
theorem B4p {α n m a b c k0}:Ahu (α:=α) n (m+1) a b c k0=Ao3 n a b c (λa b c=>Ahu n m a b c k0) k0:=rfl
def f37 (n:Nat) (a0:LR) (a1:Int):Option Int :=
 Ahu n n a0 a1 0
  (λa=>(
   some a))
def B7y (n:Nat):Ent:=⟨37,[hRs,hI],[hI],λx=>f37 n x.1 x.2⟩
def Arz (α:Type) (n:Nat):D3 α:={ reg:=[],join:=[],loop:=[(2,⟨Zi,A9v,A5 (A9u n) n⟩)] }
theorem Aht (α:Type) (n:Nat):Ao PP (Ah (Arz α n).reg):=trivial
theorem Axc (α:Type) (n:Nat):LO.Sound (α:=α) PP ⟨36,[]⟩ ⟨Zi,A9v,A5 (A9u n) n⟩ (.loop ((A0 Tryz.f37).at [1,0,1,0,0])):=Ba (D:=Arz α n) (Aht α n) n
theorem Bjc (α:Type) (n:Nat):D3.OK PP TT ⟨36,[]⟩ (Arz α n) (A0 Tryz.f37) :=
 D3.OK.mk3 (Aht α n) (show Ab (A0 Tryz.f37)=[(2,(.loop ((A0 Tryz.f37).at [1,0,1,0,0])))] by kernel_rfl) ⟨Ad rfl (Axc α n),trivial⟩
theorem Bew (n:Nat):(B7y n).Sound PP:=fk (fn:=Tryz.f37) (Bjc _ n)

def f7 (n:Nat) (a0:LN × Int) (a1 a2:LR):Option Bool :=
 ob (f41 n a0 1048576) λg =>
 bif (decide (g<0)) then
  some true
 else
  ob (f30 n a1 g) λh =>
  bif (decide (h<0)) then
   some true
  else
   ob (f30 n a2 h) λx =>
   bif (decide (x<0)) then
    some true
   else
    ob (f43 n a0) λy =>
    ob (f32 n a1) λz =>
    ob (f32 n a2) λd0 =>
    ob (f42 n y z d0) λa =>
    ob (Ahs n a0) λb =>
    ob (Ai3 n a1) λc =>
    ob (Ai3 n a2) λd =>
    ob (A9t n b c d) λd1 =>
    Fv d1 (λe =>
     ob (f35 n e.1 a.1) λd2 =>
     bif (!d2) then
      some false
     else
      bif (e.2 != a.2) then
       some false
      else
       ob (f43 n a0) λd3 =>
       ob (f45 n b d3) λd4 =>
       bif (!d4) then
        some false
       else
        ob (f32 n a1) λd5 =>
        ob (f35 n c d5) λd6 =>
        bif (!d6) then
         some false
        else
         ob (f32 n a2) λd7 =>
         ob (f35 n d d7) λd8 =>
         bif (!d8) then
          some false
         else
          ob (Ahq n (b.1,b.2) 1) λi =>
          gd (Nat.beq i.2.length b.1.length&&true) (
           ob (X1 n c i.1) λj =>
           gd (Nat.beq j.2.length c.length&&true) (
            ob (X1 n d j.1) λk =>
            gd (Nat.beq k.2.length d.length&&true) (
             bif (decide (k.1<0)) then
              some false
             else
              ob (f35 n e.1 a.1) λd9 =>
              bif (!d9) then
               some false
              else
               bif (e.2 != a.2) then
                some false
               else
                ob (X1 n e.1 1) λf =>
                gd (Nat.beq f.2.length e.1.length&&true) (
                 ob (f47 n f.2 1) λl =>
                 bif (decide (l<0)) then
                  some false
                 else
                  bif (l != f.1) then
                   some false
                  else
                   ob (f43 n a0) λe0 =>
                   ob (f32 n a1) λe1 =>
                   ob (f32 n a2) λe2 =>
                   ob (f44 n e0 e1 e2) λm =>
                   ob (f35 n m.1 a.1) λe3 =>
                   bif (!e3) then
                    some false
                   else
                    bif (m.2 != a.2) then
                     some false
                    else
                     ob (f47 n f.2 1) λo =>
                     bif (decide (o<0)) then
                      some false
                     else
                      bif (o != f.1) then
                       some false
                      else
                       some true))))) (λp =>
     ob (f35 n [] a.1) λe4 =>
     bif (!e4) then
      some false
     else
      bif (p.2 != a.2) then
       some false
      else
       ob (f43 n a0) λe5 =>
       ob (f45 n b e5) λe6 =>
       bif (!e6) then
        some false
       else
        ob (f32 n a1) λe7 =>
        ob (f35 n c e7) λe8 =>
        bif (!e8) then
         some false
        else
         ob (f32 n a2) λe9 =>
         ob (f35 n d e9) λf0 =>
         bif (!f0) then
          some false
         else
          ob (Ahq n (b.1,b.2) 1) λq =>
          gd (Nat.beq q.2.length b.1.length&&true) (
           ob (X1 n c q.1) λr =>
           gd (Nat.beq r.2.length c.length&&true) (
            ob (X1 n d r.1) λs =>
            gd (Nat.beq s.2.length d.length&&true) (
             bif (decide (s.1<0)) then
              some false
             else
              ob (f35 n [] a.1) λf1 =>
              bif (!f1) then
               some false
              else
               bif (p.2 != a.2) then
                some false
               else
                ob (f37 n [] 1) λt =>
                ob (f47 n [] 1) λu =>
                bif (decide (u<0)) then
                 some false
                else
                 bif (u != t) then
                  some false
                 else
                  ob (f43 n a0) λf2 =>
                  ob (f32 n a1) λf3 =>
                  ob (f32 n a2) λf4 =>
                  ob (f44 n f2 f3 f4) λv =>
                  ob (f35 n v.1 a.1) λf5 =>
                  bif (!f5) then
                   some false
                  else
                   bif (v.2 != a.2) then
                    some false
                   else
                    ob (f47 n [] 1) λw =>
                    bif (decide (w<0)) then
                     some false
                    else
                     bif (w != t) then
                      some false
                     else
                      some true))))
def Bk1 (n:Nat):Ent:=⟨7,[(.st (.pair hNs hI)),hRs,hRs],[.bool],λx=>f7 n x.1 x.2.1 x.2.2⟩
def Bk2 (α:Type) (n:Nat):D3 α:={ reg:=[(2,⟨0,[],[(2,{ ent:=some (B7x n) })]⟩),(5,⟨0,[],[(2,{ ent:=some (As4 n) })]⟩),(8,⟨0,[],[(2,{ ent:=some (As4 n) })]⟩),(11,⟨0,[],[(1,{ ent:=some (Af2 n) }),(3,{ ent:=some (T4 n) }),(5,{ ent:=some (T4 n) }),(6,{ ent:=some (B7w n) })]⟩),(12,⟨0,[],[(1,{ entB:=some (Axb n),hb:=310 })]⟩),(13,⟨0,[],[(1,{ entB:=some (Ai1 n),hb:=320 })]⟩),(14,⟨0,[],[(1,{ entB:=some (Ai1 n),hb:=330 })]⟩),(15,⟨0,[],[(3,{ entB:=some (Axa n),hb:=340 })]⟩),(16,⟨0,[],[(2,{ ent:=some (Zk n) })]⟩),(18,⟨3,[],[(2,{ ent:=some (Af2 n) }),(3,{ ent:=some (B7u n) })]⟩),(20,⟨0,[],[(2,{ ent:=some (T4 n) }),(3,{ ent:=some (Zk n) })]⟩),(22,⟨0,[],[(2,{ ent:=some (T4 n) }),(3,{ ent:=some (Zk n) })]⟩),(25,⟨0,[],[(2,{ entB:=some (Ax9 n),hb:=350 })]⟩),(26,⟨0,[],[(2,{ alt:=[(A6h n)],hb:=360 })]⟩),(27,⟨0,[],[(2,{ alt:=[(A6h n)],hb:=370 })]⟩),(28,⟨0,[],[(5,{ ent:=some (Zk n) })]⟩),(31,⟨0,[],[(2,{ ent:=some (B7y n),alt:=[(A6h n)],hb:=380 })]⟩),(33,⟨0,[],[(2,{ ent:=some (Arx n) })]⟩),(38,⟨0,[],[(1,{ ent:=some (Af2 n) }),(3,{ ent:=some (T4 n) }),(5,{ ent:=some (T4 n) }),(6,{ ent:=some (B7v n) })]⟩),(39,⟨0,[],[(2,{ ent:=some (Zk n) })]⟩),(42,⟨0,[],[(2,{ ent:=some (Arx n) })]⟩)],join:=[],loop:=[] }
theorem Biy (n:Nat):(Bk1 n).Sound PP:=Ay (fn:=Tryz.f7) (D:=Bk2 _ n) ⟨Bev n,Axj n,Axj n,Ahr n,Qv n,Qv n,Beu n,B9o n,Ao4 n,Ao4 n,B9n n,X2 n,Ahr n,Beo n,Qv n,X2 n,Qv n,X2 n,B9l n,A9w n,A9w n,X2 n,A9w n,Bew n,Ax7 n,Ahr n,Qv n,Qv n,Beq n,X2 n,Ax7 n,trivial⟩

end Go.Ev
