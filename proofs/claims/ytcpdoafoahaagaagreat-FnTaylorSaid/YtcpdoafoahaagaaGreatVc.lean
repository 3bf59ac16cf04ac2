/- DERIVED. What the functions compute, and that they do. -/
import Derived.Test.YtcpdoafoahaagaaGreatVb

set_option linter.all false
set_option linter.unusedVariables false
set_option linter.unusedSimpArgs false

namespace Go.Ev
open Go Go.Proofs Go.RowKit Go.Shelf
abbrev Aw7:Tm:=⟨[(2,.d hI),(3,.k (.hp 3 0 0)),(6,.k (.hp 6 0 0)),(7,.k (.hp 7 0 0))],[(3,.var 118 true false [.d hI,.d hRs]),(6,.var 115 true false [.d .bool,.d .nil,.d .nil,.d .nil,.d .nil,.d .bool,.d .nil,.d .nil]),(7,.var 115 false false [.d .bool,.d hIs,.d hIs,.k (.hw 313),.k (.hw 314),.d .bool,.d hIs,.d hIs]),(313,.arr 30 hR false),(314,.arr 30 hR false)],[4],[]⟩
def Aao (n:Nat) (a0:Int × LR) (a1:Rq) (a2:Int):Option (Rq × LR × LR × Rq) :=
 ob (Ae0 n a0 a1) λa =>
 let b:=λ(c:LR)=>(
  gd ((!a0.2.isEmpty)) (
   gd (decide (0<=a2)&&decide (a2<(a0.2.length:Int))) (
    let d:=a0.2.getD a2.toNat (false,[],[])
    some ((a.1,a.2.1,a.2.2.1),c,a.2.2.2.2.1,d))))
 bif (decide (a2<a0.1)) then
  ob (f92 n 1) λe =>
  gd (decide (0<=a2)&&decide (a2<(a.2.2.2.1.length:Int))) (
   gd (decide (a2.toNat<a.2.2.2.1.length)) (
    b (a.2.2.2.1.set a2.toNat e)))
 else
  b a.2.2.2.1
def Aj2 (n:Nat):Ent:=⟨216,[(.st (.pair hI hRs)),hR,hI],[(.st (.pair hR (.pair hRs (.pair hRs hR))))],λx=>Aao n x.1 x.2.1 x.2.2⟩
def B04 (α:Type) (n:Nat):D3 α:={ reg:=[(1,⟨0,[],[(2,{ alt:=[(Ady n)],hb:=310 })]⟩),(3,⟨4,[],[(3,{ ent:=some (As n) })]⟩)],join:=[(4,Aw7)],loop:=[] }
theorem Aw6 (n:Nat):(Aj2 n).Sound PP:=B2 (fn:=Tryz.f216) (D:=B04 _ n) ⟨Aqt n,B8 n,trivial⟩

def W0 {α:Type} (n:Nat) (c:LR) (i a:Int) (s:Bool) (t u:LI) (v b:LR) (w:Bool) (x y:LI) (z:Bool) (d0 d1:LI) (d e:LR) (d2:Bool) (d3 d4:LI) (j k l:Bool) (m o:LI) (p:Bool) (q r:LI) (g h:LR) (f:LR->Int->Int->Bool->LI->LI->LR->LR->Bool->LI->LI->Bool->LI->LI->LR->LR->Bool->LI->LI->Bool->Bool->Bool->LI->LI->Bool->LI->LI->LR->LR->Option α) (k0:Bool->Bool->Bool->LI->LI->Bool->LI->LI->LR->LR->Option α):Option α :=
 bif (decide (a<i)) then
  gd (decide (0<=a)&&decide (a<(c.length:Int))) (
   let d5:=c.getD a.toNat (false,[],[])
   gd (decide (0<=a)&&decide (a<(d.length:Int))) (
    let d6:=d.getD a.toNat (false,[],[])
    ob (f104 n d5 d6) λd7 =>
    gd (decide ((g.length+1)*56<=140737488355328)) (
     gd ((!b.isEmpty)) (
      gd (decide (0<=a)&&decide (a<(b.length:Int))) (
       let d8:=b.getD a.toNat (false,[],[])
       gd (decide (0<=a)&&decide (a<(e.length:Int))) (
        let d9:=e.getD a.toNat (false,[],[])
        ob (f104 n d8 d9) λe0 =>
        gd (decide ((h.length+1)*56<=140737488355328)) (
         f c i (W (a+1)) s t u v b w x y z d0 d1 d e d2 d3 d4 j k l m o p q r (g++[d7]) (h++[e0]))))))))
 else
  k0 j k l m o p q r g h
abbrev Or:Tm:=⟨[(2,.k (.hp 2 0 0)),(3,.k (.hp 3 0 0)),(4,.k (.hp 4 0 0)),(5,.k (.hp 5 0 0)),(20,.d hRs),(21,.d hI),(22,.d hI)],[(2,.var 115 true false [.d .bool,.d hIs,.d hIs,.d hRs,.d hRs,.d .bool,.d hIs,.d hIs]),(3,.var 115 true false [.d .bool,.d hIs,.d hIs,.d hRs,.d hRs,.d .bool,.d hIs,.d hIs]),(4,.var 115 true false [.d .bool,.d .nil,.d .nil,.d .nil,.d .nil,.d .bool,.d .nil,.d .nil]),(5,.var 115 false false [.d .bool,.d hIs,.d hIs,.k (.hw 37),.k (.hw 56),.d .bool,.d hIs,.d hIs]),(37,.arr 30 hR false),(56,.arr 30 hR false)],[55],[]⟩
abbrev Alm:Tm:=⟨[(4,.k (.hp 4 0 0)),(5,.k (.hp 5 0 0))],[(4,.var 115 true false [.d .bool,.d .nil,.d .nil,.d .nil,.d .nil,.d .bool,.d .nil,.d .nil]),(5,.var 115 false false [.d .bool,.d hIs,.d hIs,.k (.hw 37),.k (.hw 56),.d .bool,.d hIs,.d hIs]),(37,.arr 30 hR false),(56,.arr 30 hR false)],[2,3],[]⟩
abbrev Vz:List (Exit × Tm):=[(.exit 0,Alm)]
def Vy {α:Type} (n:Nat) (v:Or.den) (f:Or.den->Option α) (ks:KS α Vz):Option α:=W0 n v.1.2.2.2.2.1 v.1.2.2.2.2.2.1 v.1.2.2.2.2.2.2.1 v.2.1.1 v.2.1.2.1 v.2.1.2.2.1 v.2.1.2.2.2.1 v.2.1.2.2.2.2.1 v.2.1.2.2.2.2.2.1 v.2.1.2.2.2.2.2.2.1 v.2.1.2.2.2.2.2.2.2.1 v.2.2.1.1 v.2.2.1.2.1 v.2.2.1.2.2.1 v.2.2.1.2.2.2.1 v.2.2.1.2.2.2.2.1 v.2.2.1.2.2.2.2.2.1 v.2.2.1.2.2.2.2.2.2.1 v.2.2.1.2.2.2.2.2.2.2.1 v.2.2.2.1.1 v.2.2.2.1.2.2.2.2.2.1 v.2.2.2.2.1.1 v.2.2.2.2.1.2.1 v.2.2.2.2.1.2.2.1 v.2.2.2.2.1.2.2.2.2.2.1 v.2.2.2.2.1.2.2.2.2.2.2.1 v.2.2.2.2.1.2.2.2.2.2.2.2.1 v.2.2.2.2.2.1 v.2.2.2.2.2.2.1 (λa b c d e g h i j k l m o p q r s t u w x y z d0 d1 d2 d3 d4 d5=>f (((),(),(),(),a,b,c,()),((d,e,g,h,i,j,k,l,()),(m,o,p,q,r,s,t,u,()),(w,(),(),(),(),x,(),(),()),(y,z,d0,(),(),d1,d2,d3,()),d4,d5,()))) (λw0 w1 w2 w3 w4 w5 w6 w7 w8 w9=>ks.1 (((),(),()),((w0,(),(),(),(),w1,(),(),()),(w2,w3,w4,(),(),w5,w6,w7,()),w8,w9,())))
def Rx {α:Type} (n m:Nat) (a:LR) (b c:Int) (d:Bool) (e f:LI) (g h:LR) (i:Bool) (j k:LI) (l:Bool) (o p:LI) (q r:LR) (s:Bool) (t u:LI) (v x y:Bool) (z d0:LI) (d1:Bool) (d2 d3:LI) (d4 d5:LR) (k0:Bool->Bool->Bool->LI->LI->Bool->LI->LI->LR->LR->Option α):Option α:=A6 (Vy n) m (((),(),(),(),a,b,c,()),((d,e,f,g,h,i,j,k,()),(l,o,p,q,r,s,t,u,()),(v,(),(),(),(),x,(),(),()),(y,z,d0,(),(),d1,d2,d3,()),d4,d5,())) (λw=>k0 w.2.1.1 w.2.1.2.2.2.2.2.1 w.2.2.1.1 w.2.2.1.2.1 w.2.2.1.2.2.1 w.2.2.1.2.2.2.2.2.1 w.2.2.1.2.2.2.2.2.2.1 w.2.2.1.2.2.2.2.2.2.2.1 w.2.2.2.1 w.2.2.2.2.1,())
theorem Alk {α n m a b c d e f g h i j k l o p q r s t u v w x y z d0 d1 d2 d3 d4 k0}:Rx (α:=α) n (m+1) a b c d e f g h i j k l o p q r s t u v w x y z d0 d1 d2 d3 d4 k0=W0 n a b c d e f g h i j k l o p q r s t u v w x y z d0 d1 d2 d3 d4 (λa b c d e f g h i j k l o p q r s t u v w x y z d0 d1 d2 d3 d4=>Rx n m a b c d e f g h i j k l o p q r s t u v w x y z d0 d1 d2 d3 d4 k0) k0:=rfl
abbrev Adr:Tm:=⟨[(2,.k (.hp 2 0 0)),(3,.k (.hp 3 0 0)),(4,.k (.hp 4 0 0))],[(2,.var 115 true false [.d .bool,.d hIs,.d hIs,.d hRs,.d hRs,.d .bool,.d hIs,.d hIs]),(3,.var 115 true false [.d .bool,.d hIs,.d hIs,.d hRs,.d hRs,.d .bool,.d hIs,.d hIs]),(4,.var 115 true false [.d .bool,.d .nil,.d .nil,.d .nil,.d .nil,.d .bool,.d .nil,.d .nil])],[],[]⟩
abbrev Adq:Tm:=⟨[(2,.k (.hp 2 0 0)),(3,.k (.hp 3 0 0)),(4,.k (.hp 4 0 0)),(5,.k (.hp 5 0 0)),(6,.d hI),(7,.k (.hp 7 0 0)),(20,.d hRs),(21,.d hI),(22,.d hI)],[(2,.var 115 true false [.d .bool,.d hIs,.d hIs,.d hRs,.d hRs,.d .bool,.d hIs,.d hIs]),(3,.var 115 true false [.d .bool,.d hIs,.d hIs,.d hRs,.d hRs,.d .bool,.d hIs,.d hIs]),(4,.var 115 true false [.d .bool,.d .nil,.d .nil,.d .nil,.d .nil,.d .bool,.d .nil,.d .nil]),(5,.var 115 true false [.d .bool,.d hIs,.d hIs,.d .nil,.d .nil,.d .bool,.d hIs,.d hIs]),(7,.var 30 true false [.d .bool,.d hIs,.d hIs])],[],[]⟩
abbrev A4m:Tm:=⟨[(2,.k (.hp 2 0 0)),(3,.k (.hp 3 0 0)),(4,.k (.hp 4 0 0)),(5,.k (.hp 5 0 0)),(6,.d hI),(7,.k (.hp 7 0 0)),(20,.d hRs),(21,.d hI),(22,.d hI)],[(2,.var 115 true false [.d .bool,.d hIs,.d hIs,.d hRs,.d hRs,.d .bool,.d hIs,.d hIs]),(3,.var 115 true false [.d .bool,.d hIs,.d hIs,.d hRs,.d hRs,.d .bool,.d hIs,.d hIs]),(4,.var 115 true false [.d .bool,.d .nil,.d .nil,.d .nil,.d .nil,.d .bool,.d .nil,.d .nil]),(5,.var 115 false false [.d .bool,.d hIs,.d hIs,.k (.hw 37),.k (.hw 56),.d .bool,.d hIs,.d hIs]),(7,.var 30 true false [.d .bool,.d hIs,.d hIs]),(37,.arr 30 hR false),(56,.arr 30 hR false)],[],[]⟩
abbrev Adp:Tm:=⟨[(2,.k (.hp 2 0 0)),(3,.k (.hp 3 0 0)),(4,.k (.hp 4 0 0)),(5,.k (.hp 5 0 0)),(6,.d hI),(20,.d hRs),(21,.d hI),(22,.d hI)],[(2,.var 115 true false [.d .bool,.d hIs,.d hIs,.d hRs,.d hRs,.d .bool,.d hIs,.d hIs]),(3,.var 115 true false [.d .bool,.d hIs,.d hIs,.d hRs,.d hRs,.d .bool,.d hIs,.d hIs]),(4,.var 115 true false [.d .bool,.d .nil,.d .nil,.d .nil,.d .nil,.d .bool,.d .nil,.d .nil]),(5,.var 115 false false [.d .bool,.d hIs,.d hIs,.k (.hw 37),.d .nil,.d .bool,.d hIs,.d hIs]),(37,.arr 30 hR false)],[7,36],[]⟩
abbrev A4l:Tm:=⟨[(2,.k (.hp 2 0 0)),(3,.k (.hp 3 0 0)),(4,.k (.hp 4 0 0)),(5,.k (.hp 5 0 0)),(6,.d hI),(20,.d hRs),(21,.d hI),(22,.d hI)],[(2,.var 115 true false [.d .bool,.d hIs,.d hIs,.d hRs,.d hRs,.d .bool,.d hIs,.d hIs]),(3,.var 115 true false [.d .bool,.d hIs,.d hIs,.d hRs,.d hRs,.d .bool,.d hIs,.d hIs]),(4,.var 115 true false [.d .bool,.d .nil,.d .nil,.d .nil,.d .nil,.d .bool,.d .nil,.d .nil]),(5,.var 115 false false [.d .bool,.d hIs,.d hIs,.k (.hw 37),.k (.hw 56),.d .bool,.d hIs,.d hIs]),(37,.arr 30 hR false),(56,.arr 30 hR false)],[7,36],[]⟩
def K2 (n:Nat) (a0 a1:Rq × LR × LR × Rq):Option (Rq × LR × LR × Rq) :=
 ob (f104 n a0.1 a1.1) λa =>
 ob (f104 n a0.2.2.2 a1.2.2.2) λb =>
 bif (decide (0<(a0.2.1.length:Int))) then
  gd (decide (0<(a0.2.1.length:Int))) (
   let c:=a0.2.1.getD 0 (false,[],[])
   gd (decide (0<(a1.2.1.length:Int))) (
    let d:=a1.2.1.getD 0 (false,[],[])
    ob (f104 n c d) λe =>
    gd ((!a0.2.2.1.isEmpty)) (
     gd (decide (0<(a0.2.2.1.length:Int))) (
      let f:=a0.2.2.1.getD 0 (false,[],[])
      gd (decide (0<(a1.2.2.1.length:Int))) (
       let g:=a1.2.2.1.getD 0 (false,[],[])
       ob (f104 n f g) λh =>
       Rx n n a0.2.1 (a0.2.1.length:Int) 1 a0.1.1 a0.1.2.1 a0.1.2.2 a0.2.1 a0.2.2.1 a0.2.2.2.1 a0.2.2.2.2.1 a0.2.2.2.2.2 a1.1.1 a1.1.2.1 a1.1.2.2 a1.2.1 a1.2.2.1 a1.2.2.2.1 a1.2.2.2.2.1 a1.2.2.2.2.2 false false a.1 a.2.1 a.2.2 b.1 b.2.1 b.2.2 [e] [h]
        (λr s i j k l m o p q=>(
         some ((i,j,k),p,q,l,m,o))))))))
 else
  some (a,[],[],b)
def A6z (n:Nat):Ent:=⟨217,[(.st (.pair hR (.pair hRs (.pair hRs hR)))),(.st (.pair hR (.pair hRs (.pair hRs hR))))],[(.st (.pair hR (.pair hRs (.pair hRs hR))))],λx=>K2 n x.1 x.2⟩
def A70 (α:Type) (n:Nat):D3 α:={ reg:=[(1,⟨0,[],[(4,{ ent:=some (Ac n) }),(9,{ ent:=some (Ac n) })]⟩),(5,⟨0,[],[(8,{ ent:=some (Ac n) }),(9,{ sh:=some hR }),(10,{ sh:=some hR })]⟩),(7,⟨0,[],[(12,{ ent:=some (Ac n) }),(13,{ sh:=some hR }),(14,{ sh:=some hR })]⟩)],join:=[],loop:=[(3,⟨Or,Vz,A6 (Vy n) n⟩)],any:=[(1,Adr),(5,Adq),(5,A4m),(7,Adp),(7,A4l)] }
set_option maxHeartbeats 8000000 in
theorem Aw5 (n:Nat):Am TT ⟨60,[]⟩ [(4,{ ent:=some (Ac n) }),(9,{ ent:=some (Ac n) })] Adr (A4 ((A0 Tryz.f217).at [1,0])):=by
 refine ⟨by kernel_rfl,λw q hq=>?_⟩
 have e:WT [(4,{ ent:=some (Ac n) }),(9,{ ent:=some (Ac n) })] (A7 (A4 ((A0 Tryz.f217).at [1,0])).toList) q=(∃ (y0:HL (Ac n).rs) (q0:List (Nat × RV)),q=(4,.sv (Ae (Ac n).rs y0))::q0 /\ ∃ (y1:HL (Ac n).rs) (q1:List (Nat × RV)),q0=(9,.sv (Ae (Ac n).rs y1))::q1/\q1=[]):=by kernel_rfl
 rw [e] at hq;obtain ⟨y0,q0,rfl,y1,q1,rfl,rfl⟩:=hq
 all_goals exact .inr ⟨12,by kernel_rfl,by kernel_rfl,by kernel_rfl⟩
set_option maxHeartbeats 8000000 in
theorem Adt (n:Nat):Am TT ⟨60,[]⟩ [(8,{ ent:=some (Ac n) }),(9,{ sh:=some hR }),(10,{ sh:=some hR })] Adq (A4 ((A0 Tryz.f217).at [1,1,0,1,0,0,1,1,0,0,1,0])):=by
 refine ⟨by kernel_rfl,λw q hq=>?_⟩
 have e:WT [(8,{ ent:=some (Ac n) }),(9,{ sh:=some hR }),(10,{ sh:=some hR })] (A7 (A4 ((A0 Tryz.f217).at [1,1,0,1,0,0,1,1,0,0,1,0])).toList) q=(∃ (y0:HL (Ac n).rs) (q0:List (Nat × RV)),q=(8,.sv (Ae (Ac n).rs y0))::q0/\q0=[]):=by kernel_rfl
 rw [e] at hq;obtain ⟨y0,q0,rfl,rfl⟩:=hq
 all_goals exact .inr ⟨10,by kernel_rfl,by kernel_rfl,by kernel_rfl⟩
set_option maxHeartbeats 8000000 in
theorem A4o (n:Nat):Am TT ⟨60,[]⟩ [(8,{ ent:=some (Ac n) }),(9,{ sh:=some hR }),(10,{ sh:=some hR })] A4m (A4 ((A0 Tryz.f217).at [1,1,0,1,0,0,1,1,0,0,1,0])):=by
 refine ⟨by kernel_rfl,λw q hq=>?_⟩
 have e:WT [(8,{ ent:=some (Ac n) }),(9,{ sh:=some hR }),(10,{ sh:=some hR })] (A7 (A4 ((A0 Tryz.f217).at [1,1,0,1,0,0,1,1,0,0,1,0])).toList) q=(∃ (y0:HL (Ac n).rs) (q0:List (Nat × RV)),q=(8,.sv (Ae (Ac n).rs y0))::q0/\q0=[]):=by kernel_rfl
 rw [e] at hq;obtain ⟨y0,q0,rfl,rfl⟩:=hq
 all_goals exact .inr ⟨10,by kernel_rfl,by kernel_rfl,by kernel_rfl⟩
set_option maxHeartbeats 8000000 in
theorem Ads (n:Nat):Am TT ⟨60,[]⟩ [(12,{ ent:=some (Ac n) }),(13,{ sh:=some hR }),(14,{ sh:=some hR })] Adp (A4 ((A0 Tryz.f217).at [1,1,0,1,0,0,1,1,0,0,1,1,1,0])):=by
 refine ⟨by kernel_rfl,λw q hq=>?_⟩
 have e:WT [(12,{ ent:=some (Ac n) }),(13,{ sh:=some hR }),(14,{ sh:=some hR })] (A7 (A4 ((A0 Tryz.f217).at [1,1,0,1,0,0,1,1,0,0,1,1,1,0])).toList) q=(∃ (y0:HL (Ac n).rs) (q0:List (Nat × RV)),q=(12,.sv (Ae (Ac n).rs y0))::q0/\q0=[]):=by kernel_rfl
 rw [e] at hq;obtain ⟨y0,q0,rfl,rfl⟩:=hq
 all_goals exact .inr ⟨14,by kernel_rfl,by kernel_rfl,by kernel_rfl⟩
set_option maxHeartbeats 8000000 in
theorem A4n (n:Nat):Am TT ⟨60,[]⟩ [(12,{ ent:=some (Ac n) }),(13,{ sh:=some hR }),(14,{ sh:=some hR })] A4l (A4 ((A0 Tryz.f217).at [1,1,0,1,0,0,1,1,0,0,1,1,1,0])):=by
 refine ⟨by kernel_rfl,λw q hq=>?_⟩
 have e:WT [(12,{ ent:=some (Ac n) }),(13,{ sh:=some hR }),(14,{ sh:=some hR })] (A7 (A4 ((A0 Tryz.f217).at [1,1,0,1,0,0,1,1,0,0,1,1,1,0])).toList) q=(∃ (y0:HL (Ac n).rs) (q0:List (Nat × RV)),q=(12,.sv (Ae (Ac n).rs y0))::q0/\q0=[]):=by kernel_rfl
 rw [e] at hq;obtain ⟨y0,q0,rfl,rfl⟩:=hq
 all_goals exact .inr ⟨14,by kernel_rfl,by kernel_rfl,by kernel_rfl⟩
theorem A4k (α:Type) (n:Nat):Aq PP (Af (A70 α n).reg):=⟨Bz n,Bz n,Bz n,Bz n,trivial⟩
theorem All (α:Type) (n:Nat):D3.OK PP TT ⟨60,[]⟩ (A70 α n) ((A0 Tryz.f217).at [1,1,0,1,0,0]) :=
 D3.OK.mk3a (A4k α n) (show Aa ((A0 Tryz.f217).at [1,1,0,1,0,0])=[] by kernel_rfl) trivial (show Ar ((A0 Tryz.f217).at [1,1,0,1,0,0])=[(5,A4 ((A0 Tryz.f217).at [1,1,0,1,0,0,1,1,0,0,1,0])),(7,A4 ((A0 Tryz.f217).at [1,1,0,1,0,0,1,1,0,0,1,1,1,0]))] by kernel_rfl) ⟨⟨Adt n,A4o n,trivial⟩,⟨Ads n,A4n n,trivial⟩,trivial⟩
theorem Ago (α:Type) (n:Nat):LO.Sound (α:=α) PP ⟨60,[]⟩ ⟨Or,Vz,A6 (Vy n) n⟩ (.loop ((A0 Tryz.f217).at [1,1,0,1,0,0])):=lk (All α n) n
theorem B02 (α:Type) (n:Nat):D3.OK PP TT ⟨60,[]⟩ (A70 α n) (A0 Tryz.f217) :=
 D3.OK.mk3a (A4k α n) (show Aa (A0 Tryz.f217)=[(3,(.loop ((A0 Tryz.f217).at [1,1,0,1,0,0])))] by kernel_rfl) ⟨Ad rfl (Ago α n),trivial⟩ (show Ar (A0 Tryz.f217)=[(1,A4 ((A0 Tryz.f217).at [1,0])),(5,A4 ((A0 Tryz.f217).at [1,1,0,1,0,0,1,1,0,0,1,0])),(7,A4 ((A0 Tryz.f217).at [1,1,0,1,0,0,1,1,0,0,1,1,1,0]))] by kernel_rfl) ⟨⟨Aw5 n,trivial⟩,⟨Adt n,A4o n,trivial⟩,⟨Ads n,A4n n,trivial⟩,trivial⟩
theorem Ado (n:Nat):(A6z n).Sound PP:=fk (fn:=Tryz.f217) (B02 _ n)

def f228 (n:Nat) (a0:Int) (a1:Bool × LI × LI × LR × LR × Bool × LI × LI) (a2:Rq):Option Rq :=
 gd (decide (0<=a0)&&decide (a0<(a1.2.2.2.2.1.length:Int))) (
  let a:=a1.2.2.2.2.1.getD a0.toNat (false,[],[])
  ob (f103 n a a2) λb =>
  some b)
def Gh (n:Nat):Ent:=⟨228,[hI,(.ref (.st (.pair .bool (.pair hIs (.pair hIs (.pair hRs (.pair hRs (.pair .bool (.pair hIs hIs))))))))),(.ref hR)],[hR],λx=>f228 n x.1 x.2.1 x.2.2⟩
def B3x (α:Type) (n:Nat):D3 α:={ reg:=[(1,⟨6,[],[(6,{ ent:=some (A9 n) })]⟩)],join:=[],loop:=[] }
theorem Azq (n:Nat):(Gh n).Sound PP:=B2 (fn:=Tryz.f228) (D:=B3x _ n) ⟨At n,trivial⟩

def G6 {α:Type} (n:Nat) (g:Rq) (b:(Bool × LI × LI × LR × LR × Bool × LI × LI) × Rq) (c:LR) (h a:Int) (s:Bool) (t u:LI) (v i:LR) (w:Bool) (x y:LI) (j k l:Bool) (m o:LI) (p:Bool) (q r:LI) (d e:LR) (f:Rq->((Bool × LI × LI × LR × LR × Bool × LI × LI) × Rq)->LR->Int->Int->Bool->LI->LI->LR->LR->Bool->LI->LI->Bool->Bool->Bool->LI->LI->Bool->LI->LI->LR->LR->Option α) (k0:Bool->Bool->Bool->LI->LI->Bool->LI->LI->LR->LR->Option α):Option α :=
 bif (decide (a<h)) then
  gd (decide (0<=a)&&decide (a<(c.length:Int))) (
   let z:=c.getD a.toNat (false,[],[])
   ob (f227 n z g) λd0 =>
   gd (decide ((d.length+1)*56<=140737488355328)) (
    gd ((!i.isEmpty)) (
     ob (f228 n a b.1 b.2) λd1 =>
     gd (decide ((e.length+1)*56<=140737488355328)) (
      f g b c h (W (a+1)) s t u v i w x y j k l m o p q r (d++[d0]) (e++[d1])))))
 else
  k0 j k l m o p q r d e
abbrev Dy:Tm:=⟨[(3,.d (.clo 227 (.ref hR))),(4,.d (.clo 228 (.pair (.ref (.st (.pair .bool (.pair hIs (.pair hIs (.pair hRs (.pair hRs (.pair .bool (.pair hIs hIs))))))))) (.ref hR)))),(5,.k (.hp 5 0 0)),(10,.k (.hp 10 0 0)),(11,.k (.hp 11 0 0)),(18,.d hRs),(19,.d hI),(20,.d hI)],[(5,.var 115 true false [.d .bool,.d hIs,.d hIs,.d hRs,.d hRs,.d .bool,.d hIs,.d hIs]),(10,.var 115 true false [.d .bool,.d .nil,.d .nil,.d .nil,.d .nil,.d .bool,.d .nil,.d .nil]),(11,.var 115 false false [.d .bool,.d hIs,.d hIs,.k (.hw 31),.k (.hw 42),.d .bool,.d hIs,.d hIs]),(31,.arr 30 hR false),(42,.arr 30 hR false)],[41],[]⟩
abbrev Vt:Tm:=⟨[(10,.k (.hp 10 0 0)),(11,.k (.hp 11 0 0))],[(10,.var 115 true false [.d .bool,.d .nil,.d .nil,.d .nil,.d .nil,.d .bool,.d .nil,.d .nil]),(11,.var 115 false false [.d .bool,.d hIs,.d hIs,.k (.hw 31),.k (.hw 42),.d .bool,.d hIs,.d hIs]),(31,.arr 30 hR false),(42,.arr 30 hR false)],[5],[]⟩
abbrev G5:List (Exit × Tm):=[(.exit 0,Vt)]
def G4 {α:Type} (n:Nat) (v:Dy.den) (f:Dy.den->Option α) (ks:KS α G5):Option α:=G6 n v.1.1 v.1.2.1 v.1.2.2.2.2.2.1 v.1.2.2.2.2.2.2.1 v.1.2.2.2.2.2.2.2.1 v.2.1.1 v.2.1.2.1 v.2.1.2.2.1 v.2.1.2.2.2.1 v.2.1.2.2.2.2.1 v.2.1.2.2.2.2.2.1 v.2.1.2.2.2.2.2.2.1 v.2.1.2.2.2.2.2.2.2.1 v.2.2.1.1 v.2.2.1.2.2.2.2.2.1 v.2.2.2.1.1 v.2.2.2.1.2.1 v.2.2.2.1.2.2.1 v.2.2.2.1.2.2.2.2.2.1 v.2.2.2.1.2.2.2.2.2.2.1 v.2.2.2.1.2.2.2.2.2.2.2.1 v.2.2.2.2.1 v.2.2.2.2.2.1 (λa b c d e g h i j k l m o p q r s t u w x y z=>f ((a,b,(),(),(),c,d,e,()),((g,h,i,j,k,l,m,o,()),(p,(),(),(),(),q,(),(),()),(r,s,t,(),(),u,w,x,()),y,z,()))) (λw0 w1 w2 w3 w4 w5 w6 w7 w8 w9=>ks.1 (((),(),()),((w0,(),(),(),(),w1,(),(),()),(w2,w3,w4,(),(),w5,w6,w7,()),w8,w9,())))
def En {α:Type} (n m:Nat) (a:Rq) (b:(Bool × LI × LI × LR × LR × Bool × LI × LI) × Rq) (c:LR) (d e:Int) (f:Bool) (g h:LI) (i j:LR) (k:Bool) (l o:LI) (p q r:Bool) (s t:LI) (u:Bool) (v x:LI) (y z:LR) (k0:Bool->Bool->Bool->LI->LI->Bool->LI->LI->LR->LR->Option α):Option α:=A6 (G4 n) m ((a,b,(),(),(),c,d,e,()),((f,g,h,i,j,k,l,o,()),(p,(),(),(),(),q,(),(),()),(r,s,t,(),(),u,v,x,()),y,z,())) (λw=>k0 w.2.1.1 w.2.1.2.2.2.2.2.1 w.2.2.1.1 w.2.2.1.2.1 w.2.2.1.2.2.1 w.2.2.1.2.2.2.2.2.1 w.2.2.1.2.2.2.2.2.2.1 w.2.2.1.2.2.2.2.2.2.2.1 w.2.2.2.1 w.2.2.2.2.1,())
theorem Vr {α n m a b c d e f g h i j k l o p q r s t u v w x y k0}:En (α:=α) n (m+1) a b c d e f g h i j k l o p q r s t u v w x y k0=G6 n a b c d e f g h i j k l o p q r s t u v w x y (λa b c d e f g h i j k l o p q r s t u v w x y=>En n m a b c d e f g h i j k l o p q r s t u v w x y k0) k0:=rfl
abbrev Na:Tm:=⟨[(3,.d (.clo 227 (.ref hR))),(4,.d (.clo 228 (.pair (.ref (.st (.pair .bool (.pair hIs (.pair hIs (.pair hRs (.pair hRs (.pair .bool (.pair hIs hIs))))))))) (.ref hR)))),(5,.k (.hp 5 0 0)),(10,.k (.hp 10 0 0)),(11,.k (.hp 11 0 0)),(12,.d hI),(13,.k (.hp 13 0 0)),(18,.d hRs),(19,.d hI),(20,.d hI)],[(5,.var 115 true false [.d .bool,.d hIs,.d hIs,.d hRs,.d hRs,.d .bool,.d hIs,.d hIs]),(10,.var 115 true false [.d .bool,.d .nil,.d .nil,.d .nil,.d .nil,.d .bool,.d .nil,.d .nil]),(11,.var 115 true false [.d .bool,.d hIs,.d hIs,.d .nil,.d .nil,.d .bool,.d hIs,.d hIs]),(13,.var 30 true false [.d .bool,.d hIs,.d hIs])],[6,7],[]⟩
abbrev Kj:Tm:=⟨[(3,.d (.clo 227 (.ref hR))),(4,.d (.clo 228 (.pair (.ref (.st (.pair .bool (.pair hIs (.pair hIs (.pair hRs (.pair hRs (.pair .bool (.pair hIs hIs))))))))) (.ref hR)))),(5,.k (.hp 5 0 0)),(10,.k (.hp 10 0 0)),(11,.k (.hp 11 0 0)),(12,.d hI),(13,.k (.hp 13 0 0)),(18,.d hRs),(19,.d hI),(20,.d hI)],[(5,.var 115 true false [.d .bool,.d hIs,.d hIs,.d hRs,.d hRs,.d .bool,.d hIs,.d hIs]),(10,.var 115 true false [.d .bool,.d .nil,.d .nil,.d .nil,.d .nil,.d .bool,.d .nil,.d .nil]),(11,.var 115 false false [.d .bool,.d hIs,.d hIs,.k (.hw 31),.k (.hw 42),.d .bool,.d hIs,.d hIs]),(13,.var 30 true false [.d .bool,.d hIs,.d hIs]),(31,.arr 30 hR false),(42,.arr 30 hR false)],[],[]⟩
abbrev N9:Tm:=⟨[(3,.d (.clo 227 (.ref hR))),(4,.d (.clo 228 (.pair (.ref (.st (.pair .bool (.pair hIs (.pair hIs (.pair hRs (.pair hRs (.pair .bool (.pair hIs hIs))))))))) (.ref hR)))),(5,.k (.hp 5 0 0)),(10,.k (.hp 10 0 0)),(11,.k (.hp 11 0 0)),(12,.d hI),(18,.d hRs),(19,.d hI),(20,.d hI)],[(5,.var 115 true false [.d .bool,.d hIs,.d hIs,.d hRs,.d hRs,.d .bool,.d hIs,.d hIs]),(10,.var 115 true false [.d .bool,.d .nil,.d .nil,.d .nil,.d .nil,.d .bool,.d .nil,.d .nil]),(11,.var 115 false false [.d .bool,.d hIs,.d hIs,.k (.hw 31),.d .nil,.d .bool,.d hIs,.d hIs]),(31,.arr 30 hR false)],[13,30],[]⟩
abbrev Ki:Tm:=⟨[(3,.d (.clo 227 (.ref hR))),(4,.d (.clo 228 (.pair (.ref (.st (.pair .bool (.pair hIs (.pair hIs (.pair hRs (.pair hRs (.pair .bool (.pair hIs hIs))))))))) (.ref hR)))),(5,.k (.hp 5 0 0)),(10,.k (.hp 10 0 0)),(11,.k (.hp 11 0 0)),(12,.d hI),(18,.d hRs),(19,.d hI),(20,.d hI)],[(5,.var 115 true false [.d .bool,.d hIs,.d hIs,.d hRs,.d hRs,.d .bool,.d hIs,.d hIs]),(10,.var 115 true false [.d .bool,.d .nil,.d .nil,.d .nil,.d .nil,.d .bool,.d .nil,.d .nil]),(11,.var 115 false false [.d .bool,.d hIs,.d hIs,.k (.hw 31),.k (.hw 42),.d .bool,.d hIs,.d hIs]),(31,.arr 30 hR false),(42,.arr 30 hR false)],[13,30],[]⟩
def L8 (n:Nat) (a0:Rq × LR × LR × Rq) (a1 a2 a3:Rq) (a4:(Bool × LI × LI × LR × LR × Bool × LI × LI) × Rq):Option (Rq × LR × LR × Rq) :=
 bif (decide (0<(a0.2.1.length:Int))) then
  gd (decide (0<(a0.2.1.length:Int))) (
   let a:=a0.2.1.getD 0 (false,[],[])
   ob (f227 n a a3) λb =>
   gd ((!a0.2.2.1.isEmpty)) (
    ob (f228 n 0 a4.1 a4.2) λc =>
    En n n a3 a4 a0.2.1 (a0.2.1.length:Int) 1 a0.1.1 a0.1.2.1 a0.1.2.2 a0.2.1 a0.2.2.1 a0.2.2.2.1 a0.2.2.2.2.1 a0.2.2.2.2.2 false false a1.1 a1.2.1 a1.2.2 a2.1 a2.2.1 a2.2.2 [b] [c]
     (λl m d e f g h i j k=>(
      some ((d,e,f),j,k,g,h,i)))))
 else
  some (a1,[],[],a2)
def Cm (n:Nat):Ent:=⟨226,[(.st (.pair hR (.pair hRs (.pair hRs hR)))),hR,hR,(.clo 227 (.ref hR)),(.clo 228 (.pair (.ref (.st (.pair .bool (.pair hIs (.pair hIs (.pair hRs (.pair hRs (.pair .bool (.pair hIs hIs))))))))) (.ref hR)))],[(.st (.pair hR (.pair hRs (.pair hRs hR))))],λx=>L8 n x.1 x.2.1 x.2.2.1 x.2.2.2.1 x.2.2.2.2⟩
def I9 (α:Type) (n:Nat):D3 α:={ reg:=[(5,⟨0,[],[(4,{ ent:=some (C9 n) }),(5,{ sh:=some hR }),(6,{ sh:=some hR })]⟩),(7,⟨0,[],[(4,{ ent:=some (Gh n) }),(5,{ sh:=some hR }),(6,{ sh:=some hR })]⟩)],join:=[],loop:=[(3,⟨Dy,G5,A6 (G4 n) n⟩)],any:=[(5,Na),(5,Kj),(7,N9),(7,Ki)] }
set_option maxHeartbeats 8000000 in
theorem Nc (n:Nat):Am TT ⟨46,[]⟩ [(4,{ ent:=some (C9 n) }),(5,{ sh:=some hR }),(6,{ sh:=some hR })] Na (A4 ((A0 Tryz.f226).at [1,1,0,1,0,0,1,1,0,0,1,0])):=by
 refine ⟨by kernel_rfl,λw q hq=>?_⟩
 have e:WT [(4,{ ent:=some (C9 n) }),(5,{ sh:=some hR }),(6,{ sh:=some hR })] (A7 (A4 ((A0 Tryz.f226).at [1,1,0,1,0,0,1,1,0,0,1,0])).toList) q=(∃ (y0:HL (C9 n).rs) (q0:List (Nat × RV)),q=(4,.sv (Ae (C9 n).rs y0))::q0/\q0=[]):=by kernel_rfl
 rw [e] at hq;obtain ⟨y0,q0,rfl,rfl⟩:=hq
 all_goals exact .inr ⟨6,by kernel_rfl,by kernel_rfl,by kernel_rfl⟩
set_option maxHeartbeats 8000000 in
theorem Kl (n:Nat):Am TT ⟨46,[]⟩ [(4,{ ent:=some (C9 n) }),(5,{ sh:=some hR }),(6,{ sh:=some hR })] Kj (A4 ((A0 Tryz.f226).at [1,1,0,1,0,0,1,1,0,0,1,0])):=by
 refine ⟨by kernel_rfl,λw q hq=>?_⟩
 have e:WT [(4,{ ent:=some (C9 n) }),(5,{ sh:=some hR }),(6,{ sh:=some hR })] (A7 (A4 ((A0 Tryz.f226).at [1,1,0,1,0,0,1,1,0,0,1,0])).toList) q=(∃ (y0:HL (C9 n).rs) (q0:List (Nat × RV)),q=(4,.sv (Ae (C9 n).rs y0))::q0/\q0=[]):=by kernel_rfl
 rw [e] at hq;obtain ⟨y0,q0,rfl,rfl⟩:=hq
 all_goals exact .inr ⟨6,by kernel_rfl,by kernel_rfl,by kernel_rfl⟩
set_option maxHeartbeats 8000000 in
theorem Nb (n:Nat):Am TT ⟨46,[]⟩ [(4,{ ent:=some (Gh n) }),(5,{ sh:=some hR }),(6,{ sh:=some hR })] N9 (A4 ((A0 Tryz.f226).at [1,1,0,1,0,0,1,1,0,0,1,1,1,0])):=by
 refine ⟨by kernel_rfl,λw q hq=>?_⟩
 have e:WT [(4,{ ent:=some (Gh n) }),(5,{ sh:=some hR }),(6,{ sh:=some hR })] (A7 (A4 ((A0 Tryz.f226).at [1,1,0,1,0,0,1,1,0,0,1,1,1,0])).toList) q=(∃ (y0:HL (Gh n).rs) (q0:List (Nat × RV)),q=(4,.sv (Ae (Gh n).rs y0))::q0/\q0=[]):=by kernel_rfl
 rw [e] at hq;obtain ⟨y0,q0,rfl,rfl⟩:=hq
 all_goals exact .inr ⟨6,by kernel_rfl,by kernel_rfl,by kernel_rfl⟩
set_option maxHeartbeats 8000000 in
theorem Kk (n:Nat):Am TT ⟨46,[]⟩ [(4,{ ent:=some (Gh n) }),(5,{ sh:=some hR }),(6,{ sh:=some hR })] Ki (A4 ((A0 Tryz.f226).at [1,1,0,1,0,0,1,1,0,0,1,1,1,0])):=by
 refine ⟨by kernel_rfl,λw q hq=>?_⟩
 have e:WT [(4,{ ent:=some (Gh n) }),(5,{ sh:=some hR }),(6,{ sh:=some hR })] (A7 (A4 ((A0 Tryz.f226).at [1,1,0,1,0,0,1,1,0,0,1,1,1,0])).toList) q=(∃ (y0:HL (Gh n).rs) (q0:List (Nat × RV)),q=(4,.sv (Ae (Gh n).rs y0))::q0/\q0=[]):=by kernel_rfl
 rw [e] at hq;obtain ⟨y0,q0,rfl,rfl⟩:=hq
 all_goals exact .inr ⟨6,by kernel_rfl,by kernel_rfl,by kernel_rfl⟩
theorem Kh (α:Type) (n:Nat):Aq PP (Af (I9 α n).reg):=⟨Aim n,Azq n,trivial⟩
theorem Vs (α:Type) (n:Nat):D3.OK PP TT ⟨46,[]⟩ (I9 α n) ((A0 Tryz.f226).at [1,1,0,1,0,0]) :=
 D3.OK.mk3a (Kh α n) (show Aa ((A0 Tryz.f226).at [1,1,0,1,0,0])=[] by kernel_rfl) trivial (show Ar ((A0 Tryz.f226).at [1,1,0,1,0,0])=[(5,A4 ((A0 Tryz.f226).at [1,1,0,1,0,0,1,1,0,0,1,0])),(7,A4 ((A0 Tryz.f226).at [1,1,0,1,0,0,1,1,0,0,1,1,1,0]))] by kernel_rfl) ⟨⟨Nc n,Kl n,trivial⟩,⟨Nb n,Kk n,trivial⟩,trivial⟩
theorem Uj (α:Type) (n:Nat):LO.Sound (α:=α) PP ⟨46,[]⟩ ⟨Dy,G5,A6 (G4 n) n⟩ (.loop ((A0 Tryz.f226).at [1,1,0,1,0,0])):=lk (Vs α n) n
theorem A4a (α:Type) (n:Nat):D3.OK PP TT ⟨46,[]⟩ (I9 α n) (A0 Tryz.f226) :=
 D3.OK.mk3a (Kh α n) (show Aa (A0 Tryz.f226)=[(3,(.loop ((A0 Tryz.f226).at [1,1,0,1,0,0])))] by kernel_rfl) ⟨Ad rfl (Uj α n),trivial⟩ (show Ar (A0 Tryz.f226)=[(5,A4 ((A0 Tryz.f226).at [1,1,0,1,0,0,1,1,0,0,1,0])),(7,A4 ((A0 Tryz.f226).at [1,1,0,1,0,0,1,1,0,0,1,1,1,0]))] by kernel_rfl) ⟨⟨Nc n,Kl n,trivial⟩,⟨Nb n,Kk n,trivial⟩,trivial⟩
theorem A0i (n:Nat):(Cm n).Sound PP:=fk (fn:=Tryz.f226) (A4a _ n)

abbrev Adm:Tm:=⟨[(2,.k (.hp 2 0 0)),(3,.k (.hp 3 0 0)),(4,.k (.hp 4 0 0))],[(2,.var 115 true false [.d .bool,.d hIs,.d hIs,.d hRs,.d hRs,.d .bool,.d hIs,.d hIs]),(3,.var 30 true false [.d .bool,.d hIs,.d hIs]),(4,.var 115 true false [.d .bool,.d .nil,.d .nil,.d .nil,.d .nil,.d .bool,.d .nil,.d .nil])],[],[]⟩
def K1 (n:Nat) (a0:Rq × LR × LR × Rq) (a1:Rq):Option (Rq × LR × LR × Rq) :=
 ob (f103 n a0.1 a1) λa =>
 ob (f103 n a0.2.2.2 a1) λb =>
 ob (L8 n a0 a b a1 ((a0.1.1,a0.1.2.1,a0.1.2.2,a0.2),a1)) λc =>
 some c
def A6y (n:Nat):Ent:=⟨218,[(.st (.pair hR (.pair hRs (.pair hRs hR)))),hR],[(.st (.pair hR (.pair hRs (.pair hRs hR))))],λx=>K1 n x.1 x.2⟩
def Aiv (α:Type) (n:Nat):D3 α:={ reg:=[(1,⟨0,[],[(4,{ ent:=some (A9 n) }),(8,{ ent:=some (A9 n) }),(9,{ sh:=some (.ref hR) }),(10,{ sh:=some (.pair (.ref (.st (.pair .bool (.pair hIs (.pair hIs (.pair hRs (.pair hRs (.pair .bool (.pair hIs hIs))))))))) (.ref hR)) }),(11,{ ent:=some (Cm n) })]⟩)],join:=[],loop:=[],any:=[(1,Adm)] }
set_option maxHeartbeats 8000000 in
theorem Aw4 (n:Nat):Am TT ⟨17,[]⟩ [(4,{ ent:=some (A9 n) }),(8,{ ent:=some (A9 n) }),(9,{ sh:=some (.ref hR) }),(10,{ sh:=some (.pair (.ref (.st (.pair .bool (.pair hIs (.pair hIs (.pair hRs (.pair hRs (.pair .bool (.pair hIs hIs))))))))) (.ref hR)) }),(11,{ ent:=some (Cm n) })] Adm (A4 ((A0 Tryz.f218).at [1,0])):=by
 refine ⟨by kernel_rfl,λw q hq=>?_⟩
 have e:WT [(4,{ ent:=some (A9 n) }),(8,{ ent:=some (A9 n) }),(9,{ sh:=some (.ref hR) }),(10,{ sh:=some (.pair (.ref (.st (.pair .bool (.pair hIs (.pair hIs (.pair hRs (.pair hRs (.pair .bool (.pair hIs hIs))))))))) (.ref hR)) }),(11,{ ent:=some (Cm n) })] (A7 (A4 ((A0 Tryz.f218).at [1,0])).toList) q=(∃ (y0:HL (A9 n).rs) (q0:List (Nat × RV)),q=(4,.sv (Ae (A9 n).rs y0))::q0 /\ ∃ (y1:HL (A9 n).rs) (q1:List (Nat × RV)),q0=(8,.sv (Ae (A9 n).rs y1))::q1 /\ ∃ (y2:HL (Cm n).rs) (q2:List (Nat × RV)),q1=(11,.sv (Ae (Cm n).rs y2))::q2/\q2=[]):=by kernel_rfl
 rw [e] at hq;obtain ⟨y0,q0,rfl,y1,q1,rfl,y2,q2,rfl,rfl⟩:=hq
 all_goals exact .inl (Iu.mk (by kernel_rfl))
theorem Alj (α:Type) (n:Nat):Aq PP (Af (Aiv α n).reg):=⟨At n,At n,A0i n,trivial⟩
theorem B00 (α:Type) (n:Nat):D3.OK PP TT ⟨17,[]⟩ (Aiv α n) (A0 Tryz.f218) :=
 D3.OK.mk3a (Alj α n) (show Aa (A0 Tryz.f218)=[] by kernel_rfl) trivial (show Ar (A0 Tryz.f218)=[(1,A4 ((A0 Tryz.f218).at [1,0]))] by kernel_rfl) ⟨⟨Aw4 n,trivial⟩,trivial⟩
theorem Adl (n:Nat):(A6y n).Sound PP:=fk (fn:=Tryz.f218) (B00 _ n)

def Vx {α:Type} (n:Nat) (c:LR) (p a:Int) (d:Bool) (e g:LI) (d6 b:LR) (q:Bool) (r s:LI) (h:Bool) (i j:LI) (k l:LR) (t:Bool) (u v:LI) (w x y:Bool) (z d0:LI) (d1:Bool) (d2 d3:LI) (m o:LR) (f:LR->Int->Int->Bool->LI->LI->LR->LR->Bool->LI->LI->Bool->LI->LI->LR->LR->Bool->LI->LI->Bool->Bool->Bool->LI->LI->Bool->LI->LI->LR->LR->Option α) (k0:Bool->Bool->Bool->LI->LI->Bool->LI->LI->LR->LR->Option α):Option α :=
 bif (decide (a<p)) then
  gd (decide (0<=a)&&decide (a<(c.length:Int))) (
   let d4:=c.getD a.toNat (false,[],[])
   gd (decide (0<=a)&&decide (a<(k.length:Int))) (
    let d5:=k.getD a.toNat (false,[],[])
    ob (f103 n d4 (h,i,j)) λd7 =>
    ob (f103 n (d,e,g) d5) λd8 =>
    ob (f104 n d7 d8) λd9 =>
    gd (decide ((m.length+1)*56<=140737488355328)) (
     gd ((!b.isEmpty)) (
      gd (decide (0<=a)&&decide (a<(b.length:Int))) (
       let e0:=b.getD a.toNat (false,[],[])
       ob (f103 n e0 (h,i,j)) λe1 =>
       ob (f103 n d4 (t,u,v)) λe2 =>
       ob (f104 n e1 e2) λe3 =>
       ob (f103 n (q,r,s) d5) λe4 =>
       ob (f104 n e3 e4) λe5 =>
       gd (decide (0<=a)&&decide (a<(l.length:Int))) (
        let e6:=l.getD a.toNat (false,[],[])
        ob (f103 n (d,e,g) e6) λe7 =>
        ob (f104 n e5 e7) λe8 =>
        gd (decide ((o.length+1)*56<=140737488355328)) (
         f c p (W (a+1)) d e g d6 b q r s h i j k l t u v w x y z d0 d1 d2 d3 (m++[d9]) (o++[e8]))))))))
 else
  k0 w x y z d0 d1 d2 d3 m o
abbrev Oq:Tm:=⟨[(2,.k (.hp 2 0 0)),(3,.k (.hp 3 0 0)),(4,.k (.hp 4 0 0)),(5,.k (.hp 5 0 0)),(28,.d hRs),(29,.d hI),(30,.d hI)],[(2,.var 115 true false [.d .bool,.d hIs,.d hIs,.d hRs,.d hRs,.d .bool,.d hIs,.d hIs]),(3,.var 115 true false [.d .bool,.d hIs,.d hIs,.d hRs,.d hRs,.d .bool,.d hIs,.d hIs]),(4,.var 115 true false [.d .bool,.d .nil,.d .nil,.d .nil,.d .nil,.d .bool,.d .nil,.d .nil]),(5,.var 115 false false [.d .bool,.d hIs,.d hIs,.k (.hw 52),.k (.hw 88),.d .bool,.d hIs,.d hIs]),(52,.arr 30 hR false),(88,.arr 30 hR false)],[8,9,87],[]⟩
abbrev Alh:Tm:=⟨[(4,.k (.hp 4 0 0)),(5,.k (.hp 5 0 0))],[(4,.var 115 true false [.d .bool,.d .nil,.d .nil,.d .nil,.d .nil,.d .bool,.d .nil,.d .nil]),(5,.var 115 false false [.d .bool,.d hIs,.d hIs,.k (.hw 52),.k (.hw 88),.d .bool,.d hIs,.d hIs]),(52,.arr 30 hR false),(88,.arr 30 hR false)],[2,3],[]⟩
abbrev Vw:List (Exit × Tm):=[(.exit 0,Alh)]
def Vv {α:Type} (n:Nat) (v:Oq.den) (f:Oq.den->Option α) (ks:KS α Vw):Option α:=Vx n v.1.2.2.2.2.1 v.1.2.2.2.2.2.1 v.1.2.2.2.2.2.2.1 v.2.1.1 v.2.1.2.1 v.2.1.2.2.1 v.2.1.2.2.2.1 v.2.1.2.2.2.2.1 v.2.1.2.2.2.2.2.1 v.2.1.2.2.2.2.2.2.1 v.2.1.2.2.2.2.2.2.2.1 v.2.2.1.1 v.2.2.1.2.1 v.2.2.1.2.2.1 v.2.2.1.2.2.2.1 v.2.2.1.2.2.2.2.1 v.2.2.1.2.2.2.2.2.1 v.2.2.1.2.2.2.2.2.2.1 v.2.2.1.2.2.2.2.2.2.2.1 v.2.2.2.1.1 v.2.2.2.1.2.2.2.2.2.1 v.2.2.2.2.1.1 v.2.2.2.2.1.2.1 v.2.2.2.2.1.2.2.1 v.2.2.2.2.1.2.2.2.2.2.1 v.2.2.2.2.1.2.2.2.2.2.2.1 v.2.2.2.2.1.2.2.2.2.2.2.2.1 v.2.2.2.2.2.1 v.2.2.2.2.2.2.1 (λa b c d e g h i j k l m o p q r s t u w x y z d0 d1 d2 d3 d4 d5=>f (((),(),(),(),a,b,c,()),((d,e,g,h,i,j,k,l,()),(m,o,p,q,r,s,t,u,()),(w,(),(),(),(),x,(),(),()),(y,z,d0,(),(),d1,d2,d3,()),d4,d5,()))) (λw0 w1 w2 w3 w4 w5 w6 w7 w8 w9=>ks.1 (((),(),()),((w0,(),(),(),(),w1,(),(),()),(w2,w3,w4,(),(),w5,w6,w7,()),w8,w9,())))
def Ru {α:Type} (n m:Nat) (a:LR) (b c:Int) (d:Bool) (e f:LI) (g h:LR) (i:Bool) (j k:LI) (l:Bool) (o p:LI) (q r:LR) (s:Bool) (t u:LI) (v x y:Bool) (z d0:LI) (d1:Bool) (d2 d3:LI) (d4 d5:LR) (k0:Bool->Bool->Bool->LI->LI->Bool->LI->LI->LR->LR->Option α):Option α:=A6 (Vv n) m (((),(),(),(),a,b,c,()),((d,e,f,g,h,i,j,k,()),(l,o,p,q,r,s,t,u,()),(v,(),(),(),(),x,(),(),()),(y,z,d0,(),(),d1,d2,d3,()),d4,d5,())) (λw=>k0 w.2.1.1 w.2.1.2.2.2.2.2.1 w.2.2.1.1 w.2.2.1.2.1 w.2.2.1.2.2.1 w.2.2.1.2.2.2.2.2.1 w.2.2.1.2.2.2.2.2.2.1 w.2.2.1.2.2.2.2.2.2.2.1 w.2.2.2.1 w.2.2.2.2.1,())
theorem Alf {α n m a b c d e f g h i j k l o p q r s t u v w x y z d0 d1 d2 d3 d4 k0}:Ru (α:=α) n (m+1) a b c d e f g h i j k l o p q r s t u v w x y z d0 d1 d2 d3 d4 k0=Vx n a b c d e f g h i j k l o p q r s t u v w x y z d0 d1 d2 d3 d4 (λa b c d e f g h i j k l o p q r s t u v w x y z d0 d1 d2 d3 d4=>Ru n m a b c d e f g h i j k l o p q r s t u v w x y z d0 d1 d2 d3 d4 k0) k0:=rfl
abbrev Adf:Tm:=⟨[(2,.k (.hp 2 0 0)),(3,.k (.hp 3 0 0)),(4,.k (.hp 4 0 0))],[(2,.var 115 true false [.d .bool,.d hIs,.d hIs,.d hRs,.d hRs,.d .bool,.d hIs,.d hIs]),(3,.var 115 true false [.d .bool,.d hIs,.d hIs,.d hRs,.d hRs,.d .bool,.d hIs,.d hIs]),(4,.var 115 true false [.d .bool,.d .nil,.d .nil,.d .nil,.d .nil,.d .bool,.d .nil,.d .nil])],[],[]⟩
abbrev Ade:Tm:=⟨[(2,.k (.hp 2 0 0)),(3,.k (.hp 3 0 0)),(4,.k (.hp 4 0 0)),(5,.k (.hp 5 0 0)),(6,.d hI),(7,.k (.hp 7 0 0)),(8,.k (.hp 8 0 0)),(28,.d hRs),(29,.d hI),(30,.d hI)],[(2,.var 115 true false [.d .bool,.d hIs,.d hIs,.d hRs,.d hRs,.d .bool,.d hIs,.d hIs]),(3,.var 115 true false [.d .bool,.d hIs,.d hIs,.d hRs,.d hRs,.d .bool,.d hIs,.d hIs]),(4,.var 115 true false [.d .bool,.d .nil,.d .nil,.d .nil,.d .nil,.d .bool,.d .nil,.d .nil]),(5,.var 115 true false [.d .bool,.d hIs,.d hIs,.d .nil,.d .nil,.d .bool,.d hIs,.d hIs]),(7,.var 30 true false [.d .bool,.d hIs,.d hIs]),(8,.var 30 true false [.d .bool,.d hIs,.d hIs])],[],[]⟩
abbrev A4g:Tm:=⟨[(2,.k (.hp 2 0 0)),(3,.k (.hp 3 0 0)),(4,.k (.hp 4 0 0)),(5,.k (.hp 5 0 0)),(6,.d hI),(7,.k (.hp 7 0 0)),(8,.k (.hp 8 0 0)),(28,.d hRs),(29,.d hI),(30,.d hI)],[(2,.var 115 true false [.d .bool,.d hIs,.d hIs,.d hRs,.d hRs,.d .bool,.d hIs,.d hIs]),(3,.var 115 true false [.d .bool,.d hIs,.d hIs,.d hRs,.d hRs,.d .bool,.d hIs,.d hIs]),(4,.var 115 true false [.d .bool,.d .nil,.d .nil,.d .nil,.d .nil,.d .bool,.d .nil,.d .nil]),(5,.var 115 false false [.d .bool,.d hIs,.d hIs,.k (.hw 52),.k (.hw 88),.d .bool,.d hIs,.d hIs]),(7,.var 30 true false [.d .bool,.d hIs,.d hIs]),(8,.var 30 true false [.d .bool,.d hIs,.d hIs]),(52,.arr 30 hR false),(88,.arr 30 hR false)],[],[]⟩
abbrev Add:Tm:=⟨[(2,.k (.hp 2 0 0)),(3,.k (.hp 3 0 0)),(4,.k (.hp 4 0 0)),(5,.k (.hp 5 0 0)),(6,.d hI),(7,.k (.hp 7 0 0)),(8,.k (.hp 8 0 0)),(28,.d hRs),(29,.d hI),(30,.d hI)],[(2,.var 115 true false [.d .bool,.d hIs,.d hIs,.d hRs,.d hRs,.d .bool,.d hIs,.d hIs]),(3,.var 115 true false [.d .bool,.d hIs,.d hIs,.d hRs,.d hRs,.d .bool,.d hIs,.d hIs]),(4,.var 115 true false [.d .bool,.d .nil,.d .nil,.d .nil,.d .nil,.d .bool,.d .nil,.d .nil]),(5,.var 115 false false [.d .bool,.d hIs,.d hIs,.k (.hw 52),.d .nil,.d .bool,.d hIs,.d hIs]),(7,.var 30 true false [.d .bool,.d hIs,.d hIs]),(8,.var 30 true false [.d .bool,.d hIs,.d hIs]),(52,.arr 30 hR false)],[51],[]⟩
abbrev A4f:Tm:=⟨[(2,.k (.hp 2 0 0)),(3,.k (.hp 3 0 0)),(4,.k (.hp 4 0 0)),(5,.k (.hp 5 0 0)),(6,.d hI),(7,.k (.hp 7 0 0)),(8,.k (.hp 8 0 0)),(28,.d hRs),(29,.d hI),(30,.d hI)],[(2,.var 115 true false [.d .bool,.d hIs,.d hIs,.d hRs,.d hRs,.d .bool,.d hIs,.d hIs]),(3,.var 115 true false [.d .bool,.d hIs,.d hIs,.d hRs,.d hRs,.d .bool,.d hIs,.d hIs]),(4,.var 115 true false [.d .bool,.d .nil,.d .nil,.d .nil,.d .nil,.d .bool,.d .nil,.d .nil]),(5,.var 115 false false [.d .bool,.d hIs,.d hIs,.k (.hw 52),.k (.hw 88),.d .bool,.d hIs,.d hIs]),(7,.var 30 true false [.d .bool,.d hIs,.d hIs]),(8,.var 30 true false [.d .bool,.d hIs,.d hIs]),(52,.arr 30 hR false),(88,.arr 30 hR false)],[51],[]⟩
abbrev Adc:Tm:=⟨[(2,.k (.hp 2 0 0)),(3,.k (.hp 3 0 0)),(4,.k (.hp 4 0 0)),(5,.k (.hp 5 0 0)),(6,.d hI),(8,.k (.hp 8 0 0)),(9,.k (.hp 9 0 0)),(28,.d hRs),(29,.d hI),(30,.d hI)],[(2,.var 115 true false [.d .bool,.d hIs,.d hIs,.d hRs,.d hRs,.d .bool,.d hIs,.d hIs]),(3,.var 115 true false [.d .bool,.d hIs,.d hIs,.d hRs,.d hRs,.d .bool,.d hIs,.d hIs]),(4,.var 115 true false [.d .bool,.d .nil,.d .nil,.d .nil,.d .nil,.d .bool,.d .nil,.d .nil]),(5,.var 115 false false [.d .bool,.d hIs,.d hIs,.k (.hw 52),.d .nil,.d .bool,.d hIs,.d hIs]),(8,.var 30 true false [.d .bool,.d hIs,.d hIs]),(9,.var 30 true false [.d .bool,.d hIs,.d hIs]),(52,.arr 30 hR false)],[7],[]⟩
abbrev A4e:Tm:=⟨[(2,.k (.hp 2 0 0)),(3,.k (.hp 3 0 0)),(4,.k (.hp 4 0 0)),(5,.k (.hp 5 0 0)),(6,.d hI),(8,.k (.hp 8 0 0)),(9,.k (.hp 9 0 0)),(28,.d hRs),(29,.d hI),(30,.d hI)],[(2,.var 115 true false [.d .bool,.d hIs,.d hIs,.d hRs,.d hRs,.d .bool,.d hIs,.d hIs]),(3,.var 115 true false [.d .bool,.d hIs,.d hIs,.d hRs,.d hRs,.d .bool,.d hIs,.d hIs]),(4,.var 115 true false [.d .bool,.d .nil,.d .nil,.d .nil,.d .nil,.d .bool,.d .nil,.d .nil]),(5,.var 115 false false [.d .bool,.d hIs,.d hIs,.k (.hw 52),.k (.hw 88),.d .bool,.d hIs,.d hIs]),(8,.var 30 true false [.d .bool,.d hIs,.d hIs]),(9,.var 30 true false [.d .bool,.d hIs,.d hIs]),(52,.arr 30 hR false),(88,.arr 30 hR false)],[7],[]⟩
def K0 (n:Nat) (a0 a1:Rq × LR × LR × Rq):Option (Rq × LR × LR × Rq) :=
 ob (f103 n a0.1 a1.1) λa =>
 ob (f103 n a0.2.2.2 a1.1) λe =>
 ob (f103 n a0.1 a1.2.2.2) λf =>
 ob (f104 n e f) λb =>
 bif (decide (0<(a0.2.1.length:Int))) then
  gd (decide (0<(a0.2.1.length:Int))) (
   let c:=a0.2.1.getD 0 (false,[],[])
   gd (decide (0<(a1.2.1.length:Int))) (
    let d:=a1.2.1.getD 0 (false,[],[])
    ob (f103 n c a1.1) λg =>
    ob (f103 n a0.1 d) λh =>
    ob (f104 n g h) λi =>
    gd ((!a0.2.2.1.isEmpty)) (
     gd (decide (0<(a0.2.2.1.length:Int))) (
      let j:=a0.2.2.1.getD 0 (false,[],[])
      ob (f103 n j a1.1) λk =>
      ob (f103 n c a1.2.2.2) λl =>
      ob (f104 n k l) λm =>
      ob (f103 n a0.2.2.2 d) λo =>
      ob (f104 n m o) λp =>
      gd (decide (0<(a1.2.2.1.length:Int))) (
       let q:=a1.2.2.1.getD 0 (false,[],[])
       ob (f103 n a0.1 q) λr =>
       ob (f104 n p r) λs =>
       Ru n n a0.2.1 (a0.2.1.length:Int) 1 a0.1.1 a0.1.2.1 a0.1.2.2 a0.2.1 a0.2.2.1 a0.2.2.2.1 a0.2.2.2.2.1 a0.2.2.2.2.2 a1.1.1 a1.1.2.1 a1.1.2.2 a1.2.1 a1.2.2.1 a1.2.2.2.1 a1.2.2.2.2.1 a1.2.2.2.2.2 false false a.1 a.2.1 a.2.2 b.1 b.2.1 b.2.2 [i] [s]
        (λd1 d2 t u v w x y z d0=>(
         some ((t,u,v),z,d0,w,x,y))))))))
 else
  some (a,[],[],b)
def A6w (n:Nat):Ent:=⟨219,[(.st (.pair hR (.pair hRs (.pair hRs hR)))),(.st (.pair hR (.pair hRs (.pair hRs hR))))],[(.st (.pair hR (.pair hRs (.pair hRs hR))))],λx=>K0 n x.1 x.2⟩
def A6x (α:Type) (n:Nat):D3 α:={ reg:=[(1,⟨0,[],[(4,{ ent:=some (A9 n) }),(9,{ ent:=some (A9 n) }),(14,{ ent:=some (A9 n) }),(15,{ ent:=some (Ac n) })]⟩),(6,⟨0,[],[(5,{ ent:=some (A9 n) }),(9,{ ent:=some (A9 n) }),(10,{ ent:=some (Ac n) }),(11,{ sh:=some hR }),(12,{ sh:=some hR })]⟩),(8,⟨0,[],[(7,{ ent:=some (A9 n) }),(11,{ ent:=some (A9 n) }),(12,{ ent:=some (Ac n) })]⟩),(9,⟨0,[],[(6,{ ent:=some (A9 n) }),(7,{ ent:=some (Ac n) }),(15,{ ent:=some (A9 n) }),(16,{ ent:=some (Ac n) }),(17,{ sh:=some hR }),(18,{ sh:=some hR })]⟩)],join:=[],loop:=[(3,⟨Oq,Vw,A6 (Vv n) n⟩)],any:=[(1,Adf),(6,Ade),(6,A4g),(8,Add),(8,A4f),(9,Adc),(9,A4e)] }
set_option maxHeartbeats 8000000 in
theorem Aw3 (n:Nat):Am TT ⟨92,[]⟩ [(4,{ ent:=some (A9 n) }),(9,{ ent:=some (A9 n) }),(14,{ ent:=some (A9 n) }),(15,{ ent:=some (Ac n) })] Adf (A4 ((A0 Tryz.f219).at [1,0])):=by
 refine ⟨by kernel_rfl,λw q hq=>?_⟩
 have e:WT [(4,{ ent:=some (A9 n) }),(9,{ ent:=some (A9 n) }),(14,{ ent:=some (A9 n) }),(15,{ ent:=some (Ac n) })] (A7 (A4 ((A0 Tryz.f219).at [1,0])).toList) q=(∃ (y0:HL (A9 n).rs) (q0:List (Nat × RV)),q=(4,.sv (Ae (A9 n).rs y0))::q0 /\ ∃ (y1:HL (A9 n).rs) (q1:List (Nat × RV)),q0=(9,.sv (Ae (A9 n).rs y1))::q1 /\ ∃ (y2:HL (A9 n).rs) (q2:List (Nat × RV)),q1=(14,.sv (Ae (A9 n).rs y2))::q2 /\ ∃ (y3:HL (Ac n).rs) (q3:List (Nat × RV)),q2=(15,.sv (Ae (Ac n).rs y3))::q3/\q3=[]):=by kernel_rfl
 rw [e] at hq;obtain ⟨y0,q0,rfl,y1,q1,rfl,y2,q2,rfl,y3,q3,rfl,rfl⟩:=hq
 all_goals exact .inr ⟨18,by kernel_rfl,by kernel_rfl,by kernel_rfl⟩
set_option maxHeartbeats 8000000 in
theorem Adi (n:Nat):Am TT ⟨92,[]⟩ [(5,{ ent:=some (A9 n) }),(9,{ ent:=some (A9 n) }),(10,{ ent:=some (Ac n) }),(11,{ sh:=some hR }),(12,{ sh:=some hR })] Ade (A4 ((A0 Tryz.f219).at [1,1,0,1,0,0,1,1,0,0,1,1,0])):=by
 refine ⟨by kernel_rfl,λw q hq=>?_⟩
 have e:WT [(5,{ ent:=some (A9 n) }),(9,{ ent:=some (A9 n) }),(10,{ ent:=some (Ac n) }),(11,{ sh:=some hR }),(12,{ sh:=some hR })] (A7 (A4 ((A0 Tryz.f219).at [1,1,0,1,0,0,1,1,0,0,1,1,0])).toList) q=(∃ (y0:HL (A9 n).rs) (q0:List (Nat × RV)),q=(5,.sv (Ae (A9 n).rs y0))::q0 /\ ∃ (y1:HL (A9 n).rs) (q1:List (Nat × RV)),q0=(9,.sv (Ae (A9 n).rs y1))::q1 /\ ∃ (y2:HL (Ac n).rs) (q2:List (Nat × RV)),q1=(10,.sv (Ae (Ac n).rs y2))::q2/\q2=[]):=by kernel_rfl
 rw [e] at hq;obtain ⟨y0,q0,rfl,y1,q1,rfl,y2,q2,rfl,rfl⟩:=hq
 all_goals exact .inr ⟨12,by kernel_rfl,by kernel_rfl,by kernel_rfl⟩
set_option maxHeartbeats 8000000 in
theorem A4j (n:Nat):Am TT ⟨92,[]⟩ [(5,{ ent:=some (A9 n) }),(9,{ ent:=some (A9 n) }),(10,{ ent:=some (Ac n) }),(11,{ sh:=some hR }),(12,{ sh:=some hR })] A4g (A4 ((A0 Tryz.f219).at [1,1,0,1,0,0,1,1,0,0,1,1,0])):=by
 refine ⟨by kernel_rfl,λw q hq=>?_⟩
 have e:WT [(5,{ ent:=some (A9 n) }),(9,{ ent:=some (A9 n) }),(10,{ ent:=some (Ac n) }),(11,{ sh:=some hR }),(12,{ sh:=some hR })] (A7 (A4 ((A0 Tryz.f219).at [1,1,0,1,0,0,1,1,0,0,1,1,0])).toList) q=(∃ (y0:HL (A9 n).rs) (q0:List (Nat × RV)),q=(5,.sv (Ae (A9 n).rs y0))::q0 /\ ∃ (y1:HL (A9 n).rs) (q1:List (Nat × RV)),q0=(9,.sv (Ae (A9 n).rs y1))::q1 /\ ∃ (y2:HL (Ac n).rs) (q2:List (Nat × RV)),q1=(10,.sv (Ae (Ac n).rs y2))::q2/\q2=[]):=by kernel_rfl
 rw [e] at hq;obtain ⟨y0,q0,rfl,y1,q1,rfl,y2,q2,rfl,rfl⟩:=hq
 all_goals exact .inr ⟨12,by kernel_rfl,by kernel_rfl,by kernel_rfl⟩
set_option maxHeartbeats 8000000 in
theorem Adh (n:Nat):Am TT ⟨92,[]⟩ [(7,{ ent:=some (A9 n) }),(11,{ ent:=some (A9 n) }),(12,{ ent:=some (Ac n) })] Add (A4 ((A0 Tryz.f219).at [1,1,0,1,0,0,1,1,0,0,1,1,1,1,0,0])):=by
 refine ⟨by kernel_rfl,λw q hq=>?_⟩
 have e:WT [(7,{ ent:=some (A9 n) }),(11,{ ent:=some (A9 n) }),(12,{ ent:=some (Ac n) })] (A7 (A4 ((A0 Tryz.f219).at [1,1,0,1,0,0,1,1,0,0,1,1,1,1,0,0])).toList) q=(∃ (y0:HL (A9 n).rs) (q0:List (Nat × RV)),q=(7,.sv (Ae (A9 n).rs y0))::q0 /\ ∃ (y1:HL (A9 n).rs) (q1:List (Nat × RV)),q0=(11,.sv (Ae (A9 n).rs y1))::q1 /\ ∃ (y2:HL (Ac n).rs) (q2:List (Nat × RV)),q1=(12,.sv (Ae (Ac n).rs y2))::q2/\q2=[]):=by kernel_rfl
 rw [e] at hq;obtain ⟨y0,q0,rfl,y1,q1,rfl,y2,q2,rfl,rfl⟩:=hq
 all_goals exact .inr ⟨14,by kernel_rfl,by kernel_rfl,by kernel_rfl⟩
set_option maxHeartbeats 8000000 in
theorem A4i (n:Nat):Am TT ⟨92,[]⟩ [(7,{ ent:=some (A9 n) }),(11,{ ent:=some (A9 n) }),(12,{ ent:=some (Ac n) })] A4f (A4 ((A0 Tryz.f219).at [1,1,0,1,0,0,1,1,0,0,1,1,1,1,0,0])):=by
 refine ⟨by kernel_rfl,λw q hq=>?_⟩
 have e:WT [(7,{ ent:=some (A9 n) }),(11,{ ent:=some (A9 n) }),(12,{ ent:=some (Ac n) })] (A7 (A4 ((A0 Tryz.f219).at [1,1,0,1,0,0,1,1,0,0,1,1,1,1,0,0])).toList) q=(∃ (y0:HL (A9 n).rs) (q0:List (Nat × RV)),q=(7,.sv (Ae (A9 n).rs y0))::q0 /\ ∃ (y1:HL (A9 n).rs) (q1:List (Nat × RV)),q0=(11,.sv (Ae (A9 n).rs y1))::q1 /\ ∃ (y2:HL (Ac n).rs) (q2:List (Nat × RV)),q1=(12,.sv (Ae (Ac n).rs y2))::q2/\q2=[]):=by kernel_rfl
 rw [e] at hq;obtain ⟨y0,q0,rfl,y1,q1,rfl,y2,q2,rfl,rfl⟩:=hq
 all_goals exact .inr ⟨14,by kernel_rfl,by kernel_rfl,by kernel_rfl⟩
set_option maxHeartbeats 8000000 in
theorem Adg (n:Nat):Am TT ⟨92,[]⟩ [(6,{ ent:=some (A9 n) }),(7,{ ent:=some (Ac n) }),(15,{ ent:=some (A9 n) }),(16,{ ent:=some (Ac n) }),(17,{ sh:=some hR }),(18,{ sh:=some hR })] Adc (A4 ((A0 Tryz.f219).at [1,1,0,1,0,0,1,1,0,0,1,1,1,1,0,1])):=by
 refine ⟨by kernel_rfl,λw q hq=>?_⟩
 have e:WT [(6,{ ent:=some (A9 n) }),(7,{ ent:=some (Ac n) }),(15,{ ent:=some (A9 n) }),(16,{ ent:=some (Ac n) }),(17,{ sh:=some hR }),(18,{ sh:=some hR })] (A7 (A4 ((A0 Tryz.f219).at [1,1,0,1,0,0,1,1,0,0,1,1,1,1,0,1])).toList) q=(∃ (y0:HL (A9 n).rs) (q0:List (Nat × RV)),q=(6,.sv (Ae (A9 n).rs y0))::q0 /\ ∃ (y1:HL (Ac n).rs) (q1:List (Nat × RV)),q0=(7,.sv (Ae (Ac n).rs y1))::q1 /\ ∃ (y2:HL (A9 n).rs) (q2:List (Nat × RV)),q1=(15,.sv (Ae (A9 n).rs y2))::q2 /\ ∃ (y3:HL (Ac n).rs) (q3:List (Nat × RV)),q2=(16,.sv (Ae (Ac n).rs y3))::q3/\q3=[]):=by kernel_rfl
 rw [e] at hq;obtain ⟨y0,q0,rfl,y1,q1,rfl,y2,q2,rfl,y3,q3,rfl,rfl⟩:=hq
 all_goals exact .inr ⟨18,by kernel_rfl,by kernel_rfl,by kernel_rfl⟩
set_option maxHeartbeats 8000000 in
theorem A4h (n:Nat):Am TT ⟨92,[]⟩ [(6,{ ent:=some (A9 n) }),(7,{ ent:=some (Ac n) }),(15,{ ent:=some (A9 n) }),(16,{ ent:=some (Ac n) }),(17,{ sh:=some hR }),(18,{ sh:=some hR })] A4e (A4 ((A0 Tryz.f219).at [1,1,0,1,0,0,1,1,0,0,1,1,1,1,0,1])):=by
 refine ⟨by kernel_rfl,λw q hq=>?_⟩
 have e:WT [(6,{ ent:=some (A9 n) }),(7,{ ent:=some (Ac n) }),(15,{ ent:=some (A9 n) }),(16,{ ent:=some (Ac n) }),(17,{ sh:=some hR }),(18,{ sh:=some hR })] (A7 (A4 ((A0 Tryz.f219).at [1,1,0,1,0,0,1,1,0,0,1,1,1,1,0,1])).toList) q=(∃ (y0:HL (A9 n).rs) (q0:List (Nat × RV)),q=(6,.sv (Ae (A9 n).rs y0))::q0 /\ ∃ (y1:HL (Ac n).rs) (q1:List (Nat × RV)),q0=(7,.sv (Ae (Ac n).rs y1))::q1 /\ ∃ (y2:HL (A9 n).rs) (q2:List (Nat × RV)),q1=(15,.sv (Ae (A9 n).rs y2))::q2 /\ ∃ (y3:HL (Ac n).rs) (q3:List (Nat × RV)),q2=(16,.sv (Ae (Ac n).rs y3))::q3/\q3=[]):=by kernel_rfl
 rw [e] at hq;obtain ⟨y0,q0,rfl,y1,q1,rfl,y2,q2,rfl,y3,q3,rfl,rfl⟩:=hq
 all_goals exact .inr ⟨18,by kernel_rfl,by kernel_rfl,by kernel_rfl⟩
theorem A4d (α:Type) (n:Nat):Aq PP (Af (A6x α n).reg):=⟨At n,At n,At n,Bz n,At n,At n,Bz n,At n,At n,Bz n,At n,Bz n,At n,Bz n,trivial⟩
theorem Alg (α:Type) (n:Nat):D3.OK PP TT ⟨92,[]⟩ (A6x α n) ((A0 Tryz.f219).at [1,1,0,1,0,0]) :=
 D3.OK.mk3a (A4d α n) (show Aa ((A0 Tryz.f219).at [1,1,0,1,0,0])=[] by kernel_rfl) trivial (show Ar ((A0 Tryz.f219).at [1,1,0,1,0,0])=[(6,A4 ((A0 Tryz.f219).at [1,1,0,1,0,0,1,1,0,0,1,1,0])),(8,A4 ((A0 Tryz.f219).at [1,1,0,1,0,0,1,1,0,0,1,1,1,1,0,0])),(9,A4 ((A0 Tryz.f219).at [1,1,0,1,0,0,1,1,0,0,1,1,1,1,0,1]))] by kernel_rfl) ⟨⟨Adi n,A4j n,trivial⟩,⟨Adh n,A4i n,trivial⟩,⟨Adg n,A4h n,trivial⟩,trivial⟩
theorem Agn (α:Type) (n:Nat):LO.Sound (α:=α) PP ⟨92,[]⟩ ⟨Oq,Vw,A6 (Vv n) n⟩ (.loop ((A0 Tryz.f219).at [1,1,0,1,0,0])):=lk (Alg α n) n
theorem Azy (α:Type) (n:Nat):D3.OK PP TT ⟨92,[]⟩ (A6x α n) (A0 Tryz.f219) :=
 D3.OK.mk3a (A4d α n) (show Aa (A0 Tryz.f219)=[(3,(.loop ((A0 Tryz.f219).at [1,1,0,1,0,0])))] by kernel_rfl) ⟨Ad rfl (Agn α n),trivial⟩ (show Ar (A0 Tryz.f219)=[(1,A4 ((A0 Tryz.f219).at [1,0])),(6,A4 ((A0 Tryz.f219).at [1,1,0,1,0,0,1,1,0,0,1,1,0])),(8,A4 ((A0 Tryz.f219).at [1,1,0,1,0,0,1,1,0,0,1,1,1,1,0,0])),(9,A4 ((A0 Tryz.f219).at [1,1,0,1,0,0,1,1,0,0,1,1,1,1,0,1]))] by kernel_rfl) ⟨⟨Aw3 n,trivial⟩,⟨Adi n,A4j n,trivial⟩,⟨Adh n,A4i n,trivial⟩,⟨Adg n,A4h n,trivial⟩,trivial⟩
theorem Adb (n:Nat):(A6w n).Sound PP:=fk (fn:=Tryz.f219) (Azy _ n)

def f234 (n:Nat) (a0:Int) (a1:Rq) (a2:Bool × LI × LI × LR × LR × Bool × LI × LI) (a3:Rq):Option Rq :=
 gd (decide (0<=a0)&&decide (a0<(a2.2.2.2.1.length:Int))) (
  let a:=a2.2.2.2.1.getD a0.toNat (false,[],[])
  ob (f103 n a1 a) λb =>
  ob (f103 n b a2.2.2.2.2.2) λc =>
  gd (decide (0<=a0)&&decide (a0<(a2.2.2.2.2.1.length:Int))) (
   let d:=a2.2.2.2.2.1.getD a0.toNat (false,[],[])
   ob (f103 n a3 d) λe =>
   ob (f104 n c e) λf =>
   some f))
def Gg (n:Nat):Ent:=⟨234,[hI,(.ref hR),(.ref (.st (.pair .bool (.pair hIs (.pair hIs (.pair hRs (.pair hRs (.pair .bool (.pair hIs hIs))))))))),(.ref hR)],[hR],λx=>f234 n x.1 x.2.1 x.2.2.1 x.2.2.2⟩
def B3r (α:Type) (n:Nat):D3 α:={ reg:=[(1,⟨16,[],[(6,{ ent:=some (A9 n) }),(9,{ ent:=some (A9 n) }),(16,{ ent:=some (A9 n) }),(17,{ ent:=some (Ac n) })]⟩)],join:=[],loop:=[] }
theorem Azg (n:Nat):(Gg n).Sound PP:=B2 (fn:=Tryz.f234) (D:=B3r _ n) ⟨At n,At n,At n,Bz n,trivial⟩

def G3 {α:Type} (n:Nat) (g:Rq) (b:Rq × (Bool × LI × LI × LR × LR × Bool × LI × LI) × Rq) (c:LR) (h a:Int) (s:Bool) (t u:LI) (v i:LR) (w:Bool) (x y:LI) (j k l:Bool) (m o:LI) (p:Bool) (q r:LI) (d e:LR) (f:Rq->(Rq × (Bool × LI × LI × LR × LR × Bool × LI × LI) × Rq)->LR->Int->Int->Bool->LI->LI->LR->LR->Bool->LI->LI->Bool->Bool->Bool->LI->LI->Bool->LI->LI->LR->LR->Option α) (k0:Bool->Bool->Bool->LI->LI->Bool->LI->LI->LR->LR->Option α):Option α :=
 bif (decide (a<h)) then
  gd (decide (0<=a)&&decide (a<(c.length:Int))) (
   let z:=c.getD a.toNat (false,[],[])
   ob (f233 n z g) λd0 =>
   gd (decide ((d.length+1)*56<=140737488355328)) (
    gd ((!i.isEmpty)) (
     ob (f234 n a b.1 b.2.1 b.2.2) λd1 =>
     gd (decide ((e.length+1)*56<=140737488355328)) (
      f g b c h (W (a+1)) s t u v i w x y j k l m o p q r (d++[d0]) (e++[d1])))))
 else
  k0 j k l m o p q r d e
abbrev Dx:Tm:=⟨[(3,.d (.clo 233 (.ref hR))),(4,.d (.clo 234 (.pair (.ref hR) (.pair (.ref (.st (.pair .bool (.pair hIs (.pair hIs (.pair hRs (.pair hRs (.pair .bool (.pair hIs hIs))))))))) (.ref hR))))),(5,.k (.hp 5 0 0)),(10,.k (.hp 10 0 0)),(11,.k (.hp 11 0 0)),(18,.d hRs),(19,.d hI),(20,.d hI)],[(5,.var 115 true false [.d .bool,.d hIs,.d hIs,.d hRs,.d hRs,.d .bool,.d hIs,.d hIs]),(10,.var 115 true false [.d .bool,.d .nil,.d .nil,.d .nil,.d .nil,.d .bool,.d .nil,.d .nil]),(11,.var 115 false false [.d .bool,.d hIs,.d hIs,.k (.hw 31),.k (.hw 42),.d .bool,.d hIs,.d hIs]),(31,.arr 30 hR false),(42,.arr 30 hR false)],[41],[]⟩
abbrev Vp:Tm:=⟨[(10,.k (.hp 10 0 0)),(11,.k (.hp 11 0 0))],[(10,.var 115 true false [.d .bool,.d .nil,.d .nil,.d .nil,.d .nil,.d .bool,.d .nil,.d .nil]),(11,.var 115 false false [.d .bool,.d hIs,.d hIs,.k (.hw 31),.k (.hw 42),.d .bool,.d hIs,.d hIs]),(31,.arr 30 hR false),(42,.arr 30 hR false)],[5],[]⟩
abbrev G2:List (Exit × Tm):=[(.exit 0,Vp)]
def G1 {α:Type} (n:Nat) (v:Dx.den) (f:Dx.den->Option α) (ks:KS α G2):Option α:=G3 n v.1.1 v.1.2.1 v.1.2.2.2.2.2.1 v.1.2.2.2.2.2.2.1 v.1.2.2.2.2.2.2.2.1 v.2.1.1 v.2.1.2.1 v.2.1.2.2.1 v.2.1.2.2.2.1 v.2.1.2.2.2.2.1 v.2.1.2.2.2.2.2.1 v.2.1.2.2.2.2.2.2.1 v.2.1.2.2.2.2.2.2.2.1 v.2.2.1.1 v.2.2.1.2.2.2.2.2.1 v.2.2.2.1.1 v.2.2.2.1.2.1 v.2.2.2.1.2.2.1 v.2.2.2.1.2.2.2.2.2.1 v.2.2.2.1.2.2.2.2.2.2.1 v.2.2.2.1.2.2.2.2.2.2.2.1 v.2.2.2.2.1 v.2.2.2.2.2.1 (λa b c d e g h i j k l m o p q r s t u w x y z=>f ((a,b,(),(),(),c,d,e,()),((g,h,i,j,k,l,m,o,()),(p,(),(),(),(),q,(),(),()),(r,s,t,(),(),u,w,x,()),y,z,()))) (λw0 w1 w2 w3 w4 w5 w6 w7 w8 w9=>ks.1 (((),(),()),((w0,(),(),(),(),w1,(),(),()),(w2,w3,w4,(),(),w5,w6,w7,()),w8,w9,())))
def El {α:Type} (n m:Nat) (a:Rq) (b:Rq × (Bool × LI × LI × LR × LR × Bool × LI × LI) × Rq) (c:LR) (d e:Int) (f:Bool) (g h:LI) (i j:LR) (k:Bool) (l o:LI) (p q r:Bool) (s t:LI) (u:Bool) (v x:LI) (y z:LR) (k0:Bool->Bool->Bool->LI->LI->Bool->LI->LI->LR->LR->Option α):Option α:=A6 (G1 n) m ((a,b,(),(),(),c,d,e,()),((f,g,h,i,j,k,l,o,()),(p,(),(),(),(),q,(),(),()),(r,s,t,(),(),u,v,x,()),y,z,())) (λw=>k0 w.2.1.1 w.2.1.2.2.2.2.2.1 w.2.2.1.1 w.2.2.1.2.1 w.2.2.1.2.2.1 w.2.2.1.2.2.2.2.2.1 w.2.2.1.2.2.2.2.2.2.1 w.2.2.1.2.2.2.2.2.2.2.1 w.2.2.2.1 w.2.2.2.2.1,())
theorem Vn {α n m a b c d e f g h i j k l o p q r s t u v w x y k0}:El (α:=α) n (m+1) a b c d e f g h i j k l o p q r s t u v w x y k0=G3 n a b c d e f g h i j k l o p q r s t u v w x y (λa b c d e f g h i j k l o p q r s t u v w x y=>El n m a b c d e f g h i j k l o p q r s t u v w x y k0) k0:=rfl
abbrev N5:Tm:=⟨[(3,.d (.clo 233 (.ref hR))),(4,.d (.clo 234 (.pair (.ref hR) (.pair (.ref (.st (.pair .bool (.pair hIs (.pair hIs (.pair hRs (.pair hRs (.pair .bool (.pair hIs hIs))))))))) (.ref hR))))),(5,.k (.hp 5 0 0)),(10,.k (.hp 10 0 0)),(11,.k (.hp 11 0 0)),(12,.d hI),(13,.k (.hp 13 0 0)),(18,.d hRs),(19,.d hI),(20,.d hI)],[(5,.var 115 true false [.d .bool,.d hIs,.d hIs,.d hRs,.d hRs,.d .bool,.d hIs,.d hIs]),(10,.var 115 true false [.d .bool,.d .nil,.d .nil,.d .nil,.d .nil,.d .bool,.d .nil,.d .nil]),(11,.var 115 true false [.d .bool,.d hIs,.d hIs,.d .nil,.d .nil,.d .bool,.d hIs,.d hIs]),(13,.var 30 true false [.d .bool,.d hIs,.d hIs])],[6,7],[]⟩
abbrev Ke:Tm:=⟨[(3,.d (.clo 233 (.ref hR))),(4,.d (.clo 234 (.pair (.ref hR) (.pair (.ref (.st (.pair .bool (.pair hIs (.pair hIs (.pair hRs (.pair hRs (.pair .bool (.pair hIs hIs))))))))) (.ref hR))))),(5,.k (.hp 5 0 0)),(10,.k (.hp 10 0 0)),(11,.k (.hp 11 0 0)),(12,.d hI),(13,.k (.hp 13 0 0)),(18,.d hRs),(19,.d hI),(20,.d hI)],[(5,.var 115 true false [.d .bool,.d hIs,.d hIs,.d hRs,.d hRs,.d .bool,.d hIs,.d hIs]),(10,.var 115 true false [.d .bool,.d .nil,.d .nil,.d .nil,.d .nil,.d .bool,.d .nil,.d .nil]),(11,.var 115 false false [.d .bool,.d hIs,.d hIs,.k (.hw 31),.k (.hw 42),.d .bool,.d hIs,.d hIs]),(13,.var 30 true false [.d .bool,.d hIs,.d hIs]),(31,.arr 30 hR false),(42,.arr 30 hR false)],[],[]⟩
abbrev N4:Tm:=⟨[(3,.d (.clo 233 (.ref hR))),(4,.d (.clo 234 (.pair (.ref hR) (.pair (.ref (.st (.pair .bool (.pair hIs (.pair hIs (.pair hRs (.pair hRs (.pair .bool (.pair hIs hIs))))))))) (.ref hR))))),(5,.k (.hp 5 0 0)),(10,.k (.hp 10 0 0)),(11,.k (.hp 11 0 0)),(12,.d hI),(18,.d hRs),(19,.d hI),(20,.d hI)],[(5,.var 115 true false [.d .bool,.d hIs,.d hIs,.d hRs,.d hRs,.d .bool,.d hIs,.d hIs]),(10,.var 115 true false [.d .bool,.d .nil,.d .nil,.d .nil,.d .nil,.d .bool,.d .nil,.d .nil]),(11,.var 115 false false [.d .bool,.d hIs,.d hIs,.k (.hw 31),.d .nil,.d .bool,.d hIs,.d hIs]),(31,.arr 30 hR false)],[13,30],[]⟩
abbrev Kd:Tm:=⟨[(3,.d (.clo 233 (.ref hR))),(4,.d (.clo 234 (.pair (.ref hR) (.pair (.ref (.st (.pair .bool (.pair hIs (.pair hIs (.pair hRs (.pair hRs (.pair .bool (.pair hIs hIs))))))))) (.ref hR))))),(5,.k (.hp 5 0 0)),(10,.k (.hp 10 0 0)),(11,.k (.hp 11 0 0)),(12,.d hI),(18,.d hRs),(19,.d hI),(20,.d hI)],[(5,.var 115 true false [.d .bool,.d hIs,.d hIs,.d hRs,.d hRs,.d .bool,.d hIs,.d hIs]),(10,.var 115 true false [.d .bool,.d .nil,.d .nil,.d .nil,.d .nil,.d .bool,.d .nil,.d .nil]),(11,.var 115 false false [.d .bool,.d hIs,.d hIs,.k (.hw 31),.k (.hw 42),.d .bool,.d hIs,.d hIs]),(31,.arr 30 hR false),(42,.arr 30 hR false)],[13,30],[]⟩
def L7 (n:Nat) (a0:Rq × LR × LR × Rq) (a1 a2 a3:Rq) (a4:Rq × (Bool × LI × LI × LR × LR × Bool × LI × LI) × Rq):Option (Rq × LR × LR × Rq) :=
 bif (decide (0<(a0.2.1.length:Int))) then
  gd (decide (0<(a0.2.1.length:Int))) (
   let a:=a0.2.1.getD 0 (false,[],[])
   ob (f233 n a a3) λb =>
   gd ((!a0.2.2.1.isEmpty)) (
    ob (f234 n 0 a4.1 a4.2.1 a4.2.2) λc =>
    El n n a3 a4 a0.2.1 (a0.2.1.length:Int) 1 a0.1.1 a0.1.2.1 a0.1.2.2 a0.2.1 a0.2.2.1 a0.2.2.2.1 a0.2.2.2.2.1 a0.2.2.2.2.2 false false a1.1 a1.2.1 a1.2.2 a2.1 a2.2.1 a2.2.2 [b] [c]
     (λl m d e f g h i j k=>(
      some ((d,e,f),j,k,g,h,i)))))
 else
  some (a1,[],[],a2)
def Cl (n:Nat):Ent:=⟨226,[(.st (.pair hR (.pair hRs (.pair hRs hR)))),hR,hR,(.clo 233 (.ref hR)),(.clo 234 (.pair (.ref hR) (.pair (.ref (.st (.pair .bool (.pair hIs (.pair hIs (.pair hRs (.pair hRs (.pair .bool (.pair hIs hIs))))))))) (.ref hR))))],[(.st (.pair hR (.pair hRs (.pair hRs hR))))],λx=>L7 n x.1 x.2.1 x.2.2.1 x.2.2.2.1 x.2.2.2.2⟩
def I8 (α:Type) (n:Nat):D3 α:={ reg:=[(5,⟨0,[],[(4,{ ent:=some (C8 n) }),(5,{ sh:=some hR }),(6,{ sh:=some hR })]⟩),(7,⟨0,[],[(4,{ ent:=some (Gg n) }),(5,{ sh:=some hR }),(6,{ sh:=some hR })]⟩)],join:=[],loop:=[(3,⟨Dx,G2,A6 (G1 n) n⟩)],any:=[(5,N5),(5,Ke),(7,N4),(7,Kd)] }
set_option maxHeartbeats 8000000 in
theorem N7 (n:Nat):Am TT ⟨46,[]⟩ [(4,{ ent:=some (C8 n) }),(5,{ sh:=some hR }),(6,{ sh:=some hR })] N5 (A4 ((A0 Tryz.f226).at [1,1,0,1,0,0,1,1,0,0,1,0])):=by
 refine ⟨by kernel_rfl,λw q hq=>?_⟩
 have e:WT [(4,{ ent:=some (C8 n) }),(5,{ sh:=some hR }),(6,{ sh:=some hR })] (A7 (A4 ((A0 Tryz.f226).at [1,1,0,1,0,0,1,1,0,0,1,0])).toList) q=(∃ (y0:HL (C8 n).rs) (q0:List (Nat × RV)),q=(4,.sv (Ae (C8 n).rs y0))::q0/\q0=[]):=by kernel_rfl
 rw [e] at hq;obtain ⟨y0,q0,rfl,rfl⟩:=hq
 all_goals exact .inr ⟨6,by kernel_rfl,by kernel_rfl,by kernel_rfl⟩
set_option maxHeartbeats 8000000 in
theorem Kg (n:Nat):Am TT ⟨46,[]⟩ [(4,{ ent:=some (C8 n) }),(5,{ sh:=some hR }),(6,{ sh:=some hR })] Ke (A4 ((A0 Tryz.f226).at [1,1,0,1,0,0,1,1,0,0,1,0])):=by
 refine ⟨by kernel_rfl,λw q hq=>?_⟩
 have e:WT [(4,{ ent:=some (C8 n) }),(5,{ sh:=some hR }),(6,{ sh:=some hR })] (A7 (A4 ((A0 Tryz.f226).at [1,1,0,1,0,0,1,1,0,0,1,0])).toList) q=(∃ (y0:HL (C8 n).rs) (q0:List (Nat × RV)),q=(4,.sv (Ae (C8 n).rs y0))::q0/\q0=[]):=by kernel_rfl
 rw [e] at hq;obtain ⟨y0,q0,rfl,rfl⟩:=hq
 all_goals exact .inr ⟨6,by kernel_rfl,by kernel_rfl,by kernel_rfl⟩
set_option maxHeartbeats 8000000 in
theorem N6 (n:Nat):Am TT ⟨46,[]⟩ [(4,{ ent:=some (Gg n) }),(5,{ sh:=some hR }),(6,{ sh:=some hR })] N4 (A4 ((A0 Tryz.f226).at [1,1,0,1,0,0,1,1,0,0,1,1,1,0])):=by
 refine ⟨by kernel_rfl,λw q hq=>?_⟩
 have e:WT [(4,{ ent:=some (Gg n) }),(5,{ sh:=some hR }),(6,{ sh:=some hR })] (A7 (A4 ((A0 Tryz.f226).at [1,1,0,1,0,0,1,1,0,0,1,1,1,0])).toList) q=(∃ (y0:HL (Gg n).rs) (q0:List (Nat × RV)),q=(4,.sv (Ae (Gg n).rs y0))::q0/\q0=[]):=by kernel_rfl
 rw [e] at hq;obtain ⟨y0,q0,rfl,rfl⟩:=hq
 all_goals exact .inr ⟨6,by kernel_rfl,by kernel_rfl,by kernel_rfl⟩
set_option maxHeartbeats 8000000 in
theorem Kf (n:Nat):Am TT ⟨46,[]⟩ [(4,{ ent:=some (Gg n) }),(5,{ sh:=some hR }),(6,{ sh:=some hR })] Kd (A4 ((A0 Tryz.f226).at [1,1,0,1,0,0,1,1,0,0,1,1,1,0])):=by
 refine ⟨by kernel_rfl,λw q hq=>?_⟩
 have e:WT [(4,{ ent:=some (Gg n) }),(5,{ sh:=some hR }),(6,{ sh:=some hR })] (A7 (A4 ((A0 Tryz.f226).at [1,1,0,1,0,0,1,1,0,0,1,1,1,0])).toList) q=(∃ (y0:HL (Gg n).rs) (q0:List (Nat × RV)),q=(4,.sv (Ae (Gg n).rs y0))::q0/\q0=[]):=by kernel_rfl
 rw [e] at hq;obtain ⟨y0,q0,rfl,rfl⟩:=hq
 all_goals exact .inr ⟨6,by kernel_rfl,by kernel_rfl,by kernel_rfl⟩
theorem Kc (α:Type) (n:Nat):Aq PP (Af (I8 α n).reg):=⟨Aie n,Azg n,trivial⟩
theorem Vo (α:Type) (n:Nat):D3.OK PP TT ⟨46,[]⟩ (I8 α n) ((A0 Tryz.f226).at [1,1,0,1,0,0]) :=
 D3.OK.mk3a (Kc α n) (show Aa ((A0 Tryz.f226).at [1,1,0,1,0,0])=[] by kernel_rfl) trivial (show Ar ((A0 Tryz.f226).at [1,1,0,1,0,0])=[(5,A4 ((A0 Tryz.f226).at [1,1,0,1,0,0,1,1,0,0,1,0])),(7,A4 ((A0 Tryz.f226).at [1,1,0,1,0,0,1,1,0,0,1,1,1,0]))] by kernel_rfl) ⟨⟨N7 n,Kg n,trivial⟩,⟨N6 n,Kf n,trivial⟩,trivial⟩
theorem Ui (α:Type) (n:Nat):LO.Sound (α:=α) PP ⟨46,[]⟩ ⟨Dx,G2,A6 (G1 n) n⟩ (.loop ((A0 Tryz.f226).at [1,1,0,1,0,0])):=lk (Vo α n) n
theorem A48 (α:Type) (n:Nat):D3.OK PP TT ⟨46,[]⟩ (I8 α n) (A0 Tryz.f226) :=
 D3.OK.mk3a (Kc α n) (show Aa (A0 Tryz.f226)=[(3,(.loop ((A0 Tryz.f226).at [1,1,0,1,0,0])))] by kernel_rfl) ⟨Ad rfl (Ui α n),trivial⟩ (show Ar (A0 Tryz.f226)=[(5,A4 ((A0 Tryz.f226).at [1,1,0,1,0,0,1,1,0,0,1,0])),(7,A4 ((A0 Tryz.f226).at [1,1,0,1,0,0,1,1,0,0,1,1,1,0]))] by kernel_rfl) ⟨⟨N7 n,Kg n,trivial⟩,⟨N6 n,Kf n,trivial⟩,trivial⟩
theorem A0h (n:Nat):(Cl n).Sound PP:=fk (fn:=Tryz.f226) (A48 _ n)

abbrev Ad7:Tm:=⟨[(4,.k (.hp 4 0 0)),(5,.k (.hp 5 0 0)),(6,.k (.hp 6 0 0)),(7,.k (.hp 7 0 0)),(8,.k (.hp 8 0 0))],[(4,.var 115 true false [.d .bool,.d hIs,.d hIs,.d hRs,.d hRs,.d .bool,.d hIs,.d hIs]),(5,.var 30 true false [.d .bool,.d hIs,.d hIs]),(6,.var 30 true false [.d .bool,.d hIs,.d hIs]),(7,.var 30 true false [.d .bool,.d hIs,.d hIs]),(8,.var 115 true false [.d .bool,.d .nil,.d .nil,.d .nil,.d .nil,.d .bool,.d .nil,.d .nil])],[],[]⟩
def Ro (n:Nat) (a0:Rq × LR × LR × Rq) (a1 a2 a3:Rq):Option (Rq × LR × LR × Rq) :=
 ob (f103 n a2 a0.2.2.2) λa =>
 ob (L7 n a0 a1 a a2 (a3,(a0.1.1,a0.1.2.1,a0.1.2.2,a0.2),a2)) λb =>
 some b
def A6s (n:Nat):Ent:=⟨229,[(.st (.pair hR (.pair hRs (.pair hRs hR)))),hR,hR,hR],[(.st (.pair hR (.pair hRs (.pair hRs hR))))],λx=>Ro n x.1 x.2.1 x.2.2.1 x.2.2.2⟩
def Aij (α:Type) (n:Nat):D3 α:={ reg:=[(1,⟨0,[],[(5,{ ent:=some (A9 n) }),(6,{ sh:=some (.ref hR) }),(7,{ sh:=some (.pair (.ref hR) (.pair (.ref (.st (.pair .bool (.pair hIs (.pair hIs (.pair hRs (.pair hRs (.pair .bool (.pair hIs hIs))))))))) (.ref hR))) }),(8,{ ent:=some (Cl n) })]⟩)],join:=[],loop:=[],any:=[(1,Ad7)] }
set_option maxHeartbeats 8000000 in
theorem Avz (n:Nat):Am TT ⟨18,[]⟩ [(5,{ ent:=some (A9 n) }),(6,{ sh:=some (.ref hR) }),(7,{ sh:=some (.pair (.ref hR) (.pair (.ref (.st (.pair .bool (.pair hIs (.pair hIs (.pair hRs (.pair hRs (.pair .bool (.pair hIs hIs))))))))) (.ref hR))) }),(8,{ ent:=some (Cl n) })] Ad7 (A4 ((A0 Tryz.f229).at [1,0])):=by
 refine ⟨by kernel_rfl,λw q hq=>?_⟩
 have e:WT [(5,{ ent:=some (A9 n) }),(6,{ sh:=some (.ref hR) }),(7,{ sh:=some (.pair (.ref hR) (.pair (.ref (.st (.pair .bool (.pair hIs (.pair hIs (.pair hRs (.pair hRs (.pair .bool (.pair hIs hIs))))))))) (.ref hR))) }),(8,{ ent:=some (Cl n) })] (A7 (A4 ((A0 Tryz.f229).at [1,0])).toList) q=(∃ (y0:HL (A9 n).rs) (q0:List (Nat × RV)),q=(5,.sv (Ae (A9 n).rs y0))::q0 /\ ∃ (y1:HL (Cl n).rs) (q1:List (Nat × RV)),q0=(8,.sv (Ae (Cl n).rs y1))::q1/\q1=[]):=by kernel_rfl
 rw [e] at hq;obtain ⟨y0,q0,rfl,y1,q1,rfl,rfl⟩:=hq
 all_goals exact .inl (Iu.mk (by kernel_rfl))
theorem Alb (α:Type) (n:Nat):Aq PP (Af (Aij α n).reg):=⟨At n,A0h n,trivial⟩
theorem Azo (α:Type) (n:Nat):D3.OK PP TT ⟨18,[]⟩ (Aij α n) (A0 Tryz.f229) :=
 D3.OK.mk3a (Alb α n) (show Aa (A0 Tryz.f229)=[] by kernel_rfl) trivial (show Ar (A0 Tryz.f229)=[(1,A4 ((A0 Tryz.f229).at [1,0]))] by kernel_rfl) ⟨⟨Avz n,trivial⟩,trivial⟩
theorem Ad6 (n:Nat):(A6s n).Sound PP:=fk (fn:=Tryz.f229) (Azo _ n)

abbrev Ada:Tm:=⟨[(1,.k (.hp 1 0 0)),(2,.k (.hp 2 0 0))],[(1,.var 115 true false [.d .bool,.d hIs,.d hIs,.d hRs,.d hRs,.d .bool,.d hIs,.d hIs]),(2,.var 115 true false [.d .bool,.d .nil,.d .nil,.d .nil,.d .nil,.d .bool,.d .nil,.d .nil])],[],[]⟩
def Y1 (n:Nat) (a0:Rq × LR × LR × Rq):Option (Rq × LR × LR × Rq) :=
 ob (f92 n 1) λc =>
 ob (f75 n c a0.1) λa =>
 ob (f103 n a a) λb =>
 ob (f77 n b) λd =>
 ob (f103 n b a) λe =>
 ob (f92 n 2) λf =>
 ob (f103 n e f) λg =>
 ob (Ro n a0 a d g) λh =>
 some h
def Aio (n:Nat):Ent:=⟨220,[(.st (.pair hR (.pair hRs (.pair hRs hR))))],[(.st (.pair hR (.pair hRs (.pair hRs hR))))],λx=>Y1 n x⟩
def Aip (α:Type) (n:Nat):D3 α:={ reg:=[(1,⟨0,[],[(0,{ ent:=some (As n) }),(3,{ ent:=some (Gv n) })]⟩),(2,⟨0,[],[(2,{ ent:=some (A9 n) })]⟩),(3,⟨9,[],[(3,{ ent:=some (Al0 n) }),(6,{ ent:=some (A9 n) }),(7,{ ent:=some (As n) }),(8,{ ent:=some (A9 n) }),(9,{ ent:=some (A6s n) })]⟩)],join:=[],loop:=[],any:=[(1,Ada)] }
set_option maxHeartbeats 8000000 in
theorem Aw2 (n:Nat):Am TT ⟨22,[]⟩ [(0,{ ent:=some (As n) }),(3,{ ent:=some (Gv n) })] Ada (A4 ((A0 Tryz.f220).at [1,0])):=by
 refine ⟨by kernel_rfl,λw q hq=>?_⟩
 have e:WT [(0,{ ent:=some (As n) }),(3,{ ent:=some (Gv n) })] (A7 (A4 ((A0 Tryz.f220).at [1,0])).toList) q=(∃ (y0:HL (As n).rs) (q0:List (Nat × RV)),q=(0,.sv (Ae (As n).rs y0))::q0 /\ ∃ (y1:HL (Gv n).rs) (q1:List (Nat × RV)),q0=(3,.sv (Ae (Gv n).rs y1))::q1/\q1=[]):=by kernel_rfl
 rw [e] at hq;obtain ⟨y0,q0,rfl,y1,q1,rfl,rfl⟩:=hq
 all_goals exact .inr ⟨5,by kernel_rfl,by kernel_rfl,by kernel_rfl⟩
theorem Ale (α:Type) (n:Nat):Aq PP (Af (Aip α n).reg):=⟨B8 n,Acq n,At n,Apo n,At n,B8 n,At n,Ad6 n,trivial⟩
theorem Azv (α:Type) (n:Nat):D3.OK PP TT ⟨22,[]⟩ (Aip α n) (A0 Tryz.f220) :=
 D3.OK.mk3a (Ale α n) (show Aa (A0 Tryz.f220)=[] by kernel_rfl) trivial (show Ar (A0 Tryz.f220)=[(1,A4 ((A0 Tryz.f220).at [1,0])),(3,A4 ((A0 Tryz.f220).at [1,1,1,0]))] by kernel_rfl) ⟨⟨Aw2 n,trivial⟩,trivial,trivial⟩
theorem Aw1 (n:Nat):(Aio n).Sound PP:=fk (fn:=Tryz.f220) (Azv _ n)

abbrev Ad5:Tm:=⟨[(4,.k (.hp 4 0 0)),(5,.k (.hp 5 0 0)),(6,.k (.hp 6 0 0)),(7,.k (.hp 7 0 0))],[(4,.var 30 true false [.d .bool,.d .nil,.d .nil]),(5,.var 30 true false [.d .bool,.d .nil,.d .nil]),(6,.var 30 true false [.d .bool,.d hIs,.d hIs]),(7,.var 30 true false [.d .bool,.d hIs,.d hIs])],[2],[]⟩
abbrev Avx:Tm:=⟨[(1,.d hI),(2,.k (.hp 2 0 0)),(4,.k (.hp 4 0 0)),(5,.k (.hp 5 0 0)),(6,.k (.hp 6 0 0)),(7,.k (.hp 7 0 0))],[(2,.var 115 true false [.d .bool,.d hIs,.d hIs,.d hRs,.d hRs,.d .bool,.d hIs,.d hIs]),(4,.var 30 true false [.d .bool,.d .nil,.d .nil]),(5,.var 30 true false [.d .bool,.d .nil,.d .nil]),(6,.var 30 true false [.d .bool,.d hIs,.d hIs]),(7,.var 30 true false [.d .bool,.d hIs,.d hIs])],[],[]⟩
def A47 (n:Nat) (a0:Rq × LR × LR × Rq) (a1:Int):Option (Rq × Rq) :=
 ob (f92 n 0) λa =>
 ob (f92 n 0) λg =>
 let c:=λ(d:Bool) (e:LI) (f:LI)=>(
  bif (decide (a1>=2)) then
   ob (f221 n a0.1 (W (a1-2))) λh =>
   ob (f92 n (W (a1*(W (a1-1))))) λi =>
   ob (f103 n h i) λj =>
   some ((d,e,f),j)
  else
   some ((d,e,f),g))
 bif (decide (a1>=1)) then
  ob (f221 n a0.1 (W (a1-1))) λk =>
  ob (f92 n a1) λl =>
  ob (f103 n k l) λb =>
  c b.1 b.2.1 b.2.2
 else
  c a.1 a.2.1 a.2.2
def Aig (n:Nat):Ent:=⟨230,[(.st (.pair hR (.pair hRs (.pair hRs hR)))),hI],[hR,hR],λx=>A47 n x.1 x.2⟩
def Aih (α:Type) (n:Nat):D3 α:={ reg:=[(1,⟨0,[],[(0,{ ent:=some (As n) }),(1,{ ent:=some (As n) })]⟩),(3,⟨0,[],[(4,{ ent:=some (Ib n) }),(6,{ ent:=some (As n) }),(7,{ ent:=some (A9 n) })]⟩),(5,⟨0,[],[(4,{ ent:=some (Ib n) }),(9,{ ent:=some (As n) }),(10,{ ent:=some (A9 n) })]⟩)],join:=[(4,Avx)],loop:=[],any:=[(6,Ad5)] }
set_option maxHeartbeats 8000000 in
theorem Avy (n:Nat):Am TT ⟨35,[]⟩ [] Ad5 (A4 ((A0 Tryz.f230).at [1,1,1,1,0])):=by
 refine ⟨by kernel_rfl,λw q hq=>?_⟩
 have e:WT [] (A7 (A4 ((A0 Tryz.f230).at [1,1,1,1,0])).toList) q=(q=[]):=by kernel_rfl
 rw [e] at hq;obtain rfl:=hq
 all_goals exact .inr ⟨3,by kernel_rfl,by kernel_rfl,by kernel_rfl⟩
theorem Ala (α:Type) (n:Nat):Aq PP (Af (Aih α n).reg):=⟨B8 n,B8 n,Hi n,B8 n,At n,Hi n,B8 n,At n,trivial⟩
theorem Azk (α:Type) (n:Nat):D3.OK PP TT ⟨35,[]⟩ (Aih α n) (A0 Tryz.f230) :=
 D3.OK.mk3a (Ala α n) (show Aa (A0 Tryz.f230)=[] by kernel_rfl) trivial (show Ar (A0 Tryz.f230)=[(6,A4 ((A0 Tryz.f230).at [1,1,1,1,0]))] by kernel_rfl) ⟨⟨Avy n,trivial⟩,trivial⟩
theorem Avw (n:Nat):(Aig n).Sound PP:=fk (fn:=Tryz.f230) (Azk _ n)

def Y0 (n:Nat) (a0:Rq × LR × LR × Rq) (a1:Int):Option (Rq × LR × LR × Rq) :=
 ob (A47 n a0 a1) λa =>
 ob (f221 n a0.1 a1) λb =>
 ob (Ro n a0 b a.1 a.2) λc =>
 some c
def Ain (n:Nat):Ent:=⟨222,[(.st (.pair hR (.pair hRs (.pair hRs hR)))),hI],[(.st (.pair hR (.pair hRs (.pair hRs hR))))],λx=>Y0 n x.1 x.2⟩
def Azt (α:Type) (n:Nat):D3 α:={ reg:=[(1,⟨0,[],[(2,{ ent:=some (Aig n) })]⟩),(2,⟨7,[],[(4,{ ent:=some (Ib n) }),(7,{ ent:=some (A6s n) })]⟩)],join:=[],loop:=[] }
theorem Aw0 (n:Nat):(Ain n).Sound PP:=B2 (fn:=Tryz.f222) (D:=Azt _ n) ⟨Avw n,Hi n,Ad6 n,trivial⟩

abbrev A92:Tm:=⟨[(2,.d hRs),(3,.k (.hw 1003)),(4,.k (.hp 4 0 0)),(5,.k (.hp 5 0 0)),(8,.k (.hp 8 0 0)),(10,.k (.hp 10 0 0)),(11,.k (.hp 11 0 0))],[(4,.var 118 true false [.d hI,.d hRs]),(5,.var 150 true false [.d hI,.d hI,.d hI,.d hI]),(8,.var 115 true false [.d .bool,.d .nil,.d .nil,.d .nil,.d .nil,.d .bool,.d .nil,.d .nil]),(10,.var 115 true false [.d .bool,.d .nil,.d .nil,.d .nil,.d .nil,.d .bool,.d .nil,.d .nil]),(11,.var 115 true false [.d .bool,.d .nil,.d .nil,.d .nil,.d .nil,.d .bool,.d .nil,.d .nil]),(1003,.arr 115 (.st (.pair hR (.pair hRs (.pair hRs hR)))) false)],[],[]⟩
abbrev Ara:Tm:=⟨[(2,.d hRs),(4,.k (.hp 4 0 0)),(5,.k (.hp 5 0 0)),(8,.k (.hp 8 0 0)),(10,.k (.hp 10 0 0)),(11,.k (.hp 11 0 0))],[(4,.var 118 true false [.d hI,.d hRs]),(5,.var 150 true false [.d hI,.d hI,.d hI,.d hI]),(8,.var 115 true false [.d .bool,.d .nil,.d .nil,.d .nil,.d .nil,.d .bool,.d .nil,.d .nil]),(10,.var 115 true false [.d .bool,.d hIs,.d hIs,.d hRs,.d hRs,.d .bool,.d hIs,.d hIs]),(11,.var 115 true false [.d .bool,.d hIs,.d hIs,.d hRs,.d hRs,.d .bool,.d hIs,.d hIs]),(1003,.arr 115 (.st (.pair hR (.pair hRs (.pair hRs hR)))) false)],[],[]⟩
def A4t (n:Nat) (a0:Int × LR) (a1:Nq) (a2:LR) (a3:List (Rq × LR × LR × Rq)):Option (((Rq × LR × LR × Rq) × Int) × (List (Rq × LR × LR × Rq))) :=
 let t:=λ(c:Bool) (d:LI) (e:LI) (f:LR) (g:LR) (h:Bool) (i:LI) (j:LI) (k:Bool) (l:LI) (m:LI) (o:LR) (p:LR) (q:Bool) (r:LI) (s:LI)=>(
  bif (a1.1==1) then
   ob (f92 n a1.2.2.2) λu =>
   ob (Aap n a0 u) λv =>
   some ((v,0),a3)
  else
   bif (a1.1==2) then
    gd (decide (0<=a1.2.2.2)&&decide (a1.2.2.2<(a2.length:Int))) (
     let w:=a2.getD a1.2.2.2.toNat (false,[],[])
     ob (Aao n a0 w a1.2.2.2) λx =>
     some ((x,0),a3))
   else
    bif (a1.1==3) then
     ob (K2 n ((c,d,e),f,g,h,i,j) ((k,l,m),o,p,q,r,s)) λy =>
     some ((y,0),a3)
    else
     bif (a1.1==4) then
      ob (f92 n (-1)) λz =>
      ob (K1 n ((k,l,m),o,p,q,r,s) z) λd0 =>
      ob (K2 n ((c,d,e),f,g,h,i,j) d0) λd1 =>
      some ((d1,0),a3)
     else
      bif (a1.1==5) then
       ob (K0 n ((c,d,e),f,g,h,i,j) ((k,l,m),o,p,q,r,s)) λd2 =>
       some ((d2,0),a3)
      else
       bif (a1.1==6) then
        ob (f74 n (k,l,m)) λd3 =>
        bif d3 then
         some ((((false,[],[]),[],[],false,[],[]),10),a3)
        else
         ob (Y1 n ((k,l,m),o,p,q,r,s)) λd4 =>
         ob (K0 n ((c,d,e),f,g,h,i,j) d4) λd5 =>
         some ((d5,0),a3)
       else
        bif (a1.1==7) then
         ob (f92 n (-1)) λd6 =>
         ob (K1 n ((c,d,e),f,g,h,i,j) d6) λd7 =>
         some ((d7,0),a3)
        else
         ob (f221 n (c,d,e) a1.2.2.2) λd8 =>
         ob (f113 n d8) λd9 =>
         bif (!d9) then
          some ((((false,[],[]),[],[],false,[],[]),7),a3)
         else
          ob (Y0 n ((c,d,e),f,g,h,i,j) a1.2.2.2) λe0 =>
          some ((e0,0),a3))
 ob (f214 n a1) λe1 =>
 bif (decide (e1>0)) then
  gd (decide (0<=a1.2.1)&&decide (a1.2.1<(a3.length:Int))) (
   gd (decide (a1.2.1.toNat<a3.length)) (
    let a:=a3.getD a1.2.1.toNat ((false,[],[]),[],[],(false,[],[]))
    gd (decide (0<=a1.2.2.1)&&decide (a1.2.2.1<(a3.length:Int))) (
     gd (decide (a1.2.2.1.toNat<a3.length)) (
      let b:=a3.getD a1.2.2.1.toNat ((false,[],[]),[],[],(false,[],[]))
      t a.1.1 a.1.2.1 a.1.2.2 a.2.1 a.2.2.1 a.2.2.2.1 a.2.2.2.2.1 a.2.2.2.2.2 b.1.1 b.1.2.1 b.1.2.2 b.2.1 b.2.2.1 b.2.2.2.1 b.2.2.2.2.1 b.2.2.2.2.2))))
 else
  t false [] [] [] [] false [] [] false [] [] [] [] false [] []
def Ae8 (n:Nat):Ent3:=⟨199,[.im (.st (.pair hI hRs)),.im hN,.im hRs,.one (.own 115 (.st (.pair hR (.pair hRs (.pair hRs hR)))))],[[.im (.st (.pair hR (.pair hRs (.pair hRs hR)))),.im hI]],λx=>A4t n x.1 x.2.1 x.2.2.1 x.2.2.2⟩
def Ae9 (α:Type) (n:Nat):D3 α:={ reg:=[(2,⟨0,[],[(1,{ ent:=some (Q7 n) })]⟩),(6,⟨4,[],[(3,{ ent:=some (As n) }),(4,{ ent:=some (Aj3 n) })]⟩),(8,⟨8,[],[(8,{ ent:=some (Aj2 n) })]⟩),(10,⟨0,[],[(2,{ ent:=some (A6z n) })]⟩),(12,⟨4,[],[(2,{ ent:=some (As n) }),(3,{ ent:=some (A6y n) }),(4,{ ent:=some (A6z n) })]⟩),(14,⟨0,[],[(2,{ ent:=some (A6w n) })]⟩),(16,⟨0,[],[(2,{ ent:=some (Rj n) })]⟩),(18,⟨3,[],[(2,{ ent:=some (Aio n) }),(3,{ ent:=some (A6w n) })]⟩),(20,⟨2,[],[(1,{ ent:=some (As n) }),(2,{ ent:=some (A6y n) })]⟩),(21,⟨0,[],[(4,{ ent:=some (Ib n) }),(5,{ ent:=some (Ig n) })]⟩),(23,⟨0,[],[(3,{ ent:=some (Ain n) })]⟩)],join:=[(4,Ara)],loop:=[],any:=[(3,A92)] }
set_option maxHeartbeats 8000000 in
theorem Arb (n:Nat):Am TT ⟨89,[]⟩ [] A92 (A4 ((A0 Tryz.f199).at [1,1,0,1,0])):=by
 refine ⟨by kernel_rfl,λw q hq=>?_⟩
 have e:WT [] (A7 (A4 ((A0 Tryz.f199).at [1,1,0,1,0])).toList) q=(q=[]):=by kernel_rfl
 rw [e] at hq;obtain rfl:=hq
 all_goals exact .inr ⟨11,by kernel_rfl,by kernel_rfl,by kernel_rfl⟩
theorem Agy (α:Type) (n:Nat):Aq PP (Af (Ae9 α n).reg):=⟨Q6 n,B8 n,Aw8 n,Aw6 n,Ado n,B8 n,Adl n,Ado n,Adb n,Q0 n,Aw1 n,Adb n,B8 n,Adl n,Hi n,Hn n,Aw0 n,trivial⟩
theorem Awk (α:Type) (n:Nat):D3.OK PP TT ⟨89,[]⟩ (Ae9 α n) (A0 Tryz.f199) :=
 D3.OK.mk3a (Agy α n) (show Aa (A0 Tryz.f199)=[] by kernel_rfl) trivial (show Ar (A0 Tryz.f199)=[(3,A4 ((A0 Tryz.f199).at [1,1,0,1,0])),(6,A4 ((A0 Tryz.f199).at [1,1,1,0,1,0,1,0,0])),(8,A4 ((A0 Tryz.f199).at [1,1,1,0,1,0,1,1,1,0,0])),(12,A4 ((A0 Tryz.f199).at [1,1,1,0,1,0,1,1,1,1,1,1,1,0,0])),(18,A4 ((A0 Tryz.f199).at [1,1,1,0,1,0,1,1,1,1,1,1,1,1,1,1,1,0,1,0])),(20,A4 ((A0 Tryz.f199).at [1,1,1,0,1,0,1,1,1,1,1,1,1,1,1,1,1,1,1,0,0]))] by kernel_rfl) ⟨⟨Arb n,trivial⟩,trivial,trivial,trivial,trivial,trivial,trivial⟩
theorem Ar9 (n:Nat):(Ae8 n).Sound PP:=fkB (fn:=Tryz.f199) (Awk _ n)

def A4s (n:Nat) (a0:Rq × LR × LR × Rq):Option Bool :=
 ob (f51 n a0.2.1) λa =>
 ob (f51 n a0.2.2.1) λb =>
 ob (f113 n a0.1) λc =>
 bif c then
  ob (f113 n a0.2.2.2) λd =>
  bif d then
   bif (a.2==0) then
    some (b.2==0)
   else
    some false
  else
   some false
 else
  some false
def Aj9 (n:Nat):Ent:=⟨200,[(.st (.pair hR (.pair hRs (.pair hRs hR))))],[.bool],λx=>A4s n x⟩
def B0h (α:Type) (n:Nat):D3 α:={ reg:=[(1,⟨0,[],[(2,{ ent:=some (Xz n) })]⟩),(2,⟨0,[],[(2,{ ent:=some (Xz n) })]⟩),(3,⟨0,[],[(2,{ ent:=some (Ig n) }),(6,{ ent:=some (Ig n) })]⟩)],join:=[],loop:=[] }
theorem Awg (n:Nat):(Aj9 n).Sound PP:=B2 (fn:=Tryz.f200) (D:=B0h _ n) ⟨Vm n,Vm n,Hn n,Hn n,trivial⟩

def Wo {α:Type} (n:Nat) (e:LR) (c:LN) (g b h:Int) (i:LR) (d:List (Rq × LR × LR × Rq)) (f:LR->LN->Int->Int->Int->LR->(List (Rq × LR × LR × Rq))->Option α) (k0:Int->Option α) (k1:(List (Rq × LR × LR × Rq))->Option α):Option α :=
 bif (decide (b<g)) then
  gd (decide (0<=b)&&decide (b<(c.length:Int))) (
   let j:=c.getD b.toNat (0,0,0,0)
   ob (A4t n (h,i) j e d) λa =>
   gd (Nat.beq a.2.length d.length&&true) (
    bif (a.1.2 != 0) then
     k0 a.1.2
    else
     ob (A4s n a.1.1) λk =>
     bif (!k) then
      k0 7
     else
      gd (decide ((a.2.length+1)*160<=140737488355328)) (
       f e c g (W (b+1)) h i (a.2++[a.1.1]))))
 else
  k1 d
abbrev Oy:Tm:=⟨[(2,.d hRs),(3,.k (.hp 3 0 0)),(8,.k (.hw 13)),(14,.d hNs),(15,.d hI),(16,.d hI)],[(3,.var 118 true false [.d hI,.d hRs]),(13,.arr 115 (.st (.pair hR (.pair hRs (.pair hRs hR)))) false)],[10,11,36],[]⟩
abbrev Amo:Tm:=⟨[(6,.d .nil),(7,.d hI)],[],[3,10,11,13],[]⟩
abbrev Amn:Tm:=⟨[(8,.k (.hw 13))],[(13,.arr 115 (.st (.pair hR (.pair hRs (.pair hRs hR)))) false)],[3],[]⟩
abbrev Wn:List (Exit × Tm):=[(.ret,Amo),(.exit 0,Amn)]
def Wm {α:Type} (n:Nat) (v:Oy.den) (f:Oy.den->Option α) (ks:KS α Wn):Option α:=Wo n v.1.1 v.1.2.2.2.1 v.1.2.2.2.2.1 v.1.2.2.2.2.2.1 v.2.1.1 v.2.1.2.1 v.2.2.1 (λa b c d e g h=>f ((a,(),(),b,c,d,()),((e,g,()),h,()))) (λw0=>ks.1 (((),w0,()),())) (λw0=>ks.2.1 (((),()),(w0,())))
def Sx {α:Type} (n m:Nat) (a:LR) (b:LN) (c d e:Int) (f:LR) (g:List (Rq × LR × LR × Rq)) (k0:Int->Option α) (k1:(List (Rq × LR × LR × Rq))->Option α):Option α:=A6 (Wm n) m ((a,(),(),b,c,d,()),((e,f,()),g,())) (λw=>k0 w.1.2.1,λw=>k1 w.2.1,())
theorem Amm {α n m a b c d e f g k0 k1}:Sx (α:=α) n (m+1) a b c d e f g k0 k1=Wo n a b c d e f g (λa b c d e f g=>Sx n m a b c d e f g k0 k1) k0 k1:=rfl
def Aas (n:Nat) (a0:Int × LR) (a1:LN) (a2:LR):Option ((List (Rq × LR × LR × Rq)) × Int) :=
 Sx n n a2 a1 (a1.length:Int) 0 a0.1 a0.2 []
  (λa=>(
   some ([],a)))
  (λb=>(
   some (b,0)))
def Ajl (n:Nat):Ent:=⟨166,[(.st (.pair hI hRs)),hNs,hRs],[(.sl (.st (.pair hR (.pair hRs (.pair hRs hR))))),hI],λx=>Aas n x.1 x.2.1 x.2.2⟩
def A76 (α:Type) (n:Nat):D3 α:={ reg:=[(1,⟨0,[],[(0,{ sh:=some (.st (.pair hR (.pair hRs (.pair hRs hR)))) })]⟩),(5,⟨0,[],[(4,{ alt:=[(Ae8 n)],hb:=310 })]⟩),(8,⟨0,[],[(1,{ ent:=some (Aj9 n) })]⟩),(10,⟨0,[],[(2,{ sh:=some (.st (.pair hR (.pair hRs (.pair hRs hR)))) })]⟩)],join:=[],loop:=[(3,⟨Oy,Wn,A6 (Wm n) n⟩)] }
theorem A50 (α:Type) (n:Nat):Aq PP (Af (A76 α n).reg):=⟨Ar9 n,Awg n,trivial⟩
theorem Ah2 (α:Type) (n:Nat):LO.Sound (α:=α) PP ⟨40,[]⟩ ⟨Oy,Wn,A6 (Wm n) n⟩ (.loop ((A0 Tryz.f166).at [1,1,0,1,0,0])):=Ca (D:=A76 α n) (A50 α n) n
theorem B14 (α:Type) (n:Nat):D3.OK PP TT ⟨40,[]⟩ (A76 α n) (A0 Tryz.f166) :=
 D3.OK.mk3 (A50 α n) (show Aa (A0 Tryz.f166)=[(3,(.loop ((A0 Tryz.f166).at [1,1,0,1,0,0])))] by kernel_rfl) ⟨Ad rfl (Ah2 α n),trivial⟩
theorem Awp (n:Nat):(Ajl n).Sound PP:=fk (fn:=Tryz.f166) (B14 _ n)

def Vh (n:Nat) (a0:Int × LR) (a1:LN) (a2:LR):Option ((Rq × LR × LR × Rq) × Int) :=
 ob (Aas n a0 a1 a2) λa =>
 bif (a.2 != 0) then
  some (((false,[],[]),[],[],false,[],[]),a.2)
 else
  gd (decide (0<=(W ((a.1.length:Int)-1)))&&decide ((W ((a.1.length:Int)-1))<(a.1.length:Int))) (
   let b:=a.1.getD ((W ((a.1.length:Int)-1)).toNat) ((false,[],[]),[],[],(false,[],[]))
   some (b,0))
def Acn (n:Nat):Ent:=⟨96,[(.st (.pair hI hRs)),hE,hRs],[(.st (.pair hR (.pair hRs (.pair hRs hR)))),hI],λx=>Vh n x.1 x.2.1 x.2.2⟩
def B31 (α:Type) (n:Nat):D3 α:={ reg:=[(1,⟨0,[],[(4,{ ent:=some (Ajl n) })]⟩)],join:=[],loop:=[] }
theorem Aib (n:Nat):(Acn n).Sound PP:=B2 (fn:=Tryz.f96) (D:=B31 _ n) ⟨Awp n,trivial⟩

abbrev Aq1:Tm:=⟨[(1,.d hRs),(2,.d hRs),(3,.k (.hp 3 0 0)),(6,.k (.hp 6 0 0)),(7,.k (.hp 7 0 0))],[(3,.var 54 true false [.d hNs]),(6,.var 30 true false [.d .bool,.d .nil,.d .nil]),(7,.var 30 true false [.d .bool,.d .nil,.d .nil])],[],[]⟩
def f40 (n:Nat) (a0:LN) (a1 a2:LR):Option (Rq × Rq × Int) :=
 ob (f98 n [a1,a2]) λc =>
 ob (f95 n a0 a1) λd =>
 ob (f99 n a1 a2) λe =>
 ob (f68 n [c,d,e]) λb =>
 bif (b != 0) then
  some ((false,[],[]),(false,[],[]),b)
 else
  ob (Vh n (0,a2) a0 a1) λa =>
  bif (a.2 != 0) then
   some ((false,[],[]),(false,[],[]),a.2)
  else
   ob (f97 n a.1.1) λf =>
   ob (f97 n a.1.2.2.2) λg =>
   some (f,g,0)
def Ay5 (n:Nat):Ent:=⟨40,[hE,hRs,hRs],[hR,hR,hI],λx=>f40 n x.1 x.2.1 x.2.2⟩
def Ay6 (α:Type) (n:Nat):D3 α:={ reg:=[(1,⟨0,[],[(2,{ sh:=some hRs }),(3,{ ent:=some (Dh n) }),(6,{ ent:=some (Gu n) }),(9,{ ent:=some (I6 n) }),(10,{ sh:=some hI }),(11,{ ent:=some (C7 n) })]⟩),(4,⟨0,[],[(4,{ ent:=some (Acn n) })]⟩),(7,⟨5,[],[(2,{ ent:=some (Xs n) }),(5,{ ent:=some (Xs n) })]⟩)],join:=[],loop:=[],any:=[(1,Aq1)] }
set_option maxHeartbeats 8000000 in
theorem B3j (n:Nat):Am TT ⟨48,[]⟩ [(2,{ sh:=some hRs }),(3,{ ent:=some (Dh n) }),(6,{ ent:=some (Gu n) }),(9,{ ent:=some (I6 n) }),(10,{ sh:=some hI }),(11,{ ent:=some (C7 n) })] Aq1 (A4 ((A0 Tryz.f40).at [1,0,0])):=by
 refine ⟨by kernel_rfl,λw q hq=>?_⟩
 have e:WT [(2,{ sh:=some hRs }),(3,{ ent:=some (Dh n) }),(6,{ ent:=some (Gu n) }),(9,{ ent:=some (I6 n) }),(10,{ sh:=some hI }),(11,{ ent:=some (C7 n) })] (A7 (A4 ((A0 Tryz.f40).at [1,0,0])).toList) q=(∃ (y0:HL (Dh n).rs) (q0:List (Nat × RV)),q=(3,.sv (Ae (Dh n).rs y0))::q0 /\ ∃ (y1:HL (Gu n).rs) (q1:List (Nat × RV)),q0=(6,.sv (Ae (Gu n).rs y1))::q1 /\ ∃ (y2:HL (I6 n).rs) (q2:List (Nat × RV)),q1=(9,.sv (Ae (I6 n).rs y2))::q2 /\ ∃ (y3:HL (C7 n).rs) (q3:List (Nat × RV)),q2=(11,.sv (Ae (C7 n).rs y3))::q3/\q3=[]):=by kernel_rfl
 rw [e] at hq;obtain ⟨y0,q0,rfl,y1,q1,rfl,y2,q2,rfl,y3,q3,rfl,rfl⟩:=hq
 all_goals exact .inr ⟨9,by kernel_rfl,by kernel_rfl,by kernel_rfl⟩
theorem Avr (α:Type) (n:Nat):Aq PP (Af (Ay6 α n).reg):=⟨A40 n,Aco n,Apd n,Q3 n,Aib n,Vg n,Vg n,trivial⟩
theorem B72 (α:Type) (n:Nat):D3.OK PP TT ⟨48,[]⟩ (Ay6 α n) (A0 Tryz.f40) :=
 D3.OK.mk3a (Avr α n) (show Aa (A0 Tryz.f40)=[] by kernel_rfl) trivial (show Ar (A0 Tryz.f40)=[(1,A4 ((A0 Tryz.f40).at [1,0,0])),(7,A4 ((A0 Tryz.f40).at [1,1,1,1,0]))] by kernel_rfl) ⟨⟨B3j n,trivial⟩,trivial,trivial⟩
theorem B3i (n:Nat):(Ay5 n).Sound PP:=fk (fn:=Tryz.f40) (B72 _ n)

def f168 (n:Nat) (a0:Int) (a1:LR):Option Rq :=
 gd (decide (0<=a0)&&decide (a0<(a1.length:Int))) (
  let a:=a1.getD a0.toNat (false,[],[])
  some a)
def Asb (n:Nat):Ent:=⟨168,[hI,(.ref hRs)],[hR],λx=>f168 n x.1 x.2⟩
def B4v (α:Type) (n:Nat):D3 α:={ reg:=[],join:=[],loop:=[] }
theorem B12 (n:Nat):(Asb n).Sound PP:=B2 (fn:=Tryz.f168) (D:=B4v _ n) trivial

def O2 {α:Type} (n:Nat) (c:LR) (d a:Int) (b:LR) (f:LR->Int->Int->LR->Option α) (k0:LR->Option α):Option α :=
 bif (decide (a<d)) then
  ob (f168 n a c) λe =>
  ob (f97 n e) λg =>
  gd (decide ((b.length+1)*56<=140737488355328)) (
   f c d (W (a+1)) (b++[g]))
 else
  k0 b
abbrev Ie:Tm:=⟨[(1,.d (.clo 168 (.ref hRs))),(5,.k (.hw 7)),(8,.d hI),(9,.d hI)],[(7,.arr 30 hR false)],[17],[]⟩
abbrev Aaa:Tm:=⟨[(5,.k (.hw 7))],[(7,.arr 30 hR false)],[],[]⟩
abbrev O1:List (Exit × Tm):=[(.exit 0,Aaa)]
def O0 {α:Type} (n:Nat) (v:Ie.den) (f:Ie.den->Option α) (ks:KS α O1):Option α:=O2 n v.1.1 v.1.2.2.1 v.1.2.2.2.1 v.2.1 (λa b c d=>f ((a,(),b,c,()),(d,()))) (λw0=>ks.1 (((),()),(w0,())))
def Gn {α:Type} (n m:Nat) (a:LR) (b c:Int) (d:LR) (k0:LR->Option α):Option α:=A6 (O0 n) m ((a,(),b,c,()),(d,())) (λw=>k0 w.2.1,())
theorem Aa9 {α n m a b c d k0}:Gn (α:=α) n (m+1) a b c d k0=O2 n a b c d (λa b c d=>Gn n m a b c d k0) k0:=rfl
def A2j (n:Nat) (a0:Int) (a1:LR):Option LR :=
 Gn n n a1 a0 0 []
  (λa=>(
   some a))
def A54 (n:Nat):Ent:=⟨129,[hI,(.clo 168 (.ref hRs))],[hRs],λx=>A2j n x.1 x.2⟩
def T4 (α:Type) (n:Nat):D3 α:={ reg:=[(1,⟨0,[],[(0,{ sh:=some hR })]⟩),(5,⟨0,[],[(3,{ ent:=some (Asb n) }),(4,{ ent:=some (Xs n) }),(5,{ sh:=some hR })]⟩)],join:=[],loop:=[(3,⟨Ie,O1,A6 (O0 n) n⟩)] }
theorem Uf (α:Type) (n:Nat):Aq PP (Af (T4 α n).reg):=⟨B12 n,Vg n,trivial⟩
theorem A79 (α:Type) (n:Nat):LO.Sound (α:=α) PP ⟨21,[]⟩ ⟨Ie,O1,A6 (O0 n) n⟩ (.loop ((A0 Tryz.f129).at [1,1,0,1,0,0])):=Ca (D:=T4 α n) (Uf α n) n
theorem Amw (α:Type) (n:Nat):D3.OK PP TT ⟨21,[]⟩ (T4 α n) (A0 Tryz.f129) :=
 D3.OK.mk3 (Uf α n) (show Aa (A0 Tryz.f129)=[(3,(.loop ((A0 Tryz.f129).at [1,1,0,1,0,0])))] by kernel_rfl) ⟨Ad rfl (A79 α n),trivial⟩
theorem Ah3 (n:Nat):(A54 n).Sound PP:=fk (fn:=Tryz.f129) (Amw _ n)

def f100 (n:Nat) (a0:LR):Option LR :=
 ob (A2j n (a0.length:Int) a0) λa =>
 some a
def At3 (n:Nat):Ent:=⟨100,[hRs],[hRs],λx=>f100 n x⟩
def B5h (α:Type) (n:Nat):D3 α:={ reg:=[(1,⟨0,[],[(2,{ sh:=some (.ref hRs) }),(3,{ ent:=some (A54 n) })]⟩)],join:=[],loop:=[] }
theorem B1r (n:Nat):(At3 n).Sound PP:=B2 (fn:=Tryz.f100) (D:=B5h _ n) ⟨Ah3 n,trivial⟩

abbrev Aq0:Tm:=⟨[(1,.d hRs),(2,.d hRs),(3,.k (.hp 3 0 0))],[(3,.var 54 true false [.d hNs])],[],[]⟩
def f41 (n:Nat) (a0:LN) (a1 a2:LR):Option (LR × Int) :=
 ob (f98 n [a1,a2]) λc =>
 ob (f95 n a0 a1) λd =>
 ob (f99 n a1 a2) λe =>
 ob (f68 n [c,d,e]) λb =>
 bif (b != 0) then
  some ([],b)
 else
  ob (Vh n ((a1.length:Int),a2) a0 a1) λa =>
  bif (a.2 != 0) then
   some ([],a.2)
  else
   ob (f100 n a.1.2.2.1) λf =>
   some (f,0)
def Ay3 (n:Nat):Ent:=⟨41,[hE,hRs,hRs],[hRs,hI],λx=>f41 n x.1 x.2.1 x.2.2⟩
def Ay4 (α:Type) (n:Nat):D3 α:={ reg:=[(1,⟨0,[],[(2,{ sh:=some hRs }),(3,{ ent:=some (Dh n) }),(6,{ ent:=some (Gu n) }),(9,{ ent:=some (I6 n) }),(10,{ sh:=some hI }),(11,{ ent:=some (C7 n) })]⟩),(4,⟨0,[],[(6,{ ent:=some (Acn n) })]⟩),(7,⟨0,[],[(2,{ ent:=some (At3 n) })]⟩)],join:=[],loop:=[],any:=[(1,Aq0)] }
set_option maxHeartbeats 8000000 in
theorem B3h (n:Nat):Am TT ⟨42,[]⟩ [(2,{ sh:=some hRs }),(3,{ ent:=some (Dh n) }),(6,{ ent:=some (Gu n) }),(9,{ ent:=some (I6 n) }),(10,{ sh:=some hI }),(11,{ ent:=some (C7 n) })] Aq0 (A4 ((A0 Tryz.f41).at [1,0,0])):=by
 refine ⟨by kernel_rfl,λw q hq=>?_⟩
 have e:WT [(2,{ sh:=some hRs }),(3,{ ent:=some (Dh n) }),(6,{ ent:=some (Gu n) }),(9,{ ent:=some (I6 n) }),(10,{ sh:=some hI }),(11,{ ent:=some (C7 n) })] (A7 (A4 ((A0 Tryz.f41).at [1,0,0])).toList) q=(∃ (y0:HL (Dh n).rs) (q0:List (Nat × RV)),q=(3,.sv (Ae (Dh n).rs y0))::q0 /\ ∃ (y1:HL (Gu n).rs) (q1:List (Nat × RV)),q0=(6,.sv (Ae (Gu n).rs y1))::q1 /\ ∃ (y2:HL (I6 n).rs) (q2:List (Nat × RV)),q1=(9,.sv (Ae (I6 n).rs y2))::q2 /\ ∃ (y3:HL (C7 n).rs) (q3:List (Nat × RV)),q2=(11,.sv (Ae (C7 n).rs y3))::q3/\q3=[]):=by kernel_rfl
 rw [e] at hq;obtain ⟨y0,q0,rfl,y1,q1,rfl,y2,q2,rfl,y3,q3,rfl,rfl⟩:=hq
 all_goals exact .inr ⟨9,by kernel_rfl,by kernel_rfl,by kernel_rfl⟩
theorem Avp (α:Type) (n:Nat):Aq PP (Af (Ay4 α n).reg):=⟨A40 n,Aco n,Apd n,Q3 n,Aib n,B1r n,trivial⟩
theorem B71 (α:Type) (n:Nat):D3.OK PP TT ⟨42,[]⟩ (Ay4 α n) (A0 Tryz.f41) :=
 D3.OK.mk3a (Avp α n) (show Aa (A0 Tryz.f41)=[] by kernel_rfl) trivial (show Ar (A0 Tryz.f41)=[(1,A4 ((A0 Tryz.f41).at [1,0,0]))] by kernel_rfl) ⟨⟨B3h n,trivial⟩,trivial⟩
theorem B3g (n:Nat):(Ay3 n).Sound PP:=fk (fn:=Tryz.f41) (B71 _ n)

def A6k {α:Type} (n:Nat) (b c:LR) (e a:Int) (g h:Bool) (i j:LI) (f:LR->LR->Int->Int->Bool->Bool->LI->LI->Option α) (k0:Bool->Bool->LI->LI->Option α):Option α :=
 bif (decide (a<e)) then
  gd (decide (0<=a)&&decide (a<(c.length:Int))) (
   let k:=c.getD a.toNat (false,[],[])
   gd (decide (0<=a)&&decide (a<(b.length:Int))) (
    let l:=b.getD a.toNat (false,[],[])
    ob (f103 n k l) λm =>
    ob (f104 n (h,i,j) m) λd =>
    f b c e (W (a+1)) g d.1 d.2.1 d.2.2))
 else
  k0 g h i j
abbrev Xu:Tm:=⟨[(1,.d hRs),(4,.k (.hp 4 0 0)),(5,.k (.hp 5 0 0)),(9,.d hRs),(10,.d hI),(11,.d hI)],[(4,.var 30 true false [.d .bool,.d .nil,.d .nil]),(5,.var 30 true false [.d .bool,.d hIs,.d hIs])],[7],[]⟩
abbrev Avk:Tm:=⟨[(4,.k (.hp 4 0 0)),(5,.k (.hp 5 0 0))],[(4,.var 30 true false [.d .bool,.d .nil,.d .nil]),(5,.var 30 true false [.d .bool,.d hIs,.d hIs])],[],[]⟩
abbrev A6j:List (Exit × Tm):=[(.exit 0,Avk)]
def A6i {α:Type} (n:Nat) (v:Xu.den) (f:Xu.den->Option α) (ks:KS α A6j):Option α:=A6k n v.1.1 v.1.2.2.2.1 v.1.2.2.2.2.1 v.1.2.2.2.2.2.1 v.2.1.1 v.2.2.1.1 v.2.2.1.2.1 v.2.2.1.2.2.1 (λa b c d e g h i=>f ((a,(),(),b,c,d,()),((e,(),(),()),(g,h,i,()),()))) (λw0 w1 w2 w3=>ks.1 (((),(),()),((w0,(),(),()),(w1,w2,w3,()),())))
def Vl {α:Type} (n m:Nat) (a b:LR) (c d:Int) (e f:Bool) (g h:LI) (k0:Bool->Bool->LI->LI->Option α):Option α:=A6 (A6i n) m ((a,(),(),b,c,d,()),((e,(),(),()),(f,g,h,()),())) (λw=>k0 w.2.1.1 w.2.2.1.1 w.2.2.1.2.1 w.2.2.1.2.2.1,())
theorem Avj {α n m a b c d e f g h k0}:Vl (α:=α) n (m+1) a b c d e f g h k0=A6k n a b c d e f g h (λa b c d e f g h=>Vl n m a b c d e f g h k0) k0:=rfl
def f73 (n:Nat) (a0 a1:LR):Option Rq :=
 ob (f92 n 0) λa =>
 Vl n n a1 a0 (a0.length:Int) 0 false a.1 a.2.1 a.2.2
  (λe b c d=>(
   some (b,c,d)))
def Axz (n:Nat):Ent:=⟨73,[hRs,hRs],[hR],λx=>f73 n x.1 x.2⟩
def Al1 (α:Type) (n:Nat):D3 α:={ reg:=[(1,⟨0,[],[(0,{ ent:=some (As n) })]⟩),(5,⟨7,[],[(6,{ ent:=some (A9 n) }),(7,{ ent:=some (Ac n) })]⟩)],join:=[],loop:=[(3,⟨Xu,A6j,A6 (A6i n) n⟩)] }
theorem Acs (α:Type) (n:Nat):Aq PP (Af (Al1 α n).reg):=⟨B8 n,At n,Bz n,trivial⟩
theorem App (α:Type) (n:Nat):LO.Sound (α:=α) PP ⟨26,[]⟩ ⟨Xu,A6j,A6 (A6i n) n⟩ (.loop ((A0 Tryz.f73).at [1,1,0,1,0,0])):=Ca (D:=Al1 α n) (Acs α n) n
theorem B6p (α:Type) (n:Nat):D3.OK PP TT ⟨26,[]⟩ (Al1 α n) (A0 Tryz.f73) :=
 D3.OK.mk3 (Acs α n) (show Aa (A0 Tryz.f73)=[(3,(.loop ((A0 Tryz.f73).at [1,1,0,1,0,0])))] by kernel_rfl) ⟨Ad rfl (App α n),trivial⟩
theorem B37 (n:Nat):(Axz n).Sound PP:=fk (fn:=Tryz.f73) (B6p _ n)

def f56 (n:Nat) (a0:Rq):Option (Rq × Int) :=
 ob (f113 n a0) λa =>
 bif (!a) then
  some ((false,[],[]),7)
 else
  some (a0,0)
def Aan (n:Nat):Ent:=⟨56,[hR],[hR,hI],λx=>f56 n x⟩
def B6v (α:Type) (n:Nat):D3 α:={ reg:=[(1,⟨0,[],[(1,{ ent:=some (Ig n) })]⟩)],join:=[],loop:=[] }
theorem Ad0 (n:Nat):(Aan n).Sound PP:=B2 (fn:=Tryz.f56) (D:=B6v _ n) ⟨Hn n,trivial⟩

def f101 (n:Nat) (a0 a1:LR):Option (Rq × Int) :=
 ob (f93 n [a0,a1]) λa =>
 bif (a != 0) then
  some ((false,[],[]),a)
 else
  ob (f73 n a0 a1) λc =>
  ob (f56 n c) λb =>
  some (b.1,b.2)
def At2 (n:Nat):Ent:=⟨101,[hRs,hRs],[hR,hI],λx=>f101 n x.1 x.2⟩
def B5g (α:Type) (n:Nat):D3 α:={ reg:=[(1,⟨0,[],[(2,{ sh:=some hRs }),(3,{ ent:=some (Rg n) })]⟩),(4,⟨0,[],[(2,{ ent:=some (Axz n) }),(3,{ ent:=some (Aan n) })]⟩)],join:=[],loop:=[] }
theorem B1p (n:Nat):(At2 n).Sound PP:=B2 (fn:=Tryz.f101) (D:=B5g _ n) ⟨Aph n,B37 n,Ad0 n,trivial⟩

def f42 (n:Nat) (a0 a1:LR):Option (Rq × Bool) :=
 ob (f101 n a0 a1) λa =>
 some (a.1,(a.2==0))
def Ay2 (n:Nat):Ent:=⟨42,[hRs,hRs],[hR,.bool],λx=>f42 n x.1 x.2⟩
def B70 (α:Type) (n:Nat):D3 α:={ reg:=[(1,⟨0,[],[(2,{ ent:=some (At2 n) })]⟩)],join:=[],loop:=[] }
theorem B3f (n:Nat):(Ay2 n).Sound PP:=B2 (fn:=Tryz.f42) (D:=B70 _ n) ⟨B1p n,trivial⟩

def A2q (n:Nat) (a0 a1:Rq) (a2:Unit):Option (Rq × Int) :=
 ob (f94 n [a0,a1]) λa =>
 bif (a != 0) then
  some ((false,[],[]),a)
 else
  ob (f103 n a0 a1) λc =>
  ob (f56 n c) λb =>
  some (b.1,b.2)
def A59 (n:Nat):Ent:=⟨102,[hR,hR,(.fn 103)],[hR,hI],λx=>A2q n x.1 x.2.1 x.2.2⟩
def An2 (α:Type) (n:Nat):D3 α:={ reg:=[(1,⟨0,[],[(2,{ sh:=some hR }),(3,{ ent:=some (Lq n) })]⟩),(4,⟨0,[],[(3,{ ent:=some (A9 n) }),(4,{ ent:=some (Aan n) })]⟩)],join:=[],loop:=[] }
theorem Ah9 (n:Nat):(A59 n).Sound PP:=B2 (fn:=Tryz.f102) (D:=An2 _ n) ⟨A41 n,At n,Ad0 n,trivial⟩

def f43 (n:Nat) (a0 a1:Rq):Option (Rq × Int) :=
 ob (A2q n a0 a1 ()) λa =>
 some (a.1,a.2)
def Ay1 (n:Nat):Ent:=⟨43,[hR,hR],[hR,hI],λx=>f43 n x.1 x.2⟩
def B6z (α:Type) (n:Nat):D3 α:={ reg:=[(1,⟨0,[],[(2,{ ent:=some (A59 n) })]⟩)],join:=[],loop:=[] }
theorem B3d (n:Nat):(Ay1 n).Sound PP:=B2 (fn:=Tryz.f43) (D:=B6z _ n) ⟨Ah9 n,trivial⟩

def A2p (n:Nat) (a0 a1:Rq) (a2:Unit):Option (Rq × Int) :=
 ob (f94 n [a0,a1]) λa =>
 bif (a != 0) then
  some ((false,[],[]),a)
 else
  ob (f104 n a0 a1) λc =>
  ob (f56 n c) λb =>
  some (b.1,b.2)
def A58 (n:Nat):Ent:=⟨102,[hR,hR,(.fn 104)],[hR,hI],λx=>A2p n x.1 x.2.1 x.2.2⟩
def An1 (α:Type) (n:Nat):D3 α:={ reg:=[(1,⟨0,[],[(2,{ sh:=some hR }),(3,{ ent:=some (Lq n) })]⟩),(4,⟨0,[],[(3,{ ent:=some (Ac n) }),(4,{ ent:=some (Aan n) })]⟩)],join:=[],loop:=[] }
theorem Ah8 (n:Nat):(A58 n).Sound PP:=B2 (fn:=Tryz.f102) (D:=An1 _ n) ⟨A41 n,Bz n,Ad0 n,trivial⟩

def f44 (n:Nat) (a0 a1:Rq):Option (Rq × Int) :=
 ob (A2p n a0 a1 ()) λa =>
 some (a.1,a.2)
def Al8 (n:Nat):Ent:=⟨44,[hR,hR],[hR,hI],λx=>f44 n x.1 x.2⟩
def B6y (α:Type) (n:Nat):D3 α:={ reg:=[(1,⟨0,[],[(2,{ ent:=some (A58 n) })]⟩)],join:=[],loop:=[] }
theorem Apy (n:Nat):(Al8 n).Sound PP:=B2 (fn:=Tryz.f44) (D:=B6y _ n) ⟨Ah8 n,trivial⟩

def A2o {α:Type} (n:Nat) (b c:LI) (a:Int) (f:LI->LI->Int->Option α) (k0:Bool->Option α) (k1:Unit->Option α):Option α :=
 bif (decide (a<(b.length:Int))) then
  gd (decide (0<=a)&&decide (a<(b.length:Int))) (
   gd (decide (0<=a)&&decide (a<(c.length:Int))) (
    bif ((b.getD a.toNat 0) != (c.getD a.toNat 0)) then
     k0 false
    else
     f b c (W (a+1))))
 else
  k1 ()
abbrev T8:Tm:=⟨[(0,.d hIs),(1,.d hIs),(5,.d hI)],[],[],[]⟩
abbrev At1:Tm:=⟨[(4,.d .bool)],[],[],[]⟩
abbrev At0:Tm:=⟨[],[],[],[]⟩
abbrev A2n:List (Exit × Tm):=[(.ret,At1),(.exit 0,At0)]
def A2m {α:Type} (n:Nat) (v:T8.den) (f:T8.den->Option α) (ks:KS α A2n):Option α:=A2o n v.1.1 v.1.2.1 v.1.2.2.1 (λa b c=>f ((a,b,c,()),())) (λw0=>ks.1 ((w0,()),())) (λ_=>ks.2.1 ((),()))
def Ql {α:Type} (n m:Nat) (a b:LI) (c:Int) (k0:Bool->Option α) (k1:Unit->Option α):Option α:=A6 (A2m n) m ((a,b,c,()),()) (λw=>k0 w.1.1,λw=>k1 (),())
theorem Asz {α n m a b c k0 k1}:Ql (α:=α) n (m+1) a b c k0 k1=A2o n a b c (λa b c=>Ql n m a b c k0 k1) k0 k1:=rfl
def f105 (n:Nat) (a0 a1:LI):Option Bool :=
 bif ((a0.length:Int) != (a1.length:Int)) then
  some false
 else
  Ql n n a0 a1 0
   (λa=>(
    some a))
   (λ(_:Unit)=>(
    some true))
def Af0 (n:Nat):Ent:=⟨105,[hIs,hIs],[.bool],λx=>f105 n x.1 x.2⟩
def Af1 (α:Type) (n:Nat):D3 α:={ reg:=[(6,⟨8,[],[]⟩)],join:=[],loop:=[(4,⟨T8,A2n,A6 (A2m n) n⟩)] }
theorem A9j (α:Type) (n:Nat):Aq PP (Af (Af1 α n).reg):=trivial
theorem An0 (α:Type) (n:Nat):LO.Sound (α:=α) PP ⟨26,[]⟩ ⟨T8,A2n,A6 (A2m n) n⟩ (.loop ((A0 Tryz.f105).at [1,1,0,1,0,0])):=Ca (D:=Af1 α n) (A9j α n) n
theorem B5d (α:Type) (n:Nat):D3.OK PP TT ⟨26,[]⟩ (Af1 α n) (A0 Tryz.f105) :=
 D3.OK.mk3 (A9j α n) (show Aa (A0 Tryz.f105)=[(4,(.loop ((A0 Tryz.f105).at [1,1,0,1,0,0])))] by kernel_rfl) ⟨Ad rfl (An0 α n),trivial⟩
theorem Ajp (n:Nat):(Af0 n).Sound PP:=fk (fn:=Tryz.f105) (B5d _ n)

def f45 (n:Nat) (a0 a1:Rq):Option Bool :=
 bif (a0.1==a1.1) then
  ob (f105 n a0.2.1 a1.2.1) λa =>
  bif a then
   ob (f105 n a0.2.2 a1.2.2) λb =>
   some b
  else
   some false
 else
  some false
def Ay0 (n:Nat):Ent:=⟨45,[hR,hR],[.bool],λx=>f45 n x.1 x.2⟩
def B6x (α:Type) (n:Nat):D3 α:={ reg:=[(1,⟨0,[],[(10,{ ent:=some (Af0 n) }),(17,{ ent:=some (Af0 n) })]⟩)],join:=[],loop:=[] }
theorem B3b (n:Nat):(Ay0 n).Sound PP:=B2 (fn:=Tryz.f45) (D:=B6x _ n) ⟨Ajp n,Ajp n,trivial⟩

def f9 (n:Nat) (a0 a1:LI):Option Bool :=
 bif (decide ((a0.length:Int)>1048576)) then
  some true
 else
  bif (decide ((a1.length:Int)>1048576)) then
   some true
  else
   ob (f36 n a0 2) λb =>
   ob (f12 n a1 2) λc =>
   gd (decide ((1+a1.length)*1<=140737488355328)) (
    ob (f12 n ([5]++a1) 2) λa =>
    ob (f37 n 1 1) λe =>
    ob (f37 n 1 2) λf =>
    ob (f38 n e.1 a c) λg =>
    ob (f39 n b g.1) λh =>
    ob (f40 n b c a) λd =>
    ob (f41 n b c a) λi =>
    ob (f42 n a i.1) λj =>
    ob (f43 n f.1 j.1) λk =>
    ob (f44 n d.1 d.2.1) λl =>
    ob (f44 n l.1 k.1) λm =>
    bif (e.2==0) then
     bif (f.2==0) then
      bif (g.2==0) then
       bif (h.2==0) then
        bif (d.2.2==0) then
         bif (i.2==0) then
          bif j.2 then
           bif (k.2==0) then
            bif (l.2==0) then
             bif (m.2==0) then
              ob (f45 n m.1 h.1) λo =>
              some o
             else
              some false
            else
             some false
           else
            some false
          else
           some false
         else
          some false
        else
         some false
       else
        some false
      else
       some false
     else
      some false
    else
     some false)
def B7s (n:Nat):Ent:=⟨9,[(.sl (.int .u8)),(.sl (.int .u8))],[.bool],λx=>f9 n x.1 x.2⟩
def B7t (α:Type) (n:Nat):D3 α:={ reg:=[(3,⟨0,[],[(1,{ ent:=some (Aya n) })]⟩),(4,⟨0,[],[(1,{ ent:=some (Amv n) })]⟩),(5,⟨0,[],[(0,{ sh:=some (.int .u8) }),(3,{ ent:=some (Amv n),fz:=[(43,(.sl (.int .u8)))] })]⟩),(6,⟨0,[],[(0,{ ent:=some (Al9 n) })]⟩),(7,⟨0,[],[(0,{ ent:=some (Al9 n) })]⟩),(8,⟨0,[],[(3,{ ent:=some (Ay8 n) })]⟩),(9,⟨0,[],[(2,{ ent:=some (Ay7 n) })]⟩),(10,⟨0,[],[(3,{ ent:=some (Ay5 n) })]⟩),(11,⟨0,[],[(3,{ ent:=some (Ay3 n) })]⟩),(12,⟨0,[],[(2,{ ent:=some (Ay2 n) })]⟩),(13,⟨0,[],[(2,{ ent:=some (Ay1 n) })]⟩),(14,⟨0,[],[(2,{ ent:=some (Al8 n) })]⟩),(15,⟨0,[],[(2,{ ent:=some (Al8 n) })]⟩),(16,⟨0,[],[(40,{ ent:=some (Ay0 n) })]⟩)],join:=[],loop:=[] }
theorem B6b (n:Nat):(B7s n).Sound PP:=B2 (fn:=Tryz.f9) (D:=B7t _ n) ⟨B3p n,Asx n,Asx n,Aq3 n,Aq3 n,B3l n,B3k n,B3i n,B3g n,B3f n,B3d n,Apy n,Apy n,B3b n,trivial⟩

end Go.Ev
