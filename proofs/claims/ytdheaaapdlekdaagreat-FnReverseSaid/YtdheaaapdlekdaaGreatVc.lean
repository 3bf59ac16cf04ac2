/- DERIVED. What the functions compute, and that they do. -/
import Derived.Test.YtdheaaapdlekdaaGreatVb

set_option linter.all false
set_option linter.unusedVariables false
set_option linter.unusedSimpArgs false

namespace Go.Ev
open Go Go.Proofs Go.RowKit Go.Shelf
set_option maxHeartbeats 8000000
variable (α:Type) (n:Nat)
def Ag4 {α:Type} (b:LR) (a:Int) (c:LR) (f:LR->Int->LR->Option α) (k0:Int->LR->Option α) (k1:LR->Option α):Option α :=
 bif (decide (a<(b.length:Int))) then
  gd (decide (0<=a)&&decide (a<(b.length:Int))) (
   let d:=b.getD a.toNat (false,[],[])
   ob (f145 n d) λe =>
   bif (!e) then
    k0 7 []
   else
    gd (decide (0<=a)&&decide (a<(b.length:Int))) (
     let g:=b.getD a.toNat (false,[],[])
     ob (f127 n g) λh =>
     gd (decide ((c.length+1)*56<=140737488355328)) (
      f b (W (a+1)) (c++[h]))))
 else
  k1 c
abbrev A54:Tm:=⟨[Tu,(4,.k (.hw 6)),Ik],[(6,.arr 54 hR false)],[26],[]⟩
abbrev Bca:Tm:=⟨[(2,.k (.hw 19)),Ns],[(19,.arr 54 hR false)],[6],[]⟩
abbrev Bc9:Tm:=⟨[(4,.k (.hw 6))],[(6,.arr 54 hR false)],[],[]⟩
abbrev Ag3:List (Exit × Tm):=[(.ret,Bca),(.exit 0,Bc9)]
def Ag2 {α:Type} (v:A54.den) (f:A54.den->Option α) (ks:KS α Ag3):Option α:=Ag4 n v.1.1 v.1.2.2.1 v.2.1 (λa b c=>f ((a,(),b,()),(c,()))) (λw0 w1=>ks.1 (((),w0,()),(w1,()))) (λw0=>ks.2.1 (((),()),(w0,())))
def A2i {α:Type} (n m:Nat) (a:LR) (b:Int) (c:LR) (k0:Int->LR->Option α) (k1:LR->Option α):Option α:=A4 (Ag2 n) m ((a,(),b,()),(c,())) (λw=>k0 w.1.2.1 w.2.1,λw=>k1 w.2.1,())
theorem Bc8 {α n m a b c k0 k1}:A2i (α:=α) n (m+1) a b c k0 k1=Ag4 n a b c (λa b c=>A2i n m a b c k0 k1) k0 k1:=rfl
def f89 (a0:LR):Option Il :=
 A2i n n a0 0 []
  (λa b=>(
   some (b,a)))
  (λc=>(
   some (c,0)))
def Azv:Ent:=⟨89,[hRs],[hRs,hI],λx=>f89 n x⟩
def Azw:D3 α:=⟨[(1,⟨0,[],F5⟩),(5,⟨0,[],[(4,A3 (A3i n))]⟩),(6,⟨0,[],F5⟩),(7,⟨0,[],[(5,A3 (Arp n)),(6,B4 hR)]⟩)],[],[(3,⟨A54,Ag3,A4 (Ag2 n) n⟩)],[]⟩
theorem Ap0:Ap PP (Ae (Azw α n).reg):=⟨A64 n,Axh n,trivial⟩
theorem B5c:LO.Sound (α:=α) PP ⟨29,[]⟩ ⟨A54,Ag3,A4 (Ag2 n) n⟩ (.loop (Ai Tryz.f89 75)):=Cb (D:=Azw α n) (Ap0 α n) n
theorem Br2:D3.OK PP TT ⟨29,[]⟩ (Azw α n) (Af Tryz.f89) :=
 D3.OK.mk3 (Ap0 α n) (by kernel_rfl:A9 _=[(3,.loop (Ai Tryz.f89 75))]) ⟨Aa rfl (B5c α n),trivial⟩
theorem B5b:(Azv n).Sound PP:=fk (fn:=Tryz.f89) (Br2 _ n)

def f66 (a0:LN × Int) (a1:LR):Option Il :=
 ob (f88 n a0 a1) λa =>
 bif (a.2 != 0) then
  some ([],a.2)
 else
  ob (f118 n (a.1.length:Int)) λd =>
  ob (f93 n a0 a.1 d (a1.length:Int)) λb =>
  bif (b.2.2 != 0) then
   some ([],b.2.2)
  else
   ob (f89 n b.1) λc =>
   some (c.1,c.2)
def Bfy:Ent:=⟨66,[Ft,hRs],[hRs,hI],λx=>f66 n x.1 x.2⟩
def Brc:D3 α:=⟨[(1,⟨0,[],[(2,A3 (Azx n))]⟩),(3,⟨0,[],F5⟩),(4,⟨14,[],[(4,A3 (Arv n)),(7,A3 (Azs n))]⟩),(6,⟨0,[],F5⟩),(7,⟨0,[],[(1,A3 (Azv n))]⟩)],[],[],[]⟩
theorem Bmt:(Bfy n).Sound PP:=B9 (fn:=Tryz.f66) (D:=Brc _ n) ⟨B5d n,Axl n,B58 n,B5b n,trivial⟩

def f24 (a0:LN × Int) (a1:LR):Option Il :=
 bif (decide ((a1.length:Int)>4096)) then
  some ([],2)
 else
  ob (f65 n a0 a1) λa =>
  bif (a != 0) then
   some ([],a)
  else
   ob (f66 n a0 a1) λb =>
   some (b.1,b.2)
def Bg8:Ent:=⟨24,[Ft,hRs],[hRs,hI],λx=>f24 n x.1 x.2⟩
def Brv:D3 α:=⟨[(2,⟨0,[],F5⟩),(3,⟨0,[],[(2,A3 (B05 n))]⟩),(5,⟨0,[],F5⟩),(6,⟨0,[],[(2,A3 (Bfy n))]⟩)],[],[],[]⟩
theorem Bna:(Bg8 n).Sound PP:=B9 (fn:=Tryz.f24) (D:=Brv _ n) ⟨B5q n,Bmt n,trivial⟩

def f72 (a0 a1:LR):Option Int :=
 ob (f119 n a1) λa =>
 ob (f111 n a 1) λb =>
 ob (f111 n ((a1.length:Int)==(a0.length:Int)) 8) λc =>
 ob (f70 n [b,c]) λd =>
 some d
def Ad0:Ent:=⟨72,[hRs,hRs],[hI],λx=>f72 n x.1 x.2⟩
def Br6:D3 α:=⟨[(1,⟨0,[],[(1,A3 (Wf n)),(2,A3 (Id n)),(8,A3 (Id n)),(9,B4 hI),(10,A3 (Lo n))]⟩)],[],[],[]⟩
theorem B5i:(Ad0 n).Sound PP:=B9 (fn:=Tryz.f72) (D:=Br6 _ n) ⟨Ahf n,Iy n,Iy n,S1 n,trivial⟩

abbrev B63:Tm:=⟨[F4,Gm,C4],[(3,.var 33 true false A7s)],[],[]⟩
def f48 (a0:LN × Int) (a1 a2:LR):Option Il :=
 ob (f71 n [a1,a2]) λc =>
 ob (f96 n a0 a1) λd =>
 ob (f72 n a1 a2) λe =>
 ob (f70 n [c,d,e]) λa =>
 bif (a != 0) then
  some ([],a)
 else
  ob (f63 n a0 a1) λb =>
  some (b.1,b.2)
def Bg0:Ent:=⟨48,[Ft,hRs,hRs],[hRs,hI],λx=>f48 n x.1 x.2.1 x.2.2⟩
abbrev Bf8:List (Nat × OA):=[(2,B4 hRs),(3,A3 (Q7 n)),(6,A3 (Am5 n)),(9,A3 (Ad0 n)),(10,B4 hI),(11,A3 (Lo n))]
def Bg1:D3 α:=⟨[(1,⟨0,[],(Bf8 n)⟩),(4,⟨0,[],[(2,A3 (B08 n))]⟩)],[],[],[(1,B63)]⟩
theorem Bn2:Ah TT ⟨29,[]⟩ (Bf8 n) B63 (Ag Tryz.f48 9):=by
 refine ⟨by kernel_rfl,λw q hq=>?_⟩
 obtain ⟨y0,q0,rfl,y1,q1,rfl,y2,q2,rfl,y3,q3,rfl,rfl⟩:=Be [(3,Q7 n),(6,Am5 n),(9,Ad0 n),(11,Lo n)] hq (by kernel_rfl)
 all_goals exact .inr ⟨9,by kernel_rfl,by kernel_rfl,by kernel_rfl⟩
theorem Bcr:Ap PP (Ae (Bg1 α n).reg):=⟨Ad1 n,B56 n,B5i n,S1 n,B5t n,trivial⟩
theorem Bro:D3.OK PP TT ⟨29,[]⟩ (Bg1 α n) (Af Tryz.f48) :=
 D3.OK.mk3a (Bcr α n) (by kernel_rfl:A9 _=[]) trivial (by kernel_rfl:Ax _=[(1,Ag Tryz.f48 9)]) ⟨⟨Bn2 n,trivial⟩,trivial⟩
theorem Bn1:(Bg0 n).Sound PP:=fk (fn:=Tryz.f48) (Bro _ n)

abbrev Yx:Tm:=⟨[Cs,C4,Bo],[(2,.var 94 true false A4d),Alc,Dg],[],[]⟩
def A5x (a0:Int × LR) (a1:Rq):Option D8 :=
 ob (f64 n a0.1) λa =>
 ob (f97 n 0) λb =>
 gd ((!a0.2.isEmpty)) (
  ob (f64 n a0.1) λc =>
  some (a1,a,c,b))
def Ax1:Ent:=⟨163,[A4l,hR],[Df],λx=>A5x n x.1 x.2⟩
def Ax2:D3 α:=⟨[(1,⟨0,[],(Ale n)⟩),(3,⟨0,[],[(2,A3 (A59 n))]⟩)],[],[],[(1,Yx)]⟩
theorem Bdg:Ah TT ⟨20,[]⟩ (Ale n) Yx (Ag Tryz.f163 5):=by
 refine ⟨by kernel_rfl,λw q hq=>?_⟩
 obtain ⟨y0,q0,rfl,y1,q1,rfl,rfl⟩:=Be [(3,A59 n),(4,Cg n)] hq (by kernel_rfl)
 all_goals exact .inr ⟨7,by kernel_rfl,by kernel_rfl,by kernel_rfl⟩
theorem B1n:Ap PP (Ae (Ax2 α n).reg):=⟨Ad3 n,Bh n,Ad3 n,trivial⟩
theorem Bjj:D3.OK PP TT ⟨20,[]⟩ (Ax2 α n) (Af Tryz.f163) :=
 D3.OK.mk3a (B1n α n) (by kernel_rfl:A9 _=[]) trivial (by kernel_rfl:Ax _=[(1,Ag Tryz.f163 5)]) ⟨⟨Bdg n,trivial⟩,trivial⟩
theorem Bdf:(Ax1 n).Sound PP:=fk (fn:=Tryz.f163) (Bjj _ n)

def Ae4 (a0:Int × LR) (a1:Rq):Option X9 :=
 ob (Pe n a0.1) λb =>
 ob (f97 n 0) λa =>
 gd ((!a0.2.isEmpty)) (
  ob (Pe n a0.1) λc =>
  some (a1.1,a1.2.1,a1.2.2,b,c,a.1,a.2.1,a.2.2))
def Ar7:Ent3:=⟨163,[.im A4l,.im hR],[[.mix [.im .bool,.im hIs,.im hIs,.own 54 hR,.own 54 hR,.im .bool,.im hIs,.im hIs]]],λx=>Ae4 n x.1 x.2,[]⟩
def Ar8:D3 α:=⟨[(1,⟨0,[],(Alp n)⟩),(3,⟨0,[],[(2,Ce (Ew n) 320)]⟩)],[],[],[(1,Yx)]⟩
theorem B7z:Ah TT ⟨20,[]⟩ (Alp n) Yx (Ag Tryz.f163 5):=by
 refine ⟨by kernel_rfl,λw q hq=>?_⟩
 have e:WT [(3,Ce (Ew n) 310),(4,A3 (Cg n))] (Ad (Ag Tryz.f163 5).toList) q=(∃ (y0:HF (Ar 1000 (Ew n).ts) (Ew n).forms) (q0:List (Nat × RV)),q=(3,.bx (Ew n) y0)::q0 /\ ∃ (y1:HL (Cg n).rs) (q1:List (Nat × RV)),q0=(4,.sv (Nu (Cg n).rs y1))::q1/\q1=[]):=by kernel_rfl
 rw [e] at hq;obtain ⟨y0,q0,rfl,y1,q1,rfl,rfl⟩:=hq
 all_goals exact .inl (K7.mk (by kernel_rfl))
theorem Au9:Ap PP (Ae (Ar8 α n).reg):=⟨Mw n,Bh n,Mw n,trivial⟩
theorem Bdj:D3.OK PP TT ⟨20,[]⟩ (Ar8 α n) (Af Tryz.f163) :=
 D3.OK.mk3a (Au9 α n) (by kernel_rfl:A9 _=[]) trivial (by kernel_rfl:Ax _=[(1,Ag Tryz.f163 5)]) ⟨⟨B7z n,trivial⟩,trivial⟩
theorem B7y:(Ar7 n).Sound PP:=Vl (fn:=Tryz.f163) (Bdj _ n)

abbrev Bde:Tm:=⟨[(2,.d hI),C4,F7,Cu],[(3,.var 94 true false A4d),(6,.var 91 true false zq1),(7,.var 91 false false [.d .bool,.d hIs,.d hIs,.k (.hw 313),.k (.hw 314),.d .bool,.d hIs,.d hIs]),(313,.arr 54 hR false),(314,.arr 54 hR false)],[4],[]⟩
def A5w (a0:Int × LR) (a1:Rq) (a2:Int):Option D8 :=
 ob (Ae4 n a0 a1) λa =>
 let b:=λ(c:LR)=>(
  gd ((!a0.2.isEmpty)) (
   gd (decide (0<=a2)&&decide (a2<(a0.2.length:Int))) (
    let d:=a0.2.getD a2.toNat (false,[],[])
    some ((a.1,a.2.1,a.2.2.1),c,a.2.2.2.2.1,d))))
 bif (decide (a2<a0.1)) then
  ob (f97 n 1) λe =>
  gd (decide (0<=a2)&&decide (a2<(a.2.2.2.1.length:Int))) (
   gd (decide (a2.toNat<a.2.2.2.1.length)) (
    b (a.2.2.2.1.set a2.toNat e)))
 else
  b a.2.2.2.1
def Ax0:Ent:=⟨164,[A4l,hR,hI],[Df],λx=>A5w n x.1 x.2.1 x.2.2⟩
def Bjg:D3 α:=⟨[(1,⟨0,[],[(2,{ alt:=[(Ar7 n)],hb:=310 })]⟩),(3,⟨4,[],[(3,A3 (Cg n))]⟩)],[(4,Bde)],[],[]⟩
theorem Bdd:(Ax0 n).Sound PP:=B9 (fn:=Tryz.f164) (D:=Bjg _ n) ⟨B7y n,Bh n,trivial⟩

def A3c {α:Type} (c:LR) (i a:Int) (s:Bool) (t u:LI) (v b:LR) (w:Bool) (x y:LI) (z:Bool) (d0 d1:LI) (d e:LR) (d2:Bool) (d3 d4:LI) (j k l:Bool) (m o:LI) (p:Bool) (q r:LI) (g h:LR) (f:LR->Int->Int->Bool->LI->LI->LR->LR->Bool->LI->LI->Bool->LI->LI->LR->LR->Bool->LI->LI->Bool->Bool->Bool->LI->LI->Bool->LI->LI->LR->LR->Option α) (k0:Bool->Bool->Bool->LI->LI->Bool->LI->LI->LR->LR->Option α):Option α :=
 bif (decide (a<i)) then
  gd (decide (0<=a)&&decide (a<(c.length:Int))) (
   let d5:=c.getD a.toNat (false,[],[])
   gd (decide (0<=a)&&decide (a<(d.length:Int))) (
    let d6:=d.getD a.toNat (false,[],[])
    ob (f99 n d5 d6) λd7 =>
    gd (decide ((g.length+1)*56<=140737488355328)) (
     gd ((!b.isEmpty)) (
      gd (decide (0<=a)&&decide (a<(b.length:Int))) (
       let d8:=b.getD a.toNat (false,[],[])
       gd (decide (0<=a)&&decide (a<(e.length:Int))) (
        let d9:=e.getD a.toNat (false,[],[])
        ob (f99 n d8 d9) λe0 =>
        gd (decide ((h.length+1)*56<=140737488355328)) (
         f c i (W (a+1)) s t u v b w x y z d0 d1 d e d2 d3 d4 j k l m o p q r (g++[d7]) (h++[e0]))))))))
 else
  k0 j k l m o p q r g h
abbrev Uh:Tm:=⟨[Cs,C4,Bo,Bt,Px,K0,Pw],[Ka,Mi,Dg,Ayi,A13,Al7],[55],[]⟩
abbrev B1l:Tm:=⟨[Bo,Bt],[Dg,Ayi,A13,Al7],[2,3],[]⟩
abbrev A3b:List (Exit × Tm):=[(.exit 0,B1l)]
def A3a {α:Type} (v:Uh.den) (f:Uh.den->Option α) (ks:KS α A3b):Option α:=A3c n v.1.2.2.2.2.1 v.1.2.2.2.2.2.1 v.1.2.2.2.2.2.2.1 v.2.1.1 v.2.1.2.1 v.2.1.2.2.1 v.2.1.2.2.2.1 v.2.1.2.2.2.2.1 v.2.1.2.2.2.2.2.1 v.2.1.2.2.2.2.2.2.1 v.2.1.2.2.2.2.2.2.2.1 v.2.2.1.1 v.2.2.1.2.1 v.2.2.1.2.2.1 v.2.2.1.2.2.2.1 v.2.2.1.2.2.2.2.1 v.2.2.1.2.2.2.2.2.1 v.2.2.1.2.2.2.2.2.2.1 v.2.2.1.2.2.2.2.2.2.2.1 v.2.2.2.1.1 v.2.2.2.1.2.2.2.2.2.1 v.2.2.2.2.1.1 v.2.2.2.2.1.2.1 v.2.2.2.2.1.2.2.1 v.2.2.2.2.1.2.2.2.2.2.1 v.2.2.2.2.1.2.2.2.2.2.2.1 v.2.2.2.2.1.2.2.2.2.2.2.2.1 v.2.2.2.2.2.1 v.2.2.2.2.2.2.1 (λa b c d e g h i j k l m o p q r s t u w x y z d0 d1 d2 d3 d4 d5=>f (((),(),(),(),a,b,c,()),((d,e,g,h,i,j,k,l,()),(m,o,p,q,r,s,t,u,()),(w,(),(),(),(),x,(),(),()),(y,z,d0,(),(),d1,d2,d3,()),d4,d5,()))) (λw0 w1 w2 w3 w4 w5 w6 w7 w8 w9=>ks.1 (((),(),()),((w0,(),(),(),(),w1,(),(),()),(w2,w3,w4,(),(),w5,w6,w7,()),w8,w9,())))
def Yu {α:Type} (n m:Nat) (a:LR) (b c:Int) (d:Bool) (e f:LI) (g h:LR) (i:Bool) (j k:LI) (l:Bool) (o p:LI) (q r:LR) (s:Bool) (t u:LI) (v x y:Bool) (z d0:LI) (d1:Bool) (d2 d3:LI) (d4 d5:LR) (k0:Bool->Bool->Bool->LI->LI->Bool->LI->LI->LR->LR->Option α):Option α:=A4 (A3a n) m (((),(),(),(),a,b,c,()),((d,e,f,g,h,i,j,k,()),(l,o,p,q,r,s,t,u,()),(v,(),(),(),(),x,(),(),()),(y,z,d0,(),(),d1,d2,d3,()),d4,d5,())) (λw=>k0 w.2.1.1 w.2.1.2.2.2.2.2.1 w.2.2.1.1 w.2.2.1.2.1 w.2.2.1.2.2.1 w.2.2.1.2.2.2.2.2.1 w.2.2.1.2.2.2.2.2.2.1 w.2.2.1.2.2.2.2.2.2.2.1 w.2.2.2.1 w.2.2.2.2.1,())
theorem B1j {α n m a b c d e f g h i j k l o p q r s t u v w x y z d0 d1 d2 d3 d4 k0}:Yu (α:=α) n (m+1) a b c d e f g h i j k l o p q r s t u v w x y z d0 d1 d2 d3 d4 k0=A3c n a b c d e f g h i j k l o p q r s t u v w x y z d0 d1 d2 d3 d4 (λa b c d e f g h i j k l o p q r s t u v w x y z d0 d1 d2 d3 d4=>Yu n m a b c d e f g h i j k l o p q r s t u v w x y z d0 d1 d2 d3 d4 k0) k0:=rfl
abbrev Yv:Tm:=⟨[Cs,C4,Bo],[Ka,Mi,Dg],[],[]⟩
abbrev Ar2:Tm:=⟨[Cs,C4,Bo,Bt,Ed,Cu,Px,K0,Pw],[Ka,Mi,Dg,All,G8],[],[]⟩
abbrev Ae1:Tm:=⟨[Cs,C4,Bo,Bt,Ed,Cu,Px,K0,Pw],[Ka,Mi,Dg,Ayi,G8,A13,Al7],[],[]⟩
abbrev Ar1:Tm:=⟨[Cs,C4,Bo,Bt,Ed,Px,K0,Pw],[Ka,Mi,Dg,Ayh,A13],[7,36],[]⟩
abbrev Ae0:Tm:=⟨[Cs,C4,Bo,Bt,Ed,Px,K0,Pw],[Ka,Mi,Dg,Ayi,A13,Al7],[7,36],[]⟩
def G6 (a0 a1:Rq × LR × LR × Rq):Option D8 :=
 ob (f99 n a0.1 a1.1) λa =>
 ob (f99 n a0.2.2.2 a1.2.2.2) λb =>
 bif (decide (0<(a0.2.1.length:Int))) then
  gd (decide (0<(a0.2.1.length:Int))) (
   let c:=a0.2.1.getD 0 (false,[],[])
   gd (decide (0<(a1.2.1.length:Int))) (
    let d:=a1.2.1.getD 0 (false,[],[])
    ob (f99 n c d) λe =>
    gd ((!a0.2.2.1.isEmpty)) (
     gd (decide (0<(a0.2.2.1.length:Int))) (
      let f:=a0.2.2.1.getD 0 (false,[],[])
      gd (decide (0<(a1.2.2.1.length:Int))) (
       let g:=a1.2.2.1.getD 0 (false,[],[])
       ob (f99 n f g) λh =>
       Yu n n a0.2.1 (a0.2.1.length:Int) 1 a0.1.1 a0.1.2.1 a0.1.2.2 a0.2.1 a0.2.2.1 a0.2.2.2.1 a0.2.2.2.2.1 a0.2.2.2.2.2 a1.1.1 a1.1.2.1 a1.1.2.2 a1.2.1 a1.2.2.1 a1.2.2.2.1 a1.2.2.2.2.1 a1.2.2.2.2.2 false false a.1 a.2.1 a.2.2 b.1 b.2.1 b.2.2 [e] [h]
        (λr s i j k l m o p q=>(
         some ((i,j,k),p,q,l,m,o))))))))
 else
  some (a,[],[],b)
def Aha:Ent:=⟨165,[Df,Df],[Df],λx=>G6 n x.1 x.2⟩
abbrev Ayo:List (Nat × OA):=[(12,A3 (Bc n)),(13,B4 hR),(14,B4 hR)]
def Ahb:D3 α:=⟨[(1,⟨0,[],(Alq n)⟩),(5,⟨0,[],(Af6 n)⟩),(7,⟨0,[],(Ayo n)⟩)],[],[(3,⟨Uh,A3b,A4 (A3a n) n⟩)],[(1,Yv),(5,Ar2),(5,Ae1),(7,Ar1),(7,Ae0)]⟩
theorem Bdc:Ah TT ⟨60,[]⟩ (Alq n) Yv (Ag Tryz.f165 5):=by
 refine ⟨by kernel_rfl,λw q hq=>?_⟩
 obtain ⟨y0,q0,rfl,y1,q1,rfl,rfl⟩:=Be [(4,Bc n),(9,Bc n)] hq (by kernel_rfl)
 all_goals exact .inr ⟨12,by kernel_rfl,by kernel_rfl,by kernel_rfl⟩
theorem Ar4:Ah TT ⟨60,[]⟩ (Af6 n) Ar2 (Ag Tryz.f165 5323):=by
 refine ⟨by kernel_rfl,λw q hq=>?_⟩
 obtain ⟨y0,q0,rfl,rfl⟩:=Be [(8,Bc n)] hq (by kernel_rfl)
 all_goals exact .inr ⟨10,by kernel_rfl,by kernel_rfl,by kernel_rfl⟩
theorem Ae3:Ah TT ⟨60,[]⟩ (Af6 n) Ae1 (Ag Tryz.f165 5323):=by
 refine ⟨by kernel_rfl,λw q hq=>?_⟩
 obtain ⟨y0,q0,rfl,rfl⟩:=Be [(8,Bc n)] hq (by kernel_rfl)
 all_goals exact .inr ⟨10,by kernel_rfl,by kernel_rfl,by kernel_rfl⟩
theorem Ar3:Ah TT ⟨60,[]⟩ (Ayo n) Ar1 (Ag Tryz.f165 23755):=by
 refine ⟨by kernel_rfl,λw q hq=>?_⟩
 obtain ⟨y0,q0,rfl,rfl⟩:=Be [(12,Bc n)] hq (by kernel_rfl)
 all_goals exact .inr ⟨14,by kernel_rfl,by kernel_rfl,by kernel_rfl⟩
theorem Ae2:Ah TT ⟨60,[]⟩ (Ayo n) Ae0 (Ag Tryz.f165 23755):=by
 refine ⟨by kernel_rfl,λw q hq=>?_⟩
 obtain ⟨y0,q0,rfl,rfl⟩:=Be [(12,Bc n)] hq (by kernel_rfl)
 all_goals exact .inr ⟨14,by kernel_rfl,by kernel_rfl,by kernel_rfl⟩
theorem Adz:Ap PP (Ae (Ahb α n).reg):=⟨D6 n,D6 n,D6 n,D6 n,trivial⟩
theorem B1k:D3.OK PP TT ⟨60,[]⟩ (Ahb α n) (Ai Tryz.f165 75) :=
 D3.OK.mk3a (Adz α n) (by kernel_rfl:A9 _=[]) trivial (by kernel_rfl:Ax _=[(5,Ag Tryz.f165 5323),(7,Ag Tryz.f165 23755)]) ⟨⟨Ar4 n,Ae3 n,trivial⟩,⟨Ar3 n,Ae2 n,trivial⟩,trivial⟩
theorem Au8:LO.Sound (α:=α) PP ⟨60,[]⟩ ⟨Uh,A3b,A4 (A3a n) n⟩ (.loop (Ai Tryz.f165 75)):=lk (B1k α n) n
theorem Bje:D3.OK PP TT ⟨60,[]⟩ (Ahb α n) (Af Tryz.f165) :=
 D3.OK.mk3a (Adz α n) (by kernel_rfl:A9 _=[(3,.loop (Ai Tryz.f165 75))]) ⟨Aa rfl (Au8 α n),trivial⟩ (by kernel_rfl:Ax _=[(1,Ag Tryz.f165 5),(5,Ag Tryz.f165 5323),(7,Ag Tryz.f165 23755)]) ⟨⟨Bdc n,trivial⟩,⟨Ar4 n,Ae3 n,trivial⟩,⟨Ar3 n,Ae2 n,trivial⟩,trivial⟩
theorem Ar0:(Aha n).Sound PP:=fk (fn:=Tryz.f165) (Bje _ n)

def f209 (a0:Int) (a1:Bool × LI × LI × LR × LR × Bool × LI × LI) (a2:Rq):Option Rq :=
 gd (decide (0<=a0)&&decide (a0<(a1.2.2.2.2.1.length:Int))) (
  let a:=a1.2.2.2.2.1.getD a0.toNat (false,[],[])
  ob (f162 n a a2) λb =>
  some b)
def Adf:Ent:=⟨209,[hI,Bai,F6],[hR],λx=>f209 n x.1 x.2.1 x.2.2⟩
def Bnw:D3 α:=⟨[(1,⟨6,[],[(Xf n)]⟩)],[],[],[]⟩
theorem Bid:(Adf n).Sound PP:=B9 (fn:=Tryz.f209) (D:=Bnw _ n) ⟨Az n,trivial⟩

def Je {α:Type} (g:Rq) (b:X9 × Rq) (c:LR) (h a:Int) (s:Bool) (t u:LI) (v i:LR) (w:Bool) (x y:LI) (j k l:Bool) (m o:LI) (p:Bool) (q r:LI) (d e:LR) (f:Rq->(X9 × Rq)->LR->Int->Int->Bool->LI->LI->LR->LR->Bool->LI->LI->Bool->Bool->Bool->LI->LI->Bool->LI->LI->LR->LR->Option α) (k0:Bool->Bool->Bool->LI->LI->Bool->LI->LI->LR->LR->Option α):Option α :=
 bif (decide (a<h)) then
  gd (decide (0<=a)&&decide (a<(c.length:Int))) (
   let z:=c.getD a.toNat (false,[],[])
   ob (f208 n z g) λd0 =>
   gd (decide ((d.length+1)*56<=140737488355328)) (
    gd ((!i.isEmpty)) (
     ob (f209 n a b.1 b.2) λd1 =>
     gd (decide ((e.length+1)*56<=140737488355328)) (
      f g b c h (W (a+1)) s t u v i w x y j k l m o p q r (d++[d0]) (e++[d1])))))
 else
  k0 j k l m o p q r d e
abbrev G3:Tm:=⟨[A14,Abo,Bt,Da,Dt,J6,I2,Ht],Ayg,[41],[]⟩
abbrev Oi:Tm:=⟨[Da,Dt],[I3,Ayr,R7,Al6],[5],[]⟩
abbrev Jd:List (Exit × Tm):=[(.exit 0,Oi)]
def Jb {α:Type} (v:G3.den) (f:G3.den->Option α) (ks:KS α Jd):Option α:=Je n v.1.1 v.1.2.1 v.1.2.2.2.2.2.1 v.1.2.2.2.2.2.2.1 v.1.2.2.2.2.2.2.2.1 v.2.1.1 v.2.1.2.1 v.2.1.2.2.1 v.2.1.2.2.2.1 v.2.1.2.2.2.2.1 v.2.1.2.2.2.2.2.1 v.2.1.2.2.2.2.2.2.1 v.2.1.2.2.2.2.2.2.2.1 v.2.2.1.1 v.2.2.1.2.2.2.2.2.1 v.2.2.2.1.1 v.2.2.2.1.2.1 v.2.2.2.1.2.2.1 v.2.2.2.1.2.2.2.2.2.1 v.2.2.2.1.2.2.2.2.2.2.1 v.2.2.2.1.2.2.2.2.2.2.2.1 v.2.2.2.2.1 v.2.2.2.2.2.1 (λa b c d e g h i j k l m o p q r s t u w x y z=>f ((a,b,(),(),(),c,d,e,()),((g,h,i,j,k,l,m,o,()),(p,(),(),(),(),q,(),(),()),(r,s,t,(),(),u,w,x,()),y,z,()))) (λw0 w1 w2 w3 w4 w5 w6 w7 w8 w9=>ks.1 (((),(),()),((w0,(),(),(),(),w1,(),(),()),(w2,w3,w4,(),(),w5,w6,w7,()),w8,w9,())))
def Gv {α:Type} (n m:Nat) (a:Rq) (b:X9 × Rq) (c:LR) (d e:Int) (f:Bool) (g h:LI) (i j:LR) (k:Bool) (l o:LI) (p q r:Bool) (s t:LI) (u:Bool) (v x:LI) (y z:LR) (k0:Bool->Bool->Bool->LI->LI->Bool->LI->LI->LR->LR->Option α):Option α:=A4 (Jb n) m ((a,b,(),(),(),c,d,e,()),((f,g,h,i,j,k,l,o,()),(p,(),(),(),(),q,(),(),()),(r,s,t,(),(),u,v,x,()),y,z,())) (λw=>k0 w.2.1.1 w.2.1.2.2.2.2.2.1 w.2.2.1.1 w.2.2.1.2.1 w.2.2.1.2.2.1 w.2.2.1.2.2.2.2.2.1 w.2.2.1.2.2.2.2.2.2.1 w.2.2.1.2.2.2.2.2.2.2.1 w.2.2.2.1 w.2.2.2.2.1,())
theorem A2y {α n m a b c d e f g h i j k l o p q r s t u v w x y k0}:Gv (α:=α) n (m+1) a b c d e f g h i j k l o p q r s t u v w x y k0=Je n a b c d e f g h i j k l o p q r s t u v w x y (λa b c d e f g h i j k l o p q r s t u v w x y=>Gv n m a b c d e f g h i j k l o p q r s t u v w x y k0) k0:=rfl
abbrev Si:Tm:=⟨[A14,Abo,Bt,Da,Dt,K8,R6,J6,I2,Ht],[A7r,I3,Aln,Rb],[6,7],[]⟩
abbrev Ok:Tm:=⟨[A14,Abo,Bt,Da,Dt,K8,R6,J6,I2,Ht],[A7r,I3,Ayr,Rb,R7,Al6],[],[]⟩
abbrev Sg:Tm:=⟨[A14,Abo,Bt,Da,Dt,K8,J6,I2,Ht],[A7r,I3,A7v,R7],[13,30],[]⟩
abbrev Oj:Tm:=⟨[A14,Abo,Bt,Da,Dt,K8,J6,I2,Ht],Ayg,[13,30],[]⟩
def Pg (a0:Rq × LR × LR × Rq) (a1 a2 a3:Rq) (a4:X9 × Rq):Option D8 :=
 bif (decide (0<(a0.2.1.length:Int))) then
  gd (decide (0<(a0.2.1.length:Int))) (
   let a:=a0.2.1.getD 0 (false,[],[])
   ob (f208 n a a3) λb =>
   gd ((!a0.2.2.1.isEmpty)) (
    ob (f209 n 0 a4.1 a4.2) λc =>
    Gv n n a3 a4 a0.2.1 (a0.2.1.length:Int) 1 a0.1.1 a0.1.2.1 a0.1.2.2 a0.2.1 a0.2.2.1 a0.2.2.2.1 a0.2.2.2.2.1 a0.2.2.2.2.2 false false a1.1 a1.2.1 a1.2.2 a2.1 a2.2.1 a2.2.2 [b] [c]
     (λl m d e f g h i j k=>(
      some ((d,e,f),j,k,g,h,i)))))
 else
  some (a1,[],[],a2)
def Lt:Ent:=⟨207,[Df,hR,hR,(.clo 208 F6),(.clo 209 zq4)],[Df],λx=>Pg n x.1 x.2.1 x.2.2.1 x.2.2.2.1 x.2.2.2.2⟩
abbrev Aym:List (Nat × OA):=[(4,A3 (Adf n)),(5,B4 hR),(6,B4 hR)]
def Lu:D3 α:=⟨[(5,⟨0,[],(Af4 n)⟩),(7,⟨0,[],(Aym n)⟩)],[],[(3,⟨G3,Jd,A4 (Jb n) n⟩)],[(5,Si),(5,Ok),(7,Sg),(7,Oj)]⟩
theorem Sk:Ah TT ⟨46,[]⟩ (Af4 n) Si (Ag Tryz.f207 5323):=by
 refine ⟨by kernel_rfl,λw q hq=>?_⟩
 obtain ⟨y0,q0,rfl,rfl⟩:=Be [(4,Vu n)] hq (by kernel_rfl)
 all_goals exact .inr ⟨6,by kernel_rfl,by kernel_rfl,by kernel_rfl⟩
theorem Om:Ah TT ⟨46,[]⟩ (Af4 n) Ok (Ag Tryz.f207 5323):=by
 refine ⟨by kernel_rfl,λw q hq=>?_⟩
 obtain ⟨y0,q0,rfl,rfl⟩:=Be [(4,Vu n)] hq (by kernel_rfl)
 all_goals exact .inr ⟨6,by kernel_rfl,by kernel_rfl,by kernel_rfl⟩
theorem Sj:Ah TT ⟨46,[]⟩ (Aym n) Sg (Ag Tryz.f207 23755):=by
 refine ⟨by kernel_rfl,λw q hq=>?_⟩
 obtain ⟨y0,q0,rfl,rfl⟩:=Be [(4,Adf n)] hq (by kernel_rfl)
 all_goals exact .inr ⟨6,by kernel_rfl,by kernel_rfl,by kernel_rfl⟩
theorem Ol:Ah TT ⟨46,[]⟩ (Aym n) Oj (Ag Tryz.f207 23755):=by
 refine ⟨by kernel_rfl,λw q hq=>?_⟩
 obtain ⟨y0,q0,rfl,rfl⟩:=Be [(4,Adf n)] hq (by kernel_rfl)
 all_goals exact .inr ⟨6,by kernel_rfl,by kernel_rfl,by kernel_rfl⟩
theorem Oh:Ap PP (Ae (Lu α n).reg):=⟨Awg n,Bid n,trivial⟩
theorem A2z:D3.OK PP TT ⟨46,[]⟩ (Lu α n) (Ai Tryz.f207 75) :=
 D3.OK.mk3a (Oh α n) (by kernel_rfl:A9 _=[]) trivial (by kernel_rfl:Ax _=[(5,Ag Tryz.f207 5323),(7,Ag Tryz.f207 23755)]) ⟨⟨Sk n,Om n,trivial⟩,⟨Sj n,Ol n,trivial⟩,trivial⟩
theorem A11:LO.Sound (α:=α) PP ⟨46,[]⟩ ⟨G3,Jd,A4 (Jb n) n⟩ (.loop (Ai Tryz.f207 75)):=lk (A2z α n) n
theorem Adi:D3.OK PP TT ⟨46,[]⟩ (Lu α n) (Af Tryz.f207) :=
 D3.OK.mk3a (Oh α n) (by kernel_rfl:A9 _=[(3,.loop (Ai Tryz.f207 75))]) ⟨Aa rfl (A11 α n),trivial⟩ (by kernel_rfl:Ax _=[(5,Ag Tryz.f207 5323),(7,Ag Tryz.f207 23755)]) ⟨⟨Sk n,Om n,trivial⟩,⟨Sj n,Ol n,trivial⟩,trivial⟩
theorem A8t:(Lt n).Sound PP:=fk (fn:=Tryz.f207) (Adi _ n)

abbrev Aqy:Tm:=⟨[Cs,C4,Bo],[Ka,Alc,Dg],[],[]⟩
def G5 (a0:Rq × LR × LR × Rq) (a1:Rq):Option D8 :=
 ob (f162 n a0.1 a1) λa =>
 ob (f162 n a0.2.2.2 a1) λb =>
 ob (Pg n a0 a b a1 ((a0.1.1,a0.1.2.1,a0.1.2.2,a0.2),a1)) λc =>
 some c
def Ah9:Ent:=⟨166,[Df,hR],[Df],λx=>G5 n x.1 x.2⟩
abbrev Bf5:List (Nat × OA):=[(4,A3 (Av n)),(Abs n),(9,B4 F6),(10,B4 zq4),(11,A3 (Lt n))]
def Awu:D3 α:=⟨[(1,⟨0,[],(Bf5 n)⟩)],[],[],[(1,Aqy)]⟩
theorem Bdb:Ah TT ⟨17,[]⟩ (Bf5 n) Aqy (Ag Tryz.f166 5):=by
 refine ⟨by kernel_rfl,λw q hq=>?_⟩
 obtain ⟨y0,q0,rfl,y1,q1,rfl,y2,q2,rfl,rfl⟩:=Be [(4,Av n),(8,Av n),(11,Lt n)] hq (by kernel_rfl)
 all_goals exact .inl (K7.mk (by kernel_rfl))
theorem B1i:Ap PP (Ae (Awu α n).reg):=⟨Az n,Az n,A8t n,trivial⟩
theorem Bjc:D3.OK PP TT ⟨17,[]⟩ (Awu α n) (Af Tryz.f166) :=
 D3.OK.mk3a (B1i α n) (by kernel_rfl:A9 _=[]) trivial (by kernel_rfl:Ax _=[(1,Ag Tryz.f166 5)]) ⟨⟨Bdb n,trivial⟩,trivial⟩
theorem Aqx:(Ah9 n).Sound PP:=fk (fn:=Tryz.f166) (Bjc _ n)

def A39 {α:Type} (c:LR) (p a:Int) (d:Bool) (e g:LI) (d6 b:LR) (q:Bool) (r s:LI) (h:Bool) (i j:LI) (k l:LR) (t:Bool) (u v:LI) (w x y:Bool) (z d0:LI) (d1:Bool) (d2 d3:LI) (m o:LR) (f:LR->Int->Int->Bool->LI->LI->LR->LR->Bool->LI->LI->Bool->LI->LI->LR->LR->Bool->LI->LI->Bool->Bool->Bool->LI->LI->Bool->LI->LI->LR->LR->Option α) (k0:Bool->Bool->Bool->LI->LI->Bool->LI->LI->LR->LR->Option α):Option α :=
 bif (decide (a<p)) then
  gd (decide (0<=a)&&decide (a<(c.length:Int))) (
   let d4:=c.getD a.toNat (false,[],[])
   gd (decide (0<=a)&&decide (a<(k.length:Int))) (
    let d5:=k.getD a.toNat (false,[],[])
    ob (f162 n d4 (h,i,j)) λd7 =>
    ob (f162 n (d,e,g) d5) λd8 =>
    ob (f99 n d7 d8) λd9 =>
    gd (decide ((m.length+1)*56<=140737488355328)) (
     gd ((!b.isEmpty)) (
      gd (decide (0<=a)&&decide (a<(b.length:Int))) (
       let e0:=b.getD a.toNat (false,[],[])
       ob (f162 n e0 (h,i,j)) λe1 =>
       ob (f162 n d4 (t,u,v)) λe2 =>
       ob (f99 n e1 e2) λe3 =>
       ob (f162 n (q,r,s) d5) λe4 =>
       ob (f99 n e3 e4) λe5 =>
       gd (decide (0<=a)&&decide (a<(l.length:Int))) (
        let e6:=l.getD a.toNat (false,[],[])
        ob (f162 n (d,e,g) e6) λe7 =>
        ob (f99 n e5 e7) λe8 =>
        gd (decide ((o.length+1)*56<=140737488355328)) (
         f c p (W (a+1)) d e g d6 b q r s h i j k l t u v w x y z d0 d1 d2 d3 (m++[d9]) (o++[e8]))))))))
 else
  k0 w x y z d0 d1 d2 d3 m o
abbrev Ug:Tm:=⟨[Cs,C4,Bo,Bt,(28,.d hRs),(29,.d hI),(30,.d hI)],[Ka,Mi,Dg,Amp,Ux,Abp],[8,9,87],[]⟩
abbrev B1g:Tm:=⟨[Bo,Bt],[Dg,Amp,Ux,Abp],[2,3],[]⟩
abbrev A38:List (Exit × Tm):=[(.exit 0,B1g)]
def A37 {α:Type} (v:Ug.den) (f:Ug.den->Option α) (ks:KS α A38):Option α:=A39 n v.1.2.2.2.2.1 v.1.2.2.2.2.2.1 v.1.2.2.2.2.2.2.1 v.2.1.1 v.2.1.2.1 v.2.1.2.2.1 v.2.1.2.2.2.1 v.2.1.2.2.2.2.1 v.2.1.2.2.2.2.2.1 v.2.1.2.2.2.2.2.2.1 v.2.1.2.2.2.2.2.2.2.1 v.2.2.1.1 v.2.2.1.2.1 v.2.2.1.2.2.1 v.2.2.1.2.2.2.1 v.2.2.1.2.2.2.2.1 v.2.2.1.2.2.2.2.2.1 v.2.2.1.2.2.2.2.2.2.1 v.2.2.1.2.2.2.2.2.2.2.1 v.2.2.2.1.1 v.2.2.2.1.2.2.2.2.2.1 v.2.2.2.2.1.1 v.2.2.2.2.1.2.1 v.2.2.2.2.1.2.2.1 v.2.2.2.2.1.2.2.2.2.2.1 v.2.2.2.2.1.2.2.2.2.2.2.1 v.2.2.2.2.1.2.2.2.2.2.2.2.1 v.2.2.2.2.2.1 v.2.2.2.2.2.2.1 (λa b c d e g h i j k l m o p q r s t u w x y z d0 d1 d2 d3 d4 d5=>f (((),(),(),(),a,b,c,()),((d,e,g,h,i,j,k,l,()),(m,o,p,q,r,s,t,u,()),(w,(),(),(),(),x,(),(),()),(y,z,d0,(),(),d1,d2,d3,()),d4,d5,()))) (λw0 w1 w2 w3 w4 w5 w6 w7 w8 w9=>ks.1 (((),(),()),((w0,(),(),(),(),w1,(),(),()),(w2,w3,w4,(),(),w5,w6,w7,()),w8,w9,())))
def Ys {α:Type} (n m:Nat) (a:LR) (b c:Int) (d:Bool) (e f:LI) (g h:LR) (i:Bool) (j k:LI) (l:Bool) (o p:LI) (q r:LR) (s:Bool) (t u:LI) (v x y:Bool) (z d0:LI) (d1:Bool) (d2 d3:LI) (d4 d5:LR) (k0:Bool->Bool->Bool->LI->LI->Bool->LI->LI->LR->LR->Option α):Option α:=A4 (A37 n) m (((),(),(),(),a,b,c,()),((d,e,f,g,h,i,j,k,()),(l,o,p,q,r,s,t,u,()),(v,(),(),(),(),x,(),(),()),(y,z,d0,(),(),d1,d2,d3,()),d4,d5,())) (λw=>k0 w.2.1.1 w.2.1.2.2.2.2.2.1 w.2.2.1.1 w.2.2.1.2.1 w.2.2.1.2.2.1 w.2.2.1.2.2.2.2.2.1 w.2.2.1.2.2.2.2.2.2.1 w.2.2.1.2.2.2.2.2.2.2.1 w.2.2.2.1 w.2.2.2.2.1,())
theorem B1e {α n m a b c d e f g h i j k l o p q r s t u v w x y z d0 d1 d2 d3 d4 k0}:Ys (α:=α) n (m+1) a b c d e f g h i j k l o p q r s t u v w x y z d0 d1 d2 d3 d4 k0=A39 n a b c d e f g h i j k l o p q r s t u v w x y z d0 d1 d2 d3 d4 (λa b c d e f g h i j k l o p q r s t u v w x y z d0 d1 d2 d3 d4=>Ys n m a b c d e f g h i j k l o p q r s t u v w x y z d0 d1 d2 d3 d4 k0) k0:=rfl
abbrev Aqr:Tm:=⟨Af8,[Ka,Mi,Dg,All,G8,X8],[],[]⟩
abbrev Adv:Tm:=⟨Af8,[Ka,Mi,Dg,Amp,G8,X8,Ux,Abp],[],[]⟩
abbrev Aqq:Tm:=⟨Af8,[Ka,Mi,Dg,Amo,G8,X8,Ux],[51],[]⟩
abbrev Adu:Tm:=⟨Af8,[Ka,Mi,Dg,Amp,G8,X8,Ux,Abp],[51],[]⟩
abbrev Aqp:Tm:=⟨[Cs,C4,Bo,Bt,Ed,Dk,K9,(28,.d hRs),(29,.d hI),(30,.d hI)],[Ka,Mi,Dg,Amo,X8,Ald,Ux],[7],[]⟩
abbrev Adt:Tm:=⟨[Cs,C4,Bo,Bt,Ed,Dk,K9,(28,.d hRs),(29,.d hI),(30,.d hI)],[Ka,Mi,Dg,Amp,X8,Ald,Ux,Abp],[7],[]⟩
def G4 (a0 a1:Rq × LR × LR × Rq):Option D8 :=
 ob (f162 n a0.1 a1.1) λa =>
 ob (f162 n a0.2.2.2 a1.1) λe =>
 ob (f162 n a0.1 a1.2.2.2) λf =>
 ob (f99 n e f) λb =>
 bif (decide (0<(a0.2.1.length:Int))) then
  gd (decide (0<(a0.2.1.length:Int))) (
   let c:=a0.2.1.getD 0 (false,[],[])
   gd (decide (0<(a1.2.1.length:Int))) (
    let d:=a1.2.1.getD 0 (false,[],[])
    ob (f162 n c a1.1) λg =>
    ob (f162 n a0.1 d) λh =>
    ob (f99 n g h) λi =>
    gd ((!a0.2.2.1.isEmpty)) (
     gd (decide (0<(a0.2.2.1.length:Int))) (
      let j:=a0.2.2.1.getD 0 (false,[],[])
      ob (f162 n j a1.1) λk =>
      ob (f162 n c a1.2.2.2) λl =>
      ob (f99 n k l) λm =>
      ob (f162 n a0.2.2.2 d) λo =>
      ob (f99 n m o) λp =>
      gd (decide (0<(a1.2.2.1.length:Int))) (
       let q:=a1.2.2.1.getD 0 (false,[],[])
       ob (f162 n a0.1 q) λr =>
       ob (f99 n p r) λs =>
       Ys n n a0.2.1 (a0.2.1.length:Int) 1 a0.1.1 a0.1.2.1 a0.1.2.2 a0.2.1 a0.2.2.1 a0.2.2.2.1 a0.2.2.2.2.1 a0.2.2.2.2.2 a1.1.1 a1.1.2.1 a1.1.2.2 a1.2.1 a1.2.2.1 a1.2.2.2.1 a1.2.2.2.2.1 a1.2.2.2.2.2 false false a.1 a.2.1 a.2.2 b.1 b.2.1 b.2.2 [i] [s]
        (λd1 d2 t u v w x y z d0=>(
         some ((t,u,v),z,d0,w,x,y))))))))
 else
  some (a,[],[],b)
def Ah7:Ent:=⟨167,[Df,Df],[Df],λx=>G4 n x.1 x.2⟩
abbrev Baj:List (Nat × OA):=[(Xf n),(7,A3 (Bc n)),(15,A3 (Av n)),(16,A3 (Bc n)),(17,B4 hR),(18,B4 hR)]
abbrev Bag:List (Nat × OA):=[(7,A3 (Av n)),(11,A3 (Av n)),(12,A3 (Bc n))]
def Ah8:D3 α:=⟨[(1,⟨0,[],(Ayf n)⟩),(6,⟨0,[],(Af7 n)⟩),(8,⟨0,[],(Bag n)⟩),(9,⟨0,[],(Baj n)⟩)],[],[(3,⟨Ug,A38,A4 (A37 n) n⟩)],[(1,Yv),(6,Aqr),(6,Adv),(8,Aqq),(8,Adu),(9,Aqp),(9,Adt)]⟩
theorem Bda:Ah TT ⟨92,[]⟩ (Ayf n) Yv (Ag Tryz.f167 5):=by
 refine ⟨by kernel_rfl,λw q hq=>?_⟩
 obtain ⟨y0,q0,rfl,y1,q1,rfl,y2,q2,rfl,y3,q3,rfl,rfl⟩:=Be [(4,Av n),(9,Av n),(14,Av n),(15,Bc n)] hq (by kernel_rfl)
 all_goals exact .inr ⟨18,by kernel_rfl,by kernel_rfl,by kernel_rfl⟩
theorem Aqu:Ah TT ⟨92,[]⟩ (Af7 n) Aqr (Ag Tryz.f167 11467):=by
 refine ⟨by kernel_rfl,λw q hq=>?_⟩
 obtain ⟨y0,q0,rfl,y1,q1,rfl,y2,q2,rfl,rfl⟩:=Be [(5,Av n),(9,Av n),(10,Bc n)] hq (by kernel_rfl)
 all_goals exact .inr ⟨12,by kernel_rfl,by kernel_rfl,by kernel_rfl⟩
theorem Ady:Ah TT ⟨92,[]⟩ (Af7 n) Adv (Ag Tryz.f167 11467):=by
 refine ⟨by kernel_rfl,λw q hq=>?_⟩
 obtain ⟨y0,q0,rfl,y1,q1,rfl,y2,q2,rfl,rfl⟩:=Be [(5,Av n),(9,Av n),(10,Bc n)] hq (by kernel_rfl)
 all_goals exact .inr ⟨12,by kernel_rfl,by kernel_rfl,by kernel_rfl⟩
theorem Aqt:Ah TT ⟨92,[]⟩ (Bag n) Aqq (Ag Tryz.f167 81099):=by
 refine ⟨by kernel_rfl,λw q hq=>?_⟩
 obtain ⟨y0,q0,rfl,y1,q1,rfl,y2,q2,rfl,rfl⟩:=Be [(7,Av n),(11,Av n),(12,Bc n)] hq (by kernel_rfl)
 all_goals exact .inr ⟨14,by kernel_rfl,by kernel_rfl,by kernel_rfl⟩
theorem Adx:Ah TT ⟨92,[]⟩ (Bag n) Adu (Ag Tryz.f167 81099):=by
 refine ⟨by kernel_rfl,λw q hq=>?_⟩
 obtain ⟨y0,q0,rfl,y1,q1,rfl,y2,q2,rfl,rfl⟩:=Be [(7,Av n),(11,Av n),(12,Bc n)] hq (by kernel_rfl)
 all_goals exact .inr ⟨14,by kernel_rfl,by kernel_rfl,by kernel_rfl⟩
theorem Aqs:Ah TT ⟨92,[]⟩ (Baj n) Aqp (Ag Tryz.f167 113867):=by
 refine ⟨by kernel_rfl,λw q hq=>?_⟩
 obtain ⟨y0,q0,rfl,y1,q1,rfl,y2,q2,rfl,y3,q3,rfl,rfl⟩:=Be [(6,Av n),(7,Bc n),(15,Av n),(16,Bc n)] hq (by kernel_rfl)
 all_goals exact .inr ⟨18,by kernel_rfl,by kernel_rfl,by kernel_rfl⟩
theorem Adw:Ah TT ⟨92,[]⟩ (Baj n) Adt (Ag Tryz.f167 113867):=by
 refine ⟨by kernel_rfl,λw q hq=>?_⟩
 obtain ⟨y0,q0,rfl,y1,q1,rfl,y2,q2,rfl,y3,q3,rfl,rfl⟩:=Be [(6,Av n),(7,Bc n),(15,Av n),(16,Bc n)] hq (by kernel_rfl)
 all_goals exact .inr ⟨18,by kernel_rfl,by kernel_rfl,by kernel_rfl⟩
theorem Ads:Ap PP (Ae (Ah8 α n).reg):=⟨Az n,Az n,Az n,D6 n,Az n,Az n,D6 n,Az n,Az n,D6 n,Az n,D6 n,Az n,D6 n,trivial⟩
theorem B1f:D3.OK PP TT ⟨92,[]⟩ (Ah8 α n) (Ai Tryz.f167 75) :=
 D3.OK.mk3a (Ads α n) (by kernel_rfl:A9 _=[]) trivial (by kernel_rfl:Ax _=[(6,Ag Tryz.f167 11467),(8,Ag Tryz.f167 81099),(9,Ag Tryz.f167 113867)]) ⟨⟨Aqu n,Ady n,trivial⟩,⟨Aqt n,Adx n,trivial⟩,⟨Aqs n,Adw n,trivial⟩,trivial⟩
theorem Au7:LO.Sound (α:=α) PP ⟨92,[]⟩ ⟨Ug,A38,A4 (A37 n) n⟩ (.loop (Ai Tryz.f167 75)):=lk (B1f α n) n
theorem Bja:D3.OK PP TT ⟨92,[]⟩ (Ah8 α n) (Af Tryz.f167) :=
 D3.OK.mk3a (Ads α n) (by kernel_rfl:A9 _=[(3,.loop (Ai Tryz.f167 75))]) ⟨Aa rfl (Au7 α n),trivial⟩ (by kernel_rfl:Ax _=[(1,Ag Tryz.f167 5),(6,Ag Tryz.f167 11467),(8,Ag Tryz.f167 81099),(9,Ag Tryz.f167 113867)]) ⟨⟨Bda n,trivial⟩,⟨Aqu n,Ady n,trivial⟩,⟨Aqt n,Adx n,trivial⟩,⟨Aqs n,Adw n,trivial⟩,trivial⟩
theorem Aqo:(Ah7 n).Sound PP:=fk (fn:=Tryz.f167) (Bja _ n)

def f222 (a0:Int) (a1:Rq) (a2:Bool × LI × LI × LR × LR × Bool × LI × LI) (a3:Rq):Option Rq :=
 gd (decide (0<=a0)&&decide (a0<(a2.2.2.2.1.length:Int))) (
  let a:=a2.2.2.2.1.getD a0.toNat (false,[],[])
  ob (f162 n a1 a) λb =>
  ob (f162 n b a2.2.2.2.2.2) λc =>
  gd (decide (0<=a0)&&decide (a0<(a2.2.2.2.2.1.length:Int))) (
   let d:=a2.2.2.2.2.1.getD a0.toNat (false,[],[])
   ob (f162 n a3 d) λe =>
   ob (f99 n c e) λf =>
   some f))
def Adc:Ent:=⟨222,[hI,F6,Bai,F6],[hR],λx=>f222 n x.1 x.2.1 x.2.2.1 x.2.2.2⟩
def Bni:D3 α:=⟨[(1,⟨16,[],[(Xf n),(9,A3 (Av n)),(16,A3 (Av n)),(17,A3 (Bc n))]⟩)],[],[],[]⟩
theorem Bi3:(Adc n).Sound PP:=B9 (fn:=Tryz.f222) (D:=Bni _ n) ⟨Az n,Az n,Az n,D6 n,trivial⟩

def Ja {α:Type} (g:Rq) (b:Rq × X9 × Rq) (c:LR) (h a:Int) (s:Bool) (t u:LI) (v i:LR) (w:Bool) (x y:LI) (j k l:Bool) (m o:LI) (p:Bool) (q r:LI) (d e:LR) (f:Rq->(Rq × X9 × Rq)->LR->Int->Int->Bool->LI->LI->LR->LR->Bool->LI->LI->Bool->Bool->Bool->LI->LI->Bool->LI->LI->LR->LR->Option α) (k0:Bool->Bool->Bool->LI->LI->Bool->LI->LI->LR->LR->Option α):Option α :=
 bif (decide (a<h)) then
  gd (decide (0<=a)&&decide (a<(c.length:Int))) (
   let z:=c.getD a.toNat (false,[],[])
   ob (f221 n z g) λd0 =>
   gd (decide ((d.length+1)*56<=140737488355328)) (
    gd ((!i.isEmpty)) (
     ob (f222 n a b.1 b.2.1 b.2.2) λd1 =>
     gd (decide ((e.length+1)*56<=140737488355328)) (
      f g b c h (W (a+1)) s t u v i w x y j k l m o p q r (d++[d0]) (e++[d1])))))
 else
  k0 j k l m o p q r d e
abbrev G2:Tm:=⟨[A15,Aml,Bt,Da,Dt,J6,I2,Ht],Ayg,[41],[]⟩
abbrev J9:List (Exit × Tm):=[(.exit 0,Oi)]
def J8 {α:Type} (v:G2.den) (f:G2.den->Option α) (ks:KS α J9):Option α:=Ja n v.1.1 v.1.2.1 v.1.2.2.2.2.2.1 v.1.2.2.2.2.2.2.1 v.1.2.2.2.2.2.2.2.1 v.2.1.1 v.2.1.2.1 v.2.1.2.2.1 v.2.1.2.2.2.1 v.2.1.2.2.2.2.1 v.2.1.2.2.2.2.2.1 v.2.1.2.2.2.2.2.2.1 v.2.1.2.2.2.2.2.2.2.1 v.2.2.1.1 v.2.2.1.2.2.2.2.2.1 v.2.2.2.1.1 v.2.2.2.1.2.1 v.2.2.2.1.2.2.1 v.2.2.2.1.2.2.2.2.2.1 v.2.2.2.1.2.2.2.2.2.2.1 v.2.2.2.1.2.2.2.2.2.2.2.1 v.2.2.2.2.1 v.2.2.2.2.2.1 (λa b c d e g h i j k l m o p q r s t u w x y z=>f ((a,b,(),(),(),c,d,e,()),((g,h,i,j,k,l,m,o,()),(p,(),(),(),(),q,(),(),()),(r,s,t,(),(),u,w,x,()),y,z,()))) (λw0 w1 w2 w3 w4 w5 w6 w7 w8 w9=>ks.1 (((),(),()),((w0,(),(),(),(),w1,(),(),()),(w2,w3,w4,(),(),w5,w6,w7,()),w8,w9,())))
def Gt {α:Type} (n m:Nat) (a:Rq) (b:Rq × X9 × Rq) (c:LR) (d e:Int) (f:Bool) (g h:LI) (i j:LR) (k:Bool) (l o:LI) (p q r:Bool) (s t:LI) (u:Bool) (v x:LI) (y z:LR) (k0:Bool->Bool->Bool->LI->LI->Bool->LI->LI->LR->LR->Option α):Option α:=A4 (J8 n) m ((a,b,(),(),(),c,d,e,()),((f,g,h,i,j,k,l,o,()),(p,(),(),(),(),q,(),(),()),(r,s,t,(),(),u,v,x,()),y,z,())) (λw=>k0 w.2.1.1 w.2.1.2.2.2.2.2.1 w.2.2.1.1 w.2.2.1.2.1 w.2.2.1.2.2.1 w.2.2.1.2.2.2.2.2.1 w.2.2.1.2.2.2.2.2.2.1 w.2.2.1.2.2.2.2.2.2.2.1 w.2.2.2.1 w.2.2.2.2.1,())
theorem A2v {α n m a b c d e f g h i j k l o p q r s t u v w x y k0}:Gt (α:=α) n (m+1) a b c d e f g h i j k l o p q r s t u v w x y k0=Ja n a b c d e f g h i j k l o p q r s t u v w x y (λa b c d e f g h i j k l o p q r s t u v w x y=>Gt n m a b c d e f g h i j k l o p q r s t u v w x y k0) k0:=rfl
abbrev Sc:Tm:=⟨[A15,Aml,Bt,Da,Dt,K8,R6,J6,I2,Ht],[A7r,I3,Aln,Rb],[6,7],[]⟩
abbrev Oe:Tm:=⟨[A15,Aml,Bt,Da,Dt,K8,R6,J6,I2,Ht],[A7r,I3,Ayr,Rb,R7,Al6],[],[]⟩
abbrev Sb:Tm:=⟨[A15,Aml,Bt,Da,Dt,K8,J6,I2,Ht],[A7r,I3,A7v,R7],[13,30],[]⟩
abbrev Od:Tm:=⟨[A15,Aml,Bt,Da,Dt,K8,J6,I2,Ht],Ayg,[13,30],[]⟩
def Pf (a0:Rq × LR × LR × Rq) (a1 a2 a3:Rq) (a4:Rq × X9 × Rq):Option D8 :=
 bif (decide (0<(a0.2.1.length:Int))) then
  gd (decide (0<(a0.2.1.length:Int))) (
   let a:=a0.2.1.getD 0 (false,[],[])
   ob (f221 n a a3) λb =>
   gd ((!a0.2.2.1.isEmpty)) (
    ob (f222 n 0 a4.1 a4.2.1 a4.2.2) λc =>
    Gt n n a3 a4 a0.2.1 (a0.2.1.length:Int) 1 a0.1.1 a0.1.2.1 a0.1.2.2 a0.2.1 a0.2.2.1 a0.2.2.2.1 a0.2.2.2.2.1 a0.2.2.2.2.2 false false a1.1 a1.2.1 a1.2.2 a2.1 a2.2.1 a2.2.2 [b] [c]
     (λl m d e f g h i j k=>(
      some ((d,e,f),j,k,g,h,i)))))
 else
  some (a1,[],[],a2)
def Lr:Ent:=⟨207,[Df,hR,hR,(.clo 221 F6),(.clo 222 (.pair F6 zq4))],[Df],λx=>Pf n x.1 x.2.1 x.2.2.1 x.2.2.2.1 x.2.2.2.2⟩
abbrev Ayn:List (Nat × OA):=[(4,A3 (Adc n)),(5,B4 hR),(6,B4 hR)]
def Ls:D3 α:=⟨[(5,⟨0,[],(Af5 n)⟩),(7,⟨0,[],(Ayn n)⟩)],[],[(3,⟨G2,J9,A4 (J8 n) n⟩)],[(5,Sc),(5,Oe),(7,Sb),(7,Od)]⟩
theorem Se:Ah TT ⟨46,[]⟩ (Af5 n) Sc (Ag Tryz.f207 5323):=by
 refine ⟨by kernel_rfl,λw q hq=>?_⟩
 obtain ⟨y0,q0,rfl,rfl⟩:=Be [(4,Vq n)] hq (by kernel_rfl)
 all_goals exact .inr ⟨6,by kernel_rfl,by kernel_rfl,by kernel_rfl⟩
theorem Og:Ah TT ⟨46,[]⟩ (Af5 n) Oe (Ag Tryz.f207 5323):=by
 refine ⟨by kernel_rfl,λw q hq=>?_⟩
 obtain ⟨y0,q0,rfl,rfl⟩:=Be [(4,Vq n)] hq (by kernel_rfl)
 all_goals exact .inr ⟨6,by kernel_rfl,by kernel_rfl,by kernel_rfl⟩
theorem Sd:Ah TT ⟨46,[]⟩ (Ayn n) Sb (Ag Tryz.f207 23755):=by
 refine ⟨by kernel_rfl,λw q hq=>?_⟩
 obtain ⟨y0,q0,rfl,rfl⟩:=Be [(4,Adc n)] hq (by kernel_rfl)
 all_goals exact .inr ⟨6,by kernel_rfl,by kernel_rfl,by kernel_rfl⟩
theorem Of:Ah TT ⟨46,[]⟩ (Ayn n) Od (Ag Tryz.f207 23755):=by
 refine ⟨by kernel_rfl,λw q hq=>?_⟩
 obtain ⟨y0,q0,rfl,rfl⟩:=Be [(4,Adc n)] hq (by kernel_rfl)
 all_goals exact .inr ⟨6,by kernel_rfl,by kernel_rfl,by kernel_rfl⟩
theorem Oc:Ap PP (Ae (Ls α n).reg):=⟨Aw6 n,Bi3 n,trivial⟩
theorem A2w:D3.OK PP TT ⟨46,[]⟩ (Ls α n) (Ai Tryz.f207 75) :=
 D3.OK.mk3a (Oc α n) (by kernel_rfl:A9 _=[]) trivial (by kernel_rfl:Ax _=[(5,Ag Tryz.f207 5323),(7,Ag Tryz.f207 23755)]) ⟨⟨Se n,Og n,trivial⟩,⟨Sd n,Of n,trivial⟩,trivial⟩
theorem A10:LO.Sound (α:=α) PP ⟨46,[]⟩ ⟨G2,J9,A4 (J8 n) n⟩ (.loop (Ai Tryz.f207 75)):=lk (A2w α n) n
theorem Adg:D3.OK PP TT ⟨46,[]⟩ (Ls α n) (Af Tryz.f207) :=
 D3.OK.mk3a (Oc α n) (by kernel_rfl:A9 _=[(3,.loop (Ai Tryz.f207 75))]) ⟨Aa rfl (A10 α n),trivial⟩ (by kernel_rfl:Ax _=[(5,Ag Tryz.f207 5323),(7,Ag Tryz.f207 23755)]) ⟨⟨Se n,Og n,trivial⟩,⟨Sd n,Of n,trivial⟩,trivial⟩
theorem A8s:(Lr n).Sound PP:=fk (fn:=Tryz.f207) (Adg _ n)

abbrev Aq3:Tm:=⟨[Bo,Bt,F7,Cu,Dk],[(4,.var 91 true false zq2),Abq,Uy,G8,Af2],[],[]⟩
def Nz (a0:Rq × LR × LR × Rq) (a1 a2 a3:Rq):Option D8 :=
 ob (f162 n a2 a0.2.2.2) λa =>
 ob (Pf n a0 a1 a a2 (a3,(a0.1.1,a0.1.2.1,a0.1.2.2,a0.2),a2)) λb =>
 some b
def Agy:Ent:=⟨210,[Df,hR,hR,hR],[Df],λx=>Nz n x.1 x.2.1 x.2.2.1 x.2.2.2⟩
abbrev Bf6:List (Nat × OA):=[(5,A3 (Av n)),(6,B4 F6),(7,B4 (.pair F6 zq4)),(8,A3 (Lr n))]
def Awd:D3 α:=⟨[(1,⟨0,[],(Bf6 n)⟩)],[],[],[(1,Aq3)]⟩
theorem Bcy:Ah TT ⟨18,[]⟩ (Bf6 n) Aq3 (Ag Tryz.f210 5):=by
 refine ⟨by kernel_rfl,λw q hq=>?_⟩
 obtain ⟨y0,q0,rfl,y1,q1,rfl,rfl⟩:=Be [(5,Av n),(8,Lr n)] hq (by kernel_rfl)
 all_goals exact .inl (K7.mk (by kernel_rfl))
theorem B0s:Ap PP (Ae (Awd α n).reg):=⟨Az n,A8s n,trivial⟩
theorem Bib:D3.OK PP TT ⟨18,[]⟩ (Awd α n) (Af Tryz.f210) :=
 D3.OK.mk3a (B0s α n) (by kernel_rfl:A9 _=[]) trivial (by kernel_rfl:Ax _=[(1,Ag Tryz.f210 5)]) ⟨⟨Bcy n,trivial⟩,trivial⟩
theorem Aq2:(Agy n).Sound PP:=fk (fn:=Tryz.f210) (Bib _ n)

abbrev Aqn:Tm:=⟨[Xe,Cs],[(1,.var 91 true false zq2),(2,.var 91 true false zq1)],[],[]⟩
def O1 (a0:Rq × LR × LR × Rq):Option D8 :=
 ob (f97 n 1) λc =>
 ob (f206 n c a0.1) λa =>
 ob (f162 n a a) λb =>
 ob (f158 n b) λd =>
 ob (f162 n b a) λe =>
 ob (f97 n 2) λf =>
 ob (f162 n e f) λg =>
 ob (Nz n a0 a d g) λh =>
 some h
def Awo:Ent:=⟨169,[Df],[Df],λx=>O1 n x⟩
def Awp:D3 α:=⟨[(1,⟨0,[],[(Uv n),(3,A3 (Js n))]⟩),(2,⟨0,[],[(Abn n)]⟩),(3,⟨9,[],[(3,A3 (Jv n)),(Xf n),(7,A3 (Cg n)),(Abs n),(9,A3 (Agy n))]⟩)],[],[],[(1,Aqn)]⟩
theorem Bd9:Ah TT ⟨22,[]⟩ [(Uv n),(3,A3 (Js n))] Aqn (Ag Tryz.f169 5):=by
 refine ⟨by kernel_rfl,λw q hq=>?_⟩
 obtain ⟨y0,q0,rfl,y1,q1,rfl,rfl⟩:=Be [(0,Cg n),(3,Js n)] hq (by kernel_rfl)
 all_goals exact .inr ⟨5,by kernel_rfl,by kernel_rfl,by kernel_rfl⟩
theorem B1d:Ap PP (Ae (Awp α n).reg):=⟨Bh n,Ah1 n,Az n,Iu n,Az n,Bh n,Az n,Aq2 n,trivial⟩
theorem Bj7:D3.OK PP TT ⟨22,[]⟩ (Awp α n) (Af Tryz.f169) :=
 D3.OK.mk3a (B1d α n) (by kernel_rfl:A9 _=[]) trivial (by kernel_rfl:Ax _=[(1,Ag Tryz.f169 5),(3,Ag Tryz.f169 23)]) ⟨⟨Bd9 n,trivial⟩,trivial,trivial⟩
theorem Bd8:(Awo n).Sound PP:=fk (fn:=Tryz.f169) (Bj7 _ n)

abbrev Bdo:Tm:=⟨Ayj,[Ka,A17,Abr,Uy,G8],[],[]⟩
def Ae6 (a0:Rq × LR × LR × Rq) (a1:Int):Option (Rq × Rq) :=
 ob (f97 n 0) λa =>
 ob (f97 n 0) λg =>
 let c:=λ(d:Bool) (e:LI) (f:LI)=>(
  bif (decide (a1>=2)) then
   ob (f170 n a0.1 (W (a1-2))) λh =>
   ob (f97 n (W (a1*(W (a1-1))))) λi =>
   ob (f162 n h i) λj =>
   some ((d,e,f),j)
  else
   some ((d,e,f),g))
 bif (decide (a1>=1)) then
  ob (f170 n a0.1 (W (a1-1))) λk =>
  ob (f97 n a1) λl =>
  ob (f162 n k l) λb =>
  c b.1 b.2.1 b.2.2
 else
  c a.1 a.2.1 a.2.2
def Ax7:Ent:=⟨161,[Df,hI],[hR,hR],λx=>Ae6 n x.1 x.2⟩
def Ax8:D3 α:=⟨[(1,⟨0,[],[(Uv n),(Xd n)]⟩),(3,⟨0,[],[(Uw n),(6,A3 (Cg n)),(7,A3 (Av n))]⟩),(5,⟨0,[],[(Uw n),(9,A3 (Cg n)),(10,A3 (Av n))]⟩)],[(4,Bdo)],[],[(6,Qw)]⟩
theorem Bdp (n:Nat):Ah TT ⟨35,[]⟩ [] Qw (Ag Tryz.f161 47):=by
 refine ⟨by kernel_rfl,λw q hq=>?_⟩
 obtain rfl:=Be [] hq (by kernel_rfl)
 all_goals exact .inr ⟨3,by kernel_rfl,by kernel_rfl,by kernel_rfl⟩
theorem B1q:Ap PP (Ae (Ax8 α n).reg):=⟨Bh n,Bh n,Hn n,Bh n,Az n,Hn n,Bh n,Az n,trivial⟩
theorem Bjo:D3.OK PP TT ⟨35,[]⟩ (Ax8 α n) (Af Tryz.f161) :=
 D3.OK.mk3a (B1q α n) (by kernel_rfl:A9 _=[]) trivial (by kernel_rfl:Ax _=[(6,Ag Tryz.f161 47)]) ⟨⟨Bdp n,trivial⟩,trivial⟩
theorem Bdn:(Ax7 n).Sound PP:=fk (fn:=Tryz.f161) (Bjo _ n)

def O0 (a0:Rq × LR × LR × Rq) (a1:Int):Option D8 :=
 ob (Ae6 n a0 a1) λa =>
 ob (f170 n a0.1 a1) λb =>
 ob (Nz n a0 b a.1 a.2) λc =>
 some c
def Awn:Ent:=⟨171,[Df,hI],[Df],λx=>O0 n x.1 x.2⟩
def Bj5:D3 α:=⟨[(1,⟨0,[],[(2,A3 (Ax7 n))]⟩),(2,⟨7,[],[(Uw n),(7,A3 (Agy n))]⟩)],[],[],[]⟩
theorem Bd7:(Awn n).Sound PP:=B9 (fn:=Tryz.f171) (D:=Bj5 _ n) ⟨Bdn n,Hn n,Aq2 n,trivial⟩

abbrev Aki:Tm:=⟨[Gm,(3,.k (.hw 1003)),Bo,Bt,Dk,Da,Dt],[(4,.var 94 true false A4d),Alk,Af2,I3,(11,.var 91 true false zq1),(1003,.arr 91 Df false)],[],[]⟩
abbrev B98:Tm:=⟨[Gm,Bo,Bt,Dk,Da,Dt],[(4,.var 94 true false A4d),Alk,Af2,(10,.var 91 true false zq2),(11,.var 91 true false zq2),(1003,.arr 91 Df false)],[],[]⟩
def Oy (a0:Int × LR) (a1:Nq) (a2:LR) (a3:List D8):Option ((D8 × Int) × (List D8)) :=
 let t:=λ(c:Bool) (d:LI) (e:LI) (f:LR) (g:LR) (h:Bool) (i:LI) (j:LI) (k:Bool) (l:LI) (m:LI) (o:LR) (p:LR) (q:Bool) (r:LI) (s:LI)=>(
  bif (a1.1==1) then
   ob (f97 n a1.2.2.2) λu =>
   ob (A5x n a0 u) λv =>
   some ((v,0),a3)
  else
   bif (a1.1==2) then
    gd (decide (0<=a1.2.2.2)&&decide (a1.2.2.2<(a2.length:Int))) (
     let w:=a2.getD a1.2.2.2.toNat (false,[],[])
     ob (A5w n a0 w a1.2.2.2) λx =>
     some ((x,0),a3))
   else
    bif (a1.1==3) then
     ob (G6 n ((c,d,e),f,g,h,i,j) ((k,l,m),o,p,q,r,s)) λy =>
     some ((y,0),a3)
    else
     bif (a1.1==4) then
      ob (f97 n (-1)) λz =>
      ob (G5 n ((k,l,m),o,p,q,r,s) z) λd0 =>
      ob (G6 n ((c,d,e),f,g,h,i,j) d0) λd1 =>
      some ((d1,0),a3)
     else
      bif (a1.1==5) then
       ob (G4 n ((c,d,e),f,g,h,i,j) ((k,l,m),o,p,q,r,s)) λd2 =>
       some ((d2,0),a3)
      else
       bif (a1.1==6) then
        ob (f168 n (k,l,m)) λd3 =>
        bif d3 then
         some ((((false,[],[]),[],[],false,[],[]),10),a3)
        else
         ob (O1 n ((k,l,m),o,p,q,r,s)) λd4 =>
         ob (G4 n ((c,d,e),f,g,h,i,j) d4) λd5 =>
         some ((d5,0),a3)
       else
        bif (a1.1==7) then
         ob (f97 n (-1)) λd6 =>
         ob (G5 n ((c,d,e),f,g,h,i,j) d6) λd7 =>
         some ((d7,0),a3)
        else
         ob (f170 n (c,d,e) a1.2.2.2) λd8 =>
         ob (f98 n d8) λd9 =>
         bif (!d9) then
          some ((((false,[],[]),[],[],false,[],[]),7),a3)
         else
          ob (O0 n ((c,d,e),f,g,h,i,j) a1.2.2.2) λe0 =>
          some ((e0,0),a3))
 ob (f61 n a1) λe1 =>
 bif (decide (e1>0)) then
  gd (decide (0<=a1.2.1)&&decide (a1.2.1<(a3.length:Int))) (
   gd (decide (a1.2.1.toNat<a3.length)) (
    let a:=a3.getD a1.2.1.toNat ((false,[],[]),[],[],(false,[],[]))
    gd (decide (0<=a1.2.2.1)&&decide (a1.2.2.1<(a3.length:Int))) (
     gd (decide (a1.2.2.1.toNat<a3.length)) (
      let b:=a3.getD a1.2.2.1.toNat ((false,[],[]),[],[],(false,[],[]))
      t a.1.1 a.1.2.1 a.1.2.2 a.2.1 a.2.2.1 a.2.2.2.1 a.2.2.2.2.1 a.2.2.2.2.2 b.1.1 b.1.2.1 b.1.2.2 b.2.1 b.2.2.1 b.2.2.2.1 b.2.2.2.2.1 b.2.2.2.2.2))))
 else
  t false [] [] [] [] false [] [] false [] [] [] [] false [] []
def Aba:Ent3:=⟨101,[.im A4l,.im hN,.im hRs,.one (.own 91 Df)],[[.im Df,.im hI]],λx=>Oy n x.1 x.2.1 x.2.2.1 x.2.2.2,[]⟩
def As4:D3 α:=⟨[(2,⟨0,[],(Abm n)⟩),(6,⟨4,[],[(3,A3 (Cg n)),(4,A3 (Ax1 n))]⟩),(8,⟨8,[],[(8,A3 (Ax0 n))]⟩),(10,⟨0,[],[(2,A3 (Aha n))]⟩),(12,⟨4,[],[(2,A3 (Cg n)),(3,A3 (Ah9 n)),(4,A3 (Aha n))]⟩),(14,⟨0,[],[(2,A3 (Ah7 n))]⟩),(16,⟨0,[],[(2,A3 (T3 n))]⟩),(18,⟨3,[],[(2,A3 (Awo n)),(3,A3 (Ah7 n))]⟩),(20,⟨2,[],[(Xd n),(2,A3 (Ah9 n))]⟩),(21,⟨0,[],[(Uw n),(5,A3 (Ny n))]⟩),(23,⟨0,[],[(3,A3 (Awn n))]⟩)],[(4,B98)],[],[(3,Aki)]⟩
theorem B99 (n:Nat):Ah TT ⟨89,[]⟩ [] Aki (Ag Tryz.f101 43):=by
 refine ⟨by kernel_rfl,λw q hq=>?_⟩
 obtain rfl:=Be [] hq (by kernel_rfl)
 all_goals exact .inr ⟨11,by kernel_rfl,by kernel_rfl,by kernel_rfl⟩
theorem Aui:Ap PP (Ae (As4 α n).reg):=⟨S4 n,Bh n,Bdf n,Bdd n,Ar0 n,Bh n,Aqx n,Ar0 n,Aqo n,Qv n,Bd8 n,Aqo n,Bh n,Aqx n,Hn n,Ln n,Bd7 n,trivial⟩
theorem Bed:D3.OK PP TT ⟨89,[]⟩ (As4 α n) (Af Tryz.f101) :=
 D3.OK.mk3a (Aui α n) (by kernel_rfl:A9 _=[]) trivial (by kernel_rfl:Ax _=[(3,Ag Tryz.f101 43),(6,Ag Tryz.f101 599),(8,Ag Tryz.f101 2519),(12,Ag Tryz.f101 40919),(18,Ag Tryz.f101 1441751),(20,Ag Tryz.f101 2621399)]) ⟨⟨B99 n,trivial⟩,trivial,trivial,trivial,trivial,trivial,trivial⟩
theorem Akh:(Aba n).Sound PP:=Vl (fn:=Tryz.f101) (Bed _ n)

def f103 (n:Nat) (a0:Int) (a1:List D8):Option Rq :=
 gd (decide (0<=a0)&&decide (a0<(a1.length:Int))) (
  let a:=a1.getD a0.toNat ((false,[],[]),[],[],(false,[],[]))
  some a.2.2.2)
def B97:Ent:=⟨103,[hI,(.ref (.sl Df))],[hR],λx=>f103 n x.1 x.2⟩
def Bq1 (α:Type) (n:Nat):D3 α:=⟨[],[],[],[]⟩
theorem Bkq:(B97 n).Sound PP:=B9 (fn:=Tryz.f103) (D:=Bq1 _ n) trivial

def Tg {α:Type} (c:List D8) (d a:Int) (b:LR) (f:(List D8)->Int->Int->LR->Option α) (k0:LR->Option α):Option α :=
 bif (decide (a<d)) then
  ob (f103 n a c) λe =>
  ob (f73 n e) λg =>
  gd (decide ((b.length+1)*56<=140737488355328)) (
   f c d (W (a+1)) (b++[g]))
 else
  k0 b
abbrev Lz:Tm:=⟨[(1,.d (.clo 103 (.ref (.sl Df)))),A4c,Ee,G0],[A4k],[17],[]⟩
abbrev Tf:List (Exit × Tm):=[(.exit 0,Ph)]
def Te {α:Type} (v:Lz.den) (f:Lz.den->Option α) (ks:KS α Tf):Option α:=Tg n v.1.1 v.1.2.2.1 v.1.2.2.2.1 v.2.1 (λa b c d=>f ((a,(),b,c,()),(d,()))) (λw0=>ks.1 (((),()),(w0,())))
def Jw {α:Type} (n m:Nat) (a:List D8) (b c:Int) (d:LR) (k0:LR->Option α):Option α:=A4 (Te n) m ((a,(),b,c,()),(d,())) (λw=>k0 w.2.1,())
theorem Al4 {α n m a b c d k0}:Jw (α:=α) n (m+1) a b c d k0=Tg n a b c d (λa b c d=>Jw n m a b c d k0) k0:=rfl
def Zk (a0:Int) (a1:List D8):Option LR :=
 Jw n n a1 a0 0 []
  (λa=>(
   some a))
def Aei:Ent:=⟨102,[hI,(.clo 103 (.ref (.sl Df)))],[hRs],λx=>Zk n x.1 x.2⟩
def Zj:D3 α:=⟨[(1,⟨0,[],F5⟩),(5,⟨0,[],[(3,A3 (B97 n)),(4,A3 (Am6 n)),(5,B4 hR)]⟩)],[],[(3,⟨Lz,Tf,A4 (Te n) n⟩)],[]⟩
theorem A0x:Ap PP (Ae (Zj α n).reg):=⟨Bkq n,Ap5 n,trivial⟩
theorem Ahn:LO.Sound (α:=α) PP ⟨21,[]⟩ ⟨Lz,Tf,A4 (Te n) n⟩ (.loop (Ai Tryz.f102 75)):=Cb (D:=Zj α n) (A0x α n) n
theorem B2i:D3.OK PP TT ⟨21,[]⟩ (Zj α n) (Af Tryz.f102) :=
 D3.OK.mk3 (A0x α n) (by kernel_rfl:A9 _=[(3,.loop (Ai Tryz.f102 75))]) ⟨Aa rfl (Ahn α n),trivial⟩
theorem Auh:(Aei n).Sound PP:=fk (fn:=Tryz.f102) (B2i _ n)

def Ago {α:Type} (e:LR) (c:LN) (g a h:Int) (i:LR) (d:List D8) (f:LR->LN->Int->Int->Int->LR->(List D8)->Option α) (k0:(List D8)->Option α):Option α :=
 bif (decide (a<g)) then
  gd (decide (0<=a)&&decide (a<(c.length:Int))) (
   let j:=c.getD a.toNat (0,0,0,0)
   ob (Oy n (h,i) j e d) λb =>
   gd (Nat.beq b.2.length d.length&&true) (
    gd (decide ((b.2.length+1)*160<=140737488355328)) (
     f e c g (W (a+1)) h i (b.2++[b.1.1]))))
 else
  k0 d
abbrev A5c:Tm:=⟨[F4,Cu,Dk,(17,.d hNs),(18,.d hI),I2],[(7,.var 119 false false [.k (.hw 13)]),(8,.var 94 true false A4d),Al9],[3,10,11,33],[]⟩
abbrev Bcn:Tm:=⟨[Cu],[(7,.var 119 false false [.k (.hw 13)]),Al9],[8],[]⟩
abbrev Agn:List (Exit × Tm):=[(.exit 0,Bcn)]
def Agm {α:Type} (v:A5c.den) (f:A5c.den->Option α) (ks:KS α Agn):Option α:=Ago n v.1.1 v.1.2.2.2.1 v.1.2.2.2.2.1 v.1.2.2.2.2.2.1 v.2.2.1.1 v.2.2.1.2.1 v.2.2.2.1 (λa b c d e g h=>f ((a,(),(),b,c,d,()),(((),()),(e,g,()),h,()))) (λw0=>ks.1 (((),()),(((),()),w0,())))
def Ad5 {α:Type} (n m:Nat) (a:LR) (b:LN) (c d e:Int) (f:LR) (g:List D8) (k0:(List D8)->Option α):Option α:=A4 (Agm n) m ((a,(),(),b,c,d,()),(((),()),(e,f,()),g,())) (λw=>k0 w.2.2.1,())
theorem Bcm {α n m a b c d e f g k0}:Ad5 (α:=α) n (m+1) a b c d e f g k0=Ago n a b c d e f g (λa b c d e f g=>Ad5 n m a b c d e f g k0) k0:=rfl
def f50 (a0:LN × Int) (a1 a2:LR):Option LR :=
 Ad5 n n a1 a0.1 (a0.1.length:Int) 0 0 a2 []
  (λa=>(
   ob (Zk n (a.length:Int) a) λb =>
   some b))
def Bfz:Ent:=⟨50,[Ft,hRs,hRs],[hRs],λx=>f50 n x.1 x.2.1 x.2.2⟩
def B0d:D3 α:=⟨[(1,⟨0,[],[(0,B4 Df)]⟩),(5,⟨0,[],[(4,{ alt:=[(Aba n)],hb:=310 })]⟩),(6,⟨0,[],[(2,B4 Df)]⟩),(8,⟨0,[],[(0,{ shut:=some (.stl 7 0 (.sl Df)) }),(2,B4 (.ref (.sl Df))),(3,A3 (Aei n))]⟩)],[],[(3,⟨A5c,Agn,A4 (Agm n) n⟩)],[]⟩
theorem Apl:Ap PP (Ae (B0d α n).reg):=⟨Akh n,Auh n,trivial⟩
theorem B60:LO.Sound (α:=α) PP ⟨40,[]⟩ ⟨A5c,Agn,A4 (Agm n) n⟩ (.loop (Ai Tryz.f50 75)):=Cb (D:=B0d α n) (Apl α n) n
theorem Brk:D3.OK PP TT ⟨40,[]⟩ (B0d α n) (Af Tryz.f50) :=
 D3.OK.mk3 (Apl α n) (by kernel_rfl:A9 _=[(3,.loop (Ai Tryz.f50 75))]) ⟨Aa rfl (B60 α n),trivial⟩
theorem Bmz:(Bfz n).Sound PP:=fk (fn:=Tryz.f50) (Brk _ n)

def f14 (a0:LN × Int) (a1 a2:LR):Option Il :=
 ob (f48 n a0 a1 a2) λa =>
 bif (a.2 != 0) then
  some ([],a.2)
 else
  ob (f50 n a0 a1 a2) λd =>
  ob (f49 n a0 a1 a.1 d) λb =>
  bif (b.2.2 != 0) then
   some ([],b.2.2)
  else
   ob (f51 n b.2.1) λc =>
   some (c.1,c.2)
def Bgc:Ent:=⟨14,[Ft,hRs,hRs],[hRs,hI],λx=>f14 n x.1 x.2.1 x.2.2⟩
def Bs0:D3 α:=⟨[(1,⟨0,[],[(3,A3 (Bg0 n))]⟩),(4,⟨14,[],[(6,A3 (Bfz n)),(7,A3 (B0e n))]⟩),(7,⟨0,[],[(1,A3 (Y4 n))]⟩)],[],[],[]⟩
theorem Bp7:(Bgc n).Sound PP:=B9 (fn:=Tryz.f14) (D:=Bs0 _ n) ⟨Bn1 n,Bmz n,B61 n,Vo n,trivial⟩

abbrev Bmn:Tm:=⟨[Tu,F4,(5,.d .bool)],[],[],[]⟩
abbrev Bmm:Tm:=⟨[Tu,F4,(14,.d .bool)],[],[],[]⟩
def f92 (a0 a1:LR):Option Int :=
 let a:=λ(c:Bool)=>(
  bif c then
   some 2
  else
   let b:=λ(d:Bool)=>(
    bif d then
     some 1
    else
     bif ((a0.length:Int) != (a1.length:Int)) then
      some 8
     else
      some 0)
   ob (f116 n a0) λe =>
   bif (!e) then
    b true
   else
    ob (f116 n a1) λf =>
    b (!f))
 bif (decide ((a0.length:Int)>4096)) then
  a true
 else
  a (decide ((a1.length:Int)>4096))
def Bfu:Ent:=⟨92,[hRs,hRs],[hI],λx=>f92 n x.1 x.2⟩
def Br0:D3 α:=⟨[(3,⟨0,[],[(1,A3 (Aeb n)),(5,A3 (Aeb n))]⟩)],[(2,Bmn),(4,Bmm)],[],[]⟩
theorem Bml:(Bfu n).Sound PP:=B9 (fn:=Tryz.f92) (D:=Br0 _ n) ⟨Ahi n,Ahi n,trivial⟩

def f44 (a0:LN × Int) (a1 a2:LR):Option Int :=
 bif (decide ((a2.length:Int)>4096)) then
  some 2
 else
  ob (f65 n a0 a1) λa =>
  bif (a != 0) then
   some a
  else
   ob (f92 n a1 a2) λb =>
   some b
def Bg3:Ent:=⟨44,[Ft,hRs,hRs],[hI],λx=>f44 n x.1 x.2.1 x.2.2⟩
def Brq:D3 α:=⟨[(3,⟨0,[],[(2,A3 (B05 n))]⟩),(6,⟨0,[],[(2,A3 (Bfu n))]⟩)],[],[],[]⟩
theorem Bn4:(Bg3 n).Sound PP:=B9 (fn:=Tryz.f44) (D:=Brq _ n) ⟨B5q n,Bml n,trivial⟩

def Ag1 {α:Type} (g e h:LR) (c:Int) (d:LN) (i:Int) (b:LR) (f:LR->LR->LR->Int->LN->Int->LR->Option α) (k0:LR->Option α):Option α :=
 bif (decide (c<(d.length:Int))) then
  gd (decide (0<=c)&&decide (c<(d.length:Int))) (
   let a:=d.getD c.toNat (0,0,0,0)
   ob (f131 n 0) λj =>
   let l:=λ(q:Bool) (r:LI) (s:LI)=>(
    let m:=λ(t:Bool)=>(
     bif t then
      ob (f148 n a g h) λo =>
      gd (decide (0<=a.2.1)&&decide (a.2.1<(b.length:Int))) (
       gd (decide (a.2.1.toNat<b.length)) (
        let u:=b.getD a.2.1.toNat (false,[],[])
        ob (f140 n o.1 u) λp =>
        ob (f146 n a.1) λv =>
        bif v then
         gd (decide (0<=a.2.2.1)&&decide (a.2.2.1<(b.length:Int))) (
          gd (decide (a.2.2.1.toNat<b.length)) (
           let w:=b.getD a.2.2.1.toNat (false,[],[])
           ob (f140 n o.2.1 w) λx =>
           ob (f138 n p x) λy =>
           gd (decide ((b.length+1)*56<=140737488355328)) (
            f g e h (W (c+1)) d i (b++[y]))))
        else
         gd (decide ((b.length+1)*56<=140737488355328)) (
          f g e h (W (c+1)) d i (b++[p]))))
     else
      gd (decide ((b.length+1)*56<=140737488355328)) (
       f g e h (W (c+1)) d i (b++[(q,r,s)])))
    ob (f146 n a.1) λz =>
    bif z then
     m true
    else
     ob (f147 n a.1) λd0 =>
     m d0)
   bif (a.1==2) then
    gd (decide (0<=a.2.2.2)&&decide (a.2.2.2<(e.length:Int))) (
     let k:=e.getD a.2.2.2.toNat (false,[],[])
     l k.1 k.2.1 k.2.2)
   else
    l j.1 j.2.1 j.2.2)
 else
  k0 b
abbrev A53:Tm:=⟨[F4,Gm,C4,(7,.k (.hw 16)),(8,.d hRs),G0],[(3,.var 33 true false A7s),(16,.arr 54 hR false)],[10,11,12,13,14,15,80],[]⟩
abbrev Bc7:Tm:=⟨[(7,.k (.hw 16))],[(16,.arr 54 hR false)],[3],[]⟩
abbrev Ag0:List (Exit × Tm):=[(.exit 0,Bc7)]
def Afz {α:Type} (v:A53.den) (f:A53.den->Option α) (ks:KS α Ag0):Option α:=Ag1 n v.1.1 v.1.2.1 v.1.2.2.2.2.1 v.1.2.2.2.2.2.1 v.2.1.1 v.2.1.2.1 v.2.2.1 (λa b c d e g h=>f ((a,b,(),(),c,d,()),((e,g,()),h,()))) (λw0=>ks.1 (((),()),(w0,())))
def S0 {α:Type} (n m:Nat) (a b c:LR) (d:Int) (e:LN) (f:Int) (g:LR) (k0:LR->Option α):Option α:=A4 (Afz n) m ((a,b,(),(),c,d,()),((e,f,()),g,())) (λw=>k0 w.2.1,())
theorem Bc6 {α n m a b c d e f g k0}:S0 (α:=α) n (m+1) a b c d e f g k0=Ag1 n a b c d e f g (λa b c d e f g=>S0 n m a b c d e f g k0) k0:=rfl
abbrev Bht:Tm:=⟨[F4,Gm,C4,(7,.k (.hw 16)),(8,.d hRs),G0,Da,Dt],Bf9,[],[]⟩
abbrev Bhs:Tm:=⟨[F4,Gm,C4,(7,.k (.hw 16)),(8,.d hRs),G0,Da,Dt,(49,.d .bool)],Bf9,[],[]⟩
def f90 (a0:LN × Int) (a1 a2:LR):Option LR :=
 ob (f118 n (a0.1.length:Int)) λa =>
 S0 n n a1 a2 a 0 a0.1 a0.2 []
  (λb=>(
   some b))
def Bfv:Ent:=⟨90,[Ft,hRs,hRs],[hRs],λx=>f90 n x.1 x.2.1 x.2.2⟩
def Azu:D3 α:=⟨[(1,⟨0,[],F5⟩),(2,⟨0,[],[(3,A3 (Arv n))]⟩),(7,⟨0,[],(A4i n)⟩),(10,⟨0,[],[(A4h n),(6,A3 (A3h n))]⟩),(11,⟨0,[],[(3,A3 (Arn n))]⟩),(12,⟨6,[],[(6,A3 (C8 n))]⟩),(13,⟨0,[],[(A4h n)]⟩),(14,⟨8,[],[(7,A3 (C8 n)),(8,A3 (He n))]⟩),(15,⟨0,[],[(2,B4 hR)]⟩)],[(10,Bht),(11,Bhs)],[(4,⟨A53,Ag0,A4 (Afz n) n⟩)],[]⟩
theorem Aoz:Ap PP (Ae (Azu α n).reg):=⟨Axl n,Dl n,R1 n,A63 n,Axe n,Cd n,R1 n,Cd n,Fe n,trivial⟩
theorem B5a:LO.Sound (α:=α) PP ⟨83,[]⟩ ⟨A53,Ag0,A4 (Afz n) n⟩ (.loop (Ai Tryz.f90 151)):=Cb (D:=Azu α n) (Aoz α n) n
theorem Br1:D3.OK PP TT ⟨83,[]⟩ (Azu α n) (Af Tryz.f90) :=
 D3.OK.mk3 (Aoz α n) (by kernel_rfl:A9 _=[(4,.loop (Ai Tryz.f90 151))]) ⟨Aa rfl (B5a α n),trivial⟩
theorem Bmo:(Bfv n).Sound PP:=fk (fn:=Tryz.f90) (Br1 _ n)

def f45 (a0:LN × Int) (a1 a2:LR):Option Il :=
 ob (f88 n a0 a1) λa =>
 bif (a.2 != 0) then
  some ([],a.2)
 else
  ob (f90 n a0 a.1 a2) λd =>
  ob (f93 n a0 a.1 d (a1.length:Int)) λb =>
  bif (b.2.2 != 0) then
   some ([],b.2.2)
  else
   ob (f89 n b.2.1) λc =>
   some (c.1,c.2)
def Bg2:Ent:=⟨45,[Ft,hRs,hRs],[hRs,hI],λx=>f45 n x.1 x.2.1 x.2.2⟩
def Brp:D3 α:=⟨[(1,⟨0,[],[(2,A3 (Azx n))]⟩),(3,⟨0,[],F5⟩),(4,⟨15,[],[(5,A3 (Bfv n)),(8,A3 (Azs n))]⟩),(6,⟨0,[],F5⟩),(7,⟨0,[],[(1,A3 (Azv n))]⟩)],[],[],[]⟩
theorem Bn3:(Bg2 n).Sound PP:=B9 (fn:=Tryz.f45) (D:=Brp _ n) ⟨B5d n,Bmo n,B58 n,B5b n,trivial⟩

def f11 (a0:LN × Int) (a1 a2:LR):Option Il :=
 bif (decide ((a1.length:Int)>4096)) then
  some ([],2)
 else
  bif (decide ((a2.length:Int)>4096)) then
   some ([],2)
  else
   ob (f44 n a0 a1 a2) λa =>
   bif (a != 0) then
    some ([],a)
   else
    ob (f45 n a0 a1 a2) λb =>
    some (b.1,b.2)
def Bgd:Ent:=⟨11,[Ft,hRs,hRs],[hRs,hI],λx=>f11 n x.1 x.2.1 x.2.2⟩
def Bs1:D3 α:=⟨[(2,⟨0,[],F5⟩),(3,⟨0,[],[(3,A3 (Bg3 n))]⟩),(5,⟨0,[],F5⟩),(6,⟨0,[],[(3,A3 (Bg2 n))]⟩)],[],[],[]⟩
theorem Bpq:(Bgd n).Sound PP:=B9 (fn:=Tryz.f11) (D:=Bs1 _ n) ⟨Bn4 n,Bn3 n,trivial⟩

def Ag9 {α:Type} (n:Nat) (b c:LI) (a:Int) (f:LI->LI->Int->Option α) (k0:Bool->Option α) (k1:Unit->Option α):Option α :=
 bif (decide (a<(b.length:Int))) then
  gd (decide (0<=a)&&decide (a<(b.length:Int))) (
   gd (decide (0<=a)&&decide (a<(c.length:Int))) (
    bif ((b.getD a.toNat 0) != (c.getD a.toNat 0)) then
     k0 false
    else
     f b c (W (a+1))))
 else
  k1 ()
abbrev Ap4:Tm:=⟨[(4,.d .bool)],[],[],[]⟩
abbrev Ag8:List (Exit × Tm):=[(.ret,Ap4),(.exit 0,Gl)]
def Ag7 {α:Type} (v:Ib.den) (f:Ib.den->Option α) (ks:KS α Ag8):Option α:=Ag9 n v.1.1 v.1.2.1 v.1.2.2.1 (λa b c=>f ((a,b,c,()),())) (λw0=>ks.1 ((w0,()),())) (λ_=>ks.2.1 ((),()))
def A2j {α:Type} (n m:Nat) (a b:LI) (c:Int) (k0:Bool->Option α) (k1:Unit->Option α):Option α:=A4 (Ag7 n) m ((a,b,c,()),()) (λw=>k0 w.1.1,λw=>k1 (),())
theorem Bce {α n m a b c k0 k1}:A2j (α:=α) n (m+1) a b c k0 k1=Ag9 n a b c (λa b c=>A2j n m a b c k0 k1) k0 k1:=rfl
def f77 (a0 a1:LI):Option Bool :=
 bif ((a0.length:Int) != (a1.length:Int)) then
  some false
 else
  A2j n n a0 a1 0
   (λa=>(
    some a))
   (λ(_:Unit)=>(
    some true))
def Azz:Ent:=⟨77,[hIs,hIs],[.bool],λx=>f77 n x.1 x.2⟩
def B00:D3 α:=⟨[(6,⟨8,[],[]⟩)],[],[(4,⟨Ib,Ag8,A4 (Ag7 n) n⟩)],[]⟩
theorem Ap3:Ap PP (Ae (B00 α n).reg):=trivial
theorem B5h:LO.Sound (α:=α) PP ⟨26,[]⟩ ⟨Ib,Ag8,A4 (Ag7 n) n⟩ (.loop (Ai Tryz.f77 75)):=Cb (D:=B00 α n) (Ap3 α n) n
theorem Br4:D3.OK PP TT ⟨26,[]⟩ (B00 α n) (Af Tryz.f77) :=
 D3.OK.mk3 (Ap3 α n) (by kernel_rfl:A9 _=[(4,.loop (Ai Tryz.f77 75))]) ⟨Aa rfl (B5h α n),trivial⟩
theorem B5f:(Azz n).Sound PP:=fk (fn:=Tryz.f77) (Br4 _ n)

def f32 (a0 a1:Rq):Option Bool :=
 bif (a0.1==a1.1) then
  ob (f77 n a0.2.1 a1.2.1) λa =>
  bif a then
   ob (f77 n a0.2.2 a1.2.2) λb =>
   some b
  else
   some false
 else
  some false
def Bg4:Ent:=⟨32,[hR,hR],[.bool],λx=>f32 n x.1 x.2⟩
def Brr:D3 α:=⟨[(1,⟨0,[],[(10,A3 (Azz n)),(17,A3 (Azz n))]⟩)],[],[],[]⟩
theorem Bn5:(Bg4 n).Sound PP:=B9 (fn:=Tryz.f32) (D:=Brr _ n) ⟨B5f n,B5f n,trivial⟩

def Agt {α:Type} (b c:LR) (a:Int) (f:LR->LR->Int->Option α) (k0:Bool->Option α) (k1:Unit->Option α):Option α :=
 bif (decide (a<(b.length:Int))) then
  gd (decide (0<=a)&&decide (a<(b.length:Int))) (
   let d:=b.getD a.toNat (false,[],[])
   gd (decide (0<=a)&&decide (a<(c.length:Int))) (
    let e:=c.getD a.toNat (false,[],[])
    ob (f32 n d e) λg =>
    bif (!g) then
     k0 false
    else
     f b c (W (a+1))))
 else
  k1 ()
abbrev A5f:Tm:=⟨[Tu,F4,Ik],[],[],[]⟩
abbrev Ags:List (Exit × Tm):=[(.ret,Ap4),(.exit 0,Gl)]
def Agr {α:Type} (v:A5f.den) (f:A5f.den->Option α) (ks:KS α Ags):Option α:=Agt n v.1.1 v.1.2.1 v.1.2.2.1 (λa b c=>f ((a,b,c,()),())) (λw0=>ks.1 ((w0,()),())) (λ_=>ks.2.1 ((),()))
def A2l {α:Type} (n m:Nat) (a b:LR) (c:Int) (k0:Bool->Option α) (k1:Unit->Option α):Option α:=A4 (Agr n) m ((a,b,c,()),()) (λw=>k0 w.1.1,λw=>k1 (),())
theorem Bcu {α n m a b c k0 k1}:A2l (α:=α) n (m+1) a b c k0 k1=Agt n a b c (λa b c=>A2l n m a b c k0 k1) k0 k1:=rfl
def f25 (a0 a1:LR):Option Bool :=
 bif ((a0.length:Int) != (a1.length:Int)) then
  some false
 else
  A2l n n a0 a1 0
   (λa=>(
    some a))
   (λ(_:Unit)=>(
    some true))
def Ad8:Ent:=⟨25,[hRs,hRs],[.bool],λx=>f25 n x.1 x.2⟩
def B0g:D3 α:=⟨[(6,⟨8,[],[(8,A3 (Bg4 n))]⟩)],[],[(4,⟨A5f,Ags,A4 (Agr n) n⟩)],[]⟩
theorem App:Ap PP (Ae (B0g α n).reg):=⟨Bn5 n,trivial⟩
theorem B65:LO.Sound (α:=α) PP ⟨27,[]⟩ ⟨A5f,Ags,A4 (Agr n) n⟩ (.loop (Ai Tryz.f25 75)):=Cb (D:=B0g α n) (App α n) n
theorem Bru:D3.OK PP TT ⟨27,[]⟩ (B0g α n) (Af Tryz.f25) :=
 D3.OK.mk3 (App α n) (by kernel_rfl:A9 _=[(4,.loop (Ai Tryz.f25 75))]) ⟨Aa rfl (B65 α n),trivial⟩
theorem Ad7:(Ad8 n).Sound PP:=fk (fn:=Tryz.f25) (Bru _ n)

abbrev B5p:Tm:=⟨[F4,Cs],[(2,.var 43 true false [.d hNs])],[],[]⟩
def f67 (a0:LN) (a1:LR):Option Int :=
 ob (f71 n [a1]) λb =>
 ob (f60 n a0) λc =>
 ob (f119 n a1) λd =>
 ob (f111 n d 1) λe =>
 ob (f70 n [b,c,e]) λa =>
 bif (a != 0) then
  ob (f111 n true 8) λf =>
  ob (f70 n [a,f]) λg =>
  some g
 else
  ob (f120 n a0) λh =>
  ob (f111 n (decide ((a1.length:Int)>=h)) 8) λi =>
  ob (f70 n [a,i]) λj =>
  some j
def Am7:Ent:=⟨67,[hE,hRs],[hI],λx=>f67 n x.1 x.2⟩
abbrev Bl7:List (Nat × OA):=[(1,B4 hRs),(2,A3 (Q7 n)),(4,A3 (Am9 n)),(6,A3 (Wf n)),(7,A3 (Id n)),(8,B4 hI),(9,A3 (Lo n))]
def Bfx:D3 α:=⟨[(1,⟨0,[],(Bl7 n)⟩),(2,⟨0,[],(Bf1 n)⟩)],[],[],[(1,B5p)]⟩
theorem Bms:Ah TT ⟨30,[]⟩ (Bl7 n) B5p (Ag Tryz.f67 5):=by
 refine ⟨by kernel_rfl,λw q hq=>?_⟩
 obtain ⟨y0,q0,rfl,y1,q1,rfl,y2,q2,rfl,y3,q3,rfl,y4,q4,rfl,rfl⟩:=Be [(2,Q7 n),(4,Am9 n),(6,Wf n),(7,Id n),(9,Lo n)] hq (by kernel_rfl)
 all_goals exact .inr ⟨6,by kernel_rfl,by kernel_rfl,by kernel_rfl⟩
theorem Bcj:Ap PP (Ae (Bfx α n).reg):=⟨Ad1 n,B5w n,Ahf n,Iy n,S1 n,Axj n,Iy n,S1 n,trivial⟩
theorem Brb:D3.OK PP TT ⟨30,[]⟩ (Bfx α n) (Af Tryz.f67) :=
 D3.OK.mk3a (Bcj α n) (by kernel_rfl:A9 _=[]) trivial (by kernel_rfl:Ax _=[(1,Ag Tryz.f67 5)]) ⟨⟨Bms n,trivial⟩,trivial⟩
theorem B5o:(Am7 n).Sound PP:=fk (fn:=Tryz.f67) (Brb _ n)

def f68 (a0:Int × Unit) (a1:LN) (a2:LR):Option (Eh × Int) :=
 ob (f113 n a0 a1 a2) λa =>
 bif (a.2 != 0) then
  some (((false,[],[]),[],(),false,[],[]),a.2)
 else
  gd (decide (0<=(W ((a.1.length:Int)-1)))&&decide ((W ((a.1.length:Int)-1))<(a.1.length:Int))) (
   let b:=a.1.getD ((W ((a.1.length:Int)-1)).toNat) ((false,[],[]),[],(),(false,[],[]))
   some (b,0))
def Bfw:Ent:=⟨68,[A4n,hE,hRs],[Do,hI],λx=>f68 n x.1 x.2.1 x.2.2⟩
def Bra:D3 α:=⟨[(1,⟨0,[],[(4,A3 (Arz n))]⟩)],[],[],[]⟩
theorem Bmr:(Bfw n).Sound PP:=B9 (fn:=Tryz.f68) (D:=Bra _ n) ⟨Axn n,trivial⟩

def f121 (n:Nat) (a0:Int) (a1:LR):Option Rq :=
 gd (decide (0<=a0)&&decide (a0<(a1.length:Int))) (
  let a:=a1.getD a0.toNat (false,[],[])
  some a)
def B8t:Ent:=⟨121,[hI,(.ref hRs)],[hR],λx=>f121 n x.1 x.2⟩
def Bpo (α:Type) (n:Nat):D3 α:=⟨[],[],[],[]⟩
theorem Bkc:(B8t n).Sound PP:=B9 (fn:=Tryz.f121) (D:=Bpo _ n) trivial

def Ta {α:Type} (c:LR) (d a:Int) (b:LR) (f:LR->Int->Int->LR->Option α) (k0:LR->Option α):Option α :=
 bif (decide (a<d)) then
  ob (f121 n a c) λe =>
  ob (f73 n e) λg =>
  gd (decide ((b.length+1)*56<=140737488355328)) (
   f c d (W (a+1)) (b++[g]))
 else
  k0 b
abbrev Lx:Tm:=⟨[(1,.d (.clo 121 (.ref hRs))),A4c,Ee,G0],[A4k],[17],[]⟩
abbrev T9:List (Exit × Tm):=[(.exit 0,Ph)]
def T8 {α:Type} (v:Lx.den) (f:Lx.den->Option α) (ks:KS α T9):Option α:=Ta n v.1.1 v.1.2.2.1 v.1.2.2.2.1 v.2.1 (λa b c d=>f ((a,(),b,c,()),(d,()))) (λw0=>ks.1 (((),()),(w0,())))
def O2 {α:Type} (n m:Nat) (a:LR) (b c:Int) (d:LR) (k0:LR->Option α):Option α:=A4 (T8 n) m ((a,(),b,c,()),(d,())) (λw=>k0 w.2.1,())
theorem Al2 {α n m a b c d k0}:O2 (α:=α) n (m+1) a b c d k0=Ta n a b c d (λa b c d=>O2 n m a b c d k0) k0:=rfl
def Ab9 (a0:Int) (a1:LR):Option LR :=
 O2 n n a1 a0 0 []
  (λa=>(
   some a))
def Aeg:Ent:=⟨102,[hI,(.clo 121 (.ref hRs))],[hRs],λx=>Ab9 n x.1 x.2⟩
def Zg:D3 α:=⟨[(1,⟨0,[],F5⟩),(5,⟨0,[],[(3,A3 (B8t n)),(4,A3 (Am6 n)),(5,B4 hR)]⟩)],[],[(3,⟨Lx,T9,A4 (T8 n) n⟩)],[]⟩
theorem A0v:Ap PP (Ae (Zg α n).reg):=⟨Bkc n,Ap5 n,trivial⟩
theorem Ahl:LO.Sound (α:=α) PP ⟨21,[]⟩ ⟨Lx,T9,A4 (T8 n) n⟩ (.loop (Ai Tryz.f102 75)):=Cb (D:=Zg α n) (A0v α n) n
theorem B2g:D3.OK PP TT ⟨21,[]⟩ (Zg α n) (Af Tryz.f102) :=
 D3.OK.mk3 (A0v α n) (by kernel_rfl:A9 _=[(3,.loop (Ai Tryz.f102 75))]) ⟨Aa rfl (Ahl α n),trivial⟩
theorem Auf:(Aeg n).Sound PP:=fk (fn:=Tryz.f102) (B2g _ n)

def f69 (a0:LR):Option LR :=
 ob (Ab9 n (a0.length:Int) a0) λa =>
 some a
def B03:Ent:=⟨69,[hRs],[hRs],λx=>f69 n x⟩
def Br9:D3 α:=⟨[(1,⟨0,[],[(2,B4 (.ref hRs)),(3,A3 (Aeg n))]⟩)],[],[],[]⟩
theorem B5m:(B03 n).Sound PP:=B9 (fn:=Tryz.f69) (D:=Br9 _ n) ⟨Auf n,trivial⟩

def f26 (a0:LN) (a1:LR):Option Il :=
 ob (f67 n a0 a1) λb =>
 bif (b != 0) then
  some ([],b)
 else
  ob (f68 n ((a1.length:Int),()) a0 a1) λa =>
  bif (a.2 != 0) then
   some ([],a.2)
  else
   ob (f69 n a.1.2.1) λc =>
   some (c,0)
def Bg7:Ent:=⟨26,[hE,hRs],[hRs,hI],λx=>f26 n x.1 x.2⟩
def Brt:D3 α:=⟨[(1,⟨0,[],[(2,A3 (Am7 n))]⟩),(4,⟨0,[],[(5,A3 (Bfw n))]⟩),(7,⟨0,[],[(2,A3 (B03 n))]⟩)],[],[],[]⟩
theorem Bn9:(Bg7 n).Sound PP:=B9 (fn:=Tryz.f26) (D:=Brt _ n) ⟨B5o n,Bmr n,B5m n,trivial⟩

def Ado (a0:Rq × LR × LR × Rq):Option Bool :=
 ob (f51 n a0.2.1) λa =>
 ob (f51 n a0.2.2.1) λb =>
 ob (f98 n a0.1) λc =>
 bif c then
  ob (f98 n a0.2.2.2) λd =>
  bif d then
   bif (a.2==0) then
    some (b.2==0)
   else
    some false
  else
   some false
 else
  some false
def Awk:Ent:=⟨180,[Df],[.bool],λx=>Ado n x⟩
def Biv:D3 α:=⟨[(1,⟨0,[],[(2,A3 (Y4 n))]⟩),(2,⟨0,[],[(2,A3 (Y4 n))]⟩),(3,⟨0,[],[(2,A3 (Ny n)),(6,A3 (Ny n))]⟩)],[],[],[]⟩
theorem Bd4:(Awk n).Sound PP:=B9 (fn:=Tryz.f180) (D:=Biv _ n) ⟨Vo n,Vo n,Ln n,Ln n,trivial⟩

def A3s {α:Type} (e:LR) (c:LN) (g b h:Int) (i:LR) (d:List D8) (f:LR->LN->Int->Int->Int->LR->(List D8)->Option α) (k0:Int->Option α) (k1:(List D8)->Option α):Option α :=
 bif (decide (b<g)) then
  gd (decide (0<=b)&&decide (b<(c.length:Int))) (
   let j:=c.getD b.toNat (0,0,0,0)
   ob (Oy n (h,i) j e d) λa =>
   gd (Nat.beq a.2.length d.length&&true) (
    bif (a.1.2 != 0) then
     k0 a.1.2
    else
     ob (Ado n a.1.1) λk =>
     bif (!k) then
      k0 7
     else
      gd (decide ((a.2.length+1)*160<=140737488355328)) (
       f e c g (W (b+1)) h i (a.2++[a.1.1]))))
 else
  k1 d
abbrev Ui:Tm:=⟨[Gm,C4,(8,.k (.hw 13)),(14,.d hNs),Pv,(16,.d hI)],[(3,.var 94 true false A4d),Al9],[10,11,36],[]⟩
abbrev B2b:Tm:=⟨[(8,.k (.hw 13))],[Al9],[3],[]⟩
abbrev A3r:List (Exit × Tm):=[(.ret,Akf),(.exit 0,B2b)]
def A3q {α:Type} (v:Ui.den) (f:Ui.den->Option α) (ks:KS α A3r):Option α:=A3s n v.1.1 v.1.2.2.2.1 v.1.2.2.2.2.1 v.1.2.2.2.2.2.1 v.2.1.1 v.2.1.2.1 v.2.2.1 (λa b c d e g h=>f ((a,(),(),b,c,d,()),((e,g,()),h,()))) (λw0=>ks.1 (((),w0,()),())) (λw0=>ks.2.1 (((),()),(w0,())))
def Zc {α:Type} (n m:Nat) (a:LR) (b:LN) (c d e:Int) (f:LR) (g:List D8) (k0:Int->Option α) (k1:(List D8)->Option α):Option α:=A4 (A3q n) m ((a,(),(),b,c,d,()),((e,f,()),g,())) (λw=>k0 w.1.2.1,λw=>k1 w.2.1,())
theorem B2a {α n m a b c d e f g k0 k1}:Zc (α:=α) n (m+1) a b c d e f g k0 k1=A3s n a b c d e f g (λa b c d e f g=>Zc n m a b c d e f g k0 k1) k0 k1:=rfl
def Amd (a0:Int × LR) (a1:LN) (a2:LR):Option ((List D8) × Int) :=
 Zc n n a2 a1 (a1.length:Int) 0 a0.1 a0.2 []
  (λa=>(
   some ([],a)))
  (λb=>(
   some (b,0)))
def Axm:Ent:=⟨113,[A4l,hNs,hRs],[(.sl Df),hI],λx=>Amd n x.1 x.2.1 x.2.2⟩
def Ahk:D3 α:=⟨[(1,⟨0,[],[(0,B4 Df)]⟩),(5,⟨0,[],[(4,{ alt:=[(Aba n)],hb:=310 })]⟩),(8,⟨0,[],[(1,A3 (Awk n))]⟩),(10,⟨0,[],[(2,B4 Df)]⟩)],[],[(3,⟨Ui,A3r,A4 (A3q n) n⟩)],[]⟩
theorem Aec:Ap PP (Ae (Ahk α n).reg):=⟨Akh n,Bd4 n,trivial⟩
theorem Aub:LO.Sound (α:=α) PP ⟨40,[]⟩ ⟨Ui,A3r,A4 (A3q n) n⟩ (.loop (Ai Tryz.f113 75)):=Cb (D:=Ahk α n) (Aec α n) n
theorem Bkj:D3.OK PP TT ⟨40,[]⟩ (Ahk α n) (Af Tryz.f113) :=
 D3.OK.mk3 (Aec α n) (by kernel_rfl:A9 _=[(3,.loop (Ai Tryz.f113 75))]) ⟨Aa rfl (Aub α n),trivial⟩
theorem Be6:(Axm n).Sound PP:=fk (fn:=Tryz.f113) (Bkj _ n)

def B04 (a0:Int × LR) (a1:LN) (a2:LR):Option (D8 × Int) :=
 ob (Amd n a0 a1 a2) λa =>
 bif (a.2 != 0) then
  some (((false,[],[]),[],[],false,[],[]),a.2)
 else
  gd (decide (0<=(W ((a.1.length:Int)-1)))&&decide ((W ((a.1.length:Int)-1))<(a.1.length:Int))) (
   let b:=a.1.getD ((W ((a.1.length:Int)-1)).toNat) ((false,[],[]),[],[],(false,[],[]))
   some (b,0))
def B5n:Ent:=⟨68,[A4l,hE,hRs],[Df,hI],λx=>B04 n x.1 x.2.1 x.2.2⟩
def Bmq:D3 α:=⟨[(1,⟨0,[],[(4,A3 (Axm n))]⟩)],[],[],[]⟩
theorem Bhw:(B5n n).Sound PP:=B9 (fn:=Tryz.f68) (D:=Bmq _ n) ⟨Be6 n,trivial⟩

abbrev B64:Tm:=⟨[F4,Gm,C4],[(3,.var 43 true false [.d hNs])],[],[]⟩
def f27 (a0:LN) (a1 a2:LR):Option Il :=
 ob (f71 n [a1,a2]) λc =>
 ob (f67 n a0 a1) λd =>
 ob (f72 n a1 a2) λe =>
 ob (f70 n [c,d,e]) λb =>
 bif (b != 0) then
  some ([],b)
 else
  ob (B04 n ((a1.length:Int),a2) a0 a1) λa =>
  bif (a.2 != 0) then
   some ([],a.2)
  else
   ob (f69 n a.1.2.2.1) λf =>
   some (f,0)
def Bg5:Ent:=⟨27,[hE,hRs,hRs],[hRs,hI],λx=>f27 n x.1 x.2.1 x.2.2⟩
abbrev Bf7:List (Nat × OA):=[(2,B4 hRs),(3,A3 (Q7 n)),(6,A3 (Am7 n)),(9,A3 (Ad0 n)),(10,B4 hI),(11,A3 (Lo n))]
def Bg6:D3 α:=⟨[(1,⟨0,[],(Bf7 n)⟩),(4,⟨0,[],[(6,A3 (B5n n))]⟩),(7,⟨0,[],[(2,A3 (B03 n))]⟩)],[],[],[(1,B64)]⟩
theorem Bn8:Ah TT ⟨42,[]⟩ (Bf7 n) B64 (Ag Tryz.f27 9):=by
 refine ⟨by kernel_rfl,λw q hq=>?_⟩
 obtain ⟨y0,q0,rfl,y1,q1,rfl,y2,q2,rfl,y3,q3,rfl,rfl⟩:=Be [(3,Q7 n),(6,Am7 n),(9,Ad0 n),(11,Lo n)] hq (by kernel_rfl)
 all_goals exact .inr ⟨9,by kernel_rfl,by kernel_rfl,by kernel_rfl⟩
theorem Bct:Ap PP (Ae (Bg6 α n).reg):=⟨Ad1 n,B5o n,B5i n,S1 n,Bhw n,B5m n,trivial⟩
theorem Brs:D3.OK PP TT ⟨42,[]⟩ (Bg6 α n) (Af Tryz.f27) :=
 D3.OK.mk3a (Bct α n) (by kernel_rfl:A9 _=[]) trivial (by kernel_rfl:Ax _=[(1,Ag Tryz.f27 9)]) ⟨⟨Bn8 n,trivial⟩,trivial⟩
theorem Bn7:(Bg5 n).Sound PP:=fk (fn:=Tryz.f27) (Brs _ n)

abbrev Bn0:Tm:=⟨[(14,.d hRs),Pv,Px,K0],[],[5,8,34],[]⟩
def f4 (a0 a1:LI):Option Bool :=
 bif (decide ((a0.length:Int)>1048576)) then
  some true
 else
  bif (decide ((a1.length:Int)>1048576)) then
   some true
  else
   ob (f20 n a0 3 true) λe =>
   ob (f21 n a1 3) λa =>
   gd (decide ((1+a1.length)*1<=140737488355328)) (
    ob (f21 n ([5]++a1) 3) λf =>
    ob (f22 n e) λb =>
    ob (f23 n b.1 a) λc =>
    ob (f24 n b.1 a) λh =>
    ob (f14 n b.1 a f) λd =>
    ob (f11 n b.1 a f) λi =>
    bif (b.2 != 0) then
     some false
    else
     bif (c.2 != h.2) then
      some false
     else
      ob (f25 n c.1 h.1) λl =>
      bif (!l) then
       some false
      else
       bif (d.2 != i.2) then
        some false
       else
        ob (f25 n d.1 i.1) λm =>
        bif (!m) then
         some false
        else
         ob (f26 n e a) λj =>
         ob (f27 n e a f) λk =>
         let g:=λ(_:Unit)=>(
          bif (d.2 != 0) then
           some true
          else
           bif (k.2 != 0) then
            some true
           else
            ob (f25 n d.1 k.1) λo =>
            some o)
         bif (c.2==0) then
          bif (j.2==0) then
           ob (f25 n c.1 j.1) λp =>
           bif (!p) then
            some false
           else
            g ()
          else
           g ()
         else
          g ())
def Bsj:Ent:=⟨4,[A12,A12],[.bool],λx=>f4 n x.1 x.2⟩
def Bsk:D3 α:=⟨[(3,⟨0,[],[(1,A3 (Bgb n))]⟩),(4,⟨0,[],[(1,A3 (B0k n))]⟩),(5,⟨0,[],[(0,B4 (.int .u8)),(3,{ ent:=some (B0k n),fz:=[(36,A12)] })]⟩),(6,⟨0,[],[(1,A3 (Bga n))]⟩),(7,⟨0,[],[(2,A3 (Bg9 n))]⟩),(8,⟨0,[],[(2,A3 (Bg8 n))]⟩),(9,⟨0,[],[(3,A3 (Bgc n))]⟩),(10,⟨0,[],[(3,A3 (Bgd n))]⟩),(11,⟨0,[],[(10,A3 (Ad8 n)),(21,A3 (Ad8 n))]⟩),(13,⟨0,[],[(2,A3 (Bg7 n))]⟩),(14,⟨0,[],[(3,A3 (Bg5 n))]⟩),(15,⟨0,[],[(9,A3 (Ad8 n))]⟩),(17,⟨0,[],[(9,A3 (Ad8 n))]⟩)],[(17,Bn0)],[],[]⟩
theorem Brl:(Bsj n).Sound PP:=B9 (fn:=Tryz.f4) (D:=Bsk _ n) ⟨Bnu n,B69 n,B69 n,Bnc n,Bnb n,Bna n,Bp7 n,Bpq n,Ad7 n,Ad7 n,Bn9 n,Bn7 n,Ad7 n,Ad7 n,trivial⟩

end Go.Ev
