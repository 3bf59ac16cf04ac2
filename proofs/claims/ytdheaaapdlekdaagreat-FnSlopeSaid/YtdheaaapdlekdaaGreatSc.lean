/- DERIVED. What the functions compute, and that they do. -/
import Derived.Test.YtdheaaapdlekdaaGreatSb

set_option linter.all false
set_option linter.unusedVariables false
set_option linter.unusedSimpArgs false

namespace Go.Ev
open Go Go.Proofs Go.RowKit Go.Shelf
abbrev Aod:Tm:=⟨[(1,.k (.hp 1 0 0)),(2,.k (.hp 2 0 0))],[(1,.var 54 true false [.d .bool,.d hIs,.d hIs]),(2,.var 54 true false [.d .bool,.d .nil,.d .nil])],[],[]⟩
def f127 (n:Nat) (a0:Rq):Option Rq :=
 gd (decide ((0+a0.2.1.length)*8<=140737488355328)) (
  gd (decide ((0+a0.2.2.length)*8<=140737488355328)) (
   some a0))
def Aiu (n:Nat):Ent:=⟨127,[hR],[hR],λx=>f127 n x⟩
def Ay4 (α:Type) (n:Nat):D3 α:={ reg:=[(1,⟨0,[],[(2,{ sh:=some hI }),(6,{ sh:=some hI })]⟩)],join:=[],loop:=[],any:=[(1,Aod)] }
set_option maxHeartbeats 8000000 in
theorem B81 (n:Nat):Al TT ⟨14,[]⟩ [(2,{ sh:=some hI }),(6,{ sh:=some hI })] Aod (A4 ((A1 Tryz.f127).at [1,0])):=by
 refine ⟨by kernel_rfl,λw q hq=>?_⟩
 have e:WT [(2,{ sh:=some hI }),(6,{ sh:=some hI })] (A8 (A4 ((A1 Tryz.f127).at [1,0])).toList) q=(q=[]):=by kernel_rfl
 rw [e] at hq;obtain rfl:=hq
 all_goals exact .inl (Hy.mk (by kernel_rfl))
theorem Ay3 (α:Type) (n:Nat):Ao PP (Ag (Ay4 α n).reg):=trivial
theorem Bd4 (α:Type) (n:Nat):D3.OK PP TT ⟨14,[]⟩ (Ay4 α n) (A1 Tryz.f127) :=
 D3.OK.mk3a (Ay3 α n) (show Ab (A1 Tryz.f127)=[] by kernel_rfl) trivial (show Ar (A1 Tryz.f127)=[(1,A4 ((A1 Tryz.f127).at [1,0]))] by kernel_rfl) ⟨⟨B81 n,trivial⟩,trivial⟩
theorem Aoc (n:Nat):(Aiu n).Sound PP:=fk (fn:=Tryz.f127) (Bd4 _ n)

def f75 (n:Nat) (a0:LN) (a1:LR):Option (Rq × Int) :=
 ob (f118 n (a1.length:Int)) λb =>
 ob (f126 n a0 a1 b b) λa =>
 bif (a.2 != 0) then
  some ((false,[],[]),a.2)
 else
  ob (f127 n a.1.1) λc =>
  some (c,0)
def B42 (n:Nat):Ent:=⟨75,[hE,hRs],[hR,hI],λx=>f75 n x.1 x.2⟩
def Beo (α:Type) (n:Nat):D3 α:={ reg:=[(1,⟨0,[],[(2,{ ent:=some (Pe n) })]⟩),(2,⟨0,[],[(4,{ ent:=some (Pb n) })]⟩),(5,⟨0,[],[(2,{ ent:=some (Aiu n) })]⟩)],join:=[],loop:=[] }
theorem Bac (n:Nat):(B42 n).Sound PP:=B0 (fn:=Tryz.f75) (D:=Beo _ n) ⟨Aof n,Aoe n,Aoc n,trivial⟩

def f29 (n:Nat) (a0:LN) (a1:LR):Option (Rq × Int) :=
 bif (decide ((a1.length:Int)>4096)) then
  some ((false,[],[]),2)
 else
  ob (f74 n a0 a1) λa =>
  bif (a != 0) then
   some ((false,[],[]),a)
  else
   ob (f75 n a0 a1) λb =>
   some (b.1,b.2)
def B49 (n:Nat):Ent:=⟨29,[hE,hRs],[hR,hI],λx=>f29 n x.1 x.2⟩
def Bf7 (α:Type) (n:Nat):D3 α:={ reg:=[(3,⟨0,[],[(2,{ ent:=some (Aq1 n) })]⟩),(6,⟨0,[],[(2,{ ent:=some (B42 n) })]⟩)],join:=[],loop:=[] }
theorem Bat (n:Nat):(B49 n).Sound PP:=B0 (fn:=Tryz.f29) (D:=Bf7 _ n) ⟨Aum n,Bac n,trivial⟩

def f72 (n:Nat) (a0 a1:LR):Option Int :=
 ob (f119 n a1) λa =>
 ob (f111 n a 1) λb =>
 ob (f111 n ((a1.length:Int)==(a0.length:Int)) 8) λc =>
 ob (f70 n [b,c]) λd =>
 some d
def Zx (n:Nat):Ent:=⟨72,[hRs,hRs],[hI],λx=>f72 n x.1 x.2⟩
def Ber (α:Type) (n:Nat):D3 α:={ reg:=[(1,⟨0,[],[(1,{ ent:=some (Lq n) }),(2,{ ent:=some (Gd n) }),(8,{ ent:=some (Gd n) }),(9,{ sh:=some hI }),(10,{ ent:=some (Gt n) })]⟩)],join:=[],loop:=[] }
theorem Bae (n:Nat):(Zx n).Sound PP:=B0 (fn:=Tryz.f72) (D:=Ber _ n) ⟨Aaq n,Np n,Np n,A72 n,trivial⟩

abbrev Aii:Tm:=⟨[(2,.k (.hp 2 0 0)),(3,.k (.hp 3 0 0)),(4,.k (.hp 4 0 0))],[(2,.var 94 true false [.d hI,.d hRs]),(3,.var 54 true false [.d .bool,.d hIs,.d hIs]),(4,.var 91 true false [.d .bool,.d .nil,.d .nil,.d .nil,.d .nil,.d .bool,.d .nil,.d .nil])],[],[]⟩
def Aee (n:Nat) (a0:Int × LR) (a1:Rq):Option (Rq × LR × LR × Rq) :=
 ob (f64 n a0.1) λa =>
 ob (f97 n 0) λb =>
 gd ((!a0.2.isEmpty)) (
  ob (f64 n a0.1) λc =>
  some (a1,a,c,b))
def Ao1 (n:Nat):Ent:=⟨163,[(.st (.pair hI hRs)),hR],[(.st (.pair hR (.pair hRs (.pair hRs hR))))],λx=>Aee n x.1 x.2⟩
def Ao2 (α:Type) (n:Nat):D3 α:={ reg:=[(1,⟨0,[],[(3,{ ent:=some (Hu n) }),(4,{ ent:=some (At n) })]⟩),(3,⟨0,[],[(2,{ ent:=some (Hu n) })]⟩)],join:=[],loop:=[],any:=[(1,Aii)] }
set_option maxHeartbeats 8000000 in
theorem B2g (n:Nat):Al TT ⟨20,[]⟩ [(3,{ ent:=some (Hu n) }),(4,{ ent:=some (At n) })] Aii (A4 ((A1 Tryz.f163).at [1,0])):=by
 refine ⟨by kernel_rfl,λw q hq=>?_⟩
 have e:WT [(3,{ ent:=some (Hu n) }),(4,{ ent:=some (At n) })] (A8 (A4 ((A1 Tryz.f163).at [1,0])).toList) q=(∃ (y0:HL (Hu n).rs) (q0:List (Nat × RV)),q=(3,.sv (Ae (Hu n).rs y0))::q0 /\ ∃ (y1:HL (At n).rs) (q1:List (Nat × RV)),q0=(4,.sv (Ae (At n).rs y1))::q1/\q1=[]):=by kernel_rfl
 rw [e] at hq;obtain ⟨y0,q0,rfl,y1,q1,rfl,rfl⟩:=hq
 all_goals exact .inr ⟨7,by kernel_rfl,by kernel_rfl,by kernel_rfl⟩
theorem Are (α:Type) (n:Nat):Ao PP (Ag (Ao2 α n).reg):=⟨Ags n,Bi n,Ags n,trivial⟩
theorem B7d (α:Type) (n:Nat):D3.OK PP TT ⟨20,[]⟩ (Ao2 α n) (A1 Tryz.f163) :=
 D3.OK.mk3a (Are α n) (show Ab (A1 Tryz.f163)=[] by kernel_rfl) trivial (show Ar (A1 Tryz.f163)=[(1,A4 ((A1 Tryz.f163).at [1,0]))] by kernel_rfl) ⟨⟨B2g n,trivial⟩,trivial⟩
theorem B2f (n:Nat):(Ao1 n).Sound PP:=fk (fn:=Tryz.f163) (B7d _ n)

abbrev Acs:Tm:=⟨[(2,.k (.hp 2 0 0)),(3,.k (.hp 3 0 0)),(4,.k (.hp 4 0 0))],[(2,.var 94 true false [.d hI,.d hRs]),(3,.var 54 true false [.d .bool,.d hIs,.d hIs]),(4,.var 91 true false [.d .bool,.d .nil,.d .nil,.d .nil,.d .nil,.d .bool,.d .nil,.d .nil])],[],[]⟩
def Aim (n:Nat) (a0:Int × LR) (a1:Rq):Option (Bool × LI × LI × LR × LR × Bool × LI × LI) :=
 ob (Xo n a0.1) λb =>
 ob (f97 n 0) λa =>
 gd ((!a0.2.isEmpty)) (
  ob (Xo n a0.1) λc =>
  some (a1.1,a1.2.1,a1.2.2,b,c,a.1,a.2.1,a.2.2))
def Aik (n:Nat):Ent3:=⟨163,[.im (.st (.pair hI hRs)),.im hR],[[.mix [.im .bool,.im hIs,.im hIs,.own 54 hR,.own 54 hR,.im .bool,.im hIs,.im hIs]]],λx=>Aim n x.1 x.2,[]⟩
def Ail (α:Type) (n:Nat):D3 α:={ reg:=[(1,⟨0,[],[(3,{ entB:=some (E8 n),hb:=310 }),(4,{ ent:=some (At n) })]⟩),(3,⟨0,[],[(2,{ entB:=some (E8 n),hb:=320 })]⟩)],join:=[],loop:=[],any:=[(1,Acs)] }
set_option maxHeartbeats 8000000 in
theorem Ax7 (n:Nat):Al TT ⟨20,[]⟩ [(3,{ entB:=some (E8 n),hb:=310 }),(4,{ ent:=some (At n) })] Acs (A4 ((A1 Tryz.f163).at [1,0])):=by
 refine ⟨by kernel_rfl,λw q hq=>?_⟩
 have e:WT [(3,{ entB:=some (E8 n),hb:=310 }),(4,{ ent:=some (At n) })] (A8 (A4 ((A1 Tryz.f163).at [1,0])).toList) q=(∃ (y0:HF (Am 1000 (E8 n).ts) (E8 n).forms) (q0:List (Nat × RV)),q=(3,.bx (E8 n) y0)::q0 /\ ∃ (y1:HL (At n).rs) (q1:List (Nat × RV)),q0=(4,.sv (Ae (At n).rs y1))::q1/\q1=[]):=by kernel_rfl
 rw [e] at hq;obtain ⟨y0,q0,rfl,y1,q1,rfl,rfl⟩:=hq
 all_goals exact .inl (Hy.mk (by kernel_rfl))
theorem Alb (α:Type) (n:Nat):Ao PP (Ag (Ail α n).reg):=⟨A9y n,Bi n,A9y n,trivial⟩
theorem B2j (α:Type) (n:Nat):D3.OK PP TT ⟨20,[]⟩ (Ail α n) (A1 Tryz.f163) :=
 D3.OK.mk3a (Alb α n) (show Ab (A1 Tryz.f163)=[] by kernel_rfl) trivial (show Ar (A1 Tryz.f163)=[(1,A4 ((A1 Tryz.f163).at [1,0]))] by kernel_rfl) ⟨⟨Ax7 n,trivial⟩,trivial⟩
theorem Ax6 (n:Nat):(Aik n).Sound PP:=fkB (fn:=Tryz.f163) (B2j _ n)

abbrev B2e:Tm:=⟨[(2,.d hI),(3,.k (.hp 3 0 0)),(6,.k (.hp 6 0 0)),(7,.k (.hp 7 0 0))],[(3,.var 94 true false [.d hI,.d hRs]),(6,.var 91 true false [.d .bool,.d .nil,.d .nil,.d .nil,.d .nil,.d .bool,.d .nil,.d .nil]),(7,.var 91 false false [.d .bool,.d hIs,.d hIs,.k (.hw 313),.k (.hw 314),.d .bool,.d hIs,.d hIs]),(313,.arr 54 hR false),(314,.arr 54 hR false)],[4],[]⟩
def Aed (n:Nat) (a0:Int × LR) (a1:Rq) (a2:Int):Option (Rq × LR × LR × Rq) :=
 ob (Aim n a0 a1) λa =>
 let b:=λ(c:LR)=>(
  gd ((!a0.2.isEmpty)) (
   gd (decide (0<=a2)&&decide (a2<(a0.2.length:Int))) (
    let d:=a0.2.getD a2.toNat (false,[],[])
    some ((a.1,a.2.1,a.2.2.1),c,a.2.2.2.2.1,d))))
 bif (decide (a2<a0.1)) then
  ob (f97 n 1) λe =>
  gd (decide (0<=a2)&&decide (a2<(a.2.2.2.1.length:Int))) (
   gd (decide (a2.toNat<a.2.2.2.1.length)) (
    b (a.2.2.2.1.set a2.toNat e)))
 else
  b a.2.2.2.1
def Ao0 (n:Nat):Ent:=⟨164,[(.st (.pair hI hRs)),hR,hI],[(.st (.pair hR (.pair hRs (.pair hRs hR))))],λx=>Aed n x.1 x.2.1 x.2.2⟩
def B7a (α:Type) (n:Nat):D3 α:={ reg:=[(1,⟨0,[],[(2,{ alt:=[(Aik n)],hb:=310 })]⟩),(3,⟨4,[],[(3,{ ent:=some (At n) })]⟩)],join:=[(4,B2e)],loop:=[] }
theorem B2d (n:Nat):(Ao0 n).Sound PP:=B0 (fn:=Tryz.f164) (D:=B7a _ n) ⟨Ax6 n,Bi n,trivial⟩

def Awy {α:Type} (n:Nat) (c:LR) (i a:Int) (s:Bool) (t u:LI) (v b:LR) (w:Bool) (x y:LI) (z:Bool) (d0 d1:LI) (d e:LR) (d2:Bool) (d3 d4:LI) (j k l:Bool) (m o:LI) (p:Bool) (q r:LI) (g h:LR) (f:LR->Int->Int->Bool->LI->LI->LR->LR->Bool->LI->LI->Bool->LI->LI->LR->LR->Bool->LI->LI->Bool->Bool->Bool->LI->LI->Bool->LI->LI->LR->LR->Option α) (k0:Bool->Bool->Bool->LI->LI->Bool->LI->LI->LR->LR->Option α):Option α :=
 bif (decide (a<i)) then
  gd (decide (0<=a)&&decide (a<(c.length:Int))) (
   let d5:=c.getD a.toNat (false,[],[])
   gd (decide (0<=a)&&decide (a<(d.length:Int))) (
    let d6:=d.getD a.toNat (false,[],[])
    ob (f99 n d5 d6) λd7 =>
    gd (decide ((g.length+1)*56<=140737488355328)) (
     gd ((!b.isEmpty)) (
      gd (decide (0<=a)&&decide (a<(b.length:Int))) (
       let d8:=b.getD a.toNat (false,[],[])
       gd (decide (0<=a)&&decide (a<(e.length:Int))) (
        let d9:=e.getD a.toNat (false,[],[])
        ob (f99 n d8 d9) λe0 =>
        gd (decide ((h.length+1)*56<=140737488355328)) (
         f c i (W (a+1)) s t u v b w x y z d0 d1 d e d2 d3 d4 j k l m o p q r (g++[d7]) (h++[e0]))))))))
 else
  k0 j k l m o p q r g h
abbrev Qf:Tm:=⟨[(2,.k (.hp 2 0 0)),(3,.k (.hp 3 0 0)),(4,.k (.hp 4 0 0)),(5,.k (.hp 5 0 0)),(20,.d hRs),(21,.d hI),(22,.d hI)],[(2,.var 91 true false [.d .bool,.d hIs,.d hIs,.d hRs,.d hRs,.d .bool,.d hIs,.d hIs]),(3,.var 91 true false [.d .bool,.d hIs,.d hIs,.d hRs,.d hRs,.d .bool,.d hIs,.d hIs]),(4,.var 91 true false [.d .bool,.d .nil,.d .nil,.d .nil,.d .nil,.d .bool,.d .nil,.d .nil]),(5,.var 91 false false [.d .bool,.d hIs,.d hIs,.k (.hw 37),.k (.hw 56),.d .bool,.d hIs,.d hIs]),(37,.arr 54 hR false),(56,.arr 54 hR false)],[55],[]⟩
abbrev Arc:Tm:=⟨[(4,.k (.hp 4 0 0)),(5,.k (.hp 5 0 0))],[(4,.var 91 true false [.d .bool,.d .nil,.d .nil,.d .nil,.d .nil,.d .bool,.d .nil,.d .nil]),(5,.var 91 false false [.d .bool,.d hIs,.d hIs,.k (.hw 37),.k (.hw 56),.d .bool,.d hIs,.d hIs]),(37,.arr 54 hR false),(56,.arr 54 hR false)],[2,3],[]⟩
abbrev Yf:List (Exit × Tm):=[(.exit 0,Arc)]
def Ye {α:Type} (n:Nat) (v:Qf.den) (f:Qf.den->Option α) (ks:KS α Yf):Option α:=Awy n v.1.2.2.2.2.1 v.1.2.2.2.2.2.1 v.1.2.2.2.2.2.2.1 v.2.1.1 v.2.1.2.1 v.2.1.2.2.1 v.2.1.2.2.2.1 v.2.1.2.2.2.2.1 v.2.1.2.2.2.2.2.1 v.2.1.2.2.2.2.2.2.1 v.2.1.2.2.2.2.2.2.2.1 v.2.2.1.1 v.2.2.1.2.1 v.2.2.1.2.2.1 v.2.2.1.2.2.2.1 v.2.2.1.2.2.2.2.1 v.2.2.1.2.2.2.2.2.1 v.2.2.1.2.2.2.2.2.2.1 v.2.2.1.2.2.2.2.2.2.2.1 v.2.2.2.1.1 v.2.2.2.1.2.2.2.2.2.1 v.2.2.2.2.1.1 v.2.2.2.2.1.2.1 v.2.2.2.2.1.2.2.1 v.2.2.2.2.1.2.2.2.2.2.1 v.2.2.2.2.1.2.2.2.2.2.2.1 v.2.2.2.2.1.2.2.2.2.2.2.2.1 v.2.2.2.2.2.1 v.2.2.2.2.2.2.1 (λa b c d e g h i j k l m o p q r s t u w x y z d0 d1 d2 d3 d4 d5=>f (((),(),(),(),a,b,c,()),((d,e,g,h,i,j,k,l,()),(m,o,p,q,r,s,t,u,()),(w,(),(),(),(),x,(),(),()),(y,z,d0,(),(),d1,d2,d3,()),d4,d5,()))) (λw0 w1 w2 w3 w4 w5 w6 w7 w8 w9=>ks.1 (((),(),()),((w0,(),(),(),(),w1,(),(),()),(w2,w3,w4,(),(),w5,w6,w7,()),w8,w9,())))
def B2b {α:Type} (n m:Nat) (a:LR) (b c:Int) (d:Bool) (e f:LI) (g h:LR) (i:Bool) (j k:LI) (l:Bool) (o p:LI) (q r:LR) (s:Bool) (t u:LI) (v x y:Bool) (z d0:LI) (d1:Bool) (d2 d3:LI) (d4 d5:LR) (k0:Bool->Bool->Bool->LI->LI->Bool->LI->LI->LR->LR->Option α):Option α:=A5 (Ye n) m (((),(),(),(),a,b,c,()),((d,e,f,g,h,i,j,k,()),(l,o,p,q,r,s,t,u,()),(v,(),(),(),(),x,(),(),()),(y,z,d0,(),(),d1,d2,d3,()),d4,d5,())) (λw=>k0 w.2.1.1 w.2.1.2.2.2.2.2.1 w.2.2.1.1 w.2.2.1.2.1 w.2.2.1.2.2.1 w.2.2.1.2.2.2.2.2.1 w.2.2.1.2.2.2.2.2.2.1 w.2.2.1.2.2.2.2.2.2.2.1 w.2.2.2.1 w.2.2.2.2.1,())
abbrev Aid:Tm:=⟨[(2,.k (.hp 2 0 0)),(3,.k (.hp 3 0 0)),(4,.k (.hp 4 0 0))],[(2,.var 91 true false [.d .bool,.d hIs,.d hIs,.d hRs,.d hRs,.d .bool,.d hIs,.d hIs]),(3,.var 91 true false [.d .bool,.d hIs,.d hIs,.d hRs,.d hRs,.d .bool,.d hIs,.d hIs]),(4,.var 91 true false [.d .bool,.d .nil,.d .nil,.d .nil,.d .nil,.d .bool,.d .nil,.d .nil])],[],[]⟩
abbrev Aic:Tm:=⟨[(2,.k (.hp 2 0 0)),(3,.k (.hp 3 0 0)),(4,.k (.hp 4 0 0)),(5,.k (.hp 5 0 0)),(6,.d hI),(7,.k (.hp 7 0 0)),(20,.d hRs),(21,.d hI),(22,.d hI)],[(2,.var 91 true false [.d .bool,.d hIs,.d hIs,.d hRs,.d hRs,.d .bool,.d hIs,.d hIs]),(3,.var 91 true false [.d .bool,.d hIs,.d hIs,.d hRs,.d hRs,.d .bool,.d hIs,.d hIs]),(4,.var 91 true false [.d .bool,.d .nil,.d .nil,.d .nil,.d .nil,.d .bool,.d .nil,.d .nil]),(5,.var 91 true false [.d .bool,.d hIs,.d hIs,.d .nil,.d .nil,.d .bool,.d hIs,.d hIs]),(7,.var 54 true false [.d .bool,.d hIs,.d hIs])],[],[]⟩
abbrev A81:Tm:=⟨[(2,.k (.hp 2 0 0)),(3,.k (.hp 3 0 0)),(4,.k (.hp 4 0 0)),(5,.k (.hp 5 0 0)),(6,.d hI),(7,.k (.hp 7 0 0)),(20,.d hRs),(21,.d hI),(22,.d hI)],[(2,.var 91 true false [.d .bool,.d hIs,.d hIs,.d hRs,.d hRs,.d .bool,.d hIs,.d hIs]),(3,.var 91 true false [.d .bool,.d hIs,.d hIs,.d hRs,.d hRs,.d .bool,.d hIs,.d hIs]),(4,.var 91 true false [.d .bool,.d .nil,.d .nil,.d .nil,.d .nil,.d .bool,.d .nil,.d .nil]),(5,.var 91 false false [.d .bool,.d hIs,.d hIs,.k (.hw 37),.k (.hw 56),.d .bool,.d hIs,.d hIs]),(7,.var 54 true false [.d .bool,.d hIs,.d hIs]),(37,.arr 54 hR false),(56,.arr 54 hR false)],[],[]⟩
abbrev Aib:Tm:=⟨[(2,.k (.hp 2 0 0)),(3,.k (.hp 3 0 0)),(4,.k (.hp 4 0 0)),(5,.k (.hp 5 0 0)),(6,.d hI),(20,.d hRs),(21,.d hI),(22,.d hI)],[(2,.var 91 true false [.d .bool,.d hIs,.d hIs,.d hRs,.d hRs,.d .bool,.d hIs,.d hIs]),(3,.var 91 true false [.d .bool,.d hIs,.d hIs,.d hRs,.d hRs,.d .bool,.d hIs,.d hIs]),(4,.var 91 true false [.d .bool,.d .nil,.d .nil,.d .nil,.d .nil,.d .bool,.d .nil,.d .nil]),(5,.var 91 false false [.d .bool,.d hIs,.d hIs,.k (.hw 37),.d .nil,.d .bool,.d hIs,.d hIs]),(37,.arr 54 hR false)],[7,36],[]⟩
abbrev A80:Tm:=⟨[(2,.k (.hp 2 0 0)),(3,.k (.hp 3 0 0)),(4,.k (.hp 4 0 0)),(5,.k (.hp 5 0 0)),(6,.d hI),(20,.d hRs),(21,.d hI),(22,.d hI)],[(2,.var 91 true false [.d .bool,.d hIs,.d hIs,.d hRs,.d hRs,.d .bool,.d hIs,.d hIs]),(3,.var 91 true false [.d .bool,.d hIs,.d hIs,.d hRs,.d hRs,.d .bool,.d hIs,.d hIs]),(4,.var 91 true false [.d .bool,.d .nil,.d .nil,.d .nil,.d .nil,.d .bool,.d .nil,.d .nil]),(5,.var 91 false false [.d .bool,.d hIs,.d hIs,.k (.hw 37),.k (.hw 56),.d .bool,.d hIs,.d hIs]),(37,.arr 54 hR false),(56,.arr 54 hR false)],[7,36],[]⟩
def My (n:Nat) (a0 a1:Rq × LR × LR × Rq):Option (Rq × LR × LR × Rq) :=
 ob (f99 n a0.1 a1.1) λa =>
 ob (f99 n a0.2.2.2 a1.2.2.2) λb =>
 bif (decide (0<(a0.2.1.length:Int))) then
  gd (decide (0<(a0.2.1.length:Int))) (
   let c:=a0.2.1.getD 0 (false,[],[])
   gd (decide (0<(a1.2.1.length:Int))) (
    let d:=a1.2.1.getD 0 (false,[],[])
    ob (f99 n c d) λe =>
    gd ((!a0.2.2.1.isEmpty)) (
     gd (decide (0<(a0.2.2.1.length:Int))) (
      let f:=a0.2.2.1.getD 0 (false,[],[])
      gd (decide (0<(a1.2.2.1.length:Int))) (
       let g:=a1.2.2.1.getD 0 (false,[],[])
       ob (f99 n f g) λh =>
       B2b n n a0.2.1 (a0.2.1.length:Int) 1 a0.1.1 a0.1.2.1 a0.1.2.2 a0.2.1 a0.2.2.1 a0.2.2.2.1 a0.2.2.2.2.1 a0.2.2.2.2.2 a1.1.1 a1.1.2.1 a1.1.2.2 a1.2.1 a1.2.2.1 a1.2.2.2.1 a1.2.2.2.2.1 a1.2.2.2.2.2 false false a.1 a.2.1 a.2.2 b.1 b.2.1 b.2.2 [e] [h]
        (λr s i j k l m o p q=>(
         some ((i,j,k),p,q,l,m,o))))))))
 else
  some (a,[],[],b)
def Aai (n:Nat):Ent:=⟨165,[(.st (.pair hR (.pair hRs (.pair hRs hR)))),(.st (.pair hR (.pair hRs (.pair hRs hR))))],[(.st (.pair hR (.pair hRs (.pair hRs hR))))],λx=>My n x.1 x.2⟩
def Aaj (α:Type) (n:Nat):D3 α:={ reg:=[(1,⟨0,[],[(4,{ ent:=some (Ad n) }),(9,{ ent:=some (Ad n) })]⟩),(5,⟨0,[],[(8,{ ent:=some (Ad n) }),(9,{ sh:=some hR }),(10,{ sh:=some hR })]⟩),(7,⟨0,[],[(12,{ ent:=some (Ad n) }),(13,{ sh:=some hR }),(14,{ sh:=some hR })]⟩)],join:=[],loop:=[(3,⟨Qf,Yf,A5 (Ye n) n⟩)],any:=[(1,Aid),(5,Aic),(5,A81),(7,Aib),(7,A80)] }
set_option maxHeartbeats 8000000 in
theorem B2c (n:Nat):Al TT ⟨60,[]⟩ [(4,{ ent:=some (Ad n) }),(9,{ ent:=some (Ad n) })] Aid (A4 ((A1 Tryz.f165).at [1,0])):=by
 refine ⟨by kernel_rfl,λw q hq=>?_⟩
 have e:WT [(4,{ ent:=some (Ad n) }),(9,{ ent:=some (Ad n) })] (A8 (A4 ((A1 Tryz.f165).at [1,0])).toList) q=(∃ (y0:HL (Ad n).rs) (q0:List (Nat × RV)),q=(4,.sv (Ae (Ad n).rs y0))::q0 /\ ∃ (y1:HL (Ad n).rs) (q1:List (Nat × RV)),q0=(9,.sv (Ae (Ad n).rs y1))::q1/\q1=[]):=by kernel_rfl
 rw [e] at hq;obtain ⟨y0,q0,rfl,y1,q1,rfl,rfl⟩:=hq
 all_goals exact .inr ⟨12,by kernel_rfl,by kernel_rfl,by kernel_rfl⟩
set_option maxHeartbeats 8000000 in
theorem Aif (n:Nat):Al TT ⟨60,[]⟩ [(8,{ ent:=some (Ad n) }),(9,{ sh:=some hR }),(10,{ sh:=some hR })] Aic (A4 ((A1 Tryz.f165).at [1,1,0,1,0,0,1,1,0,0,1,0])):=by
 refine ⟨by kernel_rfl,λw q hq=>?_⟩
 have e:WT [(8,{ ent:=some (Ad n) }),(9,{ sh:=some hR }),(10,{ sh:=some hR })] (A8 (A4 ((A1 Tryz.f165).at [1,1,0,1,0,0,1,1,0,0,1,0])).toList) q=(∃ (y0:HL (Ad n).rs) (q0:List (Nat × RV)),q=(8,.sv (Ae (Ad n).rs y0))::q0/\q0=[]):=by kernel_rfl
 rw [e] at hq;obtain ⟨y0,q0,rfl,rfl⟩:=hq
 all_goals exact .inr ⟨10,by kernel_rfl,by kernel_rfl,by kernel_rfl⟩
set_option maxHeartbeats 8000000 in
theorem A83 (n:Nat):Al TT ⟨60,[]⟩ [(8,{ ent:=some (Ad n) }),(9,{ sh:=some hR }),(10,{ sh:=some hR })] A81 (A4 ((A1 Tryz.f165).at [1,1,0,1,0,0,1,1,0,0,1,0])):=by
 refine ⟨by kernel_rfl,λw q hq=>?_⟩
 have e:WT [(8,{ ent:=some (Ad n) }),(9,{ sh:=some hR }),(10,{ sh:=some hR })] (A8 (A4 ((A1 Tryz.f165).at [1,1,0,1,0,0,1,1,0,0,1,0])).toList) q=(∃ (y0:HL (Ad n).rs) (q0:List (Nat × RV)),q=(8,.sv (Ae (Ad n).rs y0))::q0/\q0=[]):=by kernel_rfl
 rw [e] at hq;obtain ⟨y0,q0,rfl,rfl⟩:=hq
 all_goals exact .inr ⟨10,by kernel_rfl,by kernel_rfl,by kernel_rfl⟩
set_option maxHeartbeats 8000000 in
theorem Aie (n:Nat):Al TT ⟨60,[]⟩ [(12,{ ent:=some (Ad n) }),(13,{ sh:=some hR }),(14,{ sh:=some hR })] Aib (A4 ((A1 Tryz.f165).at [1,1,0,1,0,0,1,1,0,0,1,1,1,0])):=by
 refine ⟨by kernel_rfl,λw q hq=>?_⟩
 have e:WT [(12,{ ent:=some (Ad n) }),(13,{ sh:=some hR }),(14,{ sh:=some hR })] (A8 (A4 ((A1 Tryz.f165).at [1,1,0,1,0,0,1,1,0,0,1,1,1,0])).toList) q=(∃ (y0:HL (Ad n).rs) (q0:List (Nat × RV)),q=(12,.sv (Ae (Ad n).rs y0))::q0/\q0=[]):=by kernel_rfl
 rw [e] at hq;obtain ⟨y0,q0,rfl,rfl⟩:=hq
 all_goals exact .inr ⟨14,by kernel_rfl,by kernel_rfl,by kernel_rfl⟩
set_option maxHeartbeats 8000000 in
theorem A82 (n:Nat):Al TT ⟨60,[]⟩ [(12,{ ent:=some (Ad n) }),(13,{ sh:=some hR }),(14,{ sh:=some hR })] A80 (A4 ((A1 Tryz.f165).at [1,1,0,1,0,0,1,1,0,0,1,1,1,0])):=by
 refine ⟨by kernel_rfl,λw q hq=>?_⟩
 have e:WT [(12,{ ent:=some (Ad n) }),(13,{ sh:=some hR }),(14,{ sh:=some hR })] (A8 (A4 ((A1 Tryz.f165).at [1,1,0,1,0,0,1,1,0,0,1,1,1,0])).toList) q=(∃ (y0:HL (Ad n).rs) (q0:List (Nat × RV)),q=(12,.sv (Ae (Ad n).rs y0))::q0/\q0=[]):=by kernel_rfl
 rw [e] at hq;obtain ⟨y0,q0,rfl,rfl⟩:=hq
 all_goals exact .inr ⟨14,by kernel_rfl,by kernel_rfl,by kernel_rfl⟩
theorem A7z (α:Type) (n:Nat):Ao PP (Ag (Aaj α n).reg):=⟨D8 n,D8 n,D8 n,D8 n,trivial⟩
theorem Arb (α:Type) (n:Nat):D3.OK PP TT ⟨60,[]⟩ (Aaj α n) ((A1 Tryz.f165).at [1,1,0,1,0,0]) :=
 D3.OK.mk3a (A7z α n) (show Ab ((A1 Tryz.f165).at [1,1,0,1,0,0])=[] by kernel_rfl) trivial (show Ar ((A1 Tryz.f165).at [1,1,0,1,0,0])=[(5,A4 ((A1 Tryz.f165).at [1,1,0,1,0,0,1,1,0,0,1,0])),(7,A4 ((A1 Tryz.f165).at [1,1,0,1,0,0,1,1,0,0,1,1,1,0]))] by kernel_rfl) ⟨⟨Aif n,A83 n,trivial⟩,⟨Aie n,A82 n,trivial⟩,trivial⟩
theorem Ala (α:Type) (n:Nat):LO.Sound (α:=α) PP ⟨60,[]⟩ ⟨Qf,Yf,A5 (Ye n) n⟩ (.loop ((A1 Tryz.f165).at [1,1,0,1,0,0])):=lk (Arb α n) n
theorem B78 (α:Type) (n:Nat):D3.OK PP TT ⟨60,[]⟩ (Aaj α n) (A1 Tryz.f165) :=
 D3.OK.mk3a (A7z α n) (show Ab (A1 Tryz.f165)=[(3,(.loop ((A1 Tryz.f165).at [1,1,0,1,0,0])))] by kernel_rfl) ⟨Ac rfl (Ala α n),trivial⟩ (show Ar (A1 Tryz.f165)=[(1,A4 ((A1 Tryz.f165).at [1,0])),(5,A4 ((A1 Tryz.f165).at [1,1,0,1,0,0,1,1,0,0,1,0])),(7,A4 ((A1 Tryz.f165).at [1,1,0,1,0,0,1,1,0,0,1,1,1,0]))] by kernel_rfl) ⟨⟨B2c n,trivial⟩,⟨Aif n,A83 n,trivial⟩,⟨Aie n,A82 n,trivial⟩,trivial⟩
theorem Aia (n:Nat):(Aai n).Sound PP:=fk (fn:=Tryz.f165) (B78 _ n)

def f209 (n:Nat) (a0:Int) (a1:Bool × LI × LI × LR × LR × Bool × LI × LI) (a2:Rq):Option Rq :=
 gd (decide (0<=a0)&&decide (a0<(a1.2.2.2.2.1.length:Int))) (
  let a:=a1.2.2.2.2.1.getD a0.toNat (false,[],[])
  ob (f162 n a a2) λb =>
  some b)
def Hj (n:Nat):Ent:=⟨209,[hI,(.ref (.st (.pair .bool (.pair hIs (.pair hIs (.pair hRs (.pair hRs (.pair .bool (.pair hIs hIs))))))))),(.ref hR)],[hR],λx=>f209 n x.1 x.2.1 x.2.2⟩
def Bbe (α:Type) (n:Nat):D3 α:={ reg:=[(1,⟨6,[],[(6,{ ent:=some (A9 n) })]⟩)],join:=[],loop:=[] }
theorem B63 (n:Nat):(Hj n).Sound PP:=B0 (fn:=Tryz.f209) (D:=Bbe _ n) ⟨Av n,trivial⟩

def A1a {α:Type} (n:Nat) (g:Rq) (b:(Bool × LI × LI × LR × LR × Bool × LI × LI) × Rq) (c:LR) (h a:Int) (s:Bool) (t u:LI) (v i:LR) (w:Bool) (x y:LI) (j k l:Bool) (m o:LI) (p:Bool) (q r:LI) (d e:LR) (f:Rq->((Bool × LI × LI × LR × LR × Bool × LI × LI) × Rq)->LR->Int->Int->Bool->LI->LI->LR->LR->Bool->LI->LI->Bool->Bool->Bool->LI->LI->Bool->LI->LI->LR->LR->Option α) (k0:Bool->Bool->Bool->LI->LI->Bool->LI->LI->LR->LR->Option α):Option α :=
 bif (decide (a<h)) then
  gd (decide (0<=a)&&decide (a<(c.length:Int))) (
   let z:=c.getD a.toNat (false,[],[])
   ob (f208 n z g) λd0 =>
   gd (decide ((d.length+1)*56<=140737488355328)) (
    gd ((!i.isEmpty)) (
     ob (f209 n a b.1 b.2) λd1 =>
     gd (decide ((e.length+1)*56<=140737488355328)) (
      f g b c h (W (a+1)) s t u v i w x y j k l m o p q r (d++[d0]) (e++[d1])))))
 else
  k0 j k l m o p q r d e
abbrev Eo:Tm:=⟨[(3,.d (.clo 208 (.ref hR))),(4,.d (.clo 209 (.pair (.ref (.st (.pair .bool (.pair hIs (.pair hIs (.pair hRs (.pair hRs (.pair .bool (.pair hIs hIs))))))))) (.ref hR)))),(5,.k (.hp 5 0 0)),(10,.k (.hp 10 0 0)),(11,.k (.hp 11 0 0)),(18,.d hRs),(19,.d hI),(20,.d hI)],[(5,.var 91 true false [.d .bool,.d hIs,.d hIs,.d hRs,.d hRs,.d .bool,.d hIs,.d hIs]),(10,.var 91 true false [.d .bool,.d .nil,.d .nil,.d .nil,.d .nil,.d .bool,.d .nil,.d .nil]),(11,.var 91 false false [.d .bool,.d hIs,.d hIs,.k (.hw 31),.k (.hw 42),.d .bool,.d hIs,.d hIs]),(31,.arr 54 hR false),(42,.arr 54 hR false)],[41],[]⟩
abbrev Y4:Tm:=⟨[(10,.k (.hp 10 0 0)),(11,.k (.hp 11 0 0))],[(10,.var 91 true false [.d .bool,.d .nil,.d .nil,.d .nil,.d .nil,.d .bool,.d .nil,.d .nil]),(11,.var 91 false false [.d .bool,.d hIs,.d hIs,.k (.hw 31),.k (.hw 42),.d .bool,.d hIs,.d hIs]),(31,.arr 54 hR false),(42,.arr 54 hR false)],[5],[]⟩
abbrev H4:List (Exit × Tm):=[(.exit 0,Y4)]
def H3 {α:Type} (n:Nat) (v:Eo.den) (f:Eo.den->Option α) (ks:KS α H4):Option α:=A1a n v.1.1 v.1.2.1 v.1.2.2.2.2.2.1 v.1.2.2.2.2.2.2.1 v.1.2.2.2.2.2.2.2.1 v.2.1.1 v.2.1.2.1 v.2.1.2.2.1 v.2.1.2.2.2.1 v.2.1.2.2.2.2.1 v.2.1.2.2.2.2.2.1 v.2.1.2.2.2.2.2.2.1 v.2.1.2.2.2.2.2.2.2.1 v.2.2.1.1 v.2.2.1.2.2.2.2.2.1 v.2.2.2.1.1 v.2.2.2.1.2.1 v.2.2.2.1.2.2.1 v.2.2.2.1.2.2.2.2.2.1 v.2.2.2.1.2.2.2.2.2.2.1 v.2.2.2.1.2.2.2.2.2.2.2.1 v.2.2.2.2.1 v.2.2.2.2.2.1 (λa b c d e g h i j k l m o p q r s t u w x y z=>f ((a,b,(),(),(),c,d,e,()),((g,h,i,j,k,l,m,o,()),(p,(),(),(),(),q,(),(),()),(r,s,t,(),(),u,w,x,()),y,z,()))) (λw0 w1 w2 w3 w4 w5 w6 w7 w8 w9=>ks.1 (((),(),()),((w0,(),(),(),(),w1,(),(),()),(w2,w3,w4,(),(),w5,w6,w7,()),w8,w9,())))
def A38 {α:Type} (n m:Nat) (a:Rq) (b:(Bool × LI × LI × LR × LR × Bool × LI × LI) × Rq) (c:LR) (d e:Int) (f:Bool) (g h:LI) (i j:LR) (k:Bool) (l o:LI) (p q r:Bool) (s t:LI) (u:Bool) (v x:LI) (y z:LR) (k0:Bool->Bool->Bool->LI->LI->Bool->LI->LI->LR->LR->Option α):Option α:=A5 (H3 n) m ((a,b,(),(),(),c,d,e,()),((f,g,h,i,j,k,l,o,()),(p,(),(),(),(),q,(),(),()),(r,s,t,(),(),u,v,x,()),y,z,())) (λw=>k0 w.2.1.1 w.2.1.2.2.2.2.2.1 w.2.2.1.1 w.2.2.1.2.1 w.2.2.1.2.2.1 w.2.2.1.2.2.2.2.2.1 w.2.2.1.2.2.2.2.2.2.1 w.2.2.1.2.2.2.2.2.2.2.1 w.2.2.2.1 w.2.2.2.2.1,())
abbrev On:Tm:=⟨[(3,.d (.clo 208 (.ref hR))),(4,.d (.clo 209 (.pair (.ref (.st (.pair .bool (.pair hIs (.pair hIs (.pair hRs (.pair hRs (.pair .bool (.pair hIs hIs))))))))) (.ref hR)))),(5,.k (.hp 5 0 0)),(10,.k (.hp 10 0 0)),(11,.k (.hp 11 0 0)),(12,.d hI),(13,.k (.hp 13 0 0)),(18,.d hRs),(19,.d hI),(20,.d hI)],[(5,.var 91 true false [.d .bool,.d hIs,.d hIs,.d hRs,.d hRs,.d .bool,.d hIs,.d hIs]),(10,.var 91 true false [.d .bool,.d .nil,.d .nil,.d .nil,.d .nil,.d .bool,.d .nil,.d .nil]),(11,.var 91 true false [.d .bool,.d hIs,.d hIs,.d .nil,.d .nil,.d .bool,.d hIs,.d hIs]),(13,.var 54 true false [.d .bool,.d hIs,.d hIs])],[6,7],[]⟩
abbrev Lj:Tm:=⟨[(3,.d (.clo 208 (.ref hR))),(4,.d (.clo 209 (.pair (.ref (.st (.pair .bool (.pair hIs (.pair hIs (.pair hRs (.pair hRs (.pair .bool (.pair hIs hIs))))))))) (.ref hR)))),(5,.k (.hp 5 0 0)),(10,.k (.hp 10 0 0)),(11,.k (.hp 11 0 0)),(12,.d hI),(13,.k (.hp 13 0 0)),(18,.d hRs),(19,.d hI),(20,.d hI)],[(5,.var 91 true false [.d .bool,.d hIs,.d hIs,.d hRs,.d hRs,.d .bool,.d hIs,.d hIs]),(10,.var 91 true false [.d .bool,.d .nil,.d .nil,.d .nil,.d .nil,.d .bool,.d .nil,.d .nil]),(11,.var 91 false false [.d .bool,.d hIs,.d hIs,.k (.hw 31),.k (.hw 42),.d .bool,.d hIs,.d hIs]),(13,.var 54 true false [.d .bool,.d hIs,.d hIs]),(31,.arr 54 hR false),(42,.arr 54 hR false)],[],[]⟩
abbrev Om:Tm:=⟨[(3,.d (.clo 208 (.ref hR))),(4,.d (.clo 209 (.pair (.ref (.st (.pair .bool (.pair hIs (.pair hIs (.pair hRs (.pair hRs (.pair .bool (.pair hIs hIs))))))))) (.ref hR)))),(5,.k (.hp 5 0 0)),(10,.k (.hp 10 0 0)),(11,.k (.hp 11 0 0)),(12,.d hI),(18,.d hRs),(19,.d hI),(20,.d hI)],[(5,.var 91 true false [.d .bool,.d hIs,.d hIs,.d hRs,.d hRs,.d .bool,.d hIs,.d hIs]),(10,.var 91 true false [.d .bool,.d .nil,.d .nil,.d .nil,.d .nil,.d .bool,.d .nil,.d .nil]),(11,.var 91 false false [.d .bool,.d hIs,.d hIs,.k (.hw 31),.d .nil,.d .bool,.d hIs,.d hIs]),(31,.arr 54 hR false)],[13,30],[]⟩
abbrev Li:Tm:=⟨[(3,.d (.clo 208 (.ref hR))),(4,.d (.clo 209 (.pair (.ref (.st (.pair .bool (.pair hIs (.pair hIs (.pair hRs (.pair hRs (.pair .bool (.pair hIs hIs))))))))) (.ref hR)))),(5,.k (.hp 5 0 0)),(10,.k (.hp 10 0 0)),(11,.k (.hp 11 0 0)),(12,.d hI),(18,.d hRs),(19,.d hI),(20,.d hI)],[(5,.var 91 true false [.d .bool,.d hIs,.d hIs,.d hRs,.d hRs,.d .bool,.d hIs,.d hIs]),(10,.var 91 true false [.d .bool,.d .nil,.d .nil,.d .nil,.d .nil,.d .bool,.d .nil,.d .nil]),(11,.var 91 false false [.d .bool,.d hIs,.d hIs,.k (.hw 31),.k (.hw 42),.d .bool,.d hIs,.d hIs]),(31,.arr 54 hR false),(42,.arr 54 hR false)],[13,30],[]⟩
def Vx (n:Nat) (a0:Rq × LR × LR × Rq) (a1 a2 a3:Rq) (a4:(Bool × LI × LI × LR × LR × Bool × LI × LI) × Rq):Option (Rq × LR × LR × Rq) :=
 bif (decide (0<(a0.2.1.length:Int))) then
  gd (decide (0<(a0.2.1.length:Int))) (
   let a:=a0.2.1.getD 0 (false,[],[])
   ob (f208 n a a3) λb =>
   gd ((!a0.2.2.1.isEmpty)) (
    ob (f209 n 0 a4.1 a4.2) λc =>
    A38 n n a3 a4 a0.2.1 (a0.2.1.length:Int) 1 a0.1.1 a0.1.2.1 a0.1.2.2 a0.2.1 a0.2.2.1 a0.2.2.2.1 a0.2.2.2.2.1 a0.2.2.2.2.2 false false a1.1 a1.2.1 a1.2.2 a2.1 a2.2.1 a2.2.2 [b] [c]
     (λl m d e f g h i j k=>(
      some ((d,e,f),j,k,g,h,i)))))
 else
  some (a1,[],[],a2)
def Cz (n:Nat):Ent:=⟨207,[(.st (.pair hR (.pair hRs (.pair hRs hR)))),hR,hR,(.clo 208 (.ref hR)),(.clo 209 (.pair (.ref (.st (.pair .bool (.pair hIs (.pair hIs (.pair hRs (.pair hRs (.pair .bool (.pair hIs hIs))))))))) (.ref hR)))],[(.st (.pair hR (.pair hRs (.pair hRs hR))))],λx=>Vx n x.1 x.2.1 x.2.2.1 x.2.2.2.1 x.2.2.2.2⟩
def J5 (α:Type) (n:Nat):D3 α:={ reg:=[(5,⟨0,[],[(4,{ ent:=some (Cj n) }),(5,{ sh:=some hR }),(6,{ sh:=some hR })]⟩),(7,⟨0,[],[(4,{ ent:=some (Hj n) }),(5,{ sh:=some hR }),(6,{ sh:=some hR })]⟩)],join:=[],loop:=[(3,⟨Eo,H4,A5 (H3 n) n⟩)],any:=[(5,On),(5,Lj),(7,Om),(7,Li)] }
set_option maxHeartbeats 8000000 in
theorem Oq (n:Nat):Al TT ⟨46,[]⟩ [(4,{ ent:=some (Cj n) }),(5,{ sh:=some hR }),(6,{ sh:=some hR })] On (A4 ((A1 Tryz.f207).at [1,1,0,1,0,0,1,1,0,0,1,0])):=by
 refine ⟨by kernel_rfl,λw q hq=>?_⟩
 have e:WT [(4,{ ent:=some (Cj n) }),(5,{ sh:=some hR }),(6,{ sh:=some hR })] (A8 (A4 ((A1 Tryz.f207).at [1,1,0,1,0,0,1,1,0,0,1,0])).toList) q=(∃ (y0:HL (Cj n).rs) (q0:List (Nat × RV)),q=(4,.sv (Ae (Cj n).rs y0))::q0/\q0=[]):=by kernel_rfl
 rw [e] at hq;obtain ⟨y0,q0,rfl,rfl⟩:=hq
 all_goals exact .inr ⟨6,by kernel_rfl,by kernel_rfl,by kernel_rfl⟩
set_option maxHeartbeats 8000000 in
theorem Ll (n:Nat):Al TT ⟨46,[]⟩ [(4,{ ent:=some (Cj n) }),(5,{ sh:=some hR }),(6,{ sh:=some hR })] Lj (A4 ((A1 Tryz.f207).at [1,1,0,1,0,0,1,1,0,0,1,0])):=by
 refine ⟨by kernel_rfl,λw q hq=>?_⟩
 have e:WT [(4,{ ent:=some (Cj n) }),(5,{ sh:=some hR }),(6,{ sh:=some hR })] (A8 (A4 ((A1 Tryz.f207).at [1,1,0,1,0,0,1,1,0,0,1,0])).toList) q=(∃ (y0:HL (Cj n).rs) (q0:List (Nat × RV)),q=(4,.sv (Ae (Cj n).rs y0))::q0/\q0=[]):=by kernel_rfl
 rw [e] at hq;obtain ⟨y0,q0,rfl,rfl⟩:=hq
 all_goals exact .inr ⟨6,by kernel_rfl,by kernel_rfl,by kernel_rfl⟩
set_option maxHeartbeats 8000000 in
theorem Oo (n:Nat):Al TT ⟨46,[]⟩ [(4,{ ent:=some (Hj n) }),(5,{ sh:=some hR }),(6,{ sh:=some hR })] Om (A4 ((A1 Tryz.f207).at [1,1,0,1,0,0,1,1,0,0,1,1,1,0])):=by
 refine ⟨by kernel_rfl,λw q hq=>?_⟩
 have e:WT [(4,{ ent:=some (Hj n) }),(5,{ sh:=some hR }),(6,{ sh:=some hR })] (A8 (A4 ((A1 Tryz.f207).at [1,1,0,1,0,0,1,1,0,0,1,1,1,0])).toList) q=(∃ (y0:HL (Hj n).rs) (q0:List (Nat × RV)),q=(4,.sv (Ae (Hj n).rs y0))::q0/\q0=[]):=by kernel_rfl
 rw [e] at hq;obtain ⟨y0,q0,rfl,rfl⟩:=hq
 all_goals exact .inr ⟨6,by kernel_rfl,by kernel_rfl,by kernel_rfl⟩
set_option maxHeartbeats 8000000 in
theorem Lk (n:Nat):Al TT ⟨46,[]⟩ [(4,{ ent:=some (Hj n) }),(5,{ sh:=some hR }),(6,{ sh:=some hR })] Li (A4 ((A1 Tryz.f207).at [1,1,0,1,0,0,1,1,0,0,1,1,1,0])):=by
 refine ⟨by kernel_rfl,λw q hq=>?_⟩
 have e:WT [(4,{ ent:=some (Hj n) }),(5,{ sh:=some hR }),(6,{ sh:=some hR })] (A8 (A4 ((A1 Tryz.f207).at [1,1,0,1,0,0,1,1,0,0,1,1,1,0])).toList) q=(∃ (y0:HL (Hj n).rs) (q0:List (Nat × RV)),q=(4,.sv (Ae (Hj n).rs y0))::q0/\q0=[]):=by kernel_rfl
 rw [e] at hq;obtain ⟨y0,q0,rfl,rfl⟩:=hq
 all_goals exact .inr ⟨6,by kernel_rfl,by kernel_rfl,by kernel_rfl⟩
theorem Lh (α:Type) (n:Nat):Ao PP (Ag (J5 α n).reg):=⟨An6 n,B63 n,trivial⟩
theorem Y3 (α:Type) (n:Nat):D3.OK PP TT ⟨46,[]⟩ (J5 α n) ((A1 Tryz.f207).at [1,1,0,1,0,0]) :=
 D3.OK.mk3a (Lh α n) (show Ab ((A1 Tryz.f207).at [1,1,0,1,0,0])=[] by kernel_rfl) trivial (show Ar ((A1 Tryz.f207).at [1,1,0,1,0,0])=[(5,A4 ((A1 Tryz.f207).at [1,1,0,1,0,0,1,1,0,0,1,0])),(7,A4 ((A1 Tryz.f207).at [1,1,0,1,0,0,1,1,0,0,1,1,1,0]))] by kernel_rfl) ⟨⟨Oq n,Ll n,trivial⟩,⟨Oo n,Lk n,trivial⟩,trivial⟩
theorem Wc (α:Type) (n:Nat):LO.Sound (α:=α) PP ⟨46,[]⟩ ⟨Eo,H4,A5 (H3 n) n⟩ (.loop ((A1 Tryz.f207).at [1,1,0,1,0,0])):=lk (Y3 α n) n
theorem A7g (α:Type) (n:Nat):D3.OK PP TT ⟨46,[]⟩ (J5 α n) (A1 Tryz.f207) :=
 D3.OK.mk3a (Lh α n) (show Ab (A1 Tryz.f207)=[(3,(.loop ((A1 Tryz.f207).at [1,1,0,1,0,0])))] by kernel_rfl) ⟨Ac rfl (Wc α n),trivial⟩ (show Ar (A1 Tryz.f207)=[(5,A4 ((A1 Tryz.f207).at [1,1,0,1,0,0,1,1,0,0,1,0])),(7,A4 ((A1 Tryz.f207).at [1,1,0,1,0,0,1,1,0,0,1,1,1,0]))] by kernel_rfl) ⟨⟨Oq n,Ll n,trivial⟩,⟨Oo n,Lk n,trivial⟩,trivial⟩
theorem A37 (n:Nat):(Cz n).Sound PP:=fk (fn:=Tryz.f207) (A7g _ n)

abbrev Ai8:Tm:=⟨[(2,.k (.hp 2 0 0)),(3,.k (.hp 3 0 0)),(4,.k (.hp 4 0 0))],[(2,.var 91 true false [.d .bool,.d hIs,.d hIs,.d hRs,.d hRs,.d .bool,.d hIs,.d hIs]),(3,.var 54 true false [.d .bool,.d hIs,.d hIs]),(4,.var 91 true false [.d .bool,.d .nil,.d .nil,.d .nil,.d .nil,.d .bool,.d .nil,.d .nil])],[],[]⟩
def Mx (n:Nat) (a0:Rq × LR × LR × Rq) (a1:Rq):Option (Rq × LR × LR × Rq) :=
 ob (f162 n a0.1 a1) λa =>
 ob (f162 n a0.2.2.2 a1) λb =>
 ob (Vx n a0 a b a1 ((a0.1.1,a0.1.2.1,a0.1.2.2,a0.2),a1)) λc =>
 some c
def Aah (n:Nat):Ent:=⟨166,[(.st (.pair hR (.pair hRs (.pair hRs hR)))),hR],[(.st (.pair hR (.pair hRs (.pair hRs hR))))],λx=>Mx n x.1 x.2⟩
def Ant (α:Type) (n:Nat):D3 α:={ reg:=[(1,⟨0,[],[(4,{ ent:=some (A9 n) }),(8,{ ent:=some (A9 n) }),(9,{ sh:=some (.ref hR) }),(10,{ sh:=some (.pair (.ref (.st (.pair .bool (.pair hIs (.pair hIs (.pair hRs (.pair hRs (.pair .bool (.pair hIs hIs))))))))) (.ref hR)) }),(11,{ ent:=some (Cz n) })]⟩)],join:=[],loop:=[],any:=[(1,Ai8)] }
set_option maxHeartbeats 8000000 in
theorem B2a (n:Nat):Al TT ⟨17,[]⟩ [(4,{ ent:=some (A9 n) }),(8,{ ent:=some (A9 n) }),(9,{ sh:=some (.ref hR) }),(10,{ sh:=some (.pair (.ref (.st (.pair .bool (.pair hIs (.pair hIs (.pair hRs (.pair hRs (.pair .bool (.pair hIs hIs))))))))) (.ref hR)) }),(11,{ ent:=some (Cz n) })] Ai8 (A4 ((A1 Tryz.f166).at [1,0])):=by
 refine ⟨by kernel_rfl,λw q hq=>?_⟩
 have e:WT [(4,{ ent:=some (A9 n) }),(8,{ ent:=some (A9 n) }),(9,{ sh:=some (.ref hR) }),(10,{ sh:=some (.pair (.ref (.st (.pair .bool (.pair hIs (.pair hIs (.pair hRs (.pair hRs (.pair .bool (.pair hIs hIs))))))))) (.ref hR)) }),(11,{ ent:=some (Cz n) })] (A8 (A4 ((A1 Tryz.f166).at [1,0])).toList) q=(∃ (y0:HL (A9 n).rs) (q0:List (Nat × RV)),q=(4,.sv (Ae (A9 n).rs y0))::q0 /\ ∃ (y1:HL (A9 n).rs) (q1:List (Nat × RV)),q0=(8,.sv (Ae (A9 n).rs y1))::q1 /\ ∃ (y2:HL (Cz n).rs) (q2:List (Nat × RV)),q1=(11,.sv (Ae (Cz n).rs y2))::q2/\q2=[]):=by kernel_rfl
 rw [e] at hq;obtain ⟨y0,q0,rfl,y1,q1,rfl,y2,q2,rfl,rfl⟩:=hq
 all_goals exact .inl (Hy.mk (by kernel_rfl))
theorem Ara (α:Type) (n:Nat):Ao PP (Ag (Ant α n).reg):=⟨Av n,Av n,A37 n,trivial⟩
theorem B76 (α:Type) (n:Nat):D3.OK PP TT ⟨17,[]⟩ (Ant α n) (A1 Tryz.f166) :=
 D3.OK.mk3a (Ara α n) (show Ab (A1 Tryz.f166)=[] by kernel_rfl) trivial (show Ar (A1 Tryz.f166)=[(1,A4 ((A1 Tryz.f166).at [1,0]))] by kernel_rfl) ⟨⟨B2a n,trivial⟩,trivial⟩
theorem Ai7 (n:Nat):(Aah n).Sound PP:=fk (fn:=Tryz.f166) (B76 _ n)

def Aws {α:Type} (n:Nat) (c:LR) (p a:Int) (d:Bool) (e g:LI) (d6 b:LR) (q:Bool) (r s:LI) (h:Bool) (i j:LI) (k l:LR) (t:Bool) (u v:LI) (w x y:Bool) (z d0:LI) (d1:Bool) (d2 d3:LI) (m o:LR) (f:LR->Int->Int->Bool->LI->LI->LR->LR->Bool->LI->LI->Bool->LI->LI->LR->LR->Bool->LI->LI->Bool->Bool->Bool->LI->LI->Bool->LI->LI->LR->LR->Option α) (k0:Bool->Bool->Bool->LI->LI->Bool->LI->LI->LR->LR->Option α):Option α :=
 bif (decide (a<p)) then
  gd (decide (0<=a)&&decide (a<(c.length:Int))) (
   let d4:=c.getD a.toNat (false,[],[])
   gd (decide (0<=a)&&decide (a<(k.length:Int))) (
    let d5:=k.getD a.toNat (false,[],[])
    ob (f162 n d4 (h,i,j)) λd7 =>
    ob (f162 n (d,e,g) d5) λd8 =>
    ob (f99 n d7 d8) λd9 =>
    gd (decide ((m.length+1)*56<=140737488355328)) (
     gd ((!b.isEmpty)) (
      gd (decide (0<=a)&&decide (a<(b.length:Int))) (
       let e0:=b.getD a.toNat (false,[],[])
       ob (f162 n e0 (h,i,j)) λe1 =>
       ob (f162 n d4 (t,u,v)) λe2 =>
       ob (f99 n e1 e2) λe3 =>
       ob (f162 n (q,r,s) d5) λe4 =>
       ob (f99 n e3 e4) λe5 =>
       gd (decide (0<=a)&&decide (a<(l.length:Int))) (
        let e6:=l.getD a.toNat (false,[],[])
        ob (f162 n (d,e,g) e6) λe7 =>
        ob (f99 n e5 e7) λe8 =>
        gd (decide ((o.length+1)*56<=140737488355328)) (
         f c p (W (a+1)) d e g d6 b q r s h i j k l t u v w x y z d0 d1 d2 d3 (m++[d9]) (o++[e8]))))))))
 else
  k0 w x y z d0 d1 d2 d3 m o
abbrev Qe:Tm:=⟨[(2,.k (.hp 2 0 0)),(3,.k (.hp 3 0 0)),(4,.k (.hp 4 0 0)),(5,.k (.hp 5 0 0)),(28,.d hRs),(29,.d hI),(30,.d hI)],[(2,.var 91 true false [.d .bool,.d hIs,.d hIs,.d hRs,.d hRs,.d .bool,.d hIs,.d hIs]),(3,.var 91 true false [.d .bool,.d hIs,.d hIs,.d hRs,.d hRs,.d .bool,.d hIs,.d hIs]),(4,.var 91 true false [.d .bool,.d .nil,.d .nil,.d .nil,.d .nil,.d .bool,.d .nil,.d .nil]),(5,.var 91 false false [.d .bool,.d hIs,.d hIs,.k (.hw 52),.k (.hw 88),.d .bool,.d hIs,.d hIs]),(52,.arr 54 hR false),(88,.arr 54 hR false)],[8,9,87],[]⟩
abbrev Ar8:Tm:=⟨[(4,.k (.hp 4 0 0)),(5,.k (.hp 5 0 0))],[(4,.var 91 true false [.d .bool,.d .nil,.d .nil,.d .nil,.d .nil,.d .bool,.d .nil,.d .nil]),(5,.var 91 false false [.d .bool,.d hIs,.d hIs,.k (.hw 52),.k (.hw 88),.d .bool,.d hIs,.d hIs]),(52,.arr 54 hR false),(88,.arr 54 hR false)],[2,3],[]⟩
abbrev Yd:List (Exit × Tm):=[(.exit 0,Ar8)]
def Yc {α:Type} (n:Nat) (v:Qe.den) (f:Qe.den->Option α) (ks:KS α Yd):Option α:=Aws n v.1.2.2.2.2.1 v.1.2.2.2.2.2.1 v.1.2.2.2.2.2.2.1 v.2.1.1 v.2.1.2.1 v.2.1.2.2.1 v.2.1.2.2.2.1 v.2.1.2.2.2.2.1 v.2.1.2.2.2.2.2.1 v.2.1.2.2.2.2.2.2.1 v.2.1.2.2.2.2.2.2.2.1 v.2.2.1.1 v.2.2.1.2.1 v.2.2.1.2.2.1 v.2.2.1.2.2.2.1 v.2.2.1.2.2.2.2.1 v.2.2.1.2.2.2.2.2.1 v.2.2.1.2.2.2.2.2.2.1 v.2.2.1.2.2.2.2.2.2.2.1 v.2.2.2.1.1 v.2.2.2.1.2.2.2.2.2.1 v.2.2.2.2.1.1 v.2.2.2.2.1.2.1 v.2.2.2.2.1.2.2.1 v.2.2.2.2.1.2.2.2.2.2.1 v.2.2.2.2.1.2.2.2.2.2.2.1 v.2.2.2.2.1.2.2.2.2.2.2.2.1 v.2.2.2.2.2.1 v.2.2.2.2.2.2.1 (λa b c d e g h i j k l m o p q r s t u w x y z d0 d1 d2 d3 d4 d5=>f (((),(),(),(),a,b,c,()),((d,e,g,h,i,j,k,l,()),(m,o,p,q,r,s,t,u,()),(w,(),(),(),(),x,(),(),()),(y,z,d0,(),(),d1,d2,d3,()),d4,d5,()))) (λw0 w1 w2 w3 w4 w5 w6 w7 w8 w9=>ks.1 (((),(),()),((w0,(),(),(),(),w1,(),(),()),(w2,w3,w4,(),(),w5,w6,w7,()),w8,w9,())))
def B28 {α:Type} (n m:Nat) (a:LR) (b c:Int) (d:Bool) (e f:LI) (g h:LR) (i:Bool) (j k:LI) (l:Bool) (o p:LI) (q r:LR) (s:Bool) (t u:LI) (v x y:Bool) (z d0:LI) (d1:Bool) (d2 d3:LI) (d4 d5:LR) (k0:Bool->Bool->Bool->LI->LI->Bool->LI->LI->LR->LR->Option α):Option α:=A5 (Yc n) m (((),(),(),(),a,b,c,()),((d,e,f,g,h,i,j,k,()),(l,o,p,q,r,s,t,u,()),(v,(),(),(),(),x,(),(),()),(y,z,d0,(),(),d1,d2,d3,()),d4,d5,())) (λw=>k0 w.2.1.1 w.2.1.2.2.2.2.2.1 w.2.2.1.1 w.2.2.1.2.1 w.2.2.1.2.2.1 w.2.2.1.2.2.2.2.2.1 w.2.2.1.2.2.2.2.2.2.1 w.2.2.1.2.2.2.2.2.2.2.1 w.2.2.2.1 w.2.2.2.2.1,())
abbrev Ai1:Tm:=⟨[(2,.k (.hp 2 0 0)),(3,.k (.hp 3 0 0)),(4,.k (.hp 4 0 0))],[(2,.var 91 true false [.d .bool,.d hIs,.d hIs,.d hRs,.d hRs,.d .bool,.d hIs,.d hIs]),(3,.var 91 true false [.d .bool,.d hIs,.d hIs,.d hRs,.d hRs,.d .bool,.d hIs,.d hIs]),(4,.var 91 true false [.d .bool,.d .nil,.d .nil,.d .nil,.d .nil,.d .bool,.d .nil,.d .nil])],[],[]⟩
abbrev Ai0:Tm:=⟨[(2,.k (.hp 2 0 0)),(3,.k (.hp 3 0 0)),(4,.k (.hp 4 0 0)),(5,.k (.hp 5 0 0)),(6,.d hI),(7,.k (.hp 7 0 0)),(8,.k (.hp 8 0 0)),(28,.d hRs),(29,.d hI),(30,.d hI)],[(2,.var 91 true false [.d .bool,.d hIs,.d hIs,.d hRs,.d hRs,.d .bool,.d hIs,.d hIs]),(3,.var 91 true false [.d .bool,.d hIs,.d hIs,.d hRs,.d hRs,.d .bool,.d hIs,.d hIs]),(4,.var 91 true false [.d .bool,.d .nil,.d .nil,.d .nil,.d .nil,.d .bool,.d .nil,.d .nil]),(5,.var 91 true false [.d .bool,.d hIs,.d hIs,.d .nil,.d .nil,.d .bool,.d hIs,.d hIs]),(7,.var 54 true false [.d .bool,.d hIs,.d hIs]),(8,.var 54 true false [.d .bool,.d hIs,.d hIs])],[],[]⟩
abbrev A7v:Tm:=⟨[(2,.k (.hp 2 0 0)),(3,.k (.hp 3 0 0)),(4,.k (.hp 4 0 0)),(5,.k (.hp 5 0 0)),(6,.d hI),(7,.k (.hp 7 0 0)),(8,.k (.hp 8 0 0)),(28,.d hRs),(29,.d hI),(30,.d hI)],[(2,.var 91 true false [.d .bool,.d hIs,.d hIs,.d hRs,.d hRs,.d .bool,.d hIs,.d hIs]),(3,.var 91 true false [.d .bool,.d hIs,.d hIs,.d hRs,.d hRs,.d .bool,.d hIs,.d hIs]),(4,.var 91 true false [.d .bool,.d .nil,.d .nil,.d .nil,.d .nil,.d .bool,.d .nil,.d .nil]),(5,.var 91 false false [.d .bool,.d hIs,.d hIs,.k (.hw 52),.k (.hw 88),.d .bool,.d hIs,.d hIs]),(7,.var 54 true false [.d .bool,.d hIs,.d hIs]),(8,.var 54 true false [.d .bool,.d hIs,.d hIs]),(52,.arr 54 hR false),(88,.arr 54 hR false)],[],[]⟩
abbrev Ahz:Tm:=⟨[(2,.k (.hp 2 0 0)),(3,.k (.hp 3 0 0)),(4,.k (.hp 4 0 0)),(5,.k (.hp 5 0 0)),(6,.d hI),(7,.k (.hp 7 0 0)),(8,.k (.hp 8 0 0)),(28,.d hRs),(29,.d hI),(30,.d hI)],[(2,.var 91 true false [.d .bool,.d hIs,.d hIs,.d hRs,.d hRs,.d .bool,.d hIs,.d hIs]),(3,.var 91 true false [.d .bool,.d hIs,.d hIs,.d hRs,.d hRs,.d .bool,.d hIs,.d hIs]),(4,.var 91 true false [.d .bool,.d .nil,.d .nil,.d .nil,.d .nil,.d .bool,.d .nil,.d .nil]),(5,.var 91 false false [.d .bool,.d hIs,.d hIs,.k (.hw 52),.d .nil,.d .bool,.d hIs,.d hIs]),(7,.var 54 true false [.d .bool,.d hIs,.d hIs]),(8,.var 54 true false [.d .bool,.d hIs,.d hIs]),(52,.arr 54 hR false)],[51],[]⟩
abbrev A7u:Tm:=⟨[(2,.k (.hp 2 0 0)),(3,.k (.hp 3 0 0)),(4,.k (.hp 4 0 0)),(5,.k (.hp 5 0 0)),(6,.d hI),(7,.k (.hp 7 0 0)),(8,.k (.hp 8 0 0)),(28,.d hRs),(29,.d hI),(30,.d hI)],[(2,.var 91 true false [.d .bool,.d hIs,.d hIs,.d hRs,.d hRs,.d .bool,.d hIs,.d hIs]),(3,.var 91 true false [.d .bool,.d hIs,.d hIs,.d hRs,.d hRs,.d .bool,.d hIs,.d hIs]),(4,.var 91 true false [.d .bool,.d .nil,.d .nil,.d .nil,.d .nil,.d .bool,.d .nil,.d .nil]),(5,.var 91 false false [.d .bool,.d hIs,.d hIs,.k (.hw 52),.k (.hw 88),.d .bool,.d hIs,.d hIs]),(7,.var 54 true false [.d .bool,.d hIs,.d hIs]),(8,.var 54 true false [.d .bool,.d hIs,.d hIs]),(52,.arr 54 hR false),(88,.arr 54 hR false)],[51],[]⟩
abbrev Ahy:Tm:=⟨[(2,.k (.hp 2 0 0)),(3,.k (.hp 3 0 0)),(4,.k (.hp 4 0 0)),(5,.k (.hp 5 0 0)),(6,.d hI),(8,.k (.hp 8 0 0)),(9,.k (.hp 9 0 0)),(28,.d hRs),(29,.d hI),(30,.d hI)],[(2,.var 91 true false [.d .bool,.d hIs,.d hIs,.d hRs,.d hRs,.d .bool,.d hIs,.d hIs]),(3,.var 91 true false [.d .bool,.d hIs,.d hIs,.d hRs,.d hRs,.d .bool,.d hIs,.d hIs]),(4,.var 91 true false [.d .bool,.d .nil,.d .nil,.d .nil,.d .nil,.d .bool,.d .nil,.d .nil]),(5,.var 91 false false [.d .bool,.d hIs,.d hIs,.k (.hw 52),.d .nil,.d .bool,.d hIs,.d hIs]),(8,.var 54 true false [.d .bool,.d hIs,.d hIs]),(9,.var 54 true false [.d .bool,.d hIs,.d hIs]),(52,.arr 54 hR false)],[7],[]⟩
abbrev A7t:Tm:=⟨[(2,.k (.hp 2 0 0)),(3,.k (.hp 3 0 0)),(4,.k (.hp 4 0 0)),(5,.k (.hp 5 0 0)),(6,.d hI),(8,.k (.hp 8 0 0)),(9,.k (.hp 9 0 0)),(28,.d hRs),(29,.d hI),(30,.d hI)],[(2,.var 91 true false [.d .bool,.d hIs,.d hIs,.d hRs,.d hRs,.d .bool,.d hIs,.d hIs]),(3,.var 91 true false [.d .bool,.d hIs,.d hIs,.d hRs,.d hRs,.d .bool,.d hIs,.d hIs]),(4,.var 91 true false [.d .bool,.d .nil,.d .nil,.d .nil,.d .nil,.d .bool,.d .nil,.d .nil]),(5,.var 91 false false [.d .bool,.d hIs,.d hIs,.k (.hw 52),.k (.hw 88),.d .bool,.d hIs,.d hIs]),(8,.var 54 true false [.d .bool,.d hIs,.d hIs]),(9,.var 54 true false [.d .bool,.d hIs,.d hIs]),(52,.arr 54 hR false),(88,.arr 54 hR false)],[7],[]⟩
def Mw (n:Nat) (a0 a1:Rq × LR × LR × Rq):Option (Rq × LR × LR × Rq) :=
 ob (f162 n a0.1 a1.1) λa =>
 ob (f162 n a0.2.2.2 a1.1) λe =>
 ob (f162 n a0.1 a1.2.2.2) λf =>
 ob (f99 n e f) λb =>
 bif (decide (0<(a0.2.1.length:Int))) then
  gd (decide (0<(a0.2.1.length:Int))) (
   let c:=a0.2.1.getD 0 (false,[],[])
   gd (decide (0<(a1.2.1.length:Int))) (
    let d:=a1.2.1.getD 0 (false,[],[])
    ob (f162 n c a1.1) λg =>
    ob (f162 n a0.1 d) λh =>
    ob (f99 n g h) λi =>
    gd ((!a0.2.2.1.isEmpty)) (
     gd (decide (0<(a0.2.2.1.length:Int))) (
      let j:=a0.2.2.1.getD 0 (false,[],[])
      ob (f162 n j a1.1) λk =>
      ob (f162 n c a1.2.2.2) λl =>
      ob (f99 n k l) λm =>
      ob (f162 n a0.2.2.2 d) λo =>
      ob (f99 n m o) λp =>
      gd (decide (0<(a1.2.2.1.length:Int))) (
       let q:=a1.2.2.1.getD 0 (false,[],[])
       ob (f162 n a0.1 q) λr =>
       ob (f99 n p r) λs =>
       B28 n n a0.2.1 (a0.2.1.length:Int) 1 a0.1.1 a0.1.2.1 a0.1.2.2 a0.2.1 a0.2.2.1 a0.2.2.2.1 a0.2.2.2.2.1 a0.2.2.2.2.2 a1.1.1 a1.1.2.1 a1.1.2.2 a1.2.1 a1.2.2.1 a1.2.2.2.1 a1.2.2.2.2.1 a1.2.2.2.2.2 false false a.1 a.2.1 a.2.2 b.1 b.2.1 b.2.2 [i] [s]
        (λd1 d2 t u v w x y z d0=>(
         some ((t,u,v),z,d0,w,x,y))))))))
 else
  some (a,[],[],b)
def Aaf (n:Nat):Ent:=⟨167,[(.st (.pair hR (.pair hRs (.pair hRs hR)))),(.st (.pair hR (.pair hRs (.pair hRs hR))))],[(.st (.pair hR (.pair hRs (.pair hRs hR))))],λx=>Mw n x.1 x.2⟩
def Aag (α:Type) (n:Nat):D3 α:={ reg:=[(1,⟨0,[],[(4,{ ent:=some (A9 n) }),(9,{ ent:=some (A9 n) }),(14,{ ent:=some (A9 n) }),(15,{ ent:=some (Ad n) })]⟩),(6,⟨0,[],[(5,{ ent:=some (A9 n) }),(9,{ ent:=some (A9 n) }),(10,{ ent:=some (Ad n) }),(11,{ sh:=some hR }),(12,{ sh:=some hR })]⟩),(8,⟨0,[],[(7,{ ent:=some (A9 n) }),(11,{ ent:=some (A9 n) }),(12,{ ent:=some (Ad n) })]⟩),(9,⟨0,[],[(6,{ ent:=some (A9 n) }),(7,{ ent:=some (Ad n) }),(15,{ ent:=some (A9 n) }),(16,{ ent:=some (Ad n) }),(17,{ sh:=some hR }),(18,{ sh:=some hR })]⟩)],join:=[],loop:=[(3,⟨Qe,Yd,A5 (Yc n) n⟩)],any:=[(1,Ai1),(6,Ai0),(6,A7v),(8,Ahz),(8,A7u),(9,Ahy),(9,A7t)] }
set_option maxHeartbeats 8000000 in
theorem B29 (n:Nat):Al TT ⟨92,[]⟩ [(4,{ ent:=some (A9 n) }),(9,{ ent:=some (A9 n) }),(14,{ ent:=some (A9 n) }),(15,{ ent:=some (Ad n) })] Ai1 (A4 ((A1 Tryz.f167).at [1,0])):=by
 refine ⟨by kernel_rfl,λw q hq=>?_⟩
 have e:WT [(4,{ ent:=some (A9 n) }),(9,{ ent:=some (A9 n) }),(14,{ ent:=some (A9 n) }),(15,{ ent:=some (Ad n) })] (A8 (A4 ((A1 Tryz.f167).at [1,0])).toList) q=(∃ (y0:HL (A9 n).rs) (q0:List (Nat × RV)),q=(4,.sv (Ae (A9 n).rs y0))::q0 /\ ∃ (y1:HL (A9 n).rs) (q1:List (Nat × RV)),q0=(9,.sv (Ae (A9 n).rs y1))::q1 /\ ∃ (y2:HL (A9 n).rs) (q2:List (Nat × RV)),q1=(14,.sv (Ae (A9 n).rs y2))::q2 /\ ∃ (y3:HL (Ad n).rs) (q3:List (Nat × RV)),q2=(15,.sv (Ae (Ad n).rs y3))::q3/\q3=[]):=by kernel_rfl
 rw [e] at hq;obtain ⟨y0,q0,rfl,y1,q1,rfl,y2,q2,rfl,y3,q3,rfl,rfl⟩:=hq
 all_goals exact .inr ⟨18,by kernel_rfl,by kernel_rfl,by kernel_rfl⟩
set_option maxHeartbeats 8000000 in
theorem Ai4 (n:Nat):Al TT ⟨92,[]⟩ [(5,{ ent:=some (A9 n) }),(9,{ ent:=some (A9 n) }),(10,{ ent:=some (Ad n) }),(11,{ sh:=some hR }),(12,{ sh:=some hR })] Ai0 (A4 ((A1 Tryz.f167).at [1,1,0,1,0,0,1,1,0,0,1,1,0])):=by
 refine ⟨by kernel_rfl,λw q hq=>?_⟩
 have e:WT [(5,{ ent:=some (A9 n) }),(9,{ ent:=some (A9 n) }),(10,{ ent:=some (Ad n) }),(11,{ sh:=some hR }),(12,{ sh:=some hR })] (A8 (A4 ((A1 Tryz.f167).at [1,1,0,1,0,0,1,1,0,0,1,1,0])).toList) q=(∃ (y0:HL (A9 n).rs) (q0:List (Nat × RV)),q=(5,.sv (Ae (A9 n).rs y0))::q0 /\ ∃ (y1:HL (A9 n).rs) (q1:List (Nat × RV)),q0=(9,.sv (Ae (A9 n).rs y1))::q1 /\ ∃ (y2:HL (Ad n).rs) (q2:List (Nat × RV)),q1=(10,.sv (Ae (Ad n).rs y2))::q2/\q2=[]):=by kernel_rfl
 rw [e] at hq;obtain ⟨y0,q0,rfl,y1,q1,rfl,y2,q2,rfl,rfl⟩:=hq
 all_goals exact .inr ⟨12,by kernel_rfl,by kernel_rfl,by kernel_rfl⟩
set_option maxHeartbeats 8000000 in
theorem A7y (n:Nat):Al TT ⟨92,[]⟩ [(5,{ ent:=some (A9 n) }),(9,{ ent:=some (A9 n) }),(10,{ ent:=some (Ad n) }),(11,{ sh:=some hR }),(12,{ sh:=some hR })] A7v (A4 ((A1 Tryz.f167).at [1,1,0,1,0,0,1,1,0,0,1,1,0])):=by
 refine ⟨by kernel_rfl,λw q hq=>?_⟩
 have e:WT [(5,{ ent:=some (A9 n) }),(9,{ ent:=some (A9 n) }),(10,{ ent:=some (Ad n) }),(11,{ sh:=some hR }),(12,{ sh:=some hR })] (A8 (A4 ((A1 Tryz.f167).at [1,1,0,1,0,0,1,1,0,0,1,1,0])).toList) q=(∃ (y0:HL (A9 n).rs) (q0:List (Nat × RV)),q=(5,.sv (Ae (A9 n).rs y0))::q0 /\ ∃ (y1:HL (A9 n).rs) (q1:List (Nat × RV)),q0=(9,.sv (Ae (A9 n).rs y1))::q1 /\ ∃ (y2:HL (Ad n).rs) (q2:List (Nat × RV)),q1=(10,.sv (Ae (Ad n).rs y2))::q2/\q2=[]):=by kernel_rfl
 rw [e] at hq;obtain ⟨y0,q0,rfl,y1,q1,rfl,y2,q2,rfl,rfl⟩:=hq
 all_goals exact .inr ⟨12,by kernel_rfl,by kernel_rfl,by kernel_rfl⟩
set_option maxHeartbeats 8000000 in
theorem Ai3 (n:Nat):Al TT ⟨92,[]⟩ [(7,{ ent:=some (A9 n) }),(11,{ ent:=some (A9 n) }),(12,{ ent:=some (Ad n) })] Ahz (A4 ((A1 Tryz.f167).at [1,1,0,1,0,0,1,1,0,0,1,1,1,1,0,0])):=by
 refine ⟨by kernel_rfl,λw q hq=>?_⟩
 have e:WT [(7,{ ent:=some (A9 n) }),(11,{ ent:=some (A9 n) }),(12,{ ent:=some (Ad n) })] (A8 (A4 ((A1 Tryz.f167).at [1,1,0,1,0,0,1,1,0,0,1,1,1,1,0,0])).toList) q=(∃ (y0:HL (A9 n).rs) (q0:List (Nat × RV)),q=(7,.sv (Ae (A9 n).rs y0))::q0 /\ ∃ (y1:HL (A9 n).rs) (q1:List (Nat × RV)),q0=(11,.sv (Ae (A9 n).rs y1))::q1 /\ ∃ (y2:HL (Ad n).rs) (q2:List (Nat × RV)),q1=(12,.sv (Ae (Ad n).rs y2))::q2/\q2=[]):=by kernel_rfl
 rw [e] at hq;obtain ⟨y0,q0,rfl,y1,q1,rfl,y2,q2,rfl,rfl⟩:=hq
 all_goals exact .inr ⟨14,by kernel_rfl,by kernel_rfl,by kernel_rfl⟩
set_option maxHeartbeats 8000000 in
theorem A7x (n:Nat):Al TT ⟨92,[]⟩ [(7,{ ent:=some (A9 n) }),(11,{ ent:=some (A9 n) }),(12,{ ent:=some (Ad n) })] A7u (A4 ((A1 Tryz.f167).at [1,1,0,1,0,0,1,1,0,0,1,1,1,1,0,0])):=by
 refine ⟨by kernel_rfl,λw q hq=>?_⟩
 have e:WT [(7,{ ent:=some (A9 n) }),(11,{ ent:=some (A9 n) }),(12,{ ent:=some (Ad n) })] (A8 (A4 ((A1 Tryz.f167).at [1,1,0,1,0,0,1,1,0,0,1,1,1,1,0,0])).toList) q=(∃ (y0:HL (A9 n).rs) (q0:List (Nat × RV)),q=(7,.sv (Ae (A9 n).rs y0))::q0 /\ ∃ (y1:HL (A9 n).rs) (q1:List (Nat × RV)),q0=(11,.sv (Ae (A9 n).rs y1))::q1 /\ ∃ (y2:HL (Ad n).rs) (q2:List (Nat × RV)),q1=(12,.sv (Ae (Ad n).rs y2))::q2/\q2=[]):=by kernel_rfl
 rw [e] at hq;obtain ⟨y0,q0,rfl,y1,q1,rfl,y2,q2,rfl,rfl⟩:=hq
 all_goals exact .inr ⟨14,by kernel_rfl,by kernel_rfl,by kernel_rfl⟩
set_option maxHeartbeats 8000000 in
theorem Ai2 (n:Nat):Al TT ⟨92,[]⟩ [(6,{ ent:=some (A9 n) }),(7,{ ent:=some (Ad n) }),(15,{ ent:=some (A9 n) }),(16,{ ent:=some (Ad n) }),(17,{ sh:=some hR }),(18,{ sh:=some hR })] Ahy (A4 ((A1 Tryz.f167).at [1,1,0,1,0,0,1,1,0,0,1,1,1,1,0,1])):=by
 refine ⟨by kernel_rfl,λw q hq=>?_⟩
 have e:WT [(6,{ ent:=some (A9 n) }),(7,{ ent:=some (Ad n) }),(15,{ ent:=some (A9 n) }),(16,{ ent:=some (Ad n) }),(17,{ sh:=some hR }),(18,{ sh:=some hR })] (A8 (A4 ((A1 Tryz.f167).at [1,1,0,1,0,0,1,1,0,0,1,1,1,1,0,1])).toList) q=(∃ (y0:HL (A9 n).rs) (q0:List (Nat × RV)),q=(6,.sv (Ae (A9 n).rs y0))::q0 /\ ∃ (y1:HL (Ad n).rs) (q1:List (Nat × RV)),q0=(7,.sv (Ae (Ad n).rs y1))::q1 /\ ∃ (y2:HL (A9 n).rs) (q2:List (Nat × RV)),q1=(15,.sv (Ae (A9 n).rs y2))::q2 /\ ∃ (y3:HL (Ad n).rs) (q3:List (Nat × RV)),q2=(16,.sv (Ae (Ad n).rs y3))::q3/\q3=[]):=by kernel_rfl
 rw [e] at hq;obtain ⟨y0,q0,rfl,y1,q1,rfl,y2,q2,rfl,y3,q3,rfl,rfl⟩:=hq
 all_goals exact .inr ⟨18,by kernel_rfl,by kernel_rfl,by kernel_rfl⟩
set_option maxHeartbeats 8000000 in
theorem A7w (n:Nat):Al TT ⟨92,[]⟩ [(6,{ ent:=some (A9 n) }),(7,{ ent:=some (Ad n) }),(15,{ ent:=some (A9 n) }),(16,{ ent:=some (Ad n) }),(17,{ sh:=some hR }),(18,{ sh:=some hR })] A7t (A4 ((A1 Tryz.f167).at [1,1,0,1,0,0,1,1,0,0,1,1,1,1,0,1])):=by
 refine ⟨by kernel_rfl,λw q hq=>?_⟩
 have e:WT [(6,{ ent:=some (A9 n) }),(7,{ ent:=some (Ad n) }),(15,{ ent:=some (A9 n) }),(16,{ ent:=some (Ad n) }),(17,{ sh:=some hR }),(18,{ sh:=some hR })] (A8 (A4 ((A1 Tryz.f167).at [1,1,0,1,0,0,1,1,0,0,1,1,1,1,0,1])).toList) q=(∃ (y0:HL (A9 n).rs) (q0:List (Nat × RV)),q=(6,.sv (Ae (A9 n).rs y0))::q0 /\ ∃ (y1:HL (Ad n).rs) (q1:List (Nat × RV)),q0=(7,.sv (Ae (Ad n).rs y1))::q1 /\ ∃ (y2:HL (A9 n).rs) (q2:List (Nat × RV)),q1=(15,.sv (Ae (A9 n).rs y2))::q2 /\ ∃ (y3:HL (Ad n).rs) (q3:List (Nat × RV)),q2=(16,.sv (Ae (Ad n).rs y3))::q3/\q3=[]):=by kernel_rfl
 rw [e] at hq;obtain ⟨y0,q0,rfl,y1,q1,rfl,y2,q2,rfl,y3,q3,rfl,rfl⟩:=hq
 all_goals exact .inr ⟨18,by kernel_rfl,by kernel_rfl,by kernel_rfl⟩
theorem A7s (α:Type) (n:Nat):Ao PP (Ag (Aag α n).reg):=⟨Av n,Av n,Av n,D8 n,Av n,Av n,D8 n,Av n,Av n,D8 n,Av n,D8 n,Av n,D8 n,trivial⟩
theorem Ar7 (α:Type) (n:Nat):D3.OK PP TT ⟨92,[]⟩ (Aag α n) ((A1 Tryz.f167).at [1,1,0,1,0,0]) :=
 D3.OK.mk3a (A7s α n) (show Ab ((A1 Tryz.f167).at [1,1,0,1,0,0])=[] by kernel_rfl) trivial (show Ar ((A1 Tryz.f167).at [1,1,0,1,0,0])=[(6,A4 ((A1 Tryz.f167).at [1,1,0,1,0,0,1,1,0,0,1,1,0])),(8,A4 ((A1 Tryz.f167).at [1,1,0,1,0,0,1,1,0,0,1,1,1,1,0,0])),(9,A4 ((A1 Tryz.f167).at [1,1,0,1,0,0,1,1,0,0,1,1,1,1,0,1]))] by kernel_rfl) ⟨⟨Ai4 n,A7y n,trivial⟩,⟨Ai3 n,A7x n,trivial⟩,⟨Ai2 n,A7w n,trivial⟩,trivial⟩
theorem Al9 (α:Type) (n:Nat):LO.Sound (α:=α) PP ⟨92,[]⟩ ⟨Qe,Yd,A5 (Yc n) n⟩ (.loop ((A1 Tryz.f167).at [1,1,0,1,0,0])):=lk (Ar7 α n) n
theorem B74 (α:Type) (n:Nat):D3.OK PP TT ⟨92,[]⟩ (Aag α n) (A1 Tryz.f167) :=
 D3.OK.mk3a (A7s α n) (show Ab (A1 Tryz.f167)=[(3,(.loop ((A1 Tryz.f167).at [1,1,0,1,0,0])))] by kernel_rfl) ⟨Ac rfl (Al9 α n),trivial⟩ (show Ar (A1 Tryz.f167)=[(1,A4 ((A1 Tryz.f167).at [1,0])),(6,A4 ((A1 Tryz.f167).at [1,1,0,1,0,0,1,1,0,0,1,1,0])),(8,A4 ((A1 Tryz.f167).at [1,1,0,1,0,0,1,1,0,0,1,1,1,1,0,0])),(9,A4 ((A1 Tryz.f167).at [1,1,0,1,0,0,1,1,0,0,1,1,1,1,0,1]))] by kernel_rfl) ⟨⟨B29 n,trivial⟩,⟨Ai4 n,A7y n,trivial⟩,⟨Ai3 n,A7x n,trivial⟩,⟨Ai2 n,A7w n,trivial⟩,trivial⟩
theorem Ahx (n:Nat):(Aaf n).Sound PP:=fk (fn:=Tryz.f167) (B74 _ n)

def f222 (n:Nat) (a0:Int) (a1:Rq) (a2:Bool × LI × LI × LR × LR × Bool × LI × LI) (a3:Rq):Option Rq :=
 gd (decide (0<=a0)&&decide (a0<(a2.2.2.2.1.length:Int))) (
  let a:=a2.2.2.2.1.getD a0.toNat (false,[],[])
  ob (f162 n a1 a) λb =>
  ob (f162 n b a2.2.2.2.2.2) λc =>
  gd (decide (0<=a0)&&decide (a0<(a2.2.2.2.2.1.length:Int))) (
   let d:=a2.2.2.2.2.1.getD a0.toNat (false,[],[])
   ob (f162 n a3 d) λe =>
   ob (f99 n c e) λf =>
   some f))
def Hi (n:Nat):Ent:=⟨222,[hI,(.ref hR),(.ref (.st (.pair .bool (.pair hIs (.pair hIs (.pair hRs (.pair hRs (.pair .bool (.pair hIs hIs))))))))),(.ref hR)],[hR],λx=>f222 n x.1 x.2.1 x.2.2.1 x.2.2.2⟩
def Bb1 (α:Type) (n:Nat):D3 α:={ reg:=[(1,⟨16,[],[(6,{ ent:=some (A9 n) }),(9,{ ent:=some (A9 n) }),(16,{ ent:=some (A9 n) }),(17,{ ent:=some (Ad n) })]⟩)],join:=[],loop:=[] }
theorem B5s (n:Nat):(Hi n).Sound PP:=B0 (fn:=Tryz.f222) (D:=Bb1 _ n) ⟨Av n,Av n,Av n,D8 n,trivial⟩

def A16 {α:Type} (n:Nat) (g:Rq) (b:Rq × (Bool × LI × LI × LR × LR × Bool × LI × LI) × Rq) (c:LR) (h a:Int) (s:Bool) (t u:LI) (v i:LR) (w:Bool) (x y:LI) (j k l:Bool) (m o:LI) (p:Bool) (q r:LI) (d e:LR) (f:Rq->(Rq × (Bool × LI × LI × LR × LR × Bool × LI × LI) × Rq)->LR->Int->Int->Bool->LI->LI->LR->LR->Bool->LI->LI->Bool->Bool->Bool->LI->LI->Bool->LI->LI->LR->LR->Option α) (k0:Bool->Bool->Bool->LI->LI->Bool->LI->LI->LR->LR->Option α):Option α :=
 bif (decide (a<h)) then
  gd (decide (0<=a)&&decide (a<(c.length:Int))) (
   let z:=c.getD a.toNat (false,[],[])
   ob (f221 n z g) λd0 =>
   gd (decide ((d.length+1)*56<=140737488355328)) (
    gd ((!i.isEmpty)) (
     ob (f222 n a b.1 b.2.1 b.2.2) λd1 =>
     gd (decide ((e.length+1)*56<=140737488355328)) (
      f g b c h (W (a+1)) s t u v i w x y j k l m o p q r (d++[d0]) (e++[d1])))))
 else
  k0 j k l m o p q r d e
abbrev En:Tm:=⟨[(3,.d (.clo 221 (.ref hR))),(4,.d (.clo 222 (.pair (.ref hR) (.pair (.ref (.st (.pair .bool (.pair hIs (.pair hIs (.pair hRs (.pair hRs (.pair .bool (.pair hIs hIs))))))))) (.ref hR))))),(5,.k (.hp 5 0 0)),(10,.k (.hp 10 0 0)),(11,.k (.hp 11 0 0)),(18,.d hRs),(19,.d hI),(20,.d hI)],[(5,.var 91 true false [.d .bool,.d hIs,.d hIs,.d hRs,.d hRs,.d .bool,.d hIs,.d hIs]),(10,.var 91 true false [.d .bool,.d .nil,.d .nil,.d .nil,.d .nil,.d .bool,.d .nil,.d .nil]),(11,.var 91 false false [.d .bool,.d hIs,.d hIs,.k (.hw 31),.k (.hw 42),.d .bool,.d hIs,.d hIs]),(31,.arr 54 hR false),(42,.arr 54 hR false)],[41],[]⟩
abbrev Y1:Tm:=⟨[(10,.k (.hp 10 0 0)),(11,.k (.hp 11 0 0))],[(10,.var 91 true false [.d .bool,.d .nil,.d .nil,.d .nil,.d .nil,.d .bool,.d .nil,.d .nil]),(11,.var 91 false false [.d .bool,.d hIs,.d hIs,.k (.hw 31),.k (.hw 42),.d .bool,.d hIs,.d hIs]),(31,.arr 54 hR false),(42,.arr 54 hR false)],[5],[]⟩
abbrev H2:List (Exit × Tm):=[(.exit 0,Y1)]
def H0 {α:Type} (n:Nat) (v:En.den) (f:En.den->Option α) (ks:KS α H2):Option α:=A16 n v.1.1 v.1.2.1 v.1.2.2.2.2.2.1 v.1.2.2.2.2.2.2.1 v.1.2.2.2.2.2.2.2.1 v.2.1.1 v.2.1.2.1 v.2.1.2.2.1 v.2.1.2.2.2.1 v.2.1.2.2.2.2.1 v.2.1.2.2.2.2.2.1 v.2.1.2.2.2.2.2.2.1 v.2.1.2.2.2.2.2.2.2.1 v.2.2.1.1 v.2.2.1.2.2.2.2.2.1 v.2.2.2.1.1 v.2.2.2.1.2.1 v.2.2.2.1.2.2.1 v.2.2.2.1.2.2.2.2.2.1 v.2.2.2.1.2.2.2.2.2.2.1 v.2.2.2.1.2.2.2.2.2.2.2.1 v.2.2.2.2.1 v.2.2.2.2.2.1 (λa b c d e g h i j k l m o p q r s t u w x y z=>f ((a,b,(),(),(),c,d,e,()),((g,h,i,j,k,l,m,o,()),(p,(),(),(),(),q,(),(),()),(r,s,t,(),(),u,w,x,()),y,z,()))) (λw0 w1 w2 w3 w4 w5 w6 w7 w8 w9=>ks.1 (((),(),()),((w0,(),(),(),(),w1,(),(),()),(w2,w3,w4,(),(),w5,w6,w7,()),w8,w9,())))
def A36 {α:Type} (n m:Nat) (a:Rq) (b:Rq × (Bool × LI × LI × LR × LR × Bool × LI × LI) × Rq) (c:LR) (d e:Int) (f:Bool) (g h:LI) (i j:LR) (k:Bool) (l o:LI) (p q r:Bool) (s t:LI) (u:Bool) (v x:LI) (y z:LR) (k0:Bool->Bool->Bool->LI->LI->Bool->LI->LI->LR->LR->Option α):Option α:=A5 (H0 n) m ((a,b,(),(),(),c,d,e,()),((f,g,h,i,j,k,l,o,()),(p,(),(),(),(),q,(),(),()),(r,s,t,(),(),u,v,x,()),y,z,())) (λw=>k0 w.2.1.1 w.2.1.2.2.2.2.2.1 w.2.2.1.1 w.2.2.1.2.1 w.2.2.1.2.2.1 w.2.2.1.2.2.2.2.2.1 w.2.2.1.2.2.2.2.2.2.1 w.2.2.1.2.2.2.2.2.2.2.1 w.2.2.2.1 w.2.2.2.2.1,())
abbrev Oi:Tm:=⟨[(3,.d (.clo 221 (.ref hR))),(4,.d (.clo 222 (.pair (.ref hR) (.pair (.ref (.st (.pair .bool (.pair hIs (.pair hIs (.pair hRs (.pair hRs (.pair .bool (.pair hIs hIs))))))))) (.ref hR))))),(5,.k (.hp 5 0 0)),(10,.k (.hp 10 0 0)),(11,.k (.hp 11 0 0)),(12,.d hI),(13,.k (.hp 13 0 0)),(18,.d hRs),(19,.d hI),(20,.d hI)],[(5,.var 91 true false [.d .bool,.d hIs,.d hIs,.d hRs,.d hRs,.d .bool,.d hIs,.d hIs]),(10,.var 91 true false [.d .bool,.d .nil,.d .nil,.d .nil,.d .nil,.d .bool,.d .nil,.d .nil]),(11,.var 91 true false [.d .bool,.d hIs,.d hIs,.d .nil,.d .nil,.d .bool,.d hIs,.d hIs]),(13,.var 54 true false [.d .bool,.d hIs,.d hIs])],[6,7],[]⟩
abbrev Le:Tm:=⟨[(3,.d (.clo 221 (.ref hR))),(4,.d (.clo 222 (.pair (.ref hR) (.pair (.ref (.st (.pair .bool (.pair hIs (.pair hIs (.pair hRs (.pair hRs (.pair .bool (.pair hIs hIs))))))))) (.ref hR))))),(5,.k (.hp 5 0 0)),(10,.k (.hp 10 0 0)),(11,.k (.hp 11 0 0)),(12,.d hI),(13,.k (.hp 13 0 0)),(18,.d hRs),(19,.d hI),(20,.d hI)],[(5,.var 91 true false [.d .bool,.d hIs,.d hIs,.d hRs,.d hRs,.d .bool,.d hIs,.d hIs]),(10,.var 91 true false [.d .bool,.d .nil,.d .nil,.d .nil,.d .nil,.d .bool,.d .nil,.d .nil]),(11,.var 91 false false [.d .bool,.d hIs,.d hIs,.k (.hw 31),.k (.hw 42),.d .bool,.d hIs,.d hIs]),(13,.var 54 true false [.d .bool,.d hIs,.d hIs]),(31,.arr 54 hR false),(42,.arr 54 hR false)],[],[]⟩
abbrev Oh:Tm:=⟨[(3,.d (.clo 221 (.ref hR))),(4,.d (.clo 222 (.pair (.ref hR) (.pair (.ref (.st (.pair .bool (.pair hIs (.pair hIs (.pair hRs (.pair hRs (.pair .bool (.pair hIs hIs))))))))) (.ref hR))))),(5,.k (.hp 5 0 0)),(10,.k (.hp 10 0 0)),(11,.k (.hp 11 0 0)),(12,.d hI),(18,.d hRs),(19,.d hI),(20,.d hI)],[(5,.var 91 true false [.d .bool,.d hIs,.d hIs,.d hRs,.d hRs,.d .bool,.d hIs,.d hIs]),(10,.var 91 true false [.d .bool,.d .nil,.d .nil,.d .nil,.d .nil,.d .bool,.d .nil,.d .nil]),(11,.var 91 false false [.d .bool,.d hIs,.d hIs,.k (.hw 31),.d .nil,.d .bool,.d hIs,.d hIs]),(31,.arr 54 hR false)],[13,30],[]⟩
abbrev Ld:Tm:=⟨[(3,.d (.clo 221 (.ref hR))),(4,.d (.clo 222 (.pair (.ref hR) (.pair (.ref (.st (.pair .bool (.pair hIs (.pair hIs (.pair hRs (.pair hRs (.pair .bool (.pair hIs hIs))))))))) (.ref hR))))),(5,.k (.hp 5 0 0)),(10,.k (.hp 10 0 0)),(11,.k (.hp 11 0 0)),(12,.d hI),(18,.d hRs),(19,.d hI),(20,.d hI)],[(5,.var 91 true false [.d .bool,.d hIs,.d hIs,.d hRs,.d hRs,.d .bool,.d hIs,.d hIs]),(10,.var 91 true false [.d .bool,.d .nil,.d .nil,.d .nil,.d .nil,.d .bool,.d .nil,.d .nil]),(11,.var 91 false false [.d .bool,.d hIs,.d hIs,.k (.hw 31),.k (.hw 42),.d .bool,.d hIs,.d hIs]),(31,.arr 54 hR false),(42,.arr 54 hR false)],[13,30],[]⟩
def Vw (n:Nat) (a0:Rq × LR × LR × Rq) (a1 a2 a3:Rq) (a4:Rq × (Bool × LI × LI × LR × LR × Bool × LI × LI) × Rq):Option (Rq × LR × LR × Rq) :=
 bif (decide (0<(a0.2.1.length:Int))) then
  gd (decide (0<(a0.2.1.length:Int))) (
   let a:=a0.2.1.getD 0 (false,[],[])
   ob (f221 n a a3) λb =>
   gd ((!a0.2.2.1.isEmpty)) (
    ob (f222 n 0 a4.1 a4.2.1 a4.2.2) λc =>
    A36 n n a3 a4 a0.2.1 (a0.2.1.length:Int) 1 a0.1.1 a0.1.2.1 a0.1.2.2 a0.2.1 a0.2.2.1 a0.2.2.2.1 a0.2.2.2.2.1 a0.2.2.2.2.2 false false a1.1 a1.2.1 a1.2.2 a2.1 a2.2.1 a2.2.2 [b] [c]
     (λl m d e f g h i j k=>(
      some ((d,e,f),j,k,g,h,i)))))
 else
  some (a1,[],[],a2)
def Cy (n:Nat):Ent:=⟨207,[(.st (.pair hR (.pair hRs (.pair hRs hR)))),hR,hR,(.clo 221 (.ref hR)),(.clo 222 (.pair (.ref hR) (.pair (.ref (.st (.pair .bool (.pair hIs (.pair hIs (.pair hRs (.pair hRs (.pair .bool (.pair hIs hIs))))))))) (.ref hR))))],[(.st (.pair hR (.pair hRs (.pair hRs hR))))],λx=>Vw n x.1 x.2.1 x.2.2.1 x.2.2.2.1 x.2.2.2.2⟩
def J4 (α:Type) (n:Nat):D3 α:={ reg:=[(5,⟨0,[],[(4,{ ent:=some (Ci n) }),(5,{ sh:=some hR }),(6,{ sh:=some hR })]⟩),(7,⟨0,[],[(4,{ ent:=some (Hi n) }),(5,{ sh:=some hR }),(6,{ sh:=some hR })]⟩)],join:=[],loop:=[(3,⟨En,H2,A5 (H0 n) n⟩)],any:=[(5,Oi),(5,Le),(7,Oh),(7,Ld)] }
set_option maxHeartbeats 8000000 in
theorem Ok (n:Nat):Al TT ⟨46,[]⟩ [(4,{ ent:=some (Ci n) }),(5,{ sh:=some hR }),(6,{ sh:=some hR })] Oi (A4 ((A1 Tryz.f207).at [1,1,0,1,0,0,1,1,0,0,1,0])):=by
 refine ⟨by kernel_rfl,λw q hq=>?_⟩
 have e:WT [(4,{ ent:=some (Ci n) }),(5,{ sh:=some hR }),(6,{ sh:=some hR })] (A8 (A4 ((A1 Tryz.f207).at [1,1,0,1,0,0,1,1,0,0,1,0])).toList) q=(∃ (y0:HL (Ci n).rs) (q0:List (Nat × RV)),q=(4,.sv (Ae (Ci n).rs y0))::q0/\q0=[]):=by kernel_rfl
 rw [e] at hq;obtain ⟨y0,q0,rfl,rfl⟩:=hq
 all_goals exact .inr ⟨6,by kernel_rfl,by kernel_rfl,by kernel_rfl⟩
set_option maxHeartbeats 8000000 in
theorem Lg (n:Nat):Al TT ⟨46,[]⟩ [(4,{ ent:=some (Ci n) }),(5,{ sh:=some hR }),(6,{ sh:=some hR })] Le (A4 ((A1 Tryz.f207).at [1,1,0,1,0,0,1,1,0,0,1,0])):=by
 refine ⟨by kernel_rfl,λw q hq=>?_⟩
 have e:WT [(4,{ ent:=some (Ci n) }),(5,{ sh:=some hR }),(6,{ sh:=some hR })] (A8 (A4 ((A1 Tryz.f207).at [1,1,0,1,0,0,1,1,0,0,1,0])).toList) q=(∃ (y0:HL (Ci n).rs) (q0:List (Nat × RV)),q=(4,.sv (Ae (Ci n).rs y0))::q0/\q0=[]):=by kernel_rfl
 rw [e] at hq;obtain ⟨y0,q0,rfl,rfl⟩:=hq
 all_goals exact .inr ⟨6,by kernel_rfl,by kernel_rfl,by kernel_rfl⟩
set_option maxHeartbeats 8000000 in
theorem Oj (n:Nat):Al TT ⟨46,[]⟩ [(4,{ ent:=some (Hi n) }),(5,{ sh:=some hR }),(6,{ sh:=some hR })] Oh (A4 ((A1 Tryz.f207).at [1,1,0,1,0,0,1,1,0,0,1,1,1,0])):=by
 refine ⟨by kernel_rfl,λw q hq=>?_⟩
 have e:WT [(4,{ ent:=some (Hi n) }),(5,{ sh:=some hR }),(6,{ sh:=some hR })] (A8 (A4 ((A1 Tryz.f207).at [1,1,0,1,0,0,1,1,0,0,1,1,1,0])).toList) q=(∃ (y0:HL (Hi n).rs) (q0:List (Nat × RV)),q=(4,.sv (Ae (Hi n).rs y0))::q0/\q0=[]):=by kernel_rfl
 rw [e] at hq;obtain ⟨y0,q0,rfl,rfl⟩:=hq
 all_goals exact .inr ⟨6,by kernel_rfl,by kernel_rfl,by kernel_rfl⟩
set_option maxHeartbeats 8000000 in
theorem Lf (n:Nat):Al TT ⟨46,[]⟩ [(4,{ ent:=some (Hi n) }),(5,{ sh:=some hR }),(6,{ sh:=some hR })] Ld (A4 ((A1 Tryz.f207).at [1,1,0,1,0,0,1,1,0,0,1,1,1,0])):=by
 refine ⟨by kernel_rfl,λw q hq=>?_⟩
 have e:WT [(4,{ ent:=some (Hi n) }),(5,{ sh:=some hR }),(6,{ sh:=some hR })] (A8 (A4 ((A1 Tryz.f207).at [1,1,0,1,0,0,1,1,0,0,1,1,1,0])).toList) q=(∃ (y0:HL (Hi n).rs) (q0:List (Nat × RV)),q=(4,.sv (Ae (Hi n).rs y0))::q0/\q0=[]):=by kernel_rfl
 rw [e] at hq;obtain ⟨y0,q0,rfl,rfl⟩:=hq
 all_goals exact .inr ⟨6,by kernel_rfl,by kernel_rfl,by kernel_rfl⟩
theorem Lc (α:Type) (n:Nat):Ao PP (Ag (J4 α n).reg):=⟨Amz n,B5s n,trivial⟩
theorem Y0 (α:Type) (n:Nat):D3.OK PP TT ⟨46,[]⟩ (J4 α n) ((A1 Tryz.f207).at [1,1,0,1,0,0]) :=
 D3.OK.mk3a (Lc α n) (show Ab ((A1 Tryz.f207).at [1,1,0,1,0,0])=[] by kernel_rfl) trivial (show Ar ((A1 Tryz.f207).at [1,1,0,1,0,0])=[(5,A4 ((A1 Tryz.f207).at [1,1,0,1,0,0,1,1,0,0,1,0])),(7,A4 ((A1 Tryz.f207).at [1,1,0,1,0,0,1,1,0,0,1,1,1,0]))] by kernel_rfl) ⟨⟨Ok n,Lg n,trivial⟩,⟨Oj n,Lf n,trivial⟩,trivial⟩
theorem W9 (α:Type) (n:Nat):LO.Sound (α:=α) PP ⟨46,[]⟩ ⟨En,H2,A5 (H0 n) n⟩ (.loop ((A1 Tryz.f207).at [1,1,0,1,0,0])):=lk (Y0 α n) n
theorem A7e (α:Type) (n:Nat):D3.OK PP TT ⟨46,[]⟩ (J4 α n) (A1 Tryz.f207) :=
 D3.OK.mk3a (Lc α n) (show Ab (A1 Tryz.f207)=[(3,(.loop ((A1 Tryz.f207).at [1,1,0,1,0,0])))] by kernel_rfl) ⟨Ac rfl (W9 α n),trivial⟩ (show Ar (A1 Tryz.f207)=[(5,A4 ((A1 Tryz.f207).at [1,1,0,1,0,0,1,1,0,0,1,0])),(7,A4 ((A1 Tryz.f207).at [1,1,0,1,0,0,1,1,0,0,1,1,1,0]))] by kernel_rfl) ⟨⟨Ok n,Lg n,trivial⟩,⟨Oj n,Lf n,trivial⟩,trivial⟩
theorem A35 (n:Nat):(Cy n).Sound PP:=fk (fn:=Tryz.f207) (A7e _ n)

abbrev Aha:Tm:=⟨[(4,.k (.hp 4 0 0)),(5,.k (.hp 5 0 0)),(6,.k (.hp 6 0 0)),(7,.k (.hp 7 0 0)),(8,.k (.hp 8 0 0))],[(4,.var 91 true false [.d .bool,.d hIs,.d hIs,.d hRs,.d hRs,.d .bool,.d hIs,.d hIs]),(5,.var 54 true false [.d .bool,.d hIs,.d hIs]),(6,.var 54 true false [.d .bool,.d hIs,.d hIs]),(7,.var 54 true false [.d .bool,.d hIs,.d hIs]),(8,.var 91 true false [.d .bool,.d .nil,.d .nil,.d .nil,.d .nil,.d .bool,.d .nil,.d .nil])],[],[]⟩
def A08 (n:Nat) (a0:Rq × LR × LR × Rq) (a1 a2 a3:Rq):Option (Rq × LR × LR × Rq) :=
 ob (f162 n a2 a0.2.2.2) λa =>
 ob (Vw n a0 a1 a a2 (a3,(a0.1.1,a0.1.2.1,a0.1.2.2,a0.2),a2)) λb =>
 some b
def Aa5 (n:Nat):Ent:=⟨210,[(.st (.pair hR (.pair hRs (.pair hRs hR)))),hR,hR,hR],[(.st (.pair hR (.pair hRs (.pair hRs hR))))],λx=>A08 n x.1 x.2.1 x.2.2.1 x.2.2.2⟩
def An3 (α:Type) (n:Nat):D3 α:={ reg:=[(1,⟨0,[],[(5,{ ent:=some (A9 n) }),(6,{ sh:=some (.ref hR) }),(7,{ sh:=some (.pair (.ref hR) (.pair (.ref (.st (.pair .bool (.pair hIs (.pair hIs (.pair hRs (.pair hRs (.pair .bool (.pair hIs hIs))))))))) (.ref hR))) }),(8,{ ent:=some (Cy n) })]⟩)],join:=[],loop:=[],any:=[(1,Aha)] }
set_option maxHeartbeats 8000000 in
theorem B1w (n:Nat):Al TT ⟨18,[]⟩ [(5,{ ent:=some (A9 n) }),(6,{ sh:=some (.ref hR) }),(7,{ sh:=some (.pair (.ref hR) (.pair (.ref (.st (.pair .bool (.pair hIs (.pair hIs (.pair hRs (.pair hRs (.pair .bool (.pair hIs hIs))))))))) (.ref hR))) }),(8,{ ent:=some (Cy n) })] Aha (A4 ((A1 Tryz.f210).at [1,0])):=by
 refine ⟨by kernel_rfl,λw q hq=>?_⟩
 have e:WT [(5,{ ent:=some (A9 n) }),(6,{ sh:=some (.ref hR) }),(7,{ sh:=some (.pair (.ref hR) (.pair (.ref (.st (.pair .bool (.pair hIs (.pair hIs (.pair hRs (.pair hRs (.pair .bool (.pair hIs hIs))))))))) (.ref hR))) }),(8,{ ent:=some (Cy n) })] (A8 (A4 ((A1 Tryz.f210).at [1,0])).toList) q=(∃ (y0:HL (A9 n).rs) (q0:List (Nat × RV)),q=(5,.sv (Ae (A9 n).rs y0))::q0 /\ ∃ (y1:HL (Cy n).rs) (q1:List (Nat × RV)),q0=(8,.sv (Ae (Cy n).rs y1))::q1/\q1=[]):=by kernel_rfl
 rw [e] at hq;obtain ⟨y0,q0,rfl,y1,q1,rfl,rfl⟩:=hq
 all_goals exact .inl (Hy.mk (by kernel_rfl))
theorem Aqm (α:Type) (n:Nat):Ao PP (Ag (An3 α n).reg):=⟨Av n,A35 n,trivial⟩
theorem B61 (α:Type) (n:Nat):D3.OK PP TT ⟨18,[]⟩ (An3 α n) (A1 Tryz.f210) :=
 D3.OK.mk3a (Aqm α n) (show Ab (A1 Tryz.f210)=[] by kernel_rfl) trivial (show Ar (A1 Tryz.f210)=[(1,A4 ((A1 Tryz.f210).at [1,0]))] by kernel_rfl) ⟨⟨B1w n,trivial⟩,trivial⟩
theorem Ah9 (n:Nat):(Aa5 n).Sound PP:=fk (fn:=Tryz.f210) (B61 _ n)

abbrev Ahw:Tm:=⟨[(1,.k (.hp 1 0 0)),(2,.k (.hp 2 0 0))],[(1,.var 91 true false [.d .bool,.d hIs,.d hIs,.d hRs,.d hRs,.d .bool,.d hIs,.d hIs]),(2,.var 91 true false [.d .bool,.d .nil,.d .nil,.d .nil,.d .nil,.d .bool,.d .nil,.d .nil])],[],[]⟩
def A0j (n:Nat) (a0:Rq × LR × LR × Rq):Option (Rq × LR × LR × Rq) :=
 ob (f97 n 1) λc =>
 ob (f206 n c a0.1) λa =>
 ob (f162 n a a) λb =>
 ob (f158 n b) λd =>
 ob (f162 n b a) λe =>
 ob (f97 n 2) λf =>
 ob (f162 n e f) λg =>
 ob (A08 n a0 a d g) λh =>
 some h
def Anm (n:Nat):Ent:=⟨169,[(.st (.pair hR (.pair hRs (.pair hRs hR))))],[(.st (.pair hR (.pair hRs (.pair hRs hR))))],λx=>A0j n x⟩
def Ann (α:Type) (n:Nat):D3 α:={ reg:=[(1,⟨0,[],[(0,{ ent:=some (At n) }),(3,{ ent:=some (Ga n) })]⟩),(2,⟨0,[],[(2,{ ent:=some (A9 n) })]⟩),(3,⟨9,[],[(3,{ ent:=some (Aio n) }),(6,{ ent:=some (A9 n) }),(7,{ ent:=some (At n) }),(8,{ ent:=some (A9 n) }),(9,{ ent:=some (Aa5 n) })]⟩)],join:=[],loop:=[],any:=[(1,Ahw)] }
set_option maxHeartbeats 8000000 in
theorem B27 (n:Nat):Al TT ⟨22,[]⟩ [(0,{ ent:=some (At n) }),(3,{ ent:=some (Ga n) })] Ahw (A4 ((A1 Tryz.f169).at [1,0])):=by
 refine ⟨by kernel_rfl,λw q hq=>?_⟩
 have e:WT [(0,{ ent:=some (At n) }),(3,{ ent:=some (Ga n) })] (A8 (A4 ((A1 Tryz.f169).at [1,0])).toList) q=(∃ (y0:HL (At n).rs) (q0:List (Nat × RV)),q=(0,.sv (Ae (At n).rs y0))::q0 /\ ∃ (y1:HL (Ga n).rs) (q1:List (Nat × RV)),q0=(3,.sv (Ae (Ga n).rs y1))::q1/\q1=[]):=by kernel_rfl
 rw [e] at hq;obtain ⟨y0,q0,rfl,y1,q1,rfl,rfl⟩:=hq
 all_goals exact .inr ⟨5,by kernel_rfl,by kernel_rfl,by kernel_rfl⟩
theorem Ar6 (α:Type) (n:Nat):Ao PP (Ag (Ann α n).reg):=⟨Bi n,An7 n,Av n,Ao9 n,Av n,Bi n,Av n,Ah9 n,trivial⟩
theorem B71 (α:Type) (n:Nat):D3.OK PP TT ⟨22,[]⟩ (Ann α n) (A1 Tryz.f169) :=
 D3.OK.mk3a (Ar6 α n) (show Ab (A1 Tryz.f169)=[] by kernel_rfl) trivial (show Ar (A1 Tryz.f169)=[(1,A4 ((A1 Tryz.f169).at [1,0])),(3,A4 ((A1 Tryz.f169).at [1,1,1,0]))] by kernel_rfl) ⟨⟨B27 n,trivial⟩,trivial,trivial⟩
theorem B26 (n:Nat):(Anm n).Sound PP:=fk (fn:=Tryz.f169) (B71 _ n)

abbrev Ain:Tm:=⟨[(4,.k (.hp 4 0 0)),(5,.k (.hp 5 0 0)),(6,.k (.hp 6 0 0)),(7,.k (.hp 7 0 0))],[(4,.var 54 true false [.d .bool,.d .nil,.d .nil]),(5,.var 54 true false [.d .bool,.d .nil,.d .nil]),(6,.var 54 true false [.d .bool,.d hIs,.d hIs]),(7,.var 54 true false [.d .bool,.d hIs,.d hIs])],[2],[]⟩
abbrev B2l:Tm:=⟨[(1,.d hI),(2,.k (.hp 2 0 0)),(4,.k (.hp 4 0 0)),(5,.k (.hp 5 0 0)),(6,.k (.hp 6 0 0)),(7,.k (.hp 7 0 0))],[(2,.var 91 true false [.d .bool,.d hIs,.d hIs,.d hRs,.d hRs,.d .bool,.d hIs,.d hIs]),(4,.var 54 true false [.d .bool,.d .nil,.d .nil]),(5,.var 54 true false [.d .bool,.d .nil,.d .nil]),(6,.var 54 true false [.d .bool,.d hIs,.d hIs]),(7,.var 54 true false [.d .bool,.d hIs,.d hIs])],[],[]⟩
def Aeg (n:Nat) (a0:Rq × LR × LR × Rq) (a1:Int):Option (Rq × Rq) :=
 ob (f97 n 0) λa =>
 ob (f97 n 0) λg =>
 let c:=λ(d:Bool) (e:LI) (f:LI)=>(
  bif (decide (a1>=2)) then
   ob (f170 n a0.1 (W (a1-2))) λh =>
   ob (f97 n (W (a1*(W (a1-1))))) λi =>
   ob (f162 n h i) λj =>
   some ((d,e,f),j)
  else
   some ((d,e,f),g))
 bif (decide (a1>=1)) then
  ob (f170 n a0.1 (W (a1-1))) λk =>
  ob (f97 n a1) λl =>
  ob (f162 n k l) λb =>
  c b.1 b.2.1 b.2.2
 else
  c a.1 a.2.1 a.2.2
def Ao6 (n:Nat):Ent:=⟨161,[(.st (.pair hR (.pair hRs (.pair hRs hR)))),hI],[hR,hR],λx=>Aeg n x.1 x.2⟩
def Ao7 (α:Type) (n:Nat):D3 α:={ reg:=[(1,⟨0,[],[(0,{ ent:=some (At n) }),(1,{ ent:=some (At n) })]⟩),(3,⟨0,[],[(4,{ ent:=some (J8 n) }),(6,{ ent:=some (At n) }),(7,{ ent:=some (A9 n) })]⟩),(5,⟨0,[],[(4,{ ent:=some (J8 n) }),(9,{ ent:=some (At n) }),(10,{ ent:=some (A9 n) })]⟩)],join:=[(4,B2l)],loop:=[],any:=[(6,Ain)] }
set_option maxHeartbeats 8000000 in
theorem B2m (n:Nat):Al TT ⟨35,[]⟩ [] Ain (A4 ((A1 Tryz.f161).at [1,1,1,1,0])):=by
 refine ⟨by kernel_rfl,λw q hq=>?_⟩
 have e:WT [] (A8 (A4 ((A1 Tryz.f161).at [1,1,1,1,0])).toList) q=(q=[]):=by kernel_rfl
 rw [e] at hq;obtain rfl:=hq
 all_goals exact .inr ⟨3,by kernel_rfl,by kernel_rfl,by kernel_rfl⟩
theorem Arg (α:Type) (n:Nat):Ao PP (Ag (Ao7 α n).reg):=⟨Bi n,Bi n,Ih n,Bi n,Av n,Ih n,Bi n,Av n,trivial⟩
theorem B7h (α:Type) (n:Nat):D3.OK PP TT ⟨35,[]⟩ (Ao7 α n) (A1 Tryz.f161) :=
 D3.OK.mk3a (Arg α n) (show Ab (A1 Tryz.f161)=[] by kernel_rfl) trivial (show Ar (A1 Tryz.f161)=[(6,A4 ((A1 Tryz.f161).at [1,1,1,1,0]))] by kernel_rfl) ⟨⟨B2m n,trivial⟩,trivial⟩
theorem B2k (n:Nat):(Ao6 n).Sound PP:=fk (fn:=Tryz.f161) (B7h _ n)

def A0i (n:Nat) (a0:Rq × LR × LR × Rq) (a1:Int):Option (Rq × LR × LR × Rq) :=
 ob (Aeg n a0 a1) λa =>
 ob (f170 n a0.1 a1) λb =>
 ob (A08 n a0 b a.1 a.2) λc =>
 some c
def Anl (n:Nat):Ent:=⟨171,[(.st (.pair hR (.pair hRs (.pair hRs hR)))),hI],[(.st (.pair hR (.pair hRs (.pair hRs hR))))],λx=>A0i n x.1 x.2⟩
def B6z (α:Type) (n:Nat):D3 α:={ reg:=[(1,⟨0,[],[(2,{ ent:=some (Ao6 n) })]⟩),(2,⟨7,[],[(4,{ ent:=some (J8 n) }),(7,{ ent:=some (Aa5 n) })]⟩)],join:=[],loop:=[] }
theorem B25 (n:Nat):(Anl n).Sound PP:=B0 (fn:=Tryz.f171) (D:=B6z _ n) ⟨B2k n,Ih n,Ah9 n,trivial⟩

abbrev Ada:Tm:=⟨[(2,.d hRs),(3,.k (.hw 1003)),(4,.k (.hp 4 0 0)),(5,.k (.hp 5 0 0)),(8,.k (.hp 8 0 0)),(10,.k (.hp 10 0 0)),(11,.k (.hp 11 0 0))],[(4,.var 94 true false [.d hI,.d hRs]),(5,.var 85 true false [.d hI,.d hI,.d hI,.d hI]),(8,.var 91 true false [.d .bool,.d .nil,.d .nil,.d .nil,.d .nil,.d .bool,.d .nil,.d .nil]),(10,.var 91 true false [.d .bool,.d .nil,.d .nil,.d .nil,.d .nil,.d .bool,.d .nil,.d .nil]),(11,.var 91 true false [.d .bool,.d .nil,.d .nil,.d .nil,.d .nil,.d .bool,.d .nil,.d .nil]),(1003,.arr 91 (.st (.pair hR (.pair hRs (.pair hRs hR)))) false)],[],[]⟩
abbrev Ayz:Tm:=⟨[(2,.d hRs),(4,.k (.hp 4 0 0)),(5,.k (.hp 5 0 0)),(8,.k (.hp 8 0 0)),(10,.k (.hp 10 0 0)),(11,.k (.hp 11 0 0))],[(4,.var 94 true false [.d hI,.d hRs]),(5,.var 85 true false [.d hI,.d hI,.d hI,.d hI]),(8,.var 91 true false [.d .bool,.d .nil,.d .nil,.d .nil,.d .nil,.d .bool,.d .nil,.d .nil]),(10,.var 91 true false [.d .bool,.d hIs,.d hIs,.d hRs,.d hRs,.d .bool,.d hIs,.d hIs]),(11,.var 91 true false [.d .bool,.d hIs,.d hIs,.d hRs,.d hRs,.d .bool,.d hIs,.d hIs]),(1003,.arr 91 (.st (.pair hR (.pair hRs (.pair hRs hR)))) false)],[],[]⟩
def A8h (n:Nat) (a0:Int × LR) (a1:Nq) (a2:LR) (a3:List (Rq × LR × LR × Rq)):Option (((Rq × LR × LR × Rq) × Int) × (List (Rq × LR × LR × Rq))) :=
 let t:=λ(c:Bool) (d:LI) (e:LI) (f:LR) (g:LR) (h:Bool) (i:LI) (j:LI) (k:Bool) (l:LI) (m:LI) (o:LR) (p:LR) (q:Bool) (r:LI) (s:LI)=>(
  bif (a1.1==1) then
   ob (f97 n a1.2.2.2) λu =>
   ob (Aee n a0 u) λv =>
   some ((v,0),a3)
  else
   bif (a1.1==2) then
    gd (decide (0<=a1.2.2.2)&&decide (a1.2.2.2<(a2.length:Int))) (
     let w:=a2.getD a1.2.2.2.toNat (false,[],[])
     ob (Aed n a0 w a1.2.2.2) λx =>
     some ((x,0),a3))
   else
    bif (a1.1==3) then
     ob (My n ((c,d,e),f,g,h,i,j) ((k,l,m),o,p,q,r,s)) λy =>
     some ((y,0),a3)
    else
     bif (a1.1==4) then
      ob (f97 n (-1)) λz =>
      ob (Mx n ((k,l,m),o,p,q,r,s) z) λd0 =>
      ob (My n ((c,d,e),f,g,h,i,j) d0) λd1 =>
      some ((d1,0),a3)
     else
      bif (a1.1==5) then
       ob (Mw n ((c,d,e),f,g,h,i,j) ((k,l,m),o,p,q,r,s)) λd2 =>
       some ((d2,0),a3)
      else
       bif (a1.1==6) then
        ob (f168 n (k,l,m)) λd3 =>
        bif d3 then
         some ((((false,[],[]),[],[],false,[],[]),10),a3)
        else
         ob (A0j n ((k,l,m),o,p,q,r,s)) λd4 =>
         ob (Mw n ((c,d,e),f,g,h,i,j) d4) λd5 =>
         some ((d5,0),a3)
       else
        bif (a1.1==7) then
         ob (f97 n (-1)) λd6 =>
         ob (Mx n ((c,d,e),f,g,h,i,j) d6) λd7 =>
         some ((d7,0),a3)
        else
         ob (f170 n (c,d,e) a1.2.2.2) λd8 =>
         ob (f98 n d8) λd9 =>
         bif (!d9) then
          some ((((false,[],[]),[],[],false,[],[]),7),a3)
         else
          ob (A0i n ((c,d,e),f,g,h,i,j) a1.2.2.2) λe0 =>
          some ((e0,0),a3))
 ob (f61 n a1) λe1 =>
 bif (decide (e1>0)) then
  gd (decide (0<=a1.2.1)&&decide (a1.2.1<(a3.length:Int))) (
   gd (decide (a1.2.1.toNat<a3.length)) (
    let a:=a3.getD a1.2.1.toNat ((false,[],[]),[],[],(false,[],[]))
    gd (decide (0<=a1.2.2.1)&&decide (a1.2.2.1<(a3.length:Int))) (
     gd (decide (a1.2.2.1.toNat<a3.length)) (
      let b:=a3.getD a1.2.2.1.toNat ((false,[],[]),[],[],(false,[],[]))
      t a.1.1 a.1.2.1 a.1.2.2 a.2.1 a.2.2.1 a.2.2.2.1 a.2.2.2.2.1 a.2.2.2.2.2 b.1.1 b.1.2.1 b.1.2.2 b.2.1 b.2.2.1 b.2.2.2.1 b.2.2.2.2.1 b.2.2.2.2.2))))
 else
  t false [] [] [] [] false [] [] false [] [] [] [] false [] []
def Aj7 (n:Nat):Ent3:=⟨101,[.im (.st (.pair hI hRs)),.im hN,.im hRs,.one (.own 91 (.st (.pair hR (.pair hRs (.pair hRs hR)))))],[[.im (.st (.pair hR (.pair hRs (.pair hRs hR)))),.im hI]],λx=>A8h n x.1 x.2.1 x.2.2.1 x.2.2.2,[]⟩
def Aj8 (α:Type) (n:Nat):D3 α:={ reg:=[(2,⟨0,[],[(1,{ ent:=some (A02 n) })]⟩),(6,⟨4,[],[(3,{ ent:=some (At n) }),(4,{ ent:=some (Ao1 n) })]⟩),(8,⟨8,[],[(8,{ ent:=some (Ao0 n) })]⟩),(10,⟨0,[],[(2,{ ent:=some (Aai n) })]⟩),(12,⟨4,[],[(2,{ ent:=some (At n) }),(3,{ ent:=some (Aah n) }),(4,{ ent:=some (Aai n) })]⟩),(14,⟨0,[],[(2,{ ent:=some (Aaf n) })]⟩),(16,⟨0,[],[(2,{ ent:=some (P5 n) })]⟩),(18,⟨3,[],[(2,{ ent:=some (Anm n) }),(3,{ ent:=some (Aaf n) })]⟩),(20,⟨2,[],[(1,{ ent:=some (At n) }),(2,{ ent:=some (Aah n) })]⟩),(21,⟨0,[],[(4,{ ent:=some (J8 n) }),(5,{ ent:=some (Mr n) })]⟩),(23,⟨0,[],[(3,{ ent:=some (Anl n) })]⟩)],join:=[(4,Ayz)],loop:=[],any:=[(3,Ada)] }
set_option maxHeartbeats 8000000 in
theorem Az0 (n:Nat):Al TT ⟨89,[]⟩ [] Ada (A4 ((A1 Tryz.f101).at [1,1,0,1,0])):=by
 refine ⟨by kernel_rfl,λw q hq=>?_⟩
 have e:WT [] (A8 (A4 ((A1 Tryz.f101).at [1,1,0,1,0])).toList) q=(q=[]):=by kernel_rfl
 rw [e] at hq;obtain rfl:=hq
 all_goals exact .inr ⟨11,by kernel_rfl,by kernel_rfl,by kernel_rfl⟩
theorem Alk (α:Type) (n:Nat):Ao PP (Ag (Aj8 α n).reg):=⟨Xp n,Bi n,B2f n,B2d n,Aia n,Bi n,Ai7 n,Aia n,Ahx n,Nl n,B26 n,Ahx n,Bi n,Ai7 n,Ih n,Lb n,B25 n,trivial⟩
theorem B31 (α:Type) (n:Nat):D3.OK PP TT ⟨89,[]⟩ (Aj8 α n) (A1 Tryz.f101) :=
 D3.OK.mk3a (Alk α n) (show Ab (A1 Tryz.f101)=[] by kernel_rfl) trivial (show Ar (A1 Tryz.f101)=[(3,A4 ((A1 Tryz.f101).at [1,1,0,1,0])),(6,A4 ((A1 Tryz.f101).at [1,1,1,0,1,0,1,0,0])),(8,A4 ((A1 Tryz.f101).at [1,1,1,0,1,0,1,1,1,0,0])),(12,A4 ((A1 Tryz.f101).at [1,1,1,0,1,0,1,1,1,1,1,1,1,0,0])),(18,A4 ((A1 Tryz.f101).at [1,1,1,0,1,0,1,1,1,1,1,1,1,1,1,1,1,0,1,0])),(20,A4 ((A1 Tryz.f101).at [1,1,1,0,1,0,1,1,1,1,1,1,1,1,1,1,1,1,1,0,0]))] by kernel_rfl) ⟨⟨Az0 n,trivial⟩,trivial,trivial,trivial,trivial,trivial,trivial⟩
theorem Ayy (n:Nat):(Aj7 n).Sound PP:=fkB (fn:=Tryz.f101) (B31 _ n)

def A7o (n:Nat) (a0:Rq × LR × LR × Rq):Option Bool :=
 ob (f51 n a0.2.1) λa =>
 ob (f51 n a0.2.2.1) λb =>
 ob (f98 n a0.1) λc =>
 bif c then
  ob (f98 n a0.2.2.2) λd =>
  bif d then
   bif (a.2==0) then
    some (b.2==0)
   else
    some false
  else
   some false
 else
  some false
def Ani (n:Nat):Ent:=⟨180,[(.st (.pair hR (.pair hRs (.pair hRs hR))))],[.bool],λx=>A7o n x⟩
def B6p (α:Type) (n:Nat):D3 α:={ reg:=[(1,⟨0,[],[(2,{ ent:=some (A76 n) })]⟩),(2,⟨0,[],[(2,{ ent:=some (A76 n) })]⟩),(3,⟨0,[],[(2,{ ent:=some (Mr n) }),(6,{ ent:=some (Mr n) })]⟩)],join:=[],loop:=[] }
theorem B22 (n:Nat):(Ani n).Sound PP:=B0 (fn:=Tryz.f180) (D:=B6p _ n) ⟨A75 n,A75 n,Lb n,Lb n,trivial⟩

def Yz {α:Type} (n:Nat) (e:LR) (c:LN) (g b h:Int) (i:LR) (d:List (Rq × LR × LR × Rq)) (f:LR->LN->Int->Int->Int->LR->(List (Rq × LR × LR × Rq))->Option α) (k0:Int->Option α) (k1:(List (Rq × LR × LR × Rq))->Option α):Option α :=
 bif (decide (b<g)) then
  gd (decide (0<=b)&&decide (b<(c.length:Int))) (
   let j:=c.getD b.toNat (0,0,0,0)
   ob (A8h n (h,i) j e d) λa =>
   gd (Nat.beq a.2.length d.length&&true) (
    bif (a.1.2 != 0) then
     k0 a.1.2
    else
     ob (A7o n a.1.1) λk =>
     bif (!k) then
      k0 7
     else
      gd (decide ((a.2.length+1)*160<=140737488355328)) (
       f e c g (W (b+1)) h i (a.2++[a.1.1]))))
 else
  k1 d
abbrev Qj:Tm:=⟨[(2,.d hRs),(3,.k (.hp 3 0 0)),(8,.k (.hw 13)),(14,.d hNs),(15,.d hI),(16,.d hI)],[(3,.var 94 true false [.d hI,.d hRs]),(13,.arr 91 (.st (.pair hR (.pair hRs (.pair hRs hR)))) false)],[10,11,36],[]⟩
abbrev As8:Tm:=⟨[(6,.d .nil),(7,.d hI)],[],[3,10,11,13],[]⟩
abbrev As7:Tm:=⟨[(8,.k (.hw 13))],[(13,.arr 91 (.st (.pair hR (.pair hRs (.pair hRs hR)))) false)],[3],[]⟩
abbrev Yy:List (Exit × Tm):=[(.ret,As8),(.exit 0,As7)]
def Yx {α:Type} (n:Nat) (v:Qj.den) (f:Qj.den->Option α) (ks:KS α Yy):Option α:=Yz n v.1.1 v.1.2.2.2.1 v.1.2.2.2.2.1 v.1.2.2.2.2.2.1 v.2.1.1 v.2.1.2.1 v.2.2.1 (λa b c d e g h=>f ((a,(),(),b,c,d,()),((e,g,()),h,()))) (λw0=>ks.1 (((),w0,()),())) (λw0=>ks.2.1 (((),()),(w0,())))
def Us {α:Type} (n m:Nat) (a:LR) (b:LN) (c d e:Int) (f:LR) (g:List (Rq × LR × LR × Rq)) (k0:Int->Option α) (k1:(List (Rq × LR × LR × Rq))->Option α):Option α:=A5 (Yx n) m ((a,(),(),b,c,d,()),((e,f,()),g,())) (λw=>k0 w.1.2.1,λw=>k1 w.2.1,())
theorem As6 {α n m a b c d e f g k0 k1}:Us (α:=α) n (m+1) a b c d e f g k0 k1=Yz n a b c d e f g (λa b c d e f g=>Us n m a b c d e f g k0 k1) k0 k1:=rfl
def Aei (n:Nat) (a0:Int × LR) (a1:LN) (a2:LR):Option ((List (Rq × LR × LR × Rq)) × Int) :=
 Us n n a2 a1 (a1.length:Int) 0 a0.1 a0.2 []
  (λa=>(
   some ([],a)))
  (λb=>(
   some (b,0)))
def Aoh (n:Nat):Ent:=⟨113,[(.st (.pair hI hRs)),hNs,hRs],[(.sl (.st (.pair hR (.pair hRs (.pair hRs hR))))),hI],λx=>Aei n x.1 x.2.1 x.2.2⟩
def Aat (α:Type) (n:Nat):D3 α:={ reg:=[(1,⟨0,[],[(0,{ sh:=some (.st (.pair hR (.pair hRs (.pair hRs hR)))) })]⟩),(5,⟨0,[],[(4,{ alt:=[(Aj7 n)],hb:=310 })]⟩),(8,⟨0,[],[(1,{ ent:=some (Ani n) })]⟩),(10,⟨0,[],[(2,{ sh:=some (.st (.pair hR (.pair hRs (.pair hRs hR)))) })]⟩)],join:=[],loop:=[(3,⟨Qj,Yy,A5 (Yx n) n⟩)] }
theorem A8d (α:Type) (n:Nat):Ao PP (Ag (Aat α n).reg):=⟨Ayy n,B22 n,trivial⟩
theorem Alf (α:Type) (n:Nat):LO.Sound (α:=α) PP ⟨40,[]⟩ ⟨Qj,Yy,A5 (Yx n) n⟩ (.loop ((A1 Tryz.f113).at [1,1,0,1,0,0])):=C5 (D:=Aat α n) (A8d α n) n
theorem B8g (α:Type) (n:Nat):D3.OK PP TT ⟨40,[]⟩ (Aat α n) (A1 Tryz.f113) :=
 D3.OK.mk3 (A8d α n) (show Ab (A1 Tryz.f113)=[(3,(.loop ((A1 Tryz.f113).at [1,1,0,1,0,0])))] by kernel_rfl) ⟨Ac rfl (Alf α n),trivial⟩
theorem B2u (n:Nat):(Aoh n).Sound PP:=fk (fn:=Tryz.f113) (B8g _ n)

def Aq4 (n:Nat) (a0:Int × LR) (a1:LN) (a2:LR):Option ((Rq × LR × LR × Rq) × Int) :=
 ob (Aei n a0 a1 a2) λa =>
 bif (a.2 != 0) then
  some (((false,[],[]),[],[],false,[],[]),a.2)
 else
  gd (decide (0<=(W ((a.1.length:Int)-1)))&&decide ((W ((a.1.length:Int)-1))<(a.1.length:Int))) (
   let b:=a.1.getD ((W ((a.1.length:Int)-1)).toNat) ((false,[],[]),[],[],(false,[],[]))
   some (b,0))
def Auq (n:Nat):Ent:=⟨68,[(.st (.pair hI hRs)),hE,hRs],[(.st (.pair hR (.pair hRs (.pair hRs hR)))),hI],λx=>Aq4 n x.1 x.2.1 x.2.2⟩
def Bah (α:Type) (n:Nat):D3 α:={ reg:=[(1,⟨0,[],[(4,{ ent:=some (Aoh n) })]⟩)],join:=[],loop:=[] }
theorem B5l (n:Nat):(Auq n).Sound PP:=B0 (fn:=Tryz.f68) (D:=Bah _ n) ⟨B2u n,trivial⟩

abbrev Auz:Tm:=⟨[(1,.d hRs),(2,.d hRs),(3,.k (.hp 3 0 0)),(6,.k (.hp 6 0 0)),(7,.k (.hp 7 0 0))],[(3,.var 43 true false [.d hNs]),(6,.var 54 true false [.d .bool,.d .nil,.d .nil]),(7,.var 54 true false [.d .bool,.d .nil,.d .nil])],[],[]⟩
def f30 (n:Nat) (a0:LN) (a1 a2:LR):Option (Rq × Rq × Int) :=
 ob (f71 n [a1,a2]) λc =>
 ob (f67 n a0 a1) λd =>
 ob (f72 n a1 a2) λe =>
 ob (f70 n [c,d,e]) λb =>
 bif (b != 0) then
  some ((false,[],[]),(false,[],[]),b)
 else
  ob (Aq4 n (0,a2) a0 a1) λa =>
  bif (a.2 != 0) then
   some ((false,[],[]),(false,[],[]),a.2)
  else
   ob (f73 n a.1.1) λf =>
   ob (f73 n a.1.2.2.2) λg =>
   some (f,g,0)
def B47 (n:Nat):Ent:=⟨30,[hE,hRs,hRs],[hR,hR,hI],λx=>f30 n x.1 x.2.1 x.2.2⟩
def B48 (α:Type) (n:Nat):D3 α:={ reg:=[(1,⟨0,[],[(2,{ sh:=some hRs }),(3,{ ent:=some (Ht n) }),(6,{ ent:=some (Q3 n) }),(9,{ ent:=some (Zx n) }),(10,{ sh:=some hI }),(11,{ ent:=some (Gt n) })]⟩),(4,⟨0,[],[(4,{ ent:=some (Auq n) })]⟩),(7,⟨5,[],[(2,{ ent:=some (A71 n) }),(5,{ ent:=some (A71 n) })]⟩)],join:=[],loop:=[],any:=[(1,Auz)] }
set_option maxHeartbeats 8000000 in
theorem Bas (n:Nat):Al TT ⟨48,[]⟩ [(2,{ sh:=some hRs }),(3,{ ent:=some (Ht n) }),(6,{ ent:=some (Q3 n) }),(9,{ ent:=some (Zx n) }),(10,{ sh:=some hI }),(11,{ ent:=some (Gt n) })] Auz (A4 ((A1 Tryz.f30).at [1,0,0])):=by
 refine ⟨by kernel_rfl,λw q hq=>?_⟩
 have e:WT [(2,{ sh:=some hRs }),(3,{ ent:=some (Ht n) }),(6,{ ent:=some (Q3 n) }),(9,{ ent:=some (Zx n) }),(10,{ sh:=some hI }),(11,{ ent:=some (Gt n) })] (A8 (A4 ((A1 Tryz.f30).at [1,0,0])).toList) q=(∃ (y0:HL (Ht n).rs) (q0:List (Nat × RV)),q=(3,.sv (Ae (Ht n).rs y0))::q0 /\ ∃ (y1:HL (Q3 n).rs) (q1:List (Nat × RV)),q0=(6,.sv (Ae (Q3 n).rs y1))::q1 /\ ∃ (y2:HL (Zx n).rs) (q2:List (Nat × RV)),q1=(9,.sv (Ae (Zx n).rs y2))::q2 /\ ∃ (y3:HL (Gt n).rs) (q3:List (Nat × RV)),q2=(11,.sv (Ae (Gt n).rs y3))::q3/\q3=[]):=by kernel_rfl
 rw [e] at hq;obtain ⟨y0,q0,rfl,y1,q1,rfl,y2,q2,rfl,y3,q3,rfl,rfl⟩:=hq
 all_goals exact .inr ⟨9,by kernel_rfl,by kernel_rfl,by kernel_rfl⟩
theorem B1q (α:Type) (n:Nat):Ao PP (Ag (B48 α n).reg):=⟨Agm n,Agr n,Bae n,A72 n,B5l n,A70 n,A70 n,trivial⟩
theorem Bf6 (α:Type) (n:Nat):D3.OK PP TT ⟨48,[]⟩ (B48 α n) (A1 Tryz.f30) :=
 D3.OK.mk3a (B1q α n) (show Ab (A1 Tryz.f30)=[] by kernel_rfl) trivial (show Ar (A1 Tryz.f30)=[(1,A4 ((A1 Tryz.f30).at [1,0,0])),(7,A4 ((A1 Tryz.f30).at [1,1,1,1,0]))] by kernel_rfl) ⟨⟨Bas n,trivial⟩,trivial,trivial⟩
theorem Bar (n:Nat):(B47 n).Sound PP:=fk (fn:=Tryz.f30) (Bf6 _ n)

def f121 (n:Nat) (a0:Int) (a1:LR):Option Rq :=
 gd (decide (0<=a0)&&decide (a0<(a1.length:Int))) (
  let a:=a1.getD a0.toNat (false,[],[])
  some a)
def Ayj (n:Nat):Ent:=⟨121,[hI,(.ref hRs)],[hR],λx=>f121 n x.1 x.2⟩
def Bd9 (α:Type) (n:Nat):D3 α:={ reg:=[],join:=[],loop:=[] }
theorem B8a (n:Nat):(Ayj n).Sound PP:=B0 (fn:=Tryz.f121) (D:=Bd9 _ n) trivial

def Ph {α:Type} (n:Nat) (c:LR) (d a:Int) (b:LR) (f:LR->Int->Int->LR->Option α) (k0:LR->Option α):Option α :=
 bif (decide (a<d)) then
  ob (f121 n a c) λe =>
  ob (f73 n e) λg =>
  gd (decide ((b.length+1)*56<=140737488355328)) (
   f c d (W (a+1)) (b++[g]))
 else
  k0 b
abbrev J9:Tm:=⟨[(1,.d (.clo 121 (.ref hRs))),(5,.k (.hw 7)),(8,.d hI),(9,.d hI)],[(7,.arr 54 hR false)],[17],[]⟩
abbrev Ady:Tm:=⟨[(5,.k (.hw 7))],[(7,.arr 54 hR false)],[],[]⟩
abbrev Pg:List (Exit × Tm):=[(.exit 0,Ady)]
def Pf {α:Type} (n:Nat) (v:J9.den) (f:J9.den->Option α) (ks:KS α Pg):Option α:=Ph n v.1.1 v.1.2.2.1 v.1.2.2.2.1 v.2.1 (λa b c d=>f ((a,(),b,c,()),(d,()))) (λw0=>ks.1 (((),()),(w0,())))
def Kx {α:Type} (n m:Nat) (a:LR) (b c:Int) (d:LR) (k0:LR->Option α):Option α:=A5 (Pf n) m ((a,(),b,c,()),(d,())) (λw=>k0 w.2.1,())
theorem Adx {α n m a b c d k0}:Kx (α:=α) n (m+1) a b c d k0=Ph n a b c d (λa b c d=>Kx n m a b c d k0) k0:=rfl
def A5p (n:Nat) (a0:Int) (a1:LR):Option LR :=
 Kx n n a1 a0 0 []
  (λa=>(
   some a))
def A8g (n:Nat):Ent:=⟨102,[hI,(.clo 121 (.ref hRs))],[hRs],λx=>A5p n x.1 x.2⟩
def Uw (α:Type) (n:Nat):D3 α:={ reg:=[(1,⟨0,[],[(0,{ sh:=some hR })]⟩),(5,⟨0,[],[(3,{ ent:=some (Ayj n) }),(4,{ ent:=some (A71 n) }),(5,{ sh:=some hR })]⟩)],join:=[],loop:=[(3,⟨J9,Pg,A5 (Pf n) n⟩)] }
theorem W7 (α:Type) (n:Nat):Ao PP (Ag (Uw α n).reg):=⟨B8a n,A70 n,trivial⟩
theorem Aau (α:Type) (n:Nat):LO.Sound (α:=α) PP ⟨21,[]⟩ ⟨J9,Pg,A5 (Pf n) n⟩ (.loop ((A1 Tryz.f102).at [1,1,0,1,0,0])):=C5 (D:=Uw α n) (W7 α n) n
theorem Asd (α:Type) (n:Nat):D3.OK PP TT ⟨21,[]⟩ (Uw α n) (A1 Tryz.f102) :=
 D3.OK.mk3 (W7 α n) (show Ab (A1 Tryz.f102)=[(3,(.loop ((A1 Tryz.f102).at [1,1,0,1,0,0])))] by kernel_rfl) ⟨Ac rfl (Aau α n),trivial⟩
theorem Alj (n:Nat):(A8g n).Sound PP:=fk (fn:=Tryz.f102) (Asd _ n)

def f69 (n:Nat) (a0:LR):Option LR :=
 ob (A5p n (a0.length:Int) a0) λa =>
 some a
def B43 (n:Nat):Ent:=⟨69,[hRs],[hRs],λx=>f69 n x⟩
def Beu (α:Type) (n:Nat):D3 α:={ reg:=[(1,⟨0,[],[(2,{ sh:=some (.ref hRs) }),(3,{ ent:=some (A8g n) })]⟩)],join:=[],loop:=[] }
theorem Bag (n:Nat):(B43 n).Sound PP:=B0 (fn:=Tryz.f69) (D:=Beu _ n) ⟨Alj n,trivial⟩

def f26 (n:Nat) (a0:LN) (a1:LR):Option (LR × Int) :=
 ob (f67 n a0 a1) λb =>
 bif (b != 0) then
  some ([],b)
 else
  ob (f68 n ((a1.length:Int),()) a0 a1) λa =>
  bif (a.2 != 0) then
   some ([],a.2)
  else
   ob (f69 n a.1.2.1) λc =>
   some (c,0)
def B4b (n:Nat):Ent:=⟨26,[hE,hRs],[hRs,hI],λx=>f26 n x.1 x.2⟩
def Bf9 (α:Type) (n:Nat):D3 α:={ reg:=[(1,⟨0,[],[(2,{ ent:=some (Q3 n) })]⟩),(4,⟨0,[],[(5,{ ent:=some (Aq5 n) })]⟩),(7,⟨0,[],[(2,{ ent:=some (B43 n) })]⟩)],join:=[],loop:=[] }
theorem Bav (n:Nat):(B4b n).Sound PP:=B0 (fn:=Tryz.f26) (D:=Bf9 _ n) ⟨Agr n,Aur n,Bag n,trivial⟩

def Yw {α:Type} (n:Nat) (b c:Int) (a:LR) (f:Int->Int->LR->Option α) (k0:LR->Option α):Option α :=
 bif (decide (c<b)) then
  ob (f131 n 0) λd =>
  gd (decide ((a.length+1)*56<=140737488355328)) (
   f b (W (c+1)) (a++[d]))
 else
  k0 a
abbrev Qi:Tm:=⟨[(0,.d hI),(3,.k (.hw 5)),(4,.d hI)],[(5,.arr 54 hR false)],[13],[]⟩
abbrev As4:Tm:=⟨[(3,.k (.hw 5))],[(5,.arr 54 hR false)],[],[]⟩
abbrev Yv:List (Exit × Tm):=[(.exit 0,As4)]
def Yu {α:Type} (n:Nat) (v:Qi.den) (f:Qi.den->Option α) (ks:KS α Yv):Option α:=Yw n v.1.1 v.1.2.2.1 v.2.1 (λa b c=>f ((a,(),b,()),(c,()))) (λw0=>ks.1 (((),()),(w0,())))
def Uq {α:Type} (n m:Nat) (a b:Int) (c:LR) (k0:LR->Option α):Option α:=A5 (Yu n) m ((a,(),b,()),(c,())) (λw=>k0 w.2.1,())
theorem As3 {α n m a b c k0}:Uq (α:=α) n (m+1) a b c k0=Yw n a b c (λa b c=>Uq n m a b c k0) k0:=rfl
def Aeh (n:Nat) (a0:Int):Option LR :=
 Uq n n a0 0 []
  (λa=>(
   some a))
def Aog (n:Nat):Ent3:=⟨118,[.im hI],[[.one (.own 54 hR)]],λx=>Aeh n x,[]⟩
def Aas (α:Type) (n:Nat):D3 α:={ reg:=[(1,⟨0,[],[(0,{ sh:=some hR })]⟩),(5,⟨0,[],[(1,{ ent:=some (C2 n) }),(2,{ sh:=some hR })]⟩)],join:=[],loop:=[(3,⟨Qi,Yv,A5 (Yu n) n⟩)] }
theorem A8c (α:Type) (n:Nat):Ao PP (Ag (Aas α n).reg):=⟨D2 n,trivial⟩
theorem Ale (α:Type) (n:Nat):LO.Sound (α:=α) PP ⟨16,[]⟩ ⟨Qi,Yv,A5 (Yu n) n⟩ (.loop ((A1 Tryz.f118).at [1,1,0,1,0,0])):=C5 (D:=Aas α n) (A8c α n) n
theorem B8d (α:Type) (n:Nat):D3.OK PP TT ⟨16,[]⟩ (Aas α n) (A1 Tryz.f118) :=
 D3.OK.mk3 (A8c α n) (show Ab (A1 Tryz.f118)=[(3,(.loop ((A1 Tryz.f118).at [1,1,0,1,0,0])))] by kernel_rfl) ⟨Ac rfl (Ale α n),trivial⟩
theorem B2t (n:Nat):(Aog n).Sound PP:=fkB (fn:=Tryz.f118) (B8d _ n)

def f81 (n:Nat) (a0 a1:Int):Option LR :=
 ob (Aeh n a0) λa =>
 ob (f131 n 1) λb =>
 gd (decide (0<=a1)&&decide (a1<(a.length:Int))) (
  gd (decide (a1.toNat<a.length)) (
   some (a.set a1.toNat b)))
def Zs (n:Nat):Ent:=⟨81,[hI,hI],[hRs],λx=>f81 n x.1 x.2⟩
def Bek (α:Type) (n:Nat):D3 α:={ reg:=[(1,⟨0,[],[(1,{ entB:=some (Aog n),hb:=310 })]⟩),(2,⟨0,[],[(2,{ ent:=some (C2 n) })]⟩)],join:=[],loop:=[] }
theorem Ba8 (n:Nat):(Zs n).Sound PP:=B0 (fn:=Tryz.f81) (D:=Bek _ n) ⟨B2t n,D2 n,trivial⟩

def Zv {α:Type} (n:Nat) (a:LR) (b:Int) (e:LN) (c:LR) (f:LR->Int->LN->LR->Option α) (k0:Int->LR->Option α) (k1:LR->Option α):Option α :=
 bif (decide (b<(a.length:Int))) then
  ob (f81 n (a.length:Int) b) λg =>
  ob (f118 n (a.length:Int)) λh =>
  ob (f126 n e a g h) λd =>
  bif (d.2 != 0) then
   k0 d.2 []
  else
   ob (f127 n d.1.2.1) λi =>
   gd (decide ((c.length+1)*56<=140737488355328)) (
    f a (W (b+1)) e (c++[i]))
 else
  k1 c
abbrev Zu:Tm:=⟨[(1,.d hRs),(2,.k (.hp 2 0 0)),(6,.k (.hw 10)),(7,.d hI)],[(2,.var 43 true false [.d hNs]),(10,.arr 54 hR false)],[8,38],[]⟩
abbrev B1g:Tm:=⟨[(4,.k (.hw 32)),(5,.d hI)],[(32,.arr 54 hR false)],[2,8,10],[]⟩
abbrev B1f:Tm:=⟨[(6,.k (.hw 10))],[(10,.arr 54 hR false)],[2],[]⟩
abbrev A9n:List (Exit × Tm):=[(.ret,B1g),(.exit 0,B1f)]
def A9m {α:Type} (n:Nat) (v:Zu.den) (f:Zu.den->Option α) (ks:KS α A9n):Option α:=Zv n v.1.1 v.1.2.2.2.1 v.2.1.1 v.2.2.1 (λa b c d=>f ((a,(),(),b,()),((c,()),d,()))) (λw0 w1=>ks.1 (((),w0,()),(w1,()))) (λw0=>ks.2.1 (((),()),(w0,())))
def A6z {α:Type} (n m:Nat) (a:LR) (b:Int) (c:LN) (d:LR) (k0:Int->LR->Option α) (k1:LR->Option α):Option α:=A5 (A9m n) m ((a,(),(),b,()),((c,()),d,())) (λw=>k0 w.1.2.1 w.2.1,λw=>k1 w.2.1,())
theorem Agl {α n m a b c d k0 k1}:A6z (α:=α) n (m+1) a b c d k0 k1=Zv n a b c d (λa b c d=>A6z n m a b c d k0 k1) k0 k1:=rfl
abbrev Auk:Tm:=⟨[(1,.d hRs),(2,.k (.hp 2 0 0)),(6,.k (.hw 10)),(7,.d hI)],[(2,.var 43 true false [.d hNs]),(10,.arr 54 hR false)],[],[]⟩
def f76 (n:Nat) (a0:LN) (a1:LR):Option (LR × Int) :=
 A6z n n a1 0 a0 []
  (λa b=>(
   some (b,a)))
  (λc=>(
   some (c,0)))
def B41 (n:Nat):Ent:=⟨76,[hE,hRs],[hRs,hI],λx=>f76 n x.1 x.2⟩
def Aq0 (α:Type) (n:Nat):D3 α:={ reg:=[(1,⟨0,[],[(0,{ sh:=some hR })]⟩),(5,⟨0,[],[(5,{ ent:=some (Zs n) }),(8,{ ent:=some (Pe n) }),(9,{ ent:=some (Pb n) })]⟩),(7,⟨0,[],[(0,{ sh:=some hR })]⟩),(8,⟨0,[],[(3,{ ent:=some (Aiu n) }),(4,{ sh:=some hR })]⟩)],join:=[],loop:=[(3,⟨Zu,A9n,A5 (A9m n) n⟩)],any:=[(5,Auk)] }
set_option maxHeartbeats 8000000 in
theorem Aul (n:Nat):Al TT ⟨41,[]⟩ [(5,{ ent:=some (Zs n) }),(8,{ ent:=some (Pe n) }),(9,{ ent:=some (Pb n) })] Auk (A4 ((A1 Tryz.f76).at [1,1,0,1,0,0,1,0,0,0])):=by
 refine ⟨by kernel_rfl,λw q hq=>?_⟩
 have e:WT [(5,{ ent:=some (Zs n) }),(8,{ ent:=some (Pe n) }),(9,{ ent:=some (Pb n) })] (A8 (A4 ((A1 Tryz.f76).at [1,1,0,1,0,0,1,0,0,0])).toList) q=(∃ (y0:HL (Zs n).rs) (q0:List (Nat × RV)),q=(5,.sv (Ae (Zs n).rs y0))::q0 /\ ∃ (y1:HL (Pe n).rs) (q1:List (Nat × RV)),q0=(8,.sv (Ae (Pe n).rs y1))::q1 /\ ∃ (y2:HL (Pb n).rs) (q2:List (Nat × RV)),q1=(9,.sv (Ae (Pb n).rs y2))::q2/\q2=[]):=by kernel_rfl
 rw [e] at hq;obtain ⟨y0,q0,rfl,y1,q1,rfl,y2,q2,rfl,rfl⟩:=hq
 all_goals exact .inr ⟨15,by kernel_rfl,by kernel_rfl,by kernel_rfl⟩
theorem Agk (α:Type) (n:Nat):Ao PP (Ag (Aq0 α n).reg):=⟨Ba8 n,Aof n,Aoe n,Aoc n,trivial⟩
theorem B1e (α:Type) (n:Nat):D3.OK PP TT ⟨41,[]⟩ (Aq0 α n) ((A1 Tryz.f76).at [1,1,0,1,0,0]) :=
 D3.OK.mk3a (Agk α n) (show Ab ((A1 Tryz.f76).at [1,1,0,1,0,0])=[] by kernel_rfl) trivial (show Ar ((A1 Tryz.f76).at [1,1,0,1,0,0])=[(5,A4 ((A1 Tryz.f76).at [1,1,0,1,0,0,1,0,0,0]))] by kernel_rfl) ⟨⟨Aul n,trivial⟩,trivial⟩
theorem Auj (α:Type) (n:Nat):LO.Sound (α:=α) PP ⟨41,[]⟩ ⟨Zu,A9n,A5 (A9m n) n⟩ (.loop ((A1 Tryz.f76).at [1,1,0,1,0,0])):=lk (B1e α n) n
theorem Ben (α:Type) (n:Nat):D3.OK PP TT ⟨41,[]⟩ (Aq0 α n) (A1 Tryz.f76) :=
 D3.OK.mk3a (Agk α n) (show Ab (A1 Tryz.f76)=[(3,(.loop ((A1 Tryz.f76).at [1,1,0,1,0,0])))] by kernel_rfl) ⟨Ac rfl (Auj α n),trivial⟩ (show Ar (A1 Tryz.f76)=[(5,A4 ((A1 Tryz.f76).at [1,1,0,1,0,0,1,0,0,0]))] by kernel_rfl) ⟨⟨Aul n,trivial⟩,trivial⟩
theorem Bab (n:Nat):(B41 n).Sound PP:=fk (fn:=Tryz.f76) (Ben _ n)

def f31 (n:Nat) (a0:LN) (a1:LR):Option (LR × Int) :=
 bif (decide ((a1.length:Int)>4096)) then
  some ([],2)
 else
  ob (f74 n a0 a1) λa =>
  bif (a != 0) then
   some ([],a)
  else
   ob (f76 n a0 a1) λb =>
   some (b.1,b.2)
def B46 (n:Nat):Ent:=⟨31,[hE,hRs],[hRs,hI],λx=>f31 n x.1 x.2⟩
def Bf5 (α:Type) (n:Nat):D3 α:={ reg:=[(2,⟨0,[],[(0,{ sh:=some hR })]⟩),(3,⟨0,[],[(2,{ ent:=some (Aq1 n) })]⟩),(5,⟨0,[],[(0,{ sh:=some hR })]⟩),(6,⟨0,[],[(2,{ ent:=some (B41 n) })]⟩)],join:=[],loop:=[] }
theorem Baq (n:Nat):(B46 n).Sound PP:=B0 (fn:=Tryz.f31) (D:=Bf5 _ n) ⟨Aum n,Bab n,trivial⟩

def A9l {α:Type} (n:Nat) (b c:LI) (a:Int) (f:LI->LI->Int->Option α) (k0:Bool->Option α) (k1:Unit->Option α):Option α :=
 bif (decide (a<(b.length:Int))) then
  gd (decide (0<=a)&&decide (a<(b.length:Int))) (
   gd (decide (0<=a)&&decide (a<(c.length:Int))) (
    bif ((b.getD a.toNat 0) != (c.getD a.toNat 0)) then
     k0 false
    else
     f b c (W (a+1))))
 else
  k1 ()
abbrev Zt:Tm:=⟨[(0,.d hIs),(1,.d hIs),(5,.d hI)],[],[],[]⟩
abbrev B1d:Tm:=⟨[(4,.d .bool)],[],[],[]⟩
abbrev B1c:Tm:=⟨[],[],[],[]⟩
abbrev A9k:List (Exit × Tm):=[(.ret,B1d),(.exit 0,B1c)]
def A9j {α:Type} (n:Nat) (v:Zt.den) (f:Zt.den->Option α) (ks:KS α A9k):Option α:=A9l n v.1.1 v.1.2.1 v.1.2.2.1 (λa b c=>f ((a,b,c,()),())) (λw0=>ks.1 ((w0,()),())) (λ_=>ks.2.1 ((),()))
def Xm {α:Type} (n m:Nat) (a b:LI) (c:Int) (k0:Bool->Option α) (k1:Unit->Option α):Option α:=A5 (A9j n) m ((a,b,c,()),()) (λw=>k0 w.1.1,λw=>k1 (),())
theorem B1b {α n m a b c k0 k1}:Xm (α:=α) n (m+1) a b c k0 k1=A9l n a b c (λa b c=>Xm n m a b c k0 k1) k0 k1:=rfl
def f77 (n:Nat) (a0 a1:LI):Option Bool :=
 bif ((a0.length:Int) != (a1.length:Int)) then
  some false
 else
  Xm n n a0 a1 0
   (λa=>(
    some a))
   (λ(_:Unit)=>(
    some true))
def Apy (n:Nat):Ent:=⟨77,[hIs,hIs],[.bool],λx=>f77 n x.1 x.2⟩
def Apz (α:Type) (n:Nat):D3 α:={ reg:=[(6,⟨8,[],[]⟩)],join:=[],loop:=[(4,⟨Zt,A9k,A5 (A9j n) n⟩)] }
theorem Agj (α:Type) (n:Nat):Ao PP (Ag (Apz α n).reg):=trivial
theorem Aui (α:Type) (n:Nat):LO.Sound (α:=α) PP ⟨26,[]⟩ ⟨Zt,A9k,A5 (A9j n) n⟩ (.loop ((A1 Tryz.f77).at [1,1,0,1,0,0])):=C5 (D:=Apz α n) (Agj α n) n
theorem Bem (α:Type) (n:Nat):D3.OK PP TT ⟨26,[]⟩ (Apz α n) (A1 Tryz.f77) :=
 D3.OK.mk3 (Agj α n) (show Ab (A1 Tryz.f77)=[(4,(.loop ((A1 Tryz.f77).at [1,1,0,1,0,0])))] by kernel_rfl) ⟨Ac rfl (Aui α n),trivial⟩
theorem Auh (n:Nat):(Apy n).Sound PP:=fk (fn:=Tryz.f77) (Bem _ n)

def f32 (n:Nat) (a0 a1:Rq):Option Bool :=
 bif (a0.1==a1.1) then
  ob (f77 n a0.2.1 a1.2.1) λa =>
  bif a then
   ob (f77 n a0.2.2 a1.2.2) λb =>
   some b
  else
   some false
 else
  some false
def A79 (n:Nat):Ent:=⟨32,[hR,hR],[.bool],λx=>f32 n x.1 x.2⟩
def Bf4 (α:Type) (n:Nat):D3 α:={ reg:=[(1,⟨0,[],[(10,{ ent:=some (Apy n) }),(17,{ ent:=some (Apy n) })]⟩)],join:=[],loop:=[] }
theorem A77 (n:Nat):(A79 n).Sound PP:=B0 (fn:=Tryz.f32) (D:=Bf4 _ n) ⟨Auh n,Auh n,trivial⟩

def Aa2 {α:Type} (n:Nat) (b c:LR) (a:Int) (f:LR->LR->Int->Option α) (k0:Bool->Option α) (k1:Unit->Option α):Option α :=
 bif (decide (a<(b.length:Int))) then
  gd (decide (0<=a)&&decide (a<(b.length:Int))) (
   let d:=b.getD a.toNat (false,[],[])
   gd (decide (0<=a)&&decide (a<(c.length:Int))) (
    let e:=c.getD a.toNat (false,[],[])
    ob (f32 n d e) λg =>
    bif (!g) then
     k0 false
    else
     f b c (W (a+1))))
 else
  k1 ()
abbrev A04:Tm:=⟨[(0,.d hRs),(1,.d hRs),(5,.d hI)],[],[],[]⟩
abbrev B1t:Tm:=⟨[(4,.d .bool)],[],[],[]⟩
abbrev B1s:Tm:=⟨[],[],[],[]⟩
abbrev Aa1:List (Exit × Tm):=[(.ret,B1t),(.exit 0,B1s)]
def Aa0 {α:Type} (n:Nat) (v:A04.den) (f:A04.den->Option α) (ks:KS α Aa1):Option α:=Aa2 n v.1.1 v.1.2.1 v.1.2.2.1 (λa b c=>f ((a,b,c,()),())) (λw0=>ks.1 ((w0,()),())) (λ_=>ks.2.1 ((),()))
def Xr {α:Type} (n m:Nat) (a b:LR) (c:Int) (k0:Bool->Option α) (k1:Unit->Option α):Option α:=A5 (Aa0 n) m ((a,b,c,()),()) (λw=>k0 w.1.1,λw=>k1 (),())
theorem B1r {α n m a b c k0 k1}:Xr (α:=α) n (m+1) a b c k0 k1=Aa2 n a b c (λa b c=>Xr n m a b c k0 k1) k0 k1:=rfl
def f25 (n:Nat) (a0 a1:LR):Option Bool :=
 bif ((a0.length:Int) != (a1.length:Int)) then
  some false
 else
  Xr n n a0 a1 0
   (λa=>(
    some a))
   (λ(_:Unit)=>(
    some true))
def B4c (n:Nat):Ent:=⟨25,[hRs,hRs],[.bool],λx=>f25 n x.1 x.2⟩
def Aqa (α:Type) (n:Nat):D3 α:={ reg:=[(6,⟨8,[],[(8,{ ent:=some (A79 n) })]⟩)],join:=[],loop:=[(4,⟨A04,Aa1,A5 (Aa0 n) n⟩)] }
theorem Agz (α:Type) (n:Nat):Ao PP (Ag (Aqa α n).reg):=⟨A77 n,trivial⟩
theorem Av0 (α:Type) (n:Nat):LO.Sound (α:=α) PP ⟨27,[]⟩ ⟨A04,Aa1,A5 (Aa0 n) n⟩ (.loop ((A1 Tryz.f25).at [1,1,0,1,0,0])):=C5 (D:=Aqa α n) (Agz α n) n
theorem Bfa (α:Type) (n:Nat):D3.OK PP TT ⟨27,[]⟩ (Aqa α n) (A1 Tryz.f25) :=
 D3.OK.mk3 (Agz α n) (show Ab (A1 Tryz.f25)=[(4,(.loop ((A1 Tryz.f25).at [1,1,0,1,0,0])))] by kernel_rfl) ⟨Ac rfl (Av0 α n),trivial⟩
theorem Baw (n:Nat):(B4c n).Sound PP:=fk (fn:=Tryz.f25) (Bfa _ n)

def A52 {α:Type} (n:Nat) (c b:List LR) (d a:Int) (f:(List LR)->(List LR)->Int->Int->Option α) (k0:Int->Option α) (k1:(List LR)->Option α):Option α :=
 bif (decide (a<d)) then
  gd (decide (0<=a)&&decide (a<(b.length:Int))) (
   ob (f119 n (b.getD a.toNat [])) λe =>
   bif (!e) then
    k0 1
   else
    f c b d (W (a+1)))
 else
  k1 c
abbrev Ui:Tm:=⟨[(0,.d (.sl hRs)),(13,.d (.sl hRs)),(14,.d hI),(15,.d hI)],[],[],[]⟩
abbrev Ay1:Tm:=⟨[(2,.d hI)],[],[],[]⟩
abbrev Ay0:Tm:=⟨[(0,.d (.sl hRs))],[],[],[]⟩
abbrev A51:List (Exit × Tm):=[(.ret,Ay1),(.exit 0,Ay0)]
def A50 {α:Type} (n:Nat) (v:Ui.den) (f:Ui.den->Option α) (ks:KS α A51):Option α:=A52 n v.1.1 v.1.2.1 v.1.2.2.1 v.1.2.2.2.1 (λa b c d=>f ((a,b,c,d,()),())) (λw0=>ks.1 ((w0,()),())) (λw0=>ks.2.1 ((w0,()),()))
def S5 {α:Type} (n m:Nat) (a b:List LR) (c d:Int) (k0:Int->Option α) (k1:(List LR)->Option α):Option α:=A5 (A50 n) m ((a,b,c,d,()),()) (λw=>k0 w.1.1,λw=>k1 w.1.1,())
theorem Axz {α n m a b c d k0 k1}:S5 (α:=α) n (m+1) a b c d k0 k1=A52 n a b c d (λa b c d=>S5 n m a b c d k0 k1) k0 k1:=rfl
def Yn {α:Type} (n:Nat) (b c:List LR) (d a:Int) (f:(List LR)->(List LR)->Int->Int->Option α) (k0:Int->Option α) (k1:Unit->Option α):Option α :=
 bif (decide (a<d)) then
  gd (decide (0<=a)&&decide (a<(c.length:Int))) (
   gd (decide (0<(b.length:Int))) (
    bif ((((c.getD a.toNat []).length:Nat):Int) != (((b.getD 0 []).length:Nat):Int)) then
     k0 8
    else
     f b c d (W (a+1))))
 else
  k1 ()
abbrev Qg:Tm:=⟨[(0,.d (.sl hRs)),(23,.d (.sl hRs)),(24,.d hI),(25,.d hI)],[],[],[]⟩
abbrev Art:Tm:=⟨[(2,.d hI)],[],[],[]⟩
abbrev Ars:Tm:=⟨[],[],[],[]⟩
abbrev Ym:List (Exit × Tm):=[(.ret,Art),(.exit 2,Ars)]
def Yl {α:Type} (n:Nat) (v:Qg.den) (f:Qg.den->Option α) (ks:KS α Ym):Option α:=Yn n v.1.1 v.1.2.1 v.1.2.2.1 v.1.2.2.2.1 (λa b c d=>f ((a,b,c,d,()),())) (λw0=>ks.1 ((w0,()),())) (λ_=>ks.2.1 ((),()))
def Kh {α:Type} (n m:Nat) (a b:List LR) (c d:Int) (k0:Int->Option α) (k1:Unit->Option α):Option α:=A5 (Yl n) m ((a,b,c,d,()),()) (λw=>k0 w.1.1,λw=>k1 (),())
theorem Arr {α n m a b c d k0 k1}:Kh (α:=α) n (m+1) a b c d k0 k1=Yn n a b c d (λa b c d=>Kh n m a b c d k0 k1) k0 k1:=rfl
def f128 (n:Nat) (a0:List LR):Option Int :=
 ob (f71 n a0) λb =>
 bif (b != 0) then
  some b
 else
  S5 n n a0 a0 (a0.length:Int) 0
   (λc=>(
    some c))
   (λa=>(
    Kh n n a a (a.length:Int) 0
     (λd=>(
      some d))
     (λ(_:Unit)=>(
      some 0))))
def Ay2 (n:Nat):Ent:=⟨128,[(.sl hRs)],[hI],λx=>f128 n x⟩
def A89 (α:Type) (n:Nat):D3 α:={ reg:=[(1,⟨0,[],[(1,{ ent:=some (Ht n) })]⟩),(7,⟨0,[],[(1,{ ent:=some (Lq n) })]⟩)],join:=[],loop:=[(5,⟨Ui,A51,A5 (A50 n) n⟩),(11,⟨Qg,Ym,A5 (Yl n) n⟩)] }
theorem Yk (α:Type) (n:Nat):Ao PP (Ag (A89 α n).reg):=⟨Agm n,Aaq n,trivial⟩
theorem Arq (α:Type) (n:Nat):LO.Sound (α:=α) PP ⟨37,[]⟩ ⟨Ui,A51,A5 (A50 n) n⟩ (.loop ((A1 Tryz.f128).at [1,1,0,1,0,0])):=C5 (D:=A89 α n) (Yk α n) n
theorem Alc (α:Type) (n:Nat):LO.Sound (α:=α) PP ⟨37,[]⟩ ⟨Qg,Ym,A5 (Yl n) n⟩ (.loop ((A1 Tryz.f128).at [1,1,1,0,1,0,0])):=C5 (D:=A89 α n) (Yk α n) n
theorem Bd3 (α:Type) (n:Nat):D3.OK PP TT ⟨37,[]⟩ (A89 α n) (A1 Tryz.f128) :=
 D3.OK.mk3 (Yk α n) (show Ab (A1 Tryz.f128)=[(5,(.loop ((A1 Tryz.f128).at [1,1,0,1,0,0]))),(11,(.loop ((A1 Tryz.f128).at [1,1,1,0,1,0,0])))] by kernel_rfl) ⟨Ac rfl (Arq α n),Ac rfl (Alc α n),trivial⟩
theorem B7z (n:Nat):(Ay2 n).Sound PP:=fk (fn:=Tryz.f128) (Bd3 _ n)

def A4z {α:Type} (n:Nat) (b c:LR) (e a:Int) (g h:Bool) (i j:LI) (f:LR->LR->Int->Int->Bool->Bool->LI->LI->Option α) (k0:Bool->Bool->LI->LI->Option α):Option α :=
 bif (decide (a<e)) then
  gd (decide (0<=a)&&decide (a<(c.length:Int))) (
   let k:=c.getD a.toNat (false,[],[])
   gd (decide (0<=a)&&decide (a<(b.length:Int))) (
    let l:=b.getD a.toNat (false,[],[])
    ob (f162 n k l) λm =>
    ob (f99 n (h,i,j) m) λd =>
    f b c e (W (a+1)) g d.1 d.2.1 d.2.2))
 else
  k0 g h i j
abbrev Uh:Tm:=⟨[(1,.d hRs),(4,.k (.hp 4 0 0)),(5,.k (.hp 5 0 0)),(9,.d hRs),(10,.d hI),(11,.d hI)],[(4,.var 54 true false [.d .bool,.d .nil,.d .nil]),(5,.var 54 true false [.d .bool,.d hIs,.d hIs])],[7],[]⟩
abbrev Axw:Tm:=⟨[(4,.k (.hp 4 0 0)),(5,.k (.hp 5 0 0))],[(4,.var 54 true false [.d .bool,.d .nil,.d .nil]),(5,.var 54 true false [.d .bool,.d hIs,.d hIs])],[],[]⟩
abbrev A4y:List (Exit × Tm):=[(.exit 0,Axw)]
def A4x {α:Type} (n:Nat) (v:Uh.den) (f:Uh.den->Option α) (ks:KS α A4y):Option α:=A4z n v.1.1 v.1.2.2.2.1 v.1.2.2.2.2.1 v.1.2.2.2.2.2.1 v.2.1.1 v.2.2.1.1 v.2.2.1.2.1 v.2.2.1.2.2.1 (λa b c d e g h i=>f ((a,(),(),b,c,d,()),((e,(),(),()),(g,h,i,()),()))) (λw0 w1 w2 w3=>ks.1 (((),(),()),((w0,(),(),()),(w1,w2,w3,()),())))
def S2 {α:Type} (n m:Nat) (a b:LR) (c d:Int) (e f:Bool) (g h:LI) (k0:Bool->Bool->LI->LI->Option α):Option α:=A5 (A4x n) m ((a,(),(),b,c,d,()),((e,(),(),()),(f,g,h,()),())) (λw=>k0 w.2.1.1 w.2.2.1.1 w.2.2.1.2.1 w.2.2.1.2.2.1,())
theorem Axv {α n m a b c d e f g h k0}:S2 (α:=α) n (m+1) a b c d e f g h k0=A4z n a b c d e f g h (λa b c d e f g h=>S2 n m a b c d e f g h k0) k0:=rfl
def f130 (n:Nat) (a0 a1:LR):Option Rq :=
 ob (f97 n 0) λa =>
 S2 n n a1 a0 (a0.length:Int) 0 false a.1 a.2.1 a.2.2
  (λe b c d=>(
   some (b,c,d)))
def Axx (n:Nat):Ent:=⟨130,[hRs,hRs],[hR],λx=>f130 n x.1 x.2⟩
def Ait (α:Type) (n:Nat):D3 α:={ reg:=[(1,⟨0,[],[(0,{ ent:=some (At n) })]⟩),(5,⟨7,[],[(6,{ ent:=some (A9 n) }),(7,{ ent:=some (Ad n) })]⟩)],join:=[],loop:=[(3,⟨Uh,A4y,A5 (A4x n) n⟩)] }
theorem Acy (α:Type) (n:Nat):Ao PP (Ag (Ait α n).reg):=⟨Bi n,Av n,D8 n,trivial⟩
theorem Arp (α:Type) (n:Nat):LO.Sound (α:=α) PP ⟨26,[]⟩ ⟨Uh,A4y,A5 (A4x n) n⟩ (.loop ((A1 Tryz.f130).at [1,1,0,1,0,0])):=C5 (D:=Ait α n) (Acy α n) n
theorem Bd1 (α:Type) (n:Nat):D3.OK PP TT ⟨26,[]⟩ (Ait α n) (A1 Tryz.f130) :=
 D3.OK.mk3 (Acy α n) (show Ab (A1 Tryz.f130)=[(3,(.loop ((A1 Tryz.f130).at [1,1,0,1,0,0])))] by kernel_rfl) ⟨Ac rfl (Arp α n),trivial⟩
theorem B7x (n:Nat):(Axx n).Sound PP:=fk (fn:=Tryz.f130) (Bd1 _ n)

def f129 (n:Nat) (a0:Rq):Option (Rq × Int) :=
 ob (f98 n a0) λa =>
 bif (!a) then
  some ((false,[],[]),7)
 else
  some (a0,0)
def Axy (n:Nat):Ent:=⟨129,[hR],[hR,hI],λx=>f129 n x⟩
def Bd2 (α:Type) (n:Nat):D3 α:={ reg:=[(1,⟨0,[],[(1,{ ent:=some (Mr n) })]⟩)],join:=[],loop:=[] }
theorem B7y (n:Nat):(Axy n).Sound PP:=B0 (fn:=Tryz.f129) (D:=Bd2 _ n) ⟨Lb n,trivial⟩

def f78 (n:Nat) (a0 a1:LR):Option (Rq × Int) :=
 ob (f128 n [a0,a1]) λa =>
 bif (a != 0) then
  some ((false,[],[]),a)
 else
  ob (f130 n a0 a1) λc =>
  ob (f129 n c) λb =>
  some (b.1,b.2)
def B40 (n:Nat):Ent:=⟨78,[hRs,hRs],[hR,hI],λx=>f78 n x.1 x.2⟩
def Bel (α:Type) (n:Nat):D3 α:={ reg:=[(1,⟨0,[],[(2,{ sh:=some hRs }),(3,{ ent:=some (Ay2 n) })]⟩),(4,⟨0,[],[(2,{ ent:=some (Axx n) }),(3,{ ent:=some (Axy n) })]⟩)],join:=[],loop:=[] }
theorem Ba9 (n:Nat):(B40 n).Sound PP:=B0 (fn:=Tryz.f78) (D:=Bel _ n) ⟨B7z n,B7x n,B7y n,trivial⟩

def f33 (n:Nat) (a0 a1:LR):Option (Rq × Bool) :=
 ob (f78 n a0 a1) λa =>
 some (a.1,(a.2==0))
def B45 (n:Nat):Ent:=⟨33,[hRs,hRs],[hR,.bool],λx=>f33 n x.1 x.2⟩
def Bf3 (α:Type) (n:Nat):D3 α:={ reg:=[(1,⟨0,[],[(2,{ ent:=some (B40 n) })]⟩)],join:=[],loop:=[] }
theorem Bap (n:Nat):(B45 n).Sound PP:=B0 (fn:=Tryz.f33) (D:=Bf3 _ n) ⟨Ba9 n,trivial⟩

abbrev Bal:Tm:=⟨[(7,.d hRs),(8,.k (.hp 8 0 0)),(9,.d hI),(12,.k (.hp 12 0 0)),(13,.k (.hp 13 0 0)),(14,.d hI),(15,.d hRs),(16,.d hI),(98,.d .bool)],[(8,.var 54 true false [.d .bool,.d hIs,.d hIs]),(12,.var 54 true false [.d .bool,.d hIs,.d hIs]),(13,.var 54 true false [.d .bool,.d hIs,.d hIs])],[5,10,33],[]⟩
def f5 (n:Nat) (a0 a1:LI):Option Bool :=
 bif (decide ((a0.length:Int)>1048576)) then
  some true
 else
  bif (decide ((a1.length:Int)>1048576)) then
   some true
  else
   ob (f20 n a0 3 true) λc =>
   ob (f21 n a1 3) λd =>
   gd (decide ((1+a1.length)*1<=140737488355328)) (
    ob (f21 n ([5]++a1) 3) λg =>
    ob (f28 n c d) λa =>
    ob (f29 n c d) λh =>
    ob (f30 n c d g) λe =>
    ob (f26 n c d) λb =>
    ob (f31 n c d) λi =>
    bif (a.2 != h.2) then
     some false
    else
     ob (f32 n a.1 h.1) λk =>
     bif (!k) then
      some false
     else
      bif (b.2 != i.2) then
       some false
      else
       ob (f25 n b.1 i.1) λl =>
       bif (!l) then
        some false
       else
        let f:=λ(m:Bool)=>(
         bif m then
          bif (a.2==10) then
           some true
          else
           bif (a.2==7) then
            some true
           else
            bif (e.2.2==7) then
             some true
            else
             some (b.2==7)
         else
          ob (f33 n b.1 g) λj =>
          ob (f32 n e.1 a.1) λo =>
          bif o then
           bif j.2 then
            ob (f32 n j.1 e.2.1) λp =>
            bif p then
             some ((b.1.length:Int)==3)
            else
             some false
           else
            some false
          else
           some false)
        bif (a.2 != 0) then
         f true
        else
         bif (e.2.2 != 0) then
          f true
         else
          f (b.2 != 0))
def Bfy (n:Nat):Ent:=⟨5,[(.sl (.int .u8)),(.sl (.int .u8))],[.bool],λx=>f5 n x.1 x.2⟩
def Bfz (α:Type) (n:Nat):D3 α:={ reg:=[(3,⟨0,[],[(1,{ ent:=some (B4d n) })]⟩),(4,⟨0,[],[(1,{ ent:=some (Aqd n) })]⟩),(5,⟨0,[],[(0,{ sh:=some (.int .u8) }),(3,{ ent:=some (Aqd n),fz:=[(35,(.sl (.int .u8)))] })]⟩),(6,⟨0,[],[(2,{ ent:=some (B4a n) })]⟩),(7,⟨0,[],[(2,{ ent:=some (B49 n) })]⟩),(8,⟨0,[],[(3,{ ent:=some (B47 n) })]⟩),(9,⟨0,[],[(2,{ ent:=some (B4b n) })]⟩),(10,⟨0,[],[(2,{ ent:=some (B46 n) })]⟩),(11,⟨0,[],[(6,{ ent:=some (A79 n) }),(17,{ ent:=some (B4c n) })]⟩),(15,⟨0,[],[(2,{ ent:=some (B45 n) })]⟩),(16,⟨0,[],[(2,{ ent:=some (A79 n) }),(9,{ ent:=some (A79 n) })]⟩)],join:=[(14,Bal)],loop:=[] }
theorem Bf0 (n:Nat):(Bfy n).Sound PP:=B0 (fn:=Tryz.f5) (D:=Bfz _ n) ⟨Bbc n,Av3 n,Av3 n,Bau n,Bat n,Bar n,Bav n,Baq n,A77 n,Baw n,Bap n,A77 n,A77 n,trivial⟩

end Go.Ev
