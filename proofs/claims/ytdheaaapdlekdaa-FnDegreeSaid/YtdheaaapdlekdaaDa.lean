/- DERIVED. What the functions compute, and that they do. -/
import Derived.Test.YtdheaaapdlekdaaEe

set_option linter.all false
set_option linter.unusedVariables false
set_option linter.unusedSimpArgs false

namespace Go.Ev
open Go Go.Proofs
def f8B (n:Nat) (a0:LI):Option (LI × Int × Int) :=
 some (a0,0,(Int.tmod (a0.length:Int) 1000))
def A0t (n:Nat):Ent3:=⟨8,[.im (.sl (.int .u8))],[[.one (.ptr 44 (.st (.pair (.sl (.int .u8)) (.pair hI hI))))]],λx=>f8B n x,[]⟩
def A3q (α:Type) (n:Nat):D3 α:={ reg:=[],join:=[],loop:=[] }
theorem A2m (n:Nat):(A0t n).Sound PP:=Ss (fn:=Try.f8) (D:=A3q _ n) trivial

def Ng (n:Nat) (a0:LI × Int × Int):Option (Int × (LI × Int × Int)) :=
 bif (decide ((W (a0.2.1+1))<=(a0.1.length:Int))) then
  gd (decide (0<=(W ((W (a0.2.1+1))-1)))&&decide ((W ((W (a0.2.1+1))-1))<(a0.1.length:Int))) (
   gd (decide (0<=(W ((W (a0.2.1+1))-1)))&&decide ((W ((W (a0.2.1+1))-1))<(a0.1.length:Int))) (
    some ((W (a0.1.getD ((W ((W (a0.2.1+1))-1)).toNat) 0)),(a0.1,(W (a0.2.1+1)),(Int.tmod (W ((W ((W (a0.2.2*31))+(W (a0.1.getD ((W ((W (a0.2.1+1))-1)).toNat) 0))))+7)) 2147483648)))))
 else
  bif (decide ((W (a0.2.1+1))>3000)) then
   some (0,(a0.1,(W (a0.2.1+1)),a0.2.2))
  else
   some ((Int.tmod (W (Int.tdiv (Int.tmod (W ((W (a0.2.2*1103515245))+12345)) 2147483648) 65536)) 256),(a0.1,(W (a0.2.1+1)),(Int.tmod (W ((W (a0.2.2*1103515245))+12345)) 2147483648)))
def L7 (n:Nat):Ent3:=⟨28,[.one (.ptr 44 (.st (.pair (.sl (.int .u8)) (.pair hI hI))))],[[.im hI]],λx=>Ng n x,[]⟩
def A31 (α:Type) (n:Nat):D3 α:={ reg:=[(2,⟨9,[],[]⟩),(3,⟨21,[],[]⟩),(4,⟨9,[],[]⟩)],join:=[],loop:=[] }
theorem M1 (n:Nat):(L7 n).Sound PP:=Ss (fn:=Try.f28) (D:=A31 _ n) trivial

def Ff (n:Nat) (a0:LI × Int × Int) (a1:Int):Option (Int × (LI × Int × Int)) :=
 bif (decide (a1<=1)) then
  some (0,a0)
 else
  bif (decide (a1<=256)) then
   ob (Ng n a0) λa =>
   gd (decide (a1 ≠ 0)) (
    some ((Int.tmod a.1 a1),a.2))
  else
   ob (Ng n a0) λb =>
   ob (Ng n b.2) λc =>
   ob (Ng n c.2) λd =>
   gd (decide (a1 ≠ 0)) (
    some ((Int.tmod (W ((W ((W (b.1*65536))+(W (c.1*256))))+d.1)) a1),d.2))
def Gk (n:Nat):Ent3:=⟨17,[.one (.ptr 44 (.st (.pair (.sl (.int .u8)) (.pair hI hI)))),.im hI],[[.im hI]],λx=>Ff n x.1 x.2,[]⟩
def A3c (α:Type) (n:Nat):D3 α:={ reg:=[(4,⟨0,[],[(1,{ entB:=some (L7 n),hb:=310 })]⟩),(5,⟨0,[],[(1,{ entB:=some (L7 n),hb:=320 })]⟩),(6,⟨0,[],[(1,{ entB:=some (L7 n),hb:=330 })]⟩),(7,⟨0,[],[(1,{ entB:=some (L7 n),hb:=340 })]⟩)],join:=[],loop:=[] }
theorem G0 (n:Nat):(Gk n).Sound PP:=Ss (fn:=Try.f17) (D:=A3c _ n) ⟨M1 n,M1 n,M1 n,M1 n,trivial⟩

def T3 (n:Nat) (a0:LI × Int × Int) (a1:Int):Option (Bool × (LI × Int × Int)) :=
 ob (Ff n a0 a1) λa =>
 some ((a.1==(W (a1-1))),a.2)
def Xy (n:Nat):Ent3:=⟨26,[.one (.ptr 44 (.st (.pair (.sl (.int .u8)) (.pair hI hI)))),.im hI],[[.im .bool]],λx=>T3 n x.1 x.2,[]⟩
def A33 (α:Type) (n:Nat):D3 α:={ reg:=[(1,⟨0,[],[(2,{ entB:=some (Gk n),hb:=310 })]⟩)],join:=[],loop:=[] }
theorem A1o (n:Nat):(Xy n).Sound PP:=Ss (fn:=Try.f26) (D:=A33 _ n) ⟨G0 n,trivial⟩

def f27 (n:Nat) (a0:Bool):Option Int :=
 bif a0 then
  some 1
 else
  some 0
def W5 (n:Nat):Ent:=⟨27,[.bool],[hI],λx=>f27 n x⟩
def A45 (α:Type) (n:Nat):D3 α:={ reg:=[],join:=[],loop:=[] }
theorem Xw (n:Nat):(W5 n).Sound PP:=Ex (fn:=Try.f27) (D:=A45 _ n) trivial

abbrev A1s:Tm:=⟨[(0,.k (.hp 1000 0 0)),(1,.k (.hw 1001)),(2,.d hI),(3,.d hI),(4,.d .bool),(11,.d hI),(16,.d .bool)],[(1000,.var 44 true false [.d (.sl (.int .u8)),.d hI,.d hI]),(1001,.arr 30 hN false)],[],[]⟩
def La (n:Nat):Nat->(LI × Int × Int)->LN->Int->Int->Bool->Option (Unit × (LI × Int × Int) × LN)
 | 0,_,_,_,_,_=>none
 | d+1,a0,a1,a2,a3,a4 =>
  ob (Ff n a0 9) λa =>
  let g:=λ(m:Bool)=>(
   bif m then
    ob (T3 n a.2 3) λh =>
    bif h.1 then
     ob (Ff n h.2 6) λj =>
     gd (decide ((a1.length+1)*32<=140737488355328)) (
      some ((),j.2,(a1++[(1,0,0,j.1)])))
    else
     ob (Ff n h.2 a3) λk =>
     gd (decide ((a1.length+1)*32<=140737488355328)) (
      some ((),k.2,(a1++[(2,0,0,k.1)])))
   else
    bif (a.1==3) then
     ob (La n d a.2 a1 (W (a2-1)) a3 a4) λc =>
     gd (decide ((c.2.2.length+1)*32<=140737488355328)) (
      some ((),c.2.1,(c.2.2++[(7,(W ((c.2.2.length:Int)-1)),0,0)])))
    else
     bif (a.1==4) then
      ob (La n d a.2 a1 (min (W (a2-1)) 2) a3 a4) λe =>
      ob (Ff n e.2.1 4) λl =>
      gd (decide ((e.2.2.length+1)*32<=140737488355328)) (
       some ((),l.2,(e.2.2++[(8,(W ((e.2.2.length:Int)-1)),0,l.1)])))
     else
      ob (f27 n a4) λo =>
      ob (Ff n a.2 (W (5+o))) λb =>
      gd (decide (0<=b.1)&&decide (b.1<6)) (
       gd (decide (b.1.toNat<6)) (
        ob (La n d b.2 a1 (W (a2-1)) a3 a4) λi =>
        ob (La n d i.2.1 i.2.2 (W (a2-1)) a3 a4) λf =>
        gd (decide ((f.2.2.length+1)*32<=140737488355328)) (
         some ((),f.2.1,(f.2.2++[(([3,3,4,5,5,6].getD b.1.toNat 0),(W ((i.2.2.length:Int)-1)),(W ((f.2.2.length:Int)-1)),0)]))))))
  bif (decide (a2<=1)) then
   g true
  else
   bif (decide ((a1.length:Int)>30)) then
    g true
   else
    g (decide (a.1<3))
def Gl (n d:Nat):Ent3:=⟨16,[.one (.ptr 44 (.st (.pair (.sl (.int .u8)) (.pair hI hI)))),.one (.own 30 hN),.im hI,.im hI,.im .bool],[[.one (.back 1001)]],λx=>La n d x.1 x.2.1 x.2.2.1 x.2.2.2.1 x.2.2.2.2,[1001]⟩
def Y5 (α:Type) (n d:Nat):D3 α:={ reg:=[(1,⟨0,[],[(1,{ entB:=some (Gk n),hb:=310 })]⟩),(3,⟨0,[],[(1,{ entB:=some (Xy n),hb:=320 })]⟩),(4,⟨0,[],[(2,{ entB:=some (Gk n),hb:=330 }),(4,{ sh:=some hN })]⟩),(5,⟨0,[],[(3,{ entB:=some (Gk n),hb:=340 }),(5,{ sh:=some hN })]⟩),(7,⟨0,[],[(6,{ entB:=some (Gl n d),hb:=350 })]⟩),(8,⟨0,[],[(5,{ sh:=some hN })]⟩),(10,⟨0,[],[(7,{ entB:=some (Gl n d),hb:=360 })]⟩),(11,⟨0,[],[(5,{ entB:=some (Gk n),hb:=370 }),(7,{ sh:=some hN })]⟩),(12,⟨0,[],[(0,{ sh:=some hI }),(3,{ ent:=some (W5 n) }),(5,{ entB:=some (Gk n),hb:=380 })]⟩),(13,⟨0,[],[(6,{ entB:=some (Gl n d),hb:=390 })]⟩),(15,⟨0,[],[(6,{ entB:=some (Gl n d),hb:=400 })]⟩),(16,⟨0,[],[(7,{ sh:=some hN })]⟩)],join:=[(3,A1s)],loop:=[] }
theorem Y4 (α:Type) (n d:Nat) (hd:(Gl n d).Sound PP):Dq PP (Ca (Y5 α n d).reg):=⟨G0 n,A1o n,G0 n,G0 n,hd,hd,G0 n,Xw n,G0 n,hd,hd,trivial⟩
theorem A3d (α:Type) (n d:Nat) (hd:(Gl n d).Sound PP):D3.OK PP TT ⟨114,[1001]⟩ (Y5 α n d) (Am Try.f16) :=
 D3.OK.mk3 (Y4 α n d hd) (show B4 (Am Try.f16)=[] by kernel_rfl) trivial
theorem V6 (n:Nat):∀ d,(Gl n d).Sound PP
 | 0=>λ_ _ _ h=>by cases h
 | d+1=>fkB (fn:=Try.f16) (A3d _ n d (V6 n d))

def f9B (n:Nat) (a0:LI × Int × Int) (a1:Int) (a2:Bool):Option (LN × (LI × Int × Int)) :=
 ob (Ff n a0 3) λb =>
 ob (La n n b.2 [] (W (2+b.1)) a1 a2) λa =>
 gd (decide ((0+a.2.2.length)*32<=140737488355328)) (
  some (a.2.2,a.2.1))
def A0s (n:Nat):Ent3:=⟨9,[.one (.ptr 44 (.st (.pair (.sl (.int .u8)) (.pair hI hI)))),.im hI,.im .bool],[[.im hE]],λx=>f9B n x.1 x.2.1 x.2.2,[]⟩
def A3p (α:Type) (n:Nat):D3 α:={ reg:=[(1,⟨0,[],[(0,{ sh:=some hN }),(2,{ sh:=some hN }),(4,{ entB:=some (Gk n),hb:=310 }),(8,{ entB:=some (Gl n n),hb:=320 })]⟩)],join:=[],loop:=[] }
theorem A2k (n:Nat):(A0s n).Sound PP:=Ss (fn:=Try.f9) (D:=A3p _ n) ⟨G0 n,V6 n n,trivial⟩

def f4 (n:Nat) (a0:LI) (a1:Int) (a2:Bool):Option LN :=
 ob (f8B n a0) λa =>
 ob (f9B n a a1 a2) λb =>
 some b.1
def A2q (n:Nat):Ent:=⟨4,[(.sl (.int .u8)),hI,.bool],[hE],λx=>f4 n x.1 x.2.1 x.2.2⟩
def A50 (α:Type) (n:Nat):D3 α:={ reg:=[(1,⟨0,[],[(1,{ entB:=some (A0t n),hb:=310 }),(4,{ entB:=some (A0s n),hb:=320 })]⟩)],join:=[],loop:=[] }
theorem A3v (n:Nat):(A2q n).Sound PP:=Ex (fn:=Try.f4) (D:=A50 _ n) ⟨A2m n,A2k n,trivial⟩

def f25 (n:Nat) (a0 a1 a2:Int):Option Bool :=
 bif (decide (a1<=a0)) then
  some (decide (a0<=a2))
 else
  some false
def I7 (n:Nat):Ent:=⟨25,[hI,hI,hI],[.bool],λx=>f25 n x.1 x.2.1 x.2.2⟩
def A46 (α:Type) (n:Nat):D3 α:={ reg:=[],join:=[],loop:=[] }
theorem Ht (n:Nat):(I7 n).Sound PP:=Ex (fn:=Try.f25) (D:=A46 _ n) trivial

def f33 (n:Nat) (a0:Nq):Option Bool :=
 bif (a0.1==1) then
  ob (f25 n a0.2.2.2 0 999999999) λa =>
  some a
 else
  bif (a0.1==2) then
   ob (f25 n a0.2.2.2 0 3) λb =>
   some b
  else
   bif (a0.1==8) then
    ob (f25 n a0.2.2.2 0 8) λc =>
    some c
   else
    some (a0.2.2.2==0)
def A0u (n:Nat):Ent:=⟨33,[hN],[.bool],λx=>f33 n x⟩
def A40 (α:Type) (n:Nat):D3 α:={ reg:=[(3,⟨0,[],[(2,{ ent:=some (I7 n) })]⟩),(5,⟨0,[],[(2,{ ent:=some (I7 n) })]⟩),(7,⟨0,[],[(2,{ ent:=some (I7 n) })]⟩)],join:=[],loop:=[] }
theorem A2t (n:Nat):(A0u n).Sound PP:=Ex (fn:=Try.f33) (D:=A40 _ n) ⟨Ht n,Ht n,Ht n,trivial⟩

def f31 (n:Nat) (a0:Nq):Option Int :=
 bif (a0.1==3) then
  some 2
 else
  bif (a0.1==4) then
   some 2
  else
   bif (a0.1==5) then
    some 2
   else
    bif (a0.1==6) then
     some 2
    else
     bif (a0.1==7) then
      some 1
     else
      bif (a0.1==8) then
       some 1
      else
       some 0
def Lx (n:Nat):Ent:=⟨31,[hN],[hI],λx=>f31 n x⟩
def A42 (α:Type) (n:Nat):D3 α:={ reg:=[],join:=[],loop:=[] }
theorem L6 (n:Nat):(Lx n).Sound PP:=Ex (fn:=Try.f31) (D:=A42 _ n) trivial

def f34 (n:Nat) (a0:Bool) (a1 a2:Int):Option Bool :=
 bif a0 then
  ob (f25 n a1 0 (W (a2-1))) λa =>
  bif a then
   some true
  else
   bif (!a0) then
    some (a1==0)
   else
    some false
 else
  bif (!a0) then
   some (a1==0)
  else
   some false
def Vz (n:Nat):Ent:=⟨34,[.bool,hI,(.ref hI)],[.bool],λx=>f34 n x.1 x.2.1 x.2.2⟩
def A3z (α:Type) (n:Nat):D3 α:={ reg:=[(1,⟨0,[],[(5,{ ent:=some (I7 n) })]⟩)],join:=[],loop:=[] }
theorem Xt (n:Nat):(Vz n).Sound PP:=Ex (fn:=Try.f34) (D:=A3z _ n) ⟨Ht n,trivial⟩

def f32 (n:Nat) (a0:Nq) (a1:Int):Option Bool :=
 ob (f25 n a0.1 1 8) λa =>
 bif (!a) then
  some false
 else
  ob (f33 n a0) λb =>
  bif (!b) then
   some false
  else
   ob (f31 n a0) λc =>
   ob (f34 n (decide (c>0)) a0.2.1 a1) λd =>
   bif d then
    ob (f31 n a0) λe =>
    ob (f34 n (decide (e>1)) a0.2.2.1 a1) λf =>
    some f
   else
    some false
def A0v (n:Nat):Ent:=⟨32,[hN,hI],[.bool],λx=>f32 n x.1 x.2⟩
def A41 (α:Type) (n:Nat):D3 α:={ reg:=[(1,⟨0,[],[(2,{ ent:=some (I7 n) }),(6,{ ent:=some (A0u n) })]⟩),(3,⟨0,[],[(0,{ sh:=some (.ref hI) })]⟩),(4,⟨14,[],[(2,{ ent:=some (Lx n) }),(6,{ ent:=some (Vz n) }),(10,{ ent:=some (Lx n) }),(14,{ ent:=some (Vz n) })]⟩)],join:=[],loop:=[] }
theorem A2v (n:Nat):(A0v n).Sound PP:=Ex (fn:=Try.f32) (D:=A41 _ n) ⟨Ht n,A2t n,L6 n,Xt n,L6 n,Xt n,trivial⟩

def It {α:Type} (n:Nat) (e:LN) (h d:Int) (b c:LI) (f:LN->Int->Int->LI->LI->Option α) (k0:Bool->Option α) (k1:LI->LI->Option α):Option α :=
 bif (decide (d<h)) then
  gd (decide (0<=d)&&decide (d<(e.length:Int))) (
   let a:=e.getD d.toNat (0,0,0,0)
   ob (f32 n a d) λj =>
   bif (!j) then
    k0 false
   else
    let g:=λ(k:Int) (l:Int)=>(
     gd (decide ((b.length+1)*8<=140737488355328)) (
      gd (decide ((c.length+1)*8<=140737488355328)) (
       f e h (W (d+1)) (b++[k]) (c++[l]))))
    ob (f31 n a) λi =>
    bif (i==1) then
     bif (a.2.1 != (W (d-1))) then
      k0 false
     else
      gd (decide (0<=a.2.1)&&decide (a.2.1<(b.length:Int))) (
       gd (decide (a.2.1.toNat<b.length)) (
        gd (decide (0<=a.2.1)&&decide (a.2.1<(c.length:Int))) (
         gd (decide (a.2.1.toNat<c.length)) (
          g (b.getD a.2.1.toNat 0) (W ((c.getD a.2.1.toNat 0)+1))))))
    else
     bif (i==2) then
      bif (a.2.2.1 != (W (d-1))) then
       k0 false
      else
       gd (decide (0<=a.2.2.1)&&decide (a.2.2.1<(b.length:Int))) (
        gd (decide (a.2.2.1.toNat<b.length)) (
         bif (a.2.1 != (W ((b.getD a.2.2.1.toNat 0)-1))) then
          k0 false
         else
          gd (decide (0<=a.2.1)&&decide (a.2.1<(b.length:Int))) (
           gd (decide (a.2.1.toNat<b.length)) (
            gd (decide (0<=a.2.1)&&decide (a.2.1<(c.length:Int))) (
             gd (decide (a.2.1.toNat<c.length)) (
              gd (decide (0<=a.2.2.1)&&decide (a.2.2.1<(c.length:Int))) (
               gd (decide (a.2.2.1.toNat<c.length)) (
                g (b.getD a.2.1.toNat 0) (W ((max (c.getD a.2.1.toNat 0) (c.getD a.2.2.1.toNat 0))+1))))))))))
     else
      g d 1)
 else
  k1 b c
abbrev M0:Tm:=⟨[(5,.k (.hw 11)),(6,.k (.hw 12)),(13,.d hNs),(14,.d hI),(15,.d hI)],[(11,.arr 3 hI false),(12,.arr 3 hI false)],[82,86],[]⟩
abbrev A01:Tm:=⟨[(2,.d .nil),(3,.d .nil),(4,.d .bool)],[],[8,11,12],[]⟩
abbrev A00:Tm:=⟨[(5,.k (.hw 11)),(6,.k (.hw 12))],[(11,.arr 3 hI false),(12,.arr 3 hI false)],[],[]⟩
abbrev Ps:List (Exit × Tm):=[(.ret,A01),(.exit 0,A00)]
def Pr {α:Type} (n:Nat) (v:M0.den) (f:M0.den->Option α) (ks:KS α Ps):Option α:=It n v.1.2.2.1 v.1.2.2.2.1 v.1.2.2.2.2.1 v.2.1 v.2.2.1 (λa b c d e=>f (((),(),a,b,c,()),(d,e,()))) (λw0=>ks.1 (((),(),w0,()),())) (λw0 w1=>ks.2.1 (((),(),()),(w0,w1,())))
def Oi {α:Type} (n m:Nat) (a:LN) (b c:Int) (d e:LI) (k0:Bool->Option α) (k1:LI->LI->Option α):Option α:=B6 (Pr n) m (((),(),a,b,c,()),(d,e,())) (λw=>k0 w.1.2.2.1,λw=>k1 w.2.1 w.2.2.1,())
theorem T1 {α n m a b c d e k0 k1}:Oi (α:=α) n (m+1) a b c d e k0 k1=It n a b c d e (λa b c d e=>Oi n m a b c d e k0 k1) k0 k1:=rfl
abbrev A1n:Tm:=⟨[(5,.k (.hw 11)),(6,.k (.hw 12)),(9,.d hI),(10,.d hI),(13,.d hNs),(14,.d hI),(15,.d hI)],[(11,.arr 3 hI false),(12,.arr 3 hI false)],[8],[]⟩
def f29 (n:Nat) (a0:LN):Option (LI × LI × Bool) :=
 Oi n n a0 (a0.length:Int) 0 [] []
  (λa=>(
   some ([],[],a)))
  (λb c=>(
   some (b,c,true)))
def A0x (n:Nat):Ent:=⟨29,[hNs],[hIs,hIs,.bool],λx=>f29 n x⟩
def W3 (α:Type) (n:Nat):D3 α:={ reg:=[(1,⟨0,[],[(0,{ sh:=some hI }),(1,{ sh:=some hI })]⟩),(5,⟨0,[],[(2,{ ent:=some (A0v n) })]⟩),(8,⟨0,[],[(1,{ ent:=some (Lx n) })]⟩),(12,⟨12,[],[]⟩),(14,⟨14,[],[]⟩),(16,⟨18,[],[]⟩),(17,⟨0,[],[(2,{ sh:=some hI }),(6,{ sh:=some hI })]⟩)],join:=[(17,A1n)],loop:=[(3,⟨M0,Ps,B6 (Pr n) n⟩)] }
theorem T0 (α:Type) (n:Nat):Dq PP (Ca (W3 α n).reg):=⟨A2v n,L6 n,trivial⟩
theorem Xv (α:Type) (n:Nat):LO.Sound (α:=α) PP ⟨91,[]⟩ ⟨M0,Ps,B6 (Pr n) n⟩ (.loop ((Am Try.f29).at [1,1,0,1,0,0])):=Xi (D:=W3 α n) (T0 α n) n
theorem A44 (α:Type) (n:Nat):D3.OK PP TT ⟨91,[]⟩ (W3 α n) (Am Try.f29) :=
 D3.OK.mk3 (T0 α n) (show B4 (Am Try.f29)=[(3,(.loop ((Am Try.f29).at [1,1,0,1,0,0])))] by kernel_rfl) ⟨F9 rfl (Xv α n),trivial⟩
theorem A2z (n:Nat):(A0x n).Sound PP:=fk (fn:=Try.f29) (A44 _ n)

def Lz {α:Type} (n:Nat) (b:LI) (c a:Int) (f:LI->Int->Int->Option α) (k0:Int->Option α):Option α :=
 bif (decide (a<(b.length:Int))) then
  gd (decide (0<=a)&&decide (a<(b.length:Int))) (
   f b (max c (b.getD a.toNat 0)) (W (a+1)))
 else
  k0 c
abbrev Ly:Tm:=⟨[(0,.d hIs),(3,.d hI),(4,.d hI)],[],[],[]⟩
abbrev Zz:Tm:=⟨[(3,.d hI)],[],[],[]⟩
abbrev Pq:List (Exit × Tm):=[(.exit 0,Zz)]
def Pp {α:Type} (n:Nat) (v:Ly.den) (f:Ly.den->Option α) (ks:KS α Pq):Option α:=Lz n v.1.1 v.1.2.1 v.1.2.2.1 (λa b c=>f ((a,b,c,()),())) (λw0=>ks.1 ((w0,()),()))
def Oh {α:Type} (n m:Nat) (a:LI) (b c:Int) (k0:Int->Option α):Option α:=B6 (Pp n) m ((a,b,c,()),()) (λw=>k0 w.1.1,())
theorem Sz {α n m a b c k0}:Oh (α:=α) n (m+1) a b c k0=Lz n a b c (λa b c=>Oh n m a b c k0) k0:=rfl
def f30 (n:Nat) (a0:LI):Option Int :=
 bif (decide ((a0.length:Int)<1)) then
  none
 else
  gd (decide (0<(a0.length:Int))) (
   Oh n n a0 (a0.getD 0 0) 1
    (λa=>(
     some a)))
def A0w (n:Nat):Ent:=⟨30,[hIs],[hI],λx=>f30 n x⟩
def W0 (α:Type) (n:Nat):D3 α:={ reg:=[],join:=[],loop:=[(5,⟨Ly,Pq,B6 (Pp n) n⟩)] }
theorem Sy (α:Type) (n:Nat):Dq PP (Ca (W0 α n).reg):=trivial
theorem Xu (α:Type) (n:Nat):LO.Sound (α:=α) PP ⟨25,[]⟩ ⟨Ly,Pq,B6 (Pp n) n⟩ (.loop ((Am Try.f30).at [1,1,1,0,1,0,0])):=Xi (D:=W0 α n) (Sy α n) n
theorem A43 (α:Type) (n:Nat):D3.OK PP TT ⟨25,[]⟩ (W0 α n) (Am Try.f30) :=
 D3.OK.mk3 (Sy α n) (show B4 (Am Try.f30)=[(5,(.loop ((Am Try.f30).at [1,1,1,0,1,0,0])))] by kernel_rfl) ⟨F9 rfl (Xu α n),trivial⟩
theorem A2x (n:Nat):(A0w n).Sound PP:=fk (fn:=Try.f30) (A43 _ n)

def f18 (n:Nat) (a0:LN):Option Bool :=
 ob (f25 n (a0.length:Int) 1 60) λb =>
 bif (!b) then
  some false
 else
  ob (f29 n a0) λa =>
  bif a.2.2 then
   gd (decide (0<=(W ((a0.length:Int)-1)))&&decide ((W ((a0.length:Int)-1))<(a.1.length:Int))) (
    bif ((a.1.getD ((W ((a0.length:Int)-1)).toNat) 0)==0) then
     ob (f30 n a.2.1) λc =>
     some (decide (c<=12))
    else
     some false)
  else
   some false
def A10 (n:Nat):Ent:=⟨18,[hE],[.bool],λx=>f18 n x⟩
def A4d (α:Type) (n:Nat):D3 α:={ reg:=[(2,⟨0,[],[(1,{ ent:=some (I7 n) })]⟩),(4,⟨0,[],[(2,{ ent:=some (A0x n) })]⟩),(5,⟨0,[],[(11,{ ent:=some (A0w n) })]⟩)],join:=[],loop:=[] }
theorem A3a (n:Nat):(A10 n).Sound PP:=Ex (fn:=Try.f18) (D:=A4d _ n) ⟨Ht n,A2z n,A2x n,trivial⟩

def f12 (n:Nat) (a0:Bool) (a1:Int):Option Int :=
 bif a0 then
  some 0
 else
  some a1
def Wc (n:Nat):Ent:=⟨12,[.bool,hI],[hI],λx=>f12 n x.1 x.2⟩
def A4h (α:Type) (n:Nat):D3 α:={ reg:=[],join:=[],loop:=[] }
theorem Y8 (n:Nat):(Wc n).Sound PP:=Ex (fn:=Try.f12) (D:=A4h _ n) trivial

def f10 (n:Nat) (a0:LN):Option Int :=
 ob (f18 n a0) λa =>
 ob (f12 n a 1) λb =>
 some b
def We (n:Nat):Ent:=⟨10,[hE],[hI],λx=>f10 n x⟩
def A4j (α:Type) (n:Nat):D3 α:={ reg:=[(1,⟨0,[],[(1,{ ent:=some (A10 n) }),(2,{ ent:=some (Wc n) })]⟩)],join:=[],loop:=[] }
theorem Yc (n:Nat):(We n).Sound PP:=Ex (fn:=Try.f10) (D:=A4j _ n) ⟨A3a n,Y8 n,trivial⟩

def Iu {α:Type} (n:Nat) (d:LN) (g c:Int) (b:LI) (f:LN->Int->Int->LI->Option α) (k0:LI->Option α):Option α :=
 bif (decide (c<g)) then
  gd (decide (0<=c)&&decide (c<(d.length:Int))) (
   let a:=d.getD c.toNat (0,0,0,0)
   let j:=λ(h:Int) (o:Int)=>(
    let k:=λ(i:Int)=>(
     let e:=λ(l:Int)=>(
      bif (decide (h<0)) then
       gd (decide ((b.length+1)*8<=140737488355328)) (
        f d g (W (c+1)) (b++[(-1)]))
      else
       bif (decide (i<0)) then
        gd (decide ((b.length+1)*8<=140737488355328)) (
         f d g (W (c+1)) (b++[(-1)]))
       else
        bif (a.1==6) then
         bif (decide (i>0)) then
          gd (decide ((b.length+1)*8<=140737488355328)) (
           f d g (W (c+1)) (b++[(-1)]))
         else
          gd (decide ((b.length+1)*8<=140737488355328)) (
           f d g (W (c+1)) (b++[l]))
        else
         gd (decide ((b.length+1)*8<=140737488355328)) (
          f d g (W (c+1)) (b++[l])))
     bif (a.1==2) then
      e 1
     else
      let m:=λ(p:Bool)=>(
       bif p then
        e (max h i)
       else
        bif (a.1==5) then
         e (W (h+i))
        else
         bif (a.1==6) then
          e h
         else
          bif (a.1==7) then
           e h
          else
           bif (a.1==8) then
            e (W (a.2.2.2*h))
           else
            e 0)
      bif (a.1==3) then
       m true
      else
       m (a.1==4))
    ob (f31 n a) λq =>
    bif (decide (q>1)) then
     gd (decide (0<=a.2.2.1)&&decide (a.2.2.1<(b.length:Int))) (
      gd (decide (a.2.2.1.toNat<b.length)) (
       k (b.getD a.2.2.1.toNat 0)))
    else
     k o)
   ob (f31 n a) λr =>
   bif (decide (r>0)) then
    gd (decide (0<=a.2.1)&&decide (a.2.1<(b.length:Int))) (
     gd (decide (a.2.1.toNat<b.length)) (
      gd (decide (0<=a.2.1)&&decide (a.2.1<(b.length:Int))) (
       gd (decide (a.2.1.toNat<b.length)) (
        j (b.getD a.2.1.toNat 0) (b.getD a.2.1.toNat 0)))))
   else
    j 0 0)
 else
  k0 b
abbrev M3:Tm:=⟨[(3,.k (.hw 9)),(10,.d hNs),(11,.d hI),(12,.d hI)],[(9,.arr 3 hI false)],[5,81],[]⟩
abbrev A04:Tm:=⟨[(3,.k (.hw 9))],[(9,.arr 3 hI false)],[],[]⟩
abbrev Px:List (Exit × Tm):=[(.exit 0,A04)]
def Pw {α:Type} (n:Nat) (v:M3.den) (f:M3.den->Option α) (ks:KS α Px):Option α:=Iu n v.1.2.1 v.1.2.2.1 v.1.2.2.2.1 v.2.1 (λa b c d=>f (((),a,b,c,()),(d,()))) (λw0=>ks.1 (((),()),(w0,())))
def On {α:Type} (n m:Nat) (a:LN) (b c:Int) (d:LI) (k0:LI->Option α):Option α:=B6 (Pw n) m (((),a,b,c,()),(d,())) (λw=>k0 w.2.1,())
theorem T9 {α n m a b c d k0}:On (α:=α) n (m+1) a b c d k0=Iu n a b c d (λa b c d=>On n m a b c d k0) k0:=rfl
abbrev A39:Tm:=⟨[(3,.k (.hw 9)),(5,.k (.hp 5 0 0)),(6,.d hI),(7,.d hI),(8,.d hI),(10,.d hNs),(11,.d hI),(12,.d hI)],[(5,.var 30 true false [.d hI,.d hI,.d hI,.d hI]),(9,.arr 3 hI false)],[],[]⟩
abbrev A1r:Tm:=⟨[(3,.k (.hw 9)),(5,.k (.hp 5 0 0)),(6,.d hI),(7,.d hI),(8,.d hI),(10,.d hNs),(11,.d hI),(12,.d hI)],[(5,.var 30 true false [.d hI,.d hI,.d hI,.d hI]),(9,.arr 3 hI false)],[],[]⟩
abbrev A1q:Tm:=⟨[(3,.k (.hw 9)),(5,.k (.hp 5 0 0)),(6,.d hI),(7,.d hI),(8,.d hI),(10,.d hNs),(11,.d hI),(12,.d hI),(38,.d hI),(41,.d .bool)],[(5,.var 30 true false [.d hI,.d hI,.d hI,.d hI]),(9,.arr 3 hI false)],[],[]⟩
abbrev A1p:Tm:=⟨[(3,.k (.hw 9)),(5,.k (.hp 5 0 0)),(6,.d hI),(7,.d hI),(8,.d hI),(10,.d hNs),(11,.d hI),(12,.d hI)],[(5,.var 30 true false [.d hI,.d hI,.d hI,.d hI]),(9,.arr 3 hI false)],[],[]⟩
def f19 (n:Nat) (a0:LN):Option LI :=
 On n n a0 (a0.length:Int) 0 []
  (λa=>(
   some a))
def A0z (n:Nat):Ent:=⟨19,[hNs],[hIs],λx=>f19 n x⟩
def W8 (α:Type) (n:Nat):D3 α:={ reg:=[(1,⟨0,[],[(0,{ sh:=some hI })]⟩),(6,⟨0,[],[(1,{ ent:=some (Lx n) })]⟩),(7,⟨11,[],[]⟩),(8,⟨0,[],[(1,{ ent:=some (Lx n) })]⟩),(26,⟨0,[],[(2,{ sh:=some hI })]⟩)],join:=[(8,A39),(10,A1r),(15,A1q),(24,A1p)],loop:=[(3,⟨M3,Px,B6 (Pw n) n⟩)] }
theorem T8 (α:Type) (n:Nat):Dq PP (Ca (W8 α n).reg):=⟨L6 n,L6 n,trivial⟩
theorem Y2 (α:Type) (n:Nat):LO.Sound (α:=α) PP ⟨85,[]⟩ ⟨M3,Px,B6 (Pw n) n⟩ (.loop ((Am Try.f19).at [1,1,0,1,0,0])):=Xi (D:=W8 α n) (T8 α n) n
theorem A4c (α:Type) (n:Nat):D3.OK PP TT ⟨85,[]⟩ (W8 α n) (Am Try.f19) :=
 D3.OK.mk3 (T8 α n) (show B4 (Am Try.f19)=[(3,(.loop ((Am Try.f19).at [1,1,0,1,0,0])))] by kernel_rfl) ⟨F9 rfl (Y2 α n),trivial⟩
theorem A37 (n:Nat):(A0z n).Sound PP:=fk (fn:=Try.f19) (A4c _ n)

def f11 (n:Nat) (a0:LN):Option Int :=
 ob (f19 n a0) λa =>
 gd (decide (0<=(W ((a0.length:Int)-1)))&&decide ((W ((a0.length:Int)-1))<(a.length:Int))) (
  some (a.getD ((W ((a0.length:Int)-1)).toNat) 0))
def Wd (n:Nat):Ent:=⟨11,[hE],[hI],λx=>f11 n x⟩
def A4i (α:Type) (n:Nat):D3 α:={ reg:=[(1,⟨7,[],[(2,{ ent:=some (A0z n) })]⟩)],join:=[],loop:=[] }
theorem Ya (n:Nat):(Wd n).Sound PP:=Ex (fn:=Try.f11) (D:=A4i _ n) ⟨A37 n,trivial⟩

def f5 (n:Nat) (a0:LN):Option (Int × Int) :=
 ob (f10 n a0) λa =>
 bif (a != 0) then
  some (0,a)
 else
  ob (f11 n a0) λb =>
  ob (f12 n (decide (b>=0)) 10) λc =>
  some ((max b 0),c)
def Vy (n:Nat):Ent:=⟨5,[hE],[hI,hI],λx=>f5 n x⟩
def A4z (α:Type) (n:Nat):D3 α:={ reg:=[(1,⟨0,[],[(1,{ ent:=some (We n) })]⟩),(4,⟨0,[],[(1,{ ent:=some (Wd n) })]⟩),(5,⟨0,[],[(4,{ ent:=some (Wc n) })]⟩)],join:=[],loop:=[] }
theorem Vw (n:Nat):(Vy n).Sound PP:=Ex (fn:=Try.f5) (D:=A4z _ n) ⟨Yc n,Ya n,Y8 n,trivial⟩

def f20 (n:Nat) (a0 a1 a2:Int):Option Bool :=
 bif (decide (a1<=a0)) then
  some (decide (a0<=a2))
 else
  some false
def H3 (n:Nat):Ent:=⟨20,[hI,hI,hI],[.bool],λx=>f20 n x.1 x.2.1 x.2.2⟩
def A4b (α:Type) (n:Nat):D3 α:={ reg:=[],join:=[],loop:=[] }
theorem Gj (n:Nat):(H3 n).Sound PP:=Ex (fn:=Try.f20) (D:=A4b _ n) trivial

def f22 (n:Nat) (a0:Int):Option Bool :=
 ob (f20 n a0 3 6) λa =>
 some a
def Om (n:Nat):Ent:=⟨22,[hI],[.bool],λx=>f22 n x⟩
def A49 (α:Type) (n:Nat):D3 α:={ reg:=[(1,⟨0,[],[(1,{ ent:=some (H3 n) })]⟩)],join:=[],loop:=[] }
theorem Ok (n:Nat):(Om n).Sound PP:=Ex (fn:=Try.f22) (D:=A49 _ n) ⟨Gj n,trivial⟩

def f24 (n:Nat) (a0:Int):Option Bool :=
 bif (a0==7) then
  some true
 else
  some (a0==8)
def Rl (n:Nat):Ent:=⟨24,[hI],[.bool],λx=>f24 n x⟩
def A47 (α:Type) (n:Nat):D3 α:={ reg:=[],join:=[],loop:=[] }
theorem T4 (n:Nat):(Rl n).Sound PP:=Ex (fn:=Try.f24) (D:=A47 _ n) trivial

def f21 (n:Nat) (a0:Nq) (a1:Int):Option Bool :=
 ob (f20 n a0.1 1 8) λa =>
 bif (!a) then
  some false
 else
  ob (f22 n a0.1) λb =>
  bif b then
   ob (f20 n a0.2.1 0 (W (a1-1))) λc =>
   bif c then
    ob (f20 n a0.2.2.1 (W (a0.2.1+1)) (W (a1-1))) λd =>
    bif d then
     some (a0.2.2.2==0)
    else
     some false
   else
    some false
  else
   ob (f24 n a0.1) λe =>
   bif e then
    bif (a0.2.1==(W (a1-1))) then
     bif (decide (a1>0)) then
      bif (a0.2.2.1==0) then
       ob (f27 n (a0.1==8)) λf =>
       ob (f20 n a0.2.2.2 0 (W (8*f))) λg =>
       some g
      else
       some false
     else
      some false
    else
     some false
   else
    bif (a0.1==2) then
     bif (a0.2.1==0) then
      bif (a0.2.2.1==0) then
       ob (f20 n a0.2.2.2 0 3) λh =>
       some h
      else
       some false
     else
      some false
    else
     bif (a0.2.1==0) then
      bif (a0.2.2.1==0) then
       ob (f20 n a0.2.2.2 0 999999999) λi =>
       some i
      else
       some false
     else
      some false
def A0y (n:Nat):Ent:=⟨21,[hN,hI],[.bool],λx=>f21 n x.1 x.2⟩
def A4a (α:Type) (n:Nat):D3 α:={ reg:=[(1,⟨0,[],[(2,{ ent:=some (H3 n) })]⟩),(3,⟨0,[],[(2,{ ent:=some (Om n) })]⟩),(4,⟨0,[],[(4,{ ent:=some (H3 n) }),(13,{ ent:=some (H3 n) })]⟩),(5,⟨0,[],[(2,{ ent:=some (Rl n) })]⟩),(6,⟨22,[],[(20,{ ent:=some (W5 n) }),(22,{ ent:=some (H3 n) })]⟩),(8,⟨0,[],[(11,{ ent:=some (H3 n) })]⟩),(9,⟨0,[],[(11,{ ent:=some (H3 n) })]⟩)],join:=[],loop:=[] }
theorem A35 (n:Nat):(A0y n).Sound PP:=Ex (fn:=Try.f21) (D:=A4a _ n) ⟨Gj n,Ok n,Gj n,Gj n,T4 n,Xw n,Gj n,Gj n,Gj n,trivial⟩

def Pv {α:Type} (n:Nat) (g:Int) (c:LN) (d a j k:Int) (f:Int->LN->Int->Int->Int->Int->Option α) (k0:Int->Option α):Option α :=
 let e:=λ(_:Unit)=>(
  gd (decide (0<=a)&&decide (a<(c.length:Int))) (
   let b:=c.getD a.toNat (0,0,0,0)
   f a c b.1 b.2.1 b.2.2.1 b.2.2.2))
 ob (f22 n d) λh =>
 bif h then
  e ()
 else
  ob (f24 n d) λi =>
  bif i then
   e ()
  else
   k0 g
abbrev M2:Tm:=⟨[(1,.d hI),(2,.k (.hp 2 0 0)),(5,.k (.hp 5 0 0))],[(2,.var 25 true false [.d hNs]),(5,.var 30 true false [.d hI,.d hI,.d hI,.d hI])],[],[]⟩
abbrev A03:Tm:=⟨[(1,.d hI)],[],[2,5],[]⟩
abbrev Pu:List (Exit × Tm):=[(.exit 0,A03)]
def Pt {α:Type} (n:Nat) (v:M2.den) (f:M2.den->Option α) (ks:KS α Pu):Option α:=Pv n v.1.1 v.2.1.1 v.2.2.1.1 v.2.2.1.2.1 v.2.2.1.2.2.1 v.2.2.1.2.2.2.1 (λa b c d e g=>f ((a,(),(),()),((b,()),(c,d,e,g,()),()))) (λw0=>ks.1 ((w0,()),()))
def Oj {α:Type} (n m:Nat) (a:Int) (b:LN) (c d e f:Int) (k0:Int->Option α):Option α:=B6 (Pt n) m ((a,(),(),()),((b,()),(c,d,e,f,()),())) (λw=>k0 w.1.1,())
theorem A02 {α n m a b c d e f k0}:Oj (α:=α) n (m+1) a b c d e f k0=Pv n a b c d e f (λa b c d e f=>Oj n m a b c d e f k0) k0:=rfl
abbrev A34:Tm:=⟨[(2,.k (.hp 2 0 0)),(5,.k (.hp 5 0 0))],[(2,.var 25 true false [.d hNs]),(5,.var 30 true false [.d hI,.d hI,.d hI,.d hI])],[],[]⟩
def f23 (n:Nat) (a0:LN) (a1:Int):Option Int :=
 gd (decide (0<=a1)&&decide (a1<(a0.length:Int))) (
  let a:=a0.getD a1.toNat (0,0,0,0)
  Oj n n a1 a0 a.1 a.2.1 a.2.2.1 a.2.2.2
   (λb=>(
    some b)))
def W6 (n:Nat):Ent:=⟨23,[hE,hI],[hI],λx=>f23 n x.1 x.2⟩
def W7 (α:Type) (n:Nat):D3 α:={ reg:=[(2,⟨0,[],[(2,{ ent:=some (Om n) }),(6,{ ent:=some (Rl n) })]⟩)],join:=[(3,A34)],loop:=[(2,⟨M2,Pu,B6 (Pt n) n⟩)] }
theorem T6 (α:Type) (n:Nat):Dq PP (Ca (W7 α n).reg):=⟨Ok n,T4 n,trivial⟩
theorem Y1 (α:Type) (n:Nat):LO.Sound (α:=α) PP ⟨27,[]⟩ ⟨M2,Pu,B6 (Pt n) n⟩ (.loop ((Am Try.f23).at [1,1,0,0,0])):=Xi (D:=W7 α n) (T6 α n) n
theorem A48 (α:Type) (n:Nat):D3.OK PP TT ⟨27,[]⟩ (W7 α n) (Am Try.f23) :=
 D3.OK.mk3 (T6 α n) (show B4 (Am Try.f23)=[(2,(.loop ((Am Try.f23).at [1,1,0,0,0])))] by kernel_rfl) ⟨F9 rfl (Y1 α n),trivial⟩
theorem Xz (n:Nat):(W6 n).Sound PP:=fk (fn:=Try.f23) (A48 _ n)

def Iv {α:Type} (n:Nat) (c:Int) (d:LN) (b:LI) (f:Int->LN->LI->Option α) (k0:Bool->Option α) (k1:LN->Option α):Option α :=
 bif (decide (c<(d.length:Int))) then
  gd (decide (0<=c)&&decide (c<(d.length:Int))) (
   let a:=d.getD c.toNat (0,0,0,0)
   ob (f21 n a c) λi =>
   bif (!i) then
    k0 false
   else
    let e:=λ(j:Int)=>(
     let g:=λ(h:Int)=>(
      bif (decide (h>12)) then
       k0 false
      else
       gd (decide ((b.length+1)*8<=140737488355328)) (
        f (W (c+1)) d (b++[h])))
     ob (f24 n a.1) λk =>
     bif k then
      gd (decide (0<=a.2.1)&&decide (a.2.1<(b.length:Int))) (
       gd (decide (a.2.1.toNat<b.length)) (
        g (W (1+(b.getD a.2.1.toNat 0)))))
     else
      g j)
    ob (f22 n a.1) λl =>
    bif l then
     bif (a.2.2.1 != (W (c-1))) then
      k0 false
     else
      ob (f23 n d a.2.2.1) λm =>
      bif (m != (W (a.2.1+1))) then
       k0 false
      else
       gd (decide (0<=a.2.1)&&decide (a.2.1<(b.length:Int))) (
        gd (decide (a.2.1.toNat<b.length)) (
         gd (decide (0<=a.2.2.1)&&decide (a.2.2.1<(b.length:Int))) (
          gd (decide (a.2.2.1.toNat<b.length)) (
           e (W (1+(max (b.getD a.2.1.toNat 0) (b.getD a.2.2.1.toNat 0))))))))
    else
     e 1)
 else
  k1 d
abbrev M5:Tm:=⟨[(1,.k (.hp 1 0 0)),(3,.k (.hw 12)),(4,.d hI)],[(1,.var 25 true false [.d hNs]),(12,.arr 3 hI false)],[72],[]⟩
abbrev A08:Tm:=⟨[(2,.d .bool)],[],[1,5,12],[]⟩
abbrev A07:Tm:=⟨[(1,.k (.hp 1 0 0))],[(1,.var 25 true false [.d hNs])],[12],[]⟩
abbrev Pz:List (Exit × Tm):=[(.ret,A08),(.exit 0,A07)]
def Py {α:Type} (n:Nat) (v:M5.den) (f:M5.den->Option α) (ks:KS α Pz):Option α:=Iv n v.1.2.2.1 v.2.1.1 v.2.2.1 (λa b c=>f (((),(),a,()),((b,()),c,()))) (λw0=>ks.1 ((w0,()),())) (λw0=>ks.2.1 (((),()),((w0,()),())))
def Oo {α:Type} (n m:Nat) (a:Int) (b:LN) (c:LI) (k0:Bool->Option α) (k1:LN->Option α):Option α:=B6 (Py n) m (((),(),a,()),((b,()),c,())) (λw=>k0 w.1.1,λw=>k1 w.2.1.1,())
theorem Tb {α n m a b c k0 k1}:Oo (α:=α) n (m+1) a b c k0 k1=Iv n a b c (λa b c=>Oo n m a b c k0 k1) k0 k1:=rfl
abbrev A1w:Tm:=⟨[(1,.k (.hp 1 0 0)),(3,.k (.hw 12)),(4,.d hI),(5,.k (.hp 5 0 0)),(6,.d hI)],[(1,.var 25 true false [.d hNs]),(5,.var 30 true false [.d hI,.d hI,.d hI,.d hI]),(12,.arr 3 hI false)],[],[]⟩
abbrev A1v:Tm:=⟨[(1,.k (.hp 1 0 0)),(3,.k (.hw 12)),(4,.d hI),(6,.d hI)],[(1,.var 25 true false [.d hNs]),(12,.arr 3 hI false)],[5],[]⟩
def f13 (n:Nat) (a0:LN):Option Bool :=
 ob (f20 n (a0.length:Int) 1 60) λb =>
 bif (!b) then
  some false
 else
  Oo n n 0 a0 []
   (λc=>(
    some c))
   (λa=>(
    ob (f23 n a (W ((a.length:Int)-1))) λd =>
    some (d==0)))
def A13 (n:Nat):Ent:=⟨13,[hE],[.bool],λx=>f13 n x⟩
def W9 (α:Type) (n:Nat):D3 α:={ reg:=[(1,⟨0,[],[(3,{ ent:=some (H3 n) })]⟩),(3,⟨0,[],[(0,{ sh:=some hI })]⟩),(8,⟨0,[],[(2,{ ent:=some (A0y n) })]⟩),(11,⟨0,[],[(2,{ ent:=some (Om n) })]⟩),(12,⟨13,[],[(9,{ ent:=some (W6 n) })]⟩),(14,⟨10,[],[]⟩),(15,⟨0,[],[(2,{ ent:=some (Rl n) })]⟩),(19,⟨0,[],[(2,{ sh:=some hI })]⟩),(20,⟨0,[],[(5,{ ent:=some (W6 n) })]⟩)],join:=[(15,A1w),(17,A1v)],loop:=[(5,⟨M5,Pz,B6 (Py n) n⟩)] }
theorem Ta (α:Type) (n:Nat):Dq PP (Ca (W9 α n).reg):=⟨Gj n,A35 n,Ok n,Xz n,T4 n,Xz n,trivial⟩
theorem Y7 (α:Type) (n:Nat):LO.Sound (α:=α) PP ⟨81,[]⟩ ⟨M5,Pz,B6 (Py n) n⟩ (.loop ((Am Try.f13).at [1,1,1,0,1,0,0])):=Xi (D:=W9 α n) (Ta α n) n
theorem A4g (α:Type) (n:Nat):D3.OK PP TT ⟨81,[]⟩ (W9 α n) (Am Try.f13) :=
 D3.OK.mk3 (Ta α n) (show B4 (Am Try.f13)=[(5,(.loop ((Am Try.f13).at [1,1,1,0,1,0,0])))] by kernel_rfl) ⟨F9 rfl (Y7 α n),trivial⟩
theorem A3g (n:Nat):(A13 n).Sound PP:=fk (fn:=Try.f13) (A4g _ n)

abbrev A1u:Tm:=⟨[(5,.k (.hp 5 0 0)),(6,.d hI),(7,.d hI)],[(5,.var 30 true false [.d hI,.d hI,.d hI,.d hI])],[2],[]⟩
abbrev A1t:Tm:=⟨[(5,.k (.hp 5 0 0)),(6,.d hI),(7,.d hI),(39,.d hI),(40,.d .bool)],[(5,.var 30 true false [.d hI,.d hI,.d hI,.d hI])],[],[]⟩
def f14 (n:Nat):Nat->LN->Int->Option Int
 | 0,_,_=>none
 | d+1,a0,a1 =>
  gd (decide (0<=a1)&&decide (a1<(a0.length:Int))) (
   let a:=a0.getD a1.toNat (0,0,0,0)
   bif (a.1==2) then
    some 1
   else
    bif (a.1==1) then
     some 0
    else
     ob (f14 n d a0 a.2.1) λb =>
     let e:=λ(c:Int)=>(
      bif (decide (b<0)) then
       some (-1)
      else
       bif (decide (c<0)) then
        some (-1)
       else
        let f:=λ(g:Bool)=>(
         bif g then
          some (max b c)
         else
          bif (a.1==5) then
           some (W (b+c))
          else
           bif (a.1==6) then
            bif (decide (c>0)) then
             some (-1)
            else
             some b
           else
            bif (a.1==8) then
             some (W (b*a.2.2.2))
            else
             some b)
        bif (a.1==3) then
         f true
        else
         f (a.1==4))
     ob (f22 n a.1) λh =>
     bif h then
      ob (f14 n d a0 a.2.2.1) λi =>
      e i
     else
      e 0)
def M4 (n d:Nat):Ent:=⟨14,[hE,hI],[hI],λx=>f14 n d x.1 x.2⟩
def A12 (α:Type) (n d:Nat):D3 α:={ reg:=[(6,⟨0,[],[(3,{ ent:=some (M4 n d) })]⟩),(8,⟨0,[],[(2,{ ent:=some (Om n) })]⟩),(9,⟨0,[],[(3,{ ent:=some (M4 n d) })]⟩)],join:=[(10,A1u),(15,A1t)],loop:=[] }
theorem A06 (α:Type) (n d:Nat) (hd:(M4 n d).Sound PP):Dq PP (Ca (A12 α n d).reg):=⟨hd,Ok n,hd,trivial⟩
theorem A4f (α:Type) (n d:Nat) (hd:(M4 n d).Sound PP):D3.OK PP TT ⟨62,[]⟩ (A12 α n d) (Am Try.f14) :=
 D3.OK.mk3 (A06 α n d hd) (show B4 (Am Try.f14)=[] by kernel_rfl) trivial
theorem Y6 (n:Nat):∀ d,(M4 n d).Sound PP
 | 0=>λ_ _ _ h=>by cases h
 | d+1=>fk (fn:=Try.f14) (A4f _ n d (Y6 n d))

def f6 (n:Nat) (a0:LN):Option (Int × Int) :=
 ob (f13 n a0) λb =>
 bif (!b) then
  some (0,1)
 else
  ob (f14 n n a0 (W ((a0.length:Int)-1))) λa =>
  bif (decide (a<0)) then
   some (0,10)
  else
   some (a,0)
def A2p (n:Nat):Ent:=⟨6,[hE],[hI,hI],λx=>f6 n x⟩
def A4y (α:Type) (n:Nat):D3 α:={ reg:=[(1,⟨0,[],[(1,{ ent:=some (A13 n) })]⟩),(3,⟨0,[],[(5,{ ent:=some (M4 n n) })]⟩)],join:=[],loop:=[] }
theorem A3t (n:Nat):(A2p n).Sound PP:=Ex (fn:=Try.f6) (D:=A4y _ n) ⟨A3g n,Y6 n n,trivial⟩

def f15 (n:Nat) (a0:LN):Option Bool :=
 ob (f11 n a0) λa =>
 ob (f25 n a 0 2) λb =>
 some b
def A11 (n:Nat):Ent:=⟨15,[hE],[.bool],λx=>f15 n x⟩
def A4e (α:Type) (n:Nat):D3 α:={ reg:=[(1,⟨0,[],[(1,{ ent:=some (Wd n) }),(2,{ ent:=some (I7 n) })]⟩)],join:=[],loop:=[] }
theorem A3e (n:Nat):(A11 n).Sound PP:=Ex (fn:=Try.f15) (D:=A4e _ n) ⟨Ya n,Ht n,trivial⟩

def f7 (n:Nat) (a0:LN):Option (Bool × Int) :=
 ob (f10 n a0) λa =>
 bif (a != 0) then
  some (false,a)
 else
  ob (f15 n a0) λb =>
  some (b,0)
def A2o (n:Nat):Ent:=⟨7,[hE],[.bool,hI],λx=>f7 n x⟩
def A4x (α:Type) (n:Nat):D3 α:={ reg:=[(1,⟨0,[],[(1,{ ent:=some (We n) })]⟩),(4,⟨0,[],[(1,{ ent:=some (A11 n) })]⟩)],join:=[],loop:=[] }
theorem A3r (n:Nat):(A2o n).Sound PP:=Ex (fn:=Try.f7) (D:=A4x _ n) ⟨Yc n,A3e n,trivial⟩

abbrev A2r:Tm:=⟨[(5,.d hI),(6,.d hI),(11,.d hI),(12,.d hI)],[],[3,9,10,35,44,47,56],[]⟩
def f3 (n:Nat) (a0:LI):Option Bool :=
 bif (decide ((a0.length:Int)>1048576)) then
  some true
 else
  ob (f4 n a0 2 true) λa =>
  ob (f5 n a) λb =>
  ob (f6 n a) λe =>
  gd (decide ((0+a.length)*32<=140737488355328)) (
   gd (decide ((a.length+2)*32<=140737488355328)) (
    gd (decide ((0+a.length)*32<=140737488355328)) (
     gd (decide ((a.length+2)*32<=140737488355328)) (
      ob (f5 n (a++[(2,0,0,0),(5,(W ((a.length:Int)-1)),(a.length:Int),0)])) λc =>
      ob (f5 n (a++[(2,0,0,0),(6,(W ((a.length:Int)-1)),(a.length:Int),0)])) λg =>
      ob (f7 n a) λd =>
      let f:=λ(_:Unit)=>(
       bif (b.2==10) then
        bif (c.2==10) then
         some true
        else
         bif (b.2==0) then
          bif (c.2==0) then
           some (c.1==(W (b.1+1)))
          else
           some false
         else
          some false
       else
        bif (b.2==0) then
         bif (c.2==0) then
          some (c.1==(W (b.1+1)))
         else
          some false
        else
         some false)
      bif (b.2 != e.2) then
       some false
      else
       bif (b.1 != e.1) then
        some false
       else
        bif (g.2 != 10) then
         some false
        else
         bif (d.2 != 0) then
          some false
         else
          bif (b.2==0) then
           bif (!(d.1==(decide (b.1<=2)))) then
            some false
           else
            f ()
          else
           bif (!(d.1==false)) then
            some false
           else
            f ()))))
def A51 (n:Nat):Ent:=⟨3,[(.sl (.int .u8))],[.bool],λx=>f3 n x⟩
def A52 (α:Type) (n:Nat):D3 α:={ reg:=[(3,⟨0,[],[(1,{ ent:=some (A2q n) })]⟩),(5,⟨0,[],[(1,{ ent:=some (Vy n) })]⟩),(6,⟨0,[],[(1,{ ent:=some (A2p n) })]⟩),(7,⟨0,[],[(0,{ sh:=some hN }),(9,{ sh:=some hN })]⟩),(8,⟨0,[],[(0,{ sh:=some hN }),(9,{ sh:=some hN })]⟩),(9,⟨0,[],[(1,{ ent:=some (Vy n) })]⟩),(10,⟨0,[],[(1,{ ent:=some (Vy n) })]⟩),(11,⟨0,[],[(1,{ ent:=some (A2o n) })]⟩)],join:=[(14,A2r)],loop:=[] }
theorem A3x (n:Nat):(A51 n).Sound PP:=Ex (fn:=Try.f3) (D:=A52 _ n) ⟨A3v n,Vw n,A3t n,Vw n,Vw n,A3r n,trivial⟩

end Go.Ev
