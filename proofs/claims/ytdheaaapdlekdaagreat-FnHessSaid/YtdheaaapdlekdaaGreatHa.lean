/- DERIVED. What the functions compute, and that they do. -/
import Derived.Test.YtdheaaapdlekdaaGreatEe

set_option linter.all false
set_option linter.unusedVariables false
set_option linter.unusedSimpArgs false

namespace Go.Ev
open Go Go.Proofs Go.RowKit Go.Shelf
def A91 (n:Nat) (a0:LI):Option (LI × Int × Int) :=
 some (a0,0,(Int.tmod (a0.length:Int) 1000))
def Afz (n:Nat):Ent3:=⟨57,[.im (.sl (.int .u8))],[[.one (.ptr 126 (.st (.pair (.sl (.int .u8)) (.pair hI hI))))]],λx=>A91 n x,[]⟩
def B7z (α:Type) (n:Nat):D3 α:={ reg:=[],join:=[],loop:=[] }
theorem Alr (n:Nat):(Afz n).Sound PP:=A1z (fn:=Tryz.f57) (D:=B7z _ n) trivial

def Mg (n:Nat) (a0:LI × Int × Int):Option (Int × (LI × Int × Int)) :=
 bif (decide ((W (a0.2.1+1))<=(a0.1.length:Int))) then
  gd (decide (0<=(W ((W (a0.2.1+1))-1)))&&decide ((W ((W (a0.2.1+1))-1))<(a0.1.length:Int))) (
   gd (decide (0<=(W ((W (a0.2.1+1))-1)))&&decide ((W ((W (a0.2.1+1))-1))<(a0.1.length:Int))) (
    some ((W (a0.1.getD ((W ((W (a0.2.1+1))-1)).toNat) 0)),(a0.1,(W (a0.2.1+1)),(Int.tmod (W ((W ((W (a0.2.2*31))+(W (a0.1.getD ((W ((W (a0.2.1+1))-1)).toNat) 0))))+7)) 2147483648)))))
 else
  bif (decide ((W (a0.2.1+1))>3000)) then
   some (0,(a0.1,(W (a0.2.1+1)),a0.2.2))
  else
   some ((Int.tmod (W (Int.tdiv (Int.tmod (W ((W (a0.2.2*1103515245))+12345)) 2147483648) 65536)) 256),(a0.1,(W (a0.2.1+1)),(Int.tmod (W ((W (a0.2.2*1103515245))+12345)) 2147483648)))
def R1 (n:Nat):Ent3:=⟨175,[.one (.ptr 126 (.st (.pair (.sl (.int .u8)) (.pair hI hI))))],[[.im hI]],λx=>Mg n x,[]⟩
def B4f (α:Type) (n:Nat):D3 α:={ reg:=[(2,⟨9,[],[]⟩),(3,⟨21,[],[]⟩),(4,⟨9,[],[]⟩)],join:=[],loop:=[] }
theorem Ts (n:Nat):(R1 n).Sound PP:=A1z (fn:=Tryz.f175) (D:=B4f _ n) trivial

def Dd (n:Nat) (a0:LI × Int × Int) (a1:Int):Option (Int × (LI × Int × Int)) :=
 bif (decide (a1<=1)) then
  some (0,a0)
 else
  bif (decide (a1<=256)) then
   ob (Mg n a0) λa =>
   gd (decide (a1 ≠ 0)) (
    some ((Int.tmod a.1 a1),a.2))
  else
   ob (Mg n a0) λb =>
   ob (Mg n b.2) λc =>
   ob (Mg n c.2) λd =>
   gd (decide (a1 ≠ 0)) (
    some ((Int.tmod (W ((W ((W (b.1*65536))+(W (c.1*256))))+d.1)) a1),d.2))
def Fm (n:Nat):Ent3:=⟨109,[.one (.ptr 126 (.st (.pair (.sl (.int .u8)) (.pair hI hI)))),.im hI],[[.im hI]],λx=>Dd n x.1 x.2,[]⟩
def B5v (α:Type) (n:Nat):D3 α:={ reg:=[(4,⟨0,[],[(1,{ entB:=some (R1 n),hb:=310 })]⟩),(5,⟨0,[],[(1,{ entB:=some (R1 n),hb:=320 })]⟩),(6,⟨0,[],[(1,{ entB:=some (R1 n),hb:=330 })]⟩),(7,⟨0,[],[(1,{ entB:=some (R1 n),hb:=340 })]⟩)],join:=[],loop:=[] }
theorem F0 (n:Nat):(Fm n).Sound PP:=A1z (fn:=Tryz.f109) (D:=B5v _ n) ⟨Ts n,Ts n,Ts n,Ts n,trivial⟩

def A6n (n:Nat) (a0:LI × Int × Int) (a1:Int):Option (Bool × (LI × Int × Int)) :=
 ob (Dd n a0 a1) λa =>
 some ((a.1==(W (a1-1))),a.2)
def Amc (n:Nat):Ent3:=⟨173,[.one (.ptr 126 (.st (.pair (.sl (.int .u8)) (.pair hI hI)))),.im hI],[[.im .bool]],λx=>A6n n x.1 x.2,[]⟩
def B4h (α:Type) (n:Nat):D3 α:={ reg:=[(1,⟨0,[],[(2,{ entB:=some (Fm n),hb:=310 })]⟩)],join:=[],loop:=[] }
theorem Azy (n:Nat):(Amc n).Sound PP:=A1z (fn:=Tryz.f173) (D:=B4h _ n) ⟨F0 n,trivial⟩

def f174 (n:Nat) (a0:Bool):Option Int :=
 bif a0 then
  some 1
 else
  some 0
def R4 (n:Nat):Ent:=⟨174,[.bool],[hI],λx=>f174 n x⟩
def B9g (α:Type) (n:Nat):D3 α:={ reg:=[],join:=[],loop:=[] }
theorem R2 (n:Nat):(R4 n).Sound PP:=Au (fn:=Tryz.f174) (D:=B9g _ n) trivial

abbrev B0n:Tm:=⟨[(0,.k (.hp 1000 0 0)),(1,.k (.hw 1001)),(2,.d hI),(3,.d hI),(4,.d .bool),(11,.d hI),(16,.d .bool)],[(1000,.var 126 true false [.d (.sl (.int .u8)),.d hI,.d hI]),(1001,.arr 85 hN false)],[],[]⟩
def Pu (n:Nat):Nat->(LI × Int × Int)->LN->Int->Int->Bool->Option (Unit × (LI × Int × Int) × LN)
 | 0,_,_,_,_,_=>none
 | d+1,a0,a1,a2,a3,a4 =>
  ob (Dd n a0 9) λa =>
  let g:=λ(m:Bool)=>(
   bif m then
    ob (A6n n a.2 3) λh =>
    bif h.1 then
     ob (Dd n h.2 6) λj =>
     gd (decide ((a1.length+1)*32<=140737488355328)) (
      some ((),j.2,(a1++[(1,0,0,j.1)])))
    else
     ob (Dd n h.2 a3) λk =>
     gd (decide ((a1.length+1)*32<=140737488355328)) (
      some ((),k.2,(a1++[(2,0,0,k.1)])))
   else
    bif (a.1==3) then
     ob (Pu n d a.2 a1 (W (a2-1)) a3 a4) λc =>
     gd (decide ((c.2.2.length+1)*32<=140737488355328)) (
      some ((),c.2.1,(c.2.2++[(7,(W ((c.2.2.length:Int)-1)),0,0)])))
    else
     bif (a.1==4) then
      ob (Pu n d a.2 a1 (min (W (a2-1)) 2) a3 a4) λe =>
      ob (Dd n e.2.1 4) λl =>
      gd (decide ((e.2.2.length+1)*32<=140737488355328)) (
       some ((),l.2,(e.2.2++[(8,(W ((e.2.2.length:Int)-1)),0,l.1)])))
     else
      ob (f174 n a4) λo =>
      ob (Dd n a.2 (W (5+o))) λb =>
      gd (decide (0<=b.1)&&decide (b.1<6)) (
       gd (decide (b.1.toNat<6)) (
        ob (Pu n d b.2 a1 (W (a2-1)) a3 a4) λi =>
        ob (Pu n d i.2.1 i.2.2 (W (a2-1)) a3 a4) λf =>
        gd (decide ((f.2.2.length+1)*32<=140737488355328)) (
         some ((),f.2.1,(f.2.2++[(([3,3,4,5,5,6].getD b.1.toNat 0),(W ((i.2.2.length:Int)-1)),(W ((f.2.2.length:Int)-1)),0)]))))))
  bif (decide (a2<=1)) then
   g true
  else
   bif (decide ((a1.length:Int)>30)) then
    g true
   else
    g (decide (a.1<3))
def I5 (n d:Nat):Ent3:=⟨108,[.one (.ptr 126 (.st (.pair (.sl (.int .u8)) (.pair hI hI)))),.one (.own 85 hN),.im hI,.im hI,.im .bool],[[.one (.back 1001)]],λx=>Pu n d x.1 x.2.1 x.2.2.1 x.2.2.2.1 x.2.2.2.2,[1001]⟩
def Ams (α:Type) (n d:Nat):D3 α:={ reg:=[(1,⟨0,[],[(1,{ entB:=some (Fm n),hb:=310 })]⟩),(3,⟨0,[],[(1,{ entB:=some (Amc n),hb:=320 })]⟩),(4,⟨0,[],[(2,{ entB:=some (Fm n),hb:=330 }),(4,{ sh:=some hN })]⟩),(5,⟨0,[],[(3,{ entB:=some (Fm n),hb:=340 }),(5,{ sh:=some hN })]⟩),(7,⟨0,[],[(6,{ entB:=some (I5 n d),hb:=350 })]⟩),(8,⟨0,[],[(5,{ sh:=some hN })]⟩),(10,⟨0,[],[(7,{ entB:=some (I5 n d),hb:=360 })]⟩),(11,⟨0,[],[(5,{ entB:=some (Fm n),hb:=370 }),(7,{ sh:=some hN })]⟩),(12,⟨0,[],[(0,{ sh:=some hI }),(3,{ ent:=some (R4 n) }),(5,{ entB:=some (Fm n),hb:=380 })]⟩),(13,⟨0,[],[(6,{ entB:=some (I5 n d),hb:=390 })]⟩),(15,⟨0,[],[(6,{ entB:=some (I5 n d),hb:=400 })]⟩),(16,⟨0,[],[(7,{ sh:=some hN })]⟩)],join:=[(3,B0n)],loop:=[] }
theorem Aqn (α:Type) (n d:Nat) (hd:(I5 n d).Sound PP):Ao PP (Af (Ams α n d).reg):=⟨F0 n,Azy n,F0 n,F0 n,hd,hd,F0 n,R2 n,F0 n,hd,hd,trivial⟩
theorem B5w (α:Type) (n d:Nat) (hd:(I5 n d).Sound PP):D3.OK PP TT ⟨114,[1001]⟩ (Ams α n d) (A1 Tryz.f108) :=
 D3.OK.mk3 (Aqn α n d hd) (show Aa (A1 Tryz.f108)=[] by kernel_rfl) trivial
theorem Ai2 (n:Nat):∀ d,(I5 n d).Sound PP
 | 0=>λ_ _ _ h=>by cases h
 | d+1=>fkB (fn:=Tryz.f108) (B5w _ n d (Ai2 n d))

def Azf (n:Nat) (a0:LI × Int × Int) (a1:Int) (a2:Bool):Option (LN × (LI × Int × Int)) :=
 ob (Dd n a0 3) λb =>
 ob (Pu n n b.2 [] (W (2+b.1)) a1 a2) λa =>
 gd (decide ((0+a.2.2.length)*32<=140737488355328)) (
  some (a.2.2,a.2.1))
def Ati (n:Nat):Ent3:=⟨58,[.one (.ptr 126 (.st (.pair (.sl (.int .u8)) (.pair hI hI)))),.im hI,.im .bool],[[.im hE]],λx=>Azf n x.1 x.2.1 x.2.2,[]⟩
def B7y (α:Type) (n:Nat):D3 α:={ reg:=[(1,⟨0,[],[(0,{ sh:=some hN }),(2,{ sh:=some hN }),(4,{ entB:=some (Fm n),hb:=310 }),(8,{ entB:=some (I5 n n),hb:=320 })]⟩)],join:=[],loop:=[] }
theorem B37 (n:Nat):(Ati n).Sound PP:=A1z (fn:=Tryz.f58) (D:=B7y _ n) ⟨F0 n,Ai2 n n,trivial⟩

def f20 (n:Nat) (a0:LI) (a1:Int) (a2:Bool):Option LN :=
 ob (A91 n a0) λa =>
 ob (Azf n a a1 a2) λb =>
 some b.1
def B20 (n:Nat):Ent:=⟨20,[(.sl (.int .u8)),hI,.bool],[hE],λx=>f20 n x.1 x.2.1 x.2.2⟩
def Bcf (α:Type) (n:Nat):D3 α:={ reg:=[(1,⟨0,[],[(1,{ entB:=some (Afz n),hb:=310 }),(4,{ entB:=some (Ati n),hb:=320 })]⟩)],join:=[],loop:=[] }
theorem B8m (n:Nat):(B20 n).Sound PP:=Au (fn:=Tryz.f20) (D:=Bcf _ n) ⟨Alr n,B37 n,trivial⟩

def f181 (n:Nat) (a0 a1 a2:Int):Option Bool :=
 bif (decide (a1<=a0)) then
  some (decide (a0<=a2))
 else
  some false
def El (n:Nat):Ent:=⟨181,[hI,hI,hI],[.bool],λx=>f181 n x.1 x.2.1 x.2.2⟩
def B9b (α:Type) (n:Nat):D3 α:={ reg:=[],join:=[],loop:=[] }
theorem Dk (n:Nat):(El n).Sound PP:=Au (fn:=Tryz.f181) (D:=B9b _ n) trivial

def A39 {α:Type} (n:Nat) (a:Int) (b:LI) (f:Int->LI->Option α) (k0:LI->Option α):Option α :=
 bif (decide (a>0)) then
  gd (decide ((b.length+1)*8<=140737488355328)) (
   f (W (Int.tdiv a 10000)) (b++[(Int.tmod a 10000)]))
 else
  k0 b
abbrev Tn:Tm:=⟨[(0,.d hI),(3,.k (.hw 4))],[(4,.arr 3 hI false)],[10],[]⟩
abbrev Auq:Tm:=⟨[(3,.k (.hw 4))],[(4,.arr 3 hI false)],[],[]⟩
abbrev A38:List (Exit × Tm):=[(.exit 0,Auq)]
def A37 {α:Type} (n:Nat) (v:Tn.den) (f:Tn.den->Option α) (ks:KS α A38):Option α:=A39 n v.1.1 v.2.1 (λa b=>f ((a,(),()),(b,()))) (λw0=>ks.1 (((),()),(w0,())))
def A04 {α:Type} (n m:Nat) (a:Int) (b:LI) (k0:LI->Option α):Option α:=A5 (A37 n) m ((a,(),()),(b,())) (λw=>k0 w.2.1,())
theorem Aup {α n m a b k0}:A04 (α:=α) n (m+1) a b k0=A39 n a b (λa b=>A04 n m a b k0) k0:=rfl
def f194 (n:Nat) (a0:Int):Option LI :=
 A04 n n a0 []
  (λa=>(
   some a))
def Y2 (n:Nat):Ent:=⟨194,[hI],[hIs],λx=>f194 n x⟩
def Agu (α:Type) (n:Nat):D3 α:={ reg:=[(1,⟨0,[],[(0,{ sh:=some hI })]⟩),(3,⟨0,[],[(3,{ sh:=some hI })]⟩)],join:=[],loop:=[(2,⟨Tn,A38,A5 (A37 n) n⟩)] }
theorem Abr (α:Type) (n:Nat):Ao PP (Af (Agu α n).reg):=trivial
theorem Api (α:Type) (n:Nat):LO.Sound (α:=α) PP ⟨15,[]⟩ ⟨Tn,A38,A5 (A37 n) n⟩ (.loop ((A1 Tryz.f194).at [1,1,0,0,0])):=C0 (D:=Agu α n) (Abr α n) n
theorem B90 (α:Type) (n:Nat):D3.OK PP TT ⟨15,[]⟩ (Agu α n) (A1 Tryz.f194) :=
 D3.OK.mk3 (Abr α n) (show Aa (A1 Tryz.f194)=[(2,(.loop ((A1 Tryz.f194).at [1,1,0,0,0])))] by kernel_rfl) ⟨Ab rfl (Api α n),trivial⟩
theorem A03 (n:Nat):(Y2 n).Sound PP:=fk (fn:=Tryz.f194) (B90 _ n)

def f131 (n:Nat) (a0:Int):Option Rq :=
 bif (decide (a0<0)) then
  ob (f194 n (W (0-a0))) λa =>
  some (true,a,[1])
 else
  ob (f194 n a0) λb =>
  some (false,b,[1])
def C2 (n:Nat):Ent:=⟨131,[hI],[hR],λx=>f131 n x⟩
def Ba5 (α:Type) (n:Nat):D3 α:={ reg:=[(2,⟨0,[],[(2,{ ent:=some (Y2 n) }),(3,{ sh:=some hI })]⟩),(3,⟨0,[],[(1,{ ent:=some (Y2 n) }),(2,{ sh:=some hI })]⟩)],join:=[],loop:=[] }
theorem D7 (n:Nat):(C2 n).Sound PP:=Au (fn:=Tryz.f131) (D:=Ba5 _ n) ⟨A03 n,A03 n,trivial⟩

def A2b {α:Type} (n:Nat) (b:LI) (a:Int) (f:LI->Int->Option α) (k0:LI->Int->Option α):Option α :=
 bif (decide (a>0)) then
  gd (decide (0<=(W (a-1)))&&decide ((W (a-1))<(b.length:Int))) (
   bif ((b.getD ((W (a-1)).toNat) 0)==0) then
    f b (W (a-1))
   else
    k0 b a)
 else
  k0 b a
abbrev T8:Tm:=⟨[(0,.d hIs),(3,.d hI)],[],[],[]⟩
abbrev Atx:Tm:=⟨[(0,.d hIs),(3,.d hI)],[],[],[]⟩
abbrev A2a:List (Exit × Tm):=[(.exit 0,Atx)]
def A29 {α:Type} (n:Nat) (v:T8.den) (f:T8.den->Option α) (ks:KS α A2a):Option α:=A2b n v.1.1 v.1.2.1 (λa b=>f ((a,b,()),())) (λw0 w1=>ks.1 ((w0,w1,()),()))
def Zz {α:Type} (n m:Nat) (a:LI) (b:Int) (k0:LI->Int->Option α):Option α:=A5 (A29 n) m ((a,b,()),()) (λw=>k0 w.1.1 w.1.2.1,())
theorem Atw {α n m a b k0}:Zz (α:=α) n (m+1) a b k0=A2b n a b (λa b=>Zz n m a b k0) k0:=rfl
def f216 (n:Nat) (a0:LI):Option LI :=
 Zz n n a0 (a0.length:Int)
  (λb a=>(
   gd (decide (0<=a)&&decide (a<=(b.length:Int))) (
    gd (decide ((0+((b.drop 0).take (a.toNat-0)).length)*8<=140737488355328)) (
     some ((b.drop 0).take (a.toNat-0))))))
def Xq (n:Nat):Ent:=⟨216,[hIs],[hIs],λx=>f216 n x⟩
def Agb (α:Type) (n:Nat):D3 α:={ reg:=[(4,⟨0,[],[(0,{ sh:=some hI })]⟩)],join:=[],loop:=[(2,⟨T8,A2a,A5 (A29 n) n⟩)] }
theorem Abg (α:Type) (n:Nat):Ao PP (Af (Agb α n).reg):=trivial
theorem Ap1 (α:Type) (n:Nat):LO.Sound (α:=α) PP ⟨23,[]⟩ ⟨T8,A2a,A5 (A29 n) n⟩ (.loop ((A1 Tryz.f216).at [1,1,0,0,0])):=C0 (D:=Agb α n) (Abg α n) n
theorem B8g (α:Type) (n:Nat):D3.OK PP TT ⟨23,[]⟩ (Agb α n) (A1 Tryz.f216) :=
 D3.OK.mk3 (Abg α n) (show Aa (A1 Tryz.f216)=[(2,(.loop ((A1 Tryz.f216).at [1,1,0,0,0])))] by kernel_rfl) ⟨Ab rfl (Ap1 α n),trivial⟩
theorem Zx (n:Nat):(Xq n).Sound PP:=fk (fn:=Tryz.f216) (B8g _ n)

def A2w {α:Type} (n:Nat) (b c:LI) (a:Int) (f:LI->LI->Int->Option α) (k0:Int->Option α) (k1:Unit->Option α):Option α :=
 bif (decide (a>=0)) then
  gd (decide (0<=a)&&decide (a<(b.length:Int))) (
   gd (decide (0<=a)&&decide (a<(c.length:Int))) (
    bif ((b.getD a.toNat 0) != (c.getD a.toNat 0)) then
     gd (decide (0<=a)&&decide (a<(b.length:Int))) (
      gd (decide (0<=a)&&decide (a<(c.length:Int))) (
       ob (f174 n (decide ((b.getD a.toNat 0)>(c.getD a.toNat 0)))) λd =>
       k0 (W ((W (2*d))-1))))
    else
     f b c (W (a-1))))
 else
  k1 ()
abbrev Th:Tm:=⟨[(0,.d hIs),(1,.d hIs),(5,.d hI)],[],[],[]⟩
abbrev Aug:Tm:=⟨[(4,.d hI)],[],[],[]⟩
abbrev Auf:Tm:=⟨[],[],[],[]⟩
abbrev A2v:List (Exit × Tm):=[(.ret,Aug),(.exit 0,Auf)]
def A2u {α:Type} (n:Nat) (v:Th.den) (f:Th.den->Option α) (ks:KS α A2v):Option α:=A2w n v.1.1 v.1.2.1 v.1.2.2.1 (λa b c=>f ((a,b,c,()),())) (λw0=>ks.1 ((w0,()),())) (λ_=>ks.2.1 ((),()))
def A02 {α:Type} (n m:Nat) (a b:LI) (c:Int) (k0:Int->Option α) (k1:Unit->Option α):Option α:=A5 (A2u n) m ((a,b,c,()),()) (λw=>k0 w.1.1,λw=>k1 (),())
theorem Aue {α n m a b c k0 k1}:A02 (α:=α) n (m+1) a b c k0 k1=A2w n a b c (λa b c=>A02 n m a b c k0 k1) k0 k1:=rfl
def f199 (n:Nat) (a0 a1:LI):Option Int :=
 bif ((a0.length:Int) != (a1.length:Int)) then
  ob (f174 n (decide ((a0.length:Int)>(a1.length:Int)))) λa =>
  some (W ((W (2*a))-1))
 else
  A02 n n a0 a1 (W ((a0.length:Int)-1))
   (λb=>(
    some b))
   (λ(_:Unit)=>(
    some 0))
def Y0 (n:Nat):Ent:=⟨199,[hIs,hIs],[hI],λx=>f199 n x.1 x.2⟩
def Ags (α:Type) (n:Nat):D3 α:={ reg:=[(2,⟨0,[],[(5,{ ent:=some (R4 n) })]⟩),(6,⟨8,[],[]⟩),(7,⟨8,[],[(9,{ ent:=some (R4 n) })]⟩)],join:=[],loop:=[(4,⟨Th,A2v,A5 (A2u n) n⟩)] }
theorem Abp (α:Type) (n:Nat):Ao PP (Af (Ags α n).reg):=⟨R2 n,R2 n,trivial⟩
theorem Apd (α:Type) (n:Nat):LO.Sound (α:=α) PP ⟨47,[]⟩ ⟨Th,A2v,A5 (A2u n) n⟩ (.loop ((A1 Tryz.f199).at [1,1,0,1,0,0])):=C0 (D:=Ags α n) (Abp α n) n
theorem B8w (α:Type) (n:Nat):D3.OK PP TT ⟨47,[]⟩ (Ags α n) (A1 Tryz.f199) :=
 D3.OK.mk3 (Abp α n) (show Aa (A1 Tryz.f199)=[(4,(.loop ((A1 Tryz.f199).at [1,1,0,1,0,0])))] by kernel_rfl) ⟨Ab rfl (Apd α n),trivial⟩
theorem A01 (n:Nat):(Y0 n).Sound PP:=fk (fn:=Tryz.f199) (B8w _ n)

def A32 {α:Type} (n:Nat) (e d:LI) (b g a:Int) (c:LI) (f:LI->LI->Int->Int->Int->LI->Option α) (k0:LI->LI->Int->LI->Option α):Option α :=
 let h:=λ(_:Unit)=>(
  gd (decide (0<=(W (b+a)))&&decide ((W (b+a))<(c.length:Int))) (
   gd (decide ((W (b+a)).toNat<c.length)) (
    let i:=λ(j:Int)=>(
     gd (decide (0<=(W (b+a)))&&decide ((W (b+a))<(c.length:Int))) (
      gd (decide ((W (b+a)).toNat<c.length)) (
       f e d b (W (Int.tdiv j 10000)) (W (a+1)) (c.set ((W (b+a)).toNat) (Int.tmod j 10000)))))
    bif (decide (a<(d.length:Int))) then
     gd (decide (0<=b)&&decide (b<(e.length:Int))) (
      gd (decide (0<=a)&&decide (a<(d.length:Int))) (
       i (W ((W ((c.getD ((W (b+a)).toNat) 0)+g))+(W ((e.getD b.toNat 0)*(d.getD a.toNat 0)))))))
    else
     i (W ((c.getD ((W (b+a)).toNat) 0)+g)))))
 bif (decide (a<(d.length:Int))) then
  h ()
 else
  bif (decide (g>0)) then
   h ()
  else
   k0 e d b c
abbrev Tj:Tm:=⟨[(0,.d hIs),(1,.d hIs),(5,.k (.hw 16)),(6,.d hI),(7,.d hI),(8,.d hI)],[(16,.arr 3 hI false)],[],[]⟩
abbrev Aul:Tm:=⟨[(0,.d hIs),(1,.d hIs),(5,.k (.hw 16)),(6,.d hI)],[(16,.arr 3 hI false)],[],[]⟩
abbrev A31:List (Exit × Tm):=[(.exit 2,Aul)]
def A30 {α:Type} (n:Nat) (v:Tj.den) (f:Tj.den->Option α) (ks:KS α A31):Option α:=A32 n v.1.1 v.1.2.1 v.1.2.2.2.1 v.1.2.2.2.2.1 v.1.2.2.2.2.2.1 v.2.1 (λa b c d e g=>f ((a,b,(),c,d,e,()),(g,()))) (λw0 w1 w2 w3=>ks.1 ((w0,w1,(),w2,()),(w3,())))
def Mw {α:Type} (n m:Nat) (a b:LI) (c d e:Int) (f:LI) (k0:LI->LI->Int->LI->Option α):Option α:=A5 (A30 n) m ((a,b,(),c,d,e,()),(f,())) (λw=>k0 w.1.1 w.1.2.1 w.1.2.2.2.1 w.2.1,())
theorem Auk {α n m a b c d e f k0}:Mw (α:=α) n (m+1) a b c d e f k0=A32 n a b c d e f (λa b c d e f=>Mw n m a b c d e f k0) k0:=rfl
def A35 {α:Type} (n:Nat) (a d:LI) (b:Int) (c:LI) (f:LI->LI->Int->LI->Option α) (k0:LI->Option α):Option α :=
 bif (decide (b<(a.length:Int))) then
  Mw n n a d b 0 0 c
   (λe g h i=>(
    f e g (W (h+1)) i))
 else
  k0 c
abbrev Tk:Tm:=⟨[(0,.d hIs),(1,.d hIs),(5,.k (.hw 16)),(6,.d hI)],[(16,.arr 3 hI false)],[],[]⟩
abbrev Auo:Tm:=⟨[(5,.k (.hw 16))],[(16,.arr 3 hI false)],[],[]⟩
abbrev A34:List (Exit × Tm):=[(.exit 0,Auo)]
def A33 {α:Type} (n:Nat) (v:Tk.den) (f:Tk.den->Option α) (ks:KS α A34):Option α:=A35 n v.1.1 v.1.2.1 v.1.2.2.2.1 v.2.1 (λa b c d=>f ((a,b,(),c,()),(d,()))) (λw0=>ks.1 (((),()),(w0,())))
def Mx {α:Type} (n m:Nat) (a b:LI) (c:Int) (d:LI) (k0:LI->Option α):Option α:=A5 (A33 n) m ((a,b,(),c,()),(d,())) (λw=>k0 w.2.1,())
theorem Aum {α n m a b c d k0}:Mx (α:=α) n (m+1) a b c d k0=A35 n a b c d (λa b c d=>Mx n m a b c d k0) k0:=rfl
abbrev B3y:Tm:=⟨[(0,.d hIs),(1,.d hIs),(5,.k (.hw 16)),(6,.d hI),(7,.d hI),(8,.d hI)],[(16,.arr 3 hI false)],[],[]⟩
abbrev Azv:Tm:=⟨[(0,.d hIs),(1,.d hIs),(5,.k (.hw 16)),(6,.d hI),(8,.d hI),(9,.d hI)],[(16,.arr 3 hI false)],[],[]⟩
def f196 (n:Nat) (a0 a1:LI):Option LI :=
 gd (decide (0<=(W ((W ((a0.length:Int)+(a1.length:Int)))+1)))&&decide ((W ((W ((a0.length:Int)+(a1.length:Int)))+1))<=4611686018427387904)&&decide ((8:Int)*(W ((W ((a0.length:Int)+(a1.length:Int)))+1))<=281474976710656)) (
  Mx n n a0 a1 0 (List.replicate ((W ((W ((a0.length:Int)+(a1.length:Int)))+1)).toNat) 0)
   (λa=>(
    ob (f216 n a) λb =>
    some b)))
def Hd (n:Nat):Ent:=⟨196,[hIs,hIs],[hIs],λx=>f196 n x.1 x.2⟩
def A6i (α:Type) (n:Nat):D3 α:={ reg:=[(11,⟨10,[],[]⟩),(14,⟨0,[],[(1,{ ent:=some (Xq n),fz:=[(65,hIs)] })]⟩)],join:=[(9,B3y),(12,Azv)],loop:=[(7,⟨Tj,A31,A5 (A30 n) n⟩),(3,⟨Tk,A34,A5 (A33 n) n⟩)] }
theorem Y1 (α:Type) (n:Nat):Ao PP (Af (A6i α n).reg):=⟨Zx n,trivial⟩
theorem Apf (α:Type) (n:Nat):LO.Sound (α:=α) PP ⟨67,[]⟩ ⟨Tj,A31,A5 (A30 n) n⟩ (.loop ((A1 Tryz.f196).at [1,1,0,1,0,0,1,0,0,1,1,0,0])):=C0 (D:=A6i α n) (Y1 α n) n
theorem Aun (α:Type) (n:Nat):D3.OK PP TT ⟨67,[]⟩ (A6i α n) ((A1 Tryz.f196).at [1,1,0,1,0,0]) :=
 D3.OK.mk3 (Y1 α n) (show Aa ((A1 Tryz.f196).at [1,1,0,1,0,0])=[(7,(.loop ((A1 Tryz.f196).at [1,1,0,1,0,0,1,0,0,1,1,0,0])))] by kernel_rfl) ⟨Ab rfl (Apf α n),trivial⟩
theorem Apg (α:Type) (n:Nat):LO.Sound (α:=α) PP ⟨67,[]⟩ ⟨Tk,A34,A5 (A33 n) n⟩ (.loop ((A1 Tryz.f196).at [1,1,0,1,0,0])):=lk (Aun α n) n
theorem B8z (α:Type) (n:Nat):D3.OK PP TT ⟨67,[]⟩ (A6i α n) (A1 Tryz.f196) :=
 D3.OK.mk3 (Y1 α n) (show Aa (A1 Tryz.f196)=[(3,(.loop ((A1 Tryz.f196).at [1,1,0,1,0,0])))] by kernel_rfl) ⟨Ab rfl (Apg α n),trivial⟩
theorem Gh (n:Nat):(Hd n).Sound PP:=fk (fn:=Tryz.f196) (B8z _ n)

def A2t {α:Type} (n:Nat) (b c:LI) (e a:Int) (d:LI) (f:LI->LI->Int->Int->LI->Option α) (k0:LI->Option α):Option α :=
 bif (decide (a<(b.length:Int))) then
  gd (decide (0<=a)&&decide (a<(b.length:Int))) (
   let g:=λ(h:Int)=>(
    ob (f174 n (decide (h<0))) λi =>
    gd (decide ((d.length+1)*8<=140737488355328)) (
     f b c i (W (a+1)) (d++[(W (h+(W (i*10000))))])))
   bif (decide (a<(c.length:Int))) then
    gd (decide (0<=a)&&decide (a<(c.length:Int))) (
     g (W ((W ((b.getD a.toNat 0)-e))-(c.getD a.toNat 0))))
   else
    g (W ((b.getD a.toNat 0)-e)))
 else
  k0 d
abbrev Tg:Tm:=⟨[(0,.d hIs),(1,.d hIs),(5,.k (.hw 9)),(6,.d hI),(7,.d hI)],[(9,.arr 3 hI false)],[40],[]⟩
abbrev Aud:Tm:=⟨[(5,.k (.hw 9))],[(9,.arr 3 hI false)],[],[]⟩
abbrev A2s:List (Exit × Tm):=[(.exit 0,Aud)]
def A2r {α:Type} (n:Nat) (v:Tg.den) (f:Tg.den->Option α) (ks:KS α A2s):Option α:=A2t n v.1.1 v.1.2.1 v.1.2.2.2.1 v.1.2.2.2.2.1 v.2.1 (λa b c d e=>f ((a,b,(),c,d,()),(e,()))) (λw0=>ks.1 (((),()),(w0,())))
def Mu {α:Type} (n m:Nat) (a b:LI) (c d:Int) (e:LI) (k0:LI->Option α):Option α:=A5 (A2r n) m ((a,b,(),c,d,()),(e,())) (λw=>k0 w.2.1,())
theorem Auc {α n m a b c d e k0}:Mu (α:=α) n (m+1) a b c d e k0=A2t n a b c d e (λa b c d e=>Mu n m a b c d e k0) k0:=rfl
abbrev B3r:Tm:=⟨[(0,.d hIs),(1,.d hIs),(5,.k (.hw 9)),(7,.d hI),(8,.d hI)],[(9,.arr 3 hI false)],[],[]⟩
def f200 (n:Nat) (a0 a1:LI):Option LI :=
 Mu n n a0 a1 0 0 []
  (λa=>(
   ob (f216 n a) λb =>
   some b))
def A6h (n:Nat):Ent:=⟨200,[hIs,hIs],[hIs],λx=>f200 n x.1 x.2⟩
def Agr (α:Type) (n:Nat):D3 α:={ reg:=[(1,⟨0,[],[(0,{ sh:=some hI })]⟩),(9,⟨0,[],[(2,{ ent:=some (R4 n) })]⟩),(10,⟨0,[],[(5,{ sh:=some hI })]⟩),(11,⟨0,[],[(1,{ ent:=some (Xq n),fz:=[(42,hIs)] })]⟩)],join:=[(9,B3r)],loop:=[(4,⟨Tg,A2s,A5 (A2r n) n⟩)] }
theorem Abo (α:Type) (n:Nat):Ao PP (Af (Agr α n).reg):=⟨R2 n,Zx n,trivial⟩
theorem Apc (α:Type) (n:Nat):LO.Sound (α:=α) PP ⟨44,[]⟩ ⟨Tg,A2s,A5 (A2r n) n⟩ (.loop ((A1 Tryz.f200).at [1,1,1,0,1,0,0])):=C0 (D:=Agr α n) (Abo α n) n
theorem B8v (α:Type) (n:Nat):D3.OK PP TT ⟨44,[]⟩ (Agr α n) (A1 Tryz.f200) :=
 D3.OK.mk3 (Abo α n) (show Aa (A1 Tryz.f200)=[(4,(.loop ((A1 Tryz.f200).at [1,1,1,0,1,0,0])))] by kernel_rfl) ⟨Ab rfl (Apc α n),trivial⟩
theorem A9d (n:Nat):(A6h n).Sound PP:=fk (fn:=Tryz.f200) (B8v _ n)

def Xp {α:Type} (n:Nat) (e c d:LI) (g a b:Int) (h:LI) (f:LI->LI->LI->Int->Int->Int->LI->Option α) (k0:LI->LI->LI->Int->Int->LI->Option α):Option α :=
 bif (decide ((W (b-a))>1)) then
  ob (f194 n (W (Int.tdiv (W (a+b)) 2))) λi =>
  ob (f196 n c i) λj =>
  ob (f199 n j d) λk =>
  bif (decide (k<=0)) then
   f e c d g (W (Int.tdiv (W (a+b)) 2)) b h
  else
   f e c d g a (W (Int.tdiv (W (a+b)) 2)) h
 else
  k0 e c d g a h
abbrev Pj:Tm:=⟨[(0,.d hIs),(1,.d hIs),(6,.k (.hw 14)),(7,.d hIs),(8,.d hI),(9,.d hI),(10,.d hI)],[(14,.arr 3 hI false)],[27],[]⟩
abbrev Ap0:Tm:=⟨[(0,.d hIs),(1,.d hIs),(6,.k (.hw 14)),(7,.d hIs),(8,.d hI),(9,.d hI)],[(14,.arr 3 hI false)],[],[]⟩
abbrev Xo:List (Exit × Tm):=[(.exit 2,Ap0)]
def Xn {α:Type} (n:Nat) (v:Pj.den) (f:Pj.den->Option α) (ks:KS α Xo):Option α:=Xp n v.1.1 v.1.2.1 v.1.2.2.2.1 v.1.2.2.2.2.1 v.1.2.2.2.2.2.1 v.1.2.2.2.2.2.2.1 v.2.1 (λa b c d e g h=>f ((a,b,(),c,d,e,g,()),(h,()))) (λw0 w1 w2 w3 w4 w5=>ks.1 ((w0,w1,(),w2,w3,w4,()),(w5,())))
def Nt {α:Type} (n m:Nat) (a b c:LI) (d e f:Int) (g:LI) (k0:LI->LI->LI->Int->Int->LI->Option α):Option α:=A5 (Xn n) m ((a,b,(),c,d,e,f,()),(g,())) (λw=>k0 w.1.1 w.1.2.1 w.1.2.2.2.1 w.1.2.2.2.2.1 w.1.2.2.2.2.2.1 w.2.1,())
theorem Aoz {α n m a b c d e f g k0}:Nt (α:=α) n (m+1) a b c d e f g k0=Xp n a b c d e f g (λa b c d e f g=>Nt n m a b c d e f g k0) k0:=rfl
def T7 {α:Type} (n:Nat) (c d e:LI) (a:Int) (g:LI) (f:LI->LI->LI->Int->LI->Option α) (k0:LI->LI->Option α):Option α :=
 bif (decide (a>=0)) then
  gd (decide (0<=a)&&decide (a<(c.length:Int))) (
   gd (decide ((1+e.length)*8<=140737488355328)) (
    ob (f216 n ([(c.getD a.toNat 0)]++e)) λh =>
    ob (f199 n h d) λl =>
    bif (decide (l<0)) then
     f c d h (W (a-1)) g
    else
     Nt n n c d h a 0 10000 g
      (λm j o b k i=>(
       gd (decide (0<=b)&&decide (b<(i.length:Int))) (
        gd (decide (b.toNat<i.length)) (
         ob (f194 n k) λp =>
         ob (f196 n j p) λq =>
         ob (f200 n o q) λr =>
         f m j r (W (b-1)) (i.set b.toNat k)))))))
 else
  k0 e g
abbrev T6:Tm:=⟨[(0,.d hIs),(1,.d hIs),(6,.k (.hw 14)),(7,.d hIs),(8,.d hI)],[(14,.arr 3 hI false)],[15,27],[(7,hIs)]⟩
abbrev Atv:Tm:=⟨[(6,.k (.hw 14)),(7,.d hIs)],[(14,.arr 3 hI false)],[],[]⟩
abbrev A28:List (Exit × Tm):=[(.exit 0,Atv)]
def A27 {α:Type} (n:Nat) (v:T6.den) (f:T6.den->Option α) (ks:KS α A28):Option α:=T7 n v.1.1 v.1.2.1 v.1.2.2.2.1 v.1.2.2.2.2.1 v.2.1 (λa b c d e=>f ((a,b,(),c,d,()),(e,()))) (λw0 w1=>ks.1 (((),w0,()),(w1,())))
def Qt {α:Type} (n m:Nat) (a b c:LI) (d:Int) (e:LI) (k0:LI->LI->Option α):Option α:=A5 (A27 n) m ((a,b,(),c,d,()),(e,())) (λw=>k0 w.1.2.1 w.2.1,())
theorem Abf {α n m a b c d e k0}:Qt (α:=α) n (m+1) a b c d e k0=T7 n a b c d e (λa b c d e=>Qt n m a b c d e k0) k0:=rfl
def f217 (n:Nat) (a0 a1:LI):Option (LI × LI) :=
 gd (decide (0<=(a0.length:Int))&&decide ((a0.length:Int)<=4611686018427387904)&&decide ((8:Int)*(a0.length:Int)<=281474976710656)) (
  Qt n n a0 a1 [] (W ((a0.length:Int)-1)) (List.replicate ((a0.length:Int).toNat) 0)
   (λa b=>(
    ob (f216 n b) λc =>
    some (c,a))))
def A6b (n:Nat):Ent:=⟨217,[hIs,hIs],[hIs,hIs],λx=>f217 n x.1 x.2⟩
def A6c (α:Type) (n:Nat):D3 α:={ reg:=[(2,⟨0,[],[(0,{ sh:=some hI })]⟩),(6,⟨0,[],[(4,{ sh:=some hI }),(7,{ ent:=some (Xq n),fz:=[(29,hIs)] })]⟩),(7,⟨0,[],[(2,{ ent:=some (Y0 n) })]⟩),(12,⟨0,[],[(2,{ ent:=some (Y2 n) }),(3,{ ent:=some (Hd n) }),(5,{ ent:=some (Y0 n) })]⟩),(16,⟨0,[],[(3,{ ent:=some (Y2 n) }),(4,{ ent:=some (Hd n) }),(5,{ ent:=some (A6h n) })]⟩),(17,⟨0,[],[(1,{ ent:=some (Xq n),fz:=[(62,hIs)] })]⟩)],join:=[],loop:=[(10,⟨Pj,Xo,A5 (Xn n) n⟩),(4,⟨T6,A28,A5 (A27 n) n⟩)] }
theorem Xm (α:Type) (n:Nat):Ao PP (Af (A6c α n).reg):=⟨Zx n,A01 n,A03 n,Gh n,A01 n,A03 n,Gh n,A9d n,Zx n,trivial⟩
theorem Ak2 (α:Type) (n:Nat):LO.Sound (α:=α) PP ⟨65,[]⟩ ⟨Pj,Xo,A5 (Xn n) n⟩ (.loop ((A1 Tryz.f217).at [1,1,1,0,1,0,0,1,0,0,1,1,1,1,0,0,0])):=C0 (D:=A6c α n) (Xm α n) n
theorem Atu (α:Type) (n:Nat):D3.OK PP TT ⟨65,[]⟩ (A6c α n) ((A1 Tryz.f217).at [1,1,1,0,1,0,0]) :=
 D3.OK.mk3 (Xm α n) (show Aa ((A1 Tryz.f217).at [1,1,1,0,1,0,0])=[(10,(.loop ((A1 Tryz.f217).at [1,1,1,0,1,0,0,1,0,0,1,1,1,1,0,0,0])))] by kernel_rfl) ⟨Ab rfl (Ak2 α n),trivial⟩
theorem Aoy (α:Type) (n:Nat):LO.Sound (α:=α) PP ⟨65,[]⟩ ⟨T6,A28,A5 (A27 n) n⟩ (.loop ((A1 Tryz.f217).at [1,1,1,0,1,0,0])):=lk (Atu α n) n
theorem B8f (α:Type) (n:Nat):D3.OK PP TT ⟨65,[]⟩ (A6c α n) (A1 Tryz.f217) :=
 D3.OK.mk3 (Xm α n) (show Aa (A1 Tryz.f217)=[(4,(.loop ((A1 Tryz.f217).at [1,1,1,0,1,0,0])))] by kernel_rfl) ⟨Ab rfl (Aoy α n),trivial⟩
theorem A9a (n:Nat):(A6b n).Sound PP:=fk (fn:=Tryz.f217) (B8f _ n)

def A2e {α:Type} (n:Nat) (b a:LI) (f:LI->LI->Option α) (k0:LI->Option α):Option α :=
 bif (decide ((a.length:Int)>0)) then
  ob (f217 n b a) λc =>
  f a c.2
 else
  k0 b
abbrev T9:Tm:=⟨[(0,.d hIs),(1,.d hIs)],[],[],[]⟩
abbrev Au0:Tm:=⟨[(0,.d hIs)],[],[],[]⟩
abbrev A2d:List (Exit × Tm):=[(.exit 0,Au0)]
def A2c {α:Type} (n:Nat) (v:T9.den) (f:T9.den->Option α) (ks:KS α A2d):Option α:=A2e n v.1.1 v.1.2.1 (λa b=>f ((a,b,()),())) (λw0=>ks.1 ((w0,()),()))
def Jy {α:Type} (n m:Nat) (a b:LI) (k0:LI->Option α):Option α:=A5 (A2c n) m ((a,b,()),()) (λw=>k0 w.1.1,())
theorem Abi {α n m a b k0}:Jy (α:=α) n (m+1) a b k0=A2e n a b (λa b=>Jy n m a b k0) k0:=rfl
def f213 (n:Nat) (a0 a1:LI):Option LI :=
 Jy n n a0 a1
  (λa=>(
   gd (decide ((0+a.length)*8<=140737488355328)) (
    some a)))
def Agc (n:Nat):Ent:=⟨213,[hIs,hIs],[hIs],λx=>f213 n x.1 x.2⟩
def Agd (α:Type) (n:Nat):D3 α:={ reg:=[(2,⟨0,[],[(2,{ ent:=some (A6b n) })]⟩),(5,⟨0,[],[(0,{ sh:=some hI })]⟩)],join:=[],loop:=[(1,⟨T9,A2d,A5 (A2c n) n⟩)] }
theorem Abh (α:Type) (n:Nat):Ao PP (Af (Agd α n).reg):=⟨A9a n,trivial⟩
theorem Ap2 (α:Type) (n:Nat):LO.Sound (α:=α) PP ⟨21,[]⟩ ⟨T9,A2d,A5 (A2c n) n⟩ (.loop ((A1 Tryz.f213).at [1,0,0,0])):=C0 (D:=Agd α n) (Abh α n) n
theorem B8j (α:Type) (n:Nat):D3.OK PP TT ⟨21,[]⟩ (Agd α n) (A1 Tryz.f213) :=
 D3.OK.mk3 (Abh α n) (show Aa (A1 Tryz.f213)=[(1,(.loop ((A1 Tryz.f213).at [1,0,0,0])))] by kernel_rfl) ⟨Ab rfl (Ap2 α n),trivial⟩
theorem Alv (n:Nat):(Agc n).Sound PP:=fk (fn:=Tryz.f213) (B8j _ n)

def f197 (n:Nat) (a0:Bool) (a1 a2:LI):Option Rq :=
 ob (f213 n a1 a2) λb =>
 ob (f217 n a1 b) λa =>
 ob (f217 n a2 b) λc =>
 bif a0 then
  some ((decide ((a.1.length:Int)>0)),a.1,c.1)
 else
  some (false,a.1,c.1)
def O5 (n:Nat):Ent:=⟨197,[.bool,hIs,hIs],[hR],λx=>f197 n x.1 x.2.1 x.2.2⟩
def B8y (α:Type) (n:Nat):D3 α:={ reg:=[(1,⟨0,[],[(2,{ ent:=some (Agc n) })]⟩),(2,⟨0,[],[(2,{ ent:=some (A6b n) })]⟩),(3,⟨0,[],[(2,{ ent:=some (A6b n) })]⟩)],join:=[],loop:=[] }
theorem Mv (n:Nat):(O5 n).Sound PP:=Au (fn:=Tryz.f197) (D:=B8y _ n) ⟨Alv n,A9a n,A9a n,trivial⟩

def f176 (n:Nat) (a0 a1:Int):Option (Rq × Int) :=
 ob (f181 n a0 (-1000000000) 1000000000) λc =>
 bif (!c) then
  some ((false,[],[]),4)
 else
  ob (f181 n a1 (-1000000000) 1000000000) λd =>
  bif (!d) then
   some ((false,[],[]),4)
  else
   bif (a1==0) then
    some ((false,[],[]),9)
   else
    ob (f131 n a0) λa =>
    ob (f131 n a1) λb =>
    ob (f197 n (!(a.1==b.1)) a.2.1 b.2.1) λe =>
    some (e,0)
def Av4 (n:Nat):Ent:=⟨176,[hI,hI],[hR,hI],λx=>f176 n x.1 x.2⟩
def B9f (α:Type) (n:Nat):D3 α:={ reg:=[(1,⟨0,[],[(1,{ ent:=some (El n) }),(5,{ ent:=some (El n) })]⟩),(5,⟨0,[],[(1,{ ent:=some (C2 n) })]⟩),(6,⟨0,[],[(1,{ ent:=some (C2 n) })]⟩),(7,⟨0,[],[(9,{ ent:=some (O5 n) })]⟩)],join:=[],loop:=[] }
theorem B4e (n:Nat):(Av4 n).Sound PP:=Au (fn:=Tryz.f176) (D:=B9f _ n) ⟨Dk n,Dk n,D7 n,D7 n,Mv n,trivial⟩

def Ps (n:Nat) (a0:LI × Int × Int):Option (Rq × (LI × Int × Int)) :=
 ob (Dd n a0 21) λa =>
 ob (Dd n a.2 6) λb =>
 ob (f176 n (W (a.1-10)) (W (1+b.1))) λc =>
 some (c.1,b.2)
def Amr (n:Nat):Ent3:=⟨110,[.one (.ptr 126 (.st (.pair (.sl (.int .u8)) (.pair hI hI))))],[[.im hR]],λx=>Ps n x,[]⟩
def B5u (α:Type) (n:Nat):D3 α:={ reg:=[(1,⟨0,[],[(1,{ entB:=some (Fm n),hb:=310 }),(4,{ entB:=some (Fm n),hb:=320 }),(6,{ ent:=some (Av4 n) })]⟩)],join:=[],loop:=[] }
theorem B0m (n:Nat):(Amr n).Sound PP:=A1z (fn:=Tryz.f110) (D:=B5u _ n) ⟨F0 n,F0 n,B4e n,trivial⟩

def Sx {α:Type} (n:Nat) (c d:Int) (b:LR) (e:LI) (g h:Int) (f:Int->Int->LR->LI->Int->Int->Option α) (k0:LR->LI->Int->Int->Option α):Option α :=
 bif (decide (d<c)) then
  ob (Ps n (e,g,h)) λa =>
  gd (decide ((b.length+1)*56<=140737488355328)) (
   f c (W (d+1)) (b++[a.1]) a.2.1 a.2.2.1 a.2.2.2)
 else
  k0 b e g h
abbrev Sw:Tm:=⟨[(0,.k (.hp 1000 0 0)),(1,.d hI),(5,.k (.hw 7)),(6,.d hI)],[(7,.arr 54 hR false),(1000,.var 126 true false [.d (.sl (.int .u8)),.d hI,.d hI])],[16],[]⟩
abbrev Atg:Tm:=⟨[(5,.k (.hw 7))],[(7,.arr 54 hR false),(1000,.var 126 true false [.d (.sl (.int .u8)),.d hI,.d hI])],[],[]⟩
abbrev A25:List (Exit × Tm):=[(.exit 0,Atg)]
def A24 {α:Type} (n:Nat) (v:Sw.den) (f:Sw.den->Option α) (ks:KS α A25):Option α:=Sx n v.1.2.1 v.1.2.2.2.1 v.2.1 v.2.2.1.1 v.2.2.1.2.1 v.2.2.1.2.2.1 (λa b c d e g=>f (((),a,(),b,()),(c,(d,e,g,()),()))) (λw0 w1 w2 w3=>ks.1 (((),()),(w0,(w1,w2,w3,()),())))
def Jv {α:Type} (n m:Nat) (a b:Int) (c:LR) (d:LI) (e f:Int) (k0:LR->LI->Int->Int->Option α):Option α:=A5 (A24 n) m (((),a,(),b,()),(c,(d,e,f,()),())) (λw=>k0 w.2.1 w.2.2.1.1 w.2.2.1.2.1 w.2.2.1.2.2.1,())
theorem Abe {α n m a b c d e f k0}:Jv (α:=α) n (m+1) a b c d e f k0=Sx n a b c d e f (λa b c d e f=>Jv n m a b c d e f k0) k0:=rfl
def Aoo (n:Nat) (a0:LI × Int × Int) (a1:Int):Option (LR × (LI × Int × Int)) :=
 Jv n n a1 0 [] a0.1 a0.2.1 a0.2.2
  (λa b c d=>(
   some (a,(b,c,d))))
def Ath (n:Nat):Ent3:=⟨59,[.one (.ptr 126 (.st (.pair (.sl (.int .u8)) (.pair hI hI)))),.im hI],[[.im hRs]],λx=>Aoo n x.1 x.2,[]⟩
def Afy (α:Type) (n:Nat):D3 α:={ reg:=[(1,⟨0,[],[(0,{ sh:=some hR })]⟩),(5,⟨0,[],[(2,{ entB:=some (Amr n),hb:=310 }),(3,{ sh:=some hR })]⟩)],join:=[],loop:=[(3,⟨Sw,A25,A5 (A24 n) n⟩)] }
theorem Abd (α:Type) (n:Nat):Ao PP (Af (Afy α n).reg):=⟨B0m n,trivial⟩
theorem Aon (α:Type) (n:Nat):LO.Sound (α:=α) PP ⟨19,[]⟩ ⟨Sw,A25,A5 (A24 n) n⟩ (.loop ((A1 Tryz.f59).at [1,1,0,1,0,0])):=C0 (D:=Afy α n) (Abd α n) n
theorem B7x (α:Type) (n:Nat):D3.OK PP TT ⟨19,[]⟩ (Afy α n) (A1 Tryz.f59) :=
 D3.OK.mk3 (Abd α n) (show Aa (A1 Tryz.f59)=[(3,(.loop ((A1 Tryz.f59).at [1,1,0,1,0,0])))] by kernel_rfl) ⟨Ab rfl (Aon α n),trivial⟩
theorem B36 (n:Nat):(Ath n).Sound PP:=fkB (fn:=Tryz.f59) (B7x _ n)

def f21 (n:Nat) (a0:LI) (a1:Int):Option LR :=
 ob (A91 n a0) λa =>
 ob (Aoo n a a1) λb =>
 some b.1
def Aov (n:Nat):Ent:=⟨21,[(.sl (.int .u8)),hI],[hRs],λx=>f21 n x.1 x.2⟩
def Bce (α:Type) (n:Nat):D3 α:={ reg:=[(1,⟨0,[],[(1,{ entB:=some (Afz n),hb:=310 }),(3,{ entB:=some (Ath n),hb:=320 })]⟩)],join:=[],loop:=[] }
theorem Atq (n:Nat):(Aov n).Sound PP:=Au (fn:=Tryz.f21) (D:=Bce _ n) ⟨Alr n,B36 n,trivial⟩

def A4f {α:Type} (n:Nat) (c:Int) (b:LI) (d a:Int) (f:Int->LI->Int->Int->Option α) (k0:Int->Option α) (k1:Unit->Option α):Option α :=
 bif (decide (a<d)) then
  gd (decide (0<=a)&&decide (a<(b.length:Int))) (
   bif (decide ((b.getD a.toNat 0)>c)) then
    k0 2
   else
    f c b d (W (a+1)))
 else
  k1 ()
abbrev Ub:Tm:=⟨[(0,.d hI),(7,.d hIs),(8,.d hI),(9,.d hI)],[],[],[]⟩
abbrev Awg:Tm:=⟨[(4,.d hI)],[],[],[]⟩
abbrev Awf:Tm:=⟨[],[],[],[]⟩
abbrev A4e:List (Exit × Tm):=[(.ret,Awg),(.exit 0,Awf)]
def A4d {α:Type} (n:Nat) (v:Ub.den) (f:Ub.den->Option α) (ks:KS α A4e):Option α:=A4f n v.1.1 v.1.2.1 v.1.2.2.1 v.1.2.2.2.1 (λa b c d=>f ((a,b,c,d,()),())) (λw0=>ks.1 ((w0,()),())) (λ_=>ks.2.1 ((),()))
def Rh {α:Type} (n m:Nat) (a:Int) (b:LI) (c d:Int) (k0:Int->Option α) (k1:Unit->Option α):Option α:=A5 (A4d n) m ((a,b,c,d,()),()) (λw=>k0 w.1.1,λw=>k1 (),())
theorem Awe {α n m a b c d k0 k1}:Rh (α:=α) n (m+1) a b c d k0 k1=A4f n a b c d (λa b c d=>Rh n m a b c d k0 k1) k0 k1:=rfl
def f122 (n:Nat) (a0:Int) (a1:LI):Option Int :=
 Rh n n a0 a1 (a1.length:Int) 0
  (λa=>(
   some a))
  (λ(_:Unit)=>(
   some 0))
def Awh (n:Nat):Ent:=⟨122,[hI,hIs],[hI],λx=>f122 n x.1 x.2⟩
def Ahy (α:Type) (n:Nat):D3 α:={ reg:=[],join:=[],loop:=[(2,⟨Ub,A4e,A5 (A4d n) n⟩)] }
theorem Ac8 (α:Type) (n:Nat):Ao PP (Af (Ahy α n).reg):=trivial
theorem Aqf (α:Type) (n:Nat):LO.Sound (α:=α) PP ⟨17,[]⟩ ⟨Ub,A4e,A5 (A4d n) n⟩ (.loop ((A1 Tryz.f122).at [1,0,1,0,0])):=C0 (D:=Ahy α n) (Ac8 α n) n
theorem Bab (α:Type) (n:Nat):D3.OK PP TT ⟨17,[]⟩ (Ahy α n) (A1 Tryz.f122) :=
 D3.OK.mk3 (Ac8 α n) (show Aa (A1 Tryz.f122)=[(2,(.loop ((A1 Tryz.f122).at [1,0,1,0,0])))] by kernel_rfl) ⟨Ab rfl (Aqf α n),trivial⟩
theorem B5l (n:Nat):(Awh n).Sound PP:=fk (fn:=Tryz.f122) (Bab _ n)

def A8t {α:Type} (n:Nat) (b:List LR) (d a:Int) (c:LI) (f:(List LR)->Int->Int->LI->Option α) (k0:LI->Option α):Option α :=
 bif (decide (a<d)) then
  gd (decide (0<=a)&&decide (a<(b.length:Int))) (
   gd (decide ((c.length+1)*8<=140737488355328)) (
    f b d (W (a+1)) (c++[(((b.getD a.toNat []).length:Nat):Int)])))
 else
  k0 c
abbrev Zn:Tm:=⟨[(3,.k (.hw 6)),(7,.d (.sl hRs)),(8,.d hI),(9,.d hI)],[(6,.arr 3 hI false)],[16],[]⟩
abbrev Az8:Tm:=⟨[(3,.k (.hw 6))],[(6,.arr 3 hI false)],[],[]⟩
abbrev A8s:List (Exit × Tm):=[(.exit 0,Az8)]
def A8r {α:Type} (n:Nat) (v:Zn.den) (f:Zn.den->Option α) (ks:KS α A8s):Option α:=A8t n v.1.2.1 v.1.2.2.1 v.1.2.2.2.1 v.2.1 (λa b c d=>f (((),a,b,c,()),(d,()))) (λw0=>ks.1 (((),()),(w0,())))
def Xh {α:Type} (n m:Nat) (a:List LR) (b c:Int) (d:LI) (k0:LI->Option α):Option α:=A5 (A8r n) m (((),a,b,c,()),(d,())) (λw=>k0 w.2.1,())
theorem Az7 {α n m a b c d k0}:Xh (α:=α) n (m+1) a b c d k0=A8t n a b c d (λa b c d=>Xh n m a b c d k0) k0:=rfl
def f71 (n:Nat) (a0:List LR):Option Int :=
 Xh n n a0 (a0.length:Int) 0 []
  (λa=>(
   ob (f122 n 4096 a) λb =>
   some b))
def Gg (n:Nat):Ent:=⟨71,[(.sl hRs)],[hI],λx=>f71 n x⟩
def Aoi (α:Type) (n:Nat):D3 α:={ reg:=[(1,⟨0,[],[(0,{ sh:=some hI })]⟩),(5,⟨0,[],[(3,{ sh:=some hI })]⟩),(7,⟨0,[],[(1,{ ent:=some (Awh n) })]⟩)],join:=[],loop:=[(3,⟨Zn,A8s,A5 (A8r n) n⟩)] }
theorem Afr (α:Type) (n:Nat):Ao PP (Af (Aoi α n).reg):=⟨B5l n,trivial⟩
theorem At7 (α:Type) (n:Nat):LO.Sound (α:=α) PP ⟨21,[]⟩ ⟨Zn,A8s,A5 (A8r n) n⟩ (.loop ((A1 Tryz.f71).at [1,1,0,1,0,0])):=C0 (D:=Aoi α n) (Afr α n) n
theorem Bbw (α:Type) (n:Nat):D3.OK PP TT ⟨21,[]⟩ (Aoi α n) (A1 Tryz.f71) :=
 D3.OK.mk3 (Afr α n) (show Aa (A1 Tryz.f71)=[(3,(.loop ((A1 Tryz.f71).at [1,1,0,1,0,0])))] by kernel_rfl) ⟨Ab rfl (At7 α n),trivial⟩
theorem A60 (n:Nat):(Gg n).Sound PP:=fk (fn:=Tryz.f71) (Bbw _ n)

def f177 (n:Nat) (a0 a1 a2:Int):Option Bool :=
 bif (decide (a1<=a0)) then
  some (decide (a0<=a2))
 else
  some false
def Lf (n:Nat):Ent:=⟨177,[hI,hI,hI],[.bool],λx=>f177 n x.1 x.2.1 x.2.2⟩
def B9e (α:Type) (n:Nat):D3 α:={ reg:=[],join:=[],loop:=[] }
theorem K3 (n:Nat):(Lf n).Sound PP:=Au (fn:=Tryz.f177) (D:=B9e _ n) trivial

def f223 (n:Nat) (a0:Nq):Option Bool :=
 bif (a0.1==1) then
  ob (f177 n a0.2.2.2 0 999999999) λa =>
  some a
 else
  bif (a0.1==2) then
   ob (f177 n a0.2.2.2 0 3) λb =>
   some b
  else
   bif (a0.1==8) then
    ob (f177 n a0.2.2.2 0 8) λc =>
    some c
   else
    some (a0.2.2.2==0)
def Atp (n:Nat):Ent:=⟨223,[hN],[.bool],λx=>f223 n x⟩
def B8b (α:Type) (n:Nat):D3 α:={ reg:=[(3,⟨0,[],[(2,{ ent:=some (Lf n) })]⟩),(5,⟨0,[],[(2,{ ent:=some (Lf n) })]⟩),(7,⟨0,[],[(2,{ ent:=some (Lf n) })]⟩)],join:=[],loop:=[] }
theorem B3a (n:Nat):(Atp n).Sound PP:=Au (fn:=Tryz.f223) (D:=B8b _ n) ⟨K3 n,K3 n,K3 n,trivial⟩

def f61 (n:Nat) (a0:Nq):Option Int :=
 bif (a0.1==3) then
  some 2
 else
  bif (a0.1==4) then
   some 2
  else
   bif (a0.1==5) then
    some 2
   else
    bif (a0.1==6) then
     some 2
    else
     bif (a0.1==7) then
      some 1
     else
      bif (a0.1==8) then
       some 1
      else
       some 0
def A64 (n:Nat):Ent:=⟨61,[hN],[hI],λx=>f61 n x⟩
def Bc3 (α:Type) (n:Nat):D3 α:={ reg:=[],join:=[],loop:=[] }
theorem A63 (n:Nat):(A64 n).Sound PP:=Au (fn:=Tryz.f61) (D:=Bc3 _ n) trivial

def f224 (n:Nat) (a0:Bool) (a1 a2:Int):Option Bool :=
 bif a0 then
  ob (f177 n a1 0 (W (a2-1))) λa =>
  bif a then
   some true
  else
   bif (!a0) then
    some (a1==0)
   else
    some false
 else
  bif (!a0) then
   some (a1==0)
  else
   some false
def Ag8 (n:Nat):Ent:=⟨224,[.bool,hI,(.ref hI)],[.bool],λx=>f224 n x.1 x.2.1 x.2.2⟩
def B8a (α:Type) (n:Nat):D3 α:={ reg:=[(1,⟨0,[],[(5,{ ent:=some (Lf n) })]⟩)],join:=[],loop:=[] }
theorem Alu (n:Nat):(Ag8 n).Sound PP:=Au (fn:=Tryz.f224) (D:=B8a _ n) ⟨K3 n,trivial⟩

def f211 (n:Nat) (a0:Nq) (a1:Int):Option Bool :=
 ob (f177 n a0.1 1 8) λa =>
 bif (!a) then
  some false
 else
  ob (f223 n a0) λb =>
  bif (!b) then
   some false
  else
   ob (f61 n a0) λc =>
   ob (f224 n (decide (c>0)) a0.2.1 a1) λd =>
   bif d then
    ob (f61 n a0) λe =>
    ob (f224 n (decide (e>1)) a0.2.2.1 a1) λf =>
    some f
   else
    some false
def Au4 (n:Nat):Ent:=⟨211,[hN,hI],[.bool],λx=>f211 n x.1 x.2⟩
def B8l (α:Type) (n:Nat):D3 α:={ reg:=[(1,⟨0,[],[(2,{ ent:=some (Lf n) }),(6,{ ent:=some (Atp n) })]⟩),(3,⟨0,[],[(0,{ sh:=some (.ref hI) })]⟩),(4,⟨14,[],[(2,{ ent:=some (A64 n) }),(6,{ ent:=some (Ag8 n) }),(10,{ ent:=some (A64 n) }),(14,{ ent:=some (Ag8 n) })]⟩)],join:=[],loop:=[] }
theorem B3k (n:Nat):(Au4 n).Sound PP:=Au (fn:=Tryz.f211) (D:=B8l _ n) ⟨K3 n,B3a n,A63 n,Alu n,A63 n,Alu n,trivial⟩

def O9 {α:Type} (n:Nat) (e:LN) (h d:Int) (b c:LI) (f:LN->Int->Int->LI->LI->Option α) (k0:Bool->Option α) (k1:LI->LI->Option α):Option α :=
 bif (decide (d<h)) then
  gd (decide (0<=d)&&decide (d<(e.length:Int))) (
   let a:=e.getD d.toNat (0,0,0,0)
   ob (f211 n a d) λj =>
   bif (!j) then
    k0 false
   else
    let g:=λ(k:Int) (l:Int)=>(
     gd (decide ((b.length+1)*8<=140737488355328)) (
      gd (decide ((c.length+1)*8<=140737488355328)) (
       f e h (W (d+1)) (b++[k]) (c++[l]))))
    ob (f61 n a) λi =>
    bif (i==1) then
     bif (a.2.1 != (W (d-1))) then
      k0 false
     else
      gd (decide (0<=a.2.1)&&decide (a.2.1<(b.length:Int))) (
       gd (decide (a.2.1.toNat<b.length)) (
        gd (decide (0<=a.2.1)&&decide (a.2.1<(c.length:Int))) (
         gd (decide (a.2.1.toNat<c.length)) (
          g (b.getD a.2.1.toNat 0) (W ((c.getD a.2.1.toNat 0)+1))))))
    else
     bif (i==2) then
      bif (a.2.2.1 != (W (d-1))) then
       k0 false
      else
       gd (decide (0<=a.2.2.1)&&decide (a.2.2.1<(b.length:Int))) (
        gd (decide (a.2.2.1.toNat<b.length)) (
         bif (a.2.1 != (W ((b.getD a.2.2.1.toNat 0)-1))) then
          k0 false
         else
          gd (decide (0<=a.2.1)&&decide (a.2.1<(b.length:Int))) (
           gd (decide (a.2.1.toNat<b.length)) (
            gd (decide (0<=a.2.1)&&decide (a.2.1<(c.length:Int))) (
             gd (decide (a.2.1.toNat<c.length)) (
              gd (decide (0<=a.2.2.1)&&decide (a.2.2.1<(c.length:Int))) (
               gd (decide (a.2.2.1.toNat<c.length)) (
                g (b.getD a.2.1.toNat 0) (W ((max (c.getD a.2.1.toNat 0) (c.getD a.2.2.1.toNat 0))+1))))))))))
     else
      g d 1)
 else
  k1 b c
abbrev Tr:Tm:=⟨[(5,.k (.hw 11)),(6,.k (.hw 12)),(13,.d hNs),(14,.d hI),(15,.d hI)],[(11,.arr 3 hI false),(12,.arr 3 hI false)],[82,86],[]⟩
abbrev Av2:Tm:=⟨[(2,.d .nil),(3,.d .nil),(4,.d .bool)],[],[8,11,12],[]⟩
abbrev Av1:Tm:=⟨[(5,.k (.hw 11)),(6,.k (.hw 12))],[(11,.arr 3 hI false),(12,.arr 3 hI false)],[],[]⟩
abbrev A3g:List (Exit × Tm):=[(.ret,Av2),(.exit 0,Av1)]
def A3f {α:Type} (n:Nat) (v:Tr.den) (f:Tr.den->Option α) (ks:KS α A3g):Option α:=O9 n v.1.2.2.1 v.1.2.2.2.1 v.1.2.2.2.2.1 v.2.1 v.2.2.1 (λa b c d e=>f (((),(),a,b,c,()),(d,e,()))) (λw0=>ks.1 (((),(),w0,()),())) (λw0 w1=>ks.2.1 (((),(),()),(w0,w1,())))
def A07 {α:Type} (n m:Nat) (a:LN) (b c:Int) (d e:LI) (k0:Bool->Option α) (k1:LI->LI->Option α):Option α:=A5 (A3f n) m (((),(),a,b,c,()),(d,e,())) (λw=>k0 w.1.2.2.1,λw=>k1 w.2.1 w.2.2.1,())
theorem Abw {α n m a b c d e k0 k1}:A07 (α:=α) n (m+1) a b c d e k0 k1=O9 n a b c d e (λa b c d e=>A07 n m a b c d e k0 k1) k0 k1:=rfl
abbrev Azx:Tm:=⟨[(5,.k (.hw 11)),(6,.k (.hw 12)),(9,.d hI),(10,.d hI),(13,.d hNs),(14,.d hI),(15,.d hI)],[(11,.arr 3 hI false),(12,.arr 3 hI false)],[8],[]⟩
def f178 (n:Nat) (a0:LN):Option (LI × LI × Bool) :=
 A07 n n a0 (a0.length:Int) 0 [] []
  (λa=>(
   some ([],[],a)))
  (λb c=>(
   some (b,c,true)))
def Av3 (n:Nat):Ent:=⟨178,[hNs],[hIs,hIs,.bool],λx=>f178 n x⟩
def Ah1 (α:Type) (n:Nat):D3 α:={ reg:=[(1,⟨0,[],[(0,{ sh:=some hI }),(1,{ sh:=some hI })]⟩),(5,⟨0,[],[(2,{ ent:=some (Au4 n) })]⟩),(8,⟨0,[],[(1,{ ent:=some (A64 n) })]⟩),(12,⟨12,[],[]⟩),(14,⟨14,[],[]⟩),(16,⟨18,[],[]⟩),(17,⟨0,[],[(2,{ sh:=some hI }),(6,{ sh:=some hI })]⟩)],join:=[(17,Azx)],loop:=[(3,⟨Tr,A3g,A5 (A3f n) n⟩)] }
theorem Abv (α:Type) (n:Nat):Ao PP (Af (Ah1 α n).reg):=⟨B3k n,A63 n,trivial⟩
theorem Apl (α:Type) (n:Nat):LO.Sound (α:=α) PP ⟨91,[]⟩ ⟨Tr,A3g,A5 (A3f n) n⟩ (.loop ((A1 Tryz.f178).at [1,1,0,1,0,0])):=C0 (D:=Ah1 α n) (Abv α n) n
theorem B9d (α:Type) (n:Nat):D3.OK PP TT ⟨91,[]⟩ (Ah1 α n) (A1 Tryz.f178) :=
 D3.OK.mk3 (Abv α n) (show Aa (A1 Tryz.f178)=[(3,(.loop ((A1 Tryz.f178).at [1,1,0,1,0,0])))] by kernel_rfl) ⟨Ab rfl (Apl α n),trivial⟩
theorem B4c (n:Nat):(Av3 n).Sound PP:=fk (fn:=Tryz.f178) (B9d _ n)

def Tq {α:Type} (n:Nat) (b:LI) (c a:Int) (f:LI->Int->Int->Option α) (k0:Int->Option α):Option α :=
 bif (decide (a<(b.length:Int))) then
  gd (decide (0<=a)&&decide (a<(b.length:Int))) (
   f b (max c (b.getD a.toNat 0)) (W (a+1)))
 else
  k0 c
abbrev Tp:Tm:=⟨[(0,.d hIs),(3,.d hI),(4,.d hI)],[],[],[]⟩
abbrev Auz:Tm:=⟨[(3,.d hI)],[],[],[]⟩
abbrev A3e:List (Exit × Tm):=[(.exit 0,Auz)]
def A3d {α:Type} (n:Nat) (v:Tp.den) (f:Tp.den->Option α) (ks:KS α A3e):Option α:=Tq n v.1.1 v.1.2.1 v.1.2.2.1 (λa b c=>f ((a,b,c,()),())) (λw0=>ks.1 ((w0,()),()))
def A06 {α:Type} (n m:Nat) (a:LI) (b c:Int) (k0:Int->Option α):Option α:=A5 (A3d n) m ((a,b,c,()),()) (λw=>k0 w.1.1,())
theorem Abu {α n m a b c k0}:A06 (α:=α) n (m+1) a b c k0=Tq n a b c (λa b c=>A06 n m a b c k0) k0:=rfl
def f179 (n:Nat) (a0:LI):Option Int :=
 bif (decide ((a0.length:Int)<1)) then
  none
 else
  gd (decide (0<(a0.length:Int))) (
   A06 n n a0 (a0.getD 0 0) 1
    (λa=>(
     some a)))
def Av0 (n:Nat):Ent:=⟨179,[hIs],[hI],λx=>f179 n x⟩
def Ah0 (α:Type) (n:Nat):D3 α:={ reg:=[],join:=[],loop:=[(5,⟨Tp,A3e,A5 (A3d n) n⟩)] }
theorem Abt (α:Type) (n:Nat):Ao PP (Af (Ah0 α n).reg):=trivial
theorem Apk (α:Type) (n:Nat):LO.Sound (α:=α) PP ⟨25,[]⟩ ⟨Tp,A3e,A5 (A3d n) n⟩ (.loop ((A1 Tryz.f179).at [1,1,1,0,1,0,0])):=C0 (D:=Ah0 α n) (Abt α n) n
theorem B9c (α:Type) (n:Nat):D3.OK PP TT ⟨25,[]⟩ (Ah0 α n) (A1 Tryz.f179) :=
 D3.OK.mk3 (Abt α n) (show Aa (A1 Tryz.f179)=[(5,(.loop ((A1 Tryz.f179).at [1,1,1,0,1,0,0])))] by kernel_rfl) ⟨Ab rfl (Apk α n),trivial⟩
theorem B4a (n:Nat):(Av0 n).Sound PP:=fk (fn:=Tryz.f179) (B9c _ n)

def f112 (n:Nat) (a0:LN):Option Bool :=
 ob (f177 n (a0.length:Int) 1 60) λb =>
 bif (!b) then
  some false
 else
  ob (f178 n a0) λa =>
  bif a.2.2 then
   gd (decide (0<=(W ((a0.length:Int)-1)))&&decide ((W ((a0.length:Int)-1))<(a.1.length:Int))) (
    bif ((a.1.getD ((W ((a0.length:Int)-1)).toNat) 0)==0) then
     ob (f179 n a.2.1) λc =>
     some (decide (c<=12))
    else
     some false)
  else
   some false
def Awp (n:Nat):Ent:=⟨112,[hE],[.bool],λx=>f112 n x⟩
def Bag (α:Type) (n:Nat):D3 α:={ reg:=[(2,⟨0,[],[(1,{ ent:=some (Lf n) })]⟩),(4,⟨0,[],[(2,{ ent:=some (Av3 n) })]⟩),(5,⟨0,[],[(11,{ ent:=some (Av0 n) })]⟩)],join:=[],loop:=[] }
theorem B5r (n:Nat):(Awp n).Sound PP:=Au (fn:=Tryz.f112) (D:=Bag _ n) ⟨K3 n,B4c n,B4a n,trivial⟩

def f111 (n:Nat) (a0:Bool) (a1:Int):Option Int :=
 bif a0 then
  some 0
 else
  some a1
def Em (n:Nat):Ent:=⟨111,[.bool,hI],[hI],λx=>f111 n x.1 x.2⟩
def Bah (α:Type) (n:Nat):D3 α:={ reg:=[],join:=[],loop:=[] }
theorem I4 (n:Nat):(Em n).Sound PP:=Au (fn:=Tryz.f111) (D:=Bah _ n) trivial

def f60 (n:Nat) (a0:LN):Option Int :=
 ob (f112 n a0) λa =>
 ob (f111 n a 1) λb =>
 some b
def Zr (n:Nat):Ent:=⟨60,[hE],[hI],λx=>f60 n x⟩
def Bc4 (α:Type) (n:Nat):D3 α:={ reg:=[(1,⟨0,[],[(1,{ ent:=some (Awp n) }),(2,{ ent:=some (Em n) })]⟩)],join:=[],loop:=[] }
theorem B7w (n:Nat):(Zr n).Sound PP:=Au (fn:=Tryz.f60) (D:=Bc4 _ n) ⟨B5r n,I4 n,trivial⟩

def f227 (n:Nat) (a0:Int):Option Bool :=
 bif (decide (a0<0)) then
  some true
 else
  some (decide (a0>=10000))
def Ato (n:Nat):Ent:=⟨227,[hI],[.bool],λx=>f227 n x⟩
def B88 (α:Type) (n:Nat):D3 α:={ reg:=[],join:=[],loop:=[] }
theorem B38 (n:Nat):(Ato n).Sound PP:=Au (fn:=Tryz.f227) (D:=B88 _ n) trivial

def Nr {α:Type} (n:Nat) (b:LI) (c a:Int) (f:LI->Int->Int->Option α) (k0:Int->Option α) (k1:Unit->Option α):Option α :=
 bif (decide (a<c)) then
  gd (decide (0<=a)&&decide (a<(b.length:Int))) (
   ob (f227 n (b.getD a.toNat 0)) λd =>
   bif d then
    k0 a
   else
    f b c (W (a+1)))
 else
  k1 ()
abbrev Iu:Tm:=⟨[(0,.d hIs),(1,.d (.fn 227)),(7,.d hI),(8,.d hI)],[],[],[]⟩
abbrev Acu:Tm:=⟨[(4,.d hI)],[],[],[]⟩
abbrev Acs:Tm:=⟨[],[],[],[]⟩
abbrev Np:List (Exit × Tm):=[(.ret,Acu),(.exit 0,Acs)]
def No {α:Type} (n:Nat) (v:Iu.den) (f:Iu.den->Option α) (ks:KS α Np):Option α:=Nr n v.1.1 v.1.2.2.1 v.1.2.2.2.1 (λa b c=>f ((a,(),b,c,()),())) (λw0=>ks.1 ((w0,()),())) (λ_=>ks.2.1 ((),()))
def H6 {α:Type} (n m:Nat) (a:LI) (b c:Int) (k0:Int->Option α) (k1:Unit->Option α):Option α:=A5 (No n) m ((a,(),b,c,()),()) (λw=>k0 w.1.1,λw=>k1 (),())
theorem Acr {α n m a b c k0 k1}:H6 (α:=α) n (m+1) a b c k0 k1=Nr n a b c (λa b c=>H6 n m a b c k0 k1) k0 k1:=rfl
def A26 (n:Nat) (a0:LI) (a1:Unit):Option Int :=
 H6 n n a0 (a0.length:Int) 0
  (λa=>(
   some a))
  (λ(_:Unit)=>(
   some (-1)))
def A69 (n:Nat):Ent:=⟨228,[hIs,(.fn 227)],[hI],λx=>A26 n x.1 x.2⟩
def Sy (α:Type) (n:Nat):D3 α:={ reg:=[(4,⟨0,[],[(5,{ ent:=some (Ato n) })]⟩)],join:=[],loop:=[(2,⟨Iu,Np,A5 (No n) n⟩)] }
theorem Vj (α:Type) (n:Nat):Ao PP (Af (Sy α n).reg):=⟨B38 n,trivial⟩
theorem A99 (α:Type) (n:Nat):LO.Sound (α:=α) PP ⟨19,[]⟩ ⟨Iu,Np,A5 (No n) n⟩ (.loop ((A1 Tryz.f228).at [1,0,1,0,0])):=C0 (D:=Sy α n) (Vj α n) n
theorem Aot (α:Type) (n:Nat):D3.OK PP TT ⟨19,[]⟩ (Sy α n) (A1 Tryz.f228) :=
 D3.OK.mk3 (Vj α n) (show Aa (A1 Tryz.f228)=[(2,(.loop ((A1 Tryz.f228).at [1,0,1,0,0])))] by kernel_rfl) ⟨Ab rfl (A99 α n),trivial⟩
theorem Aju (n:Nat):(A69 n).Sound PP:=fk (fn:=Tryz.f228) (Aot _ n)

def Ns (n:Nat) (a0:LI) (a1:Unit):Option Bool :=
 ob (A26 n a0 a1) λa =>
 some (decide (a>=0))
def A6a (n:Nat):Ent:=⟨226,[hIs,(.fn 227)],[.bool],λx=>Ns n x.1 x.2⟩
def Aou (α:Type) (n:Nat):D3 α:={ reg:=[(1,⟨0,[],[(2,{ ent:=some (A69 n) })]⟩)],join:=[],loop:=[] }
theorem Ajv (n:Nat):(A6a n).Sound PP:=Au (fn:=Tryz.f226) (D:=Aou _ n) ⟨Aju n,trivial⟩

def f225 (n:Nat) (a0:LI):Option Bool :=
 bif (decide ((a0.length:Int)>40)) then
  some false
 else
  bif (decide ((a0.length:Int)>0)) then
   gd (decide (0<=(W ((a0.length:Int)-1)))&&decide ((W ((a0.length:Int)-1))<(a0.length:Int))) (
    bif ((a0.getD ((W ((a0.length:Int)-1)).toNat) 0)==0) then
     some false
    else
     ob (Ns n a0 ()) λa =>
     some (!a))
  else
   ob (Ns n a0 ()) λb =>
   some (!b)
def Ag7 (n:Nat):Ent:=⟨225,[hIs],[.bool],λx=>f225 n x⟩
def B89 (α:Type) (n:Nat):D3 α:={ reg:=[(4,⟨0,[],[(1,{ ent:=some (A6a n) })]⟩)],join:=[],loop:=[] }
theorem Als (n:Nat):(Ag7 n).Sound PP:=Au (fn:=Tryz.f225) (D:=B89 _ n) ⟨Ajv n,trivial⟩

def f168 (n:Nat) (a0:Rq):Option Bool :=
 some ((a0.2.1.length:Int)==0)
def R7 (n:Nat):Ent:=⟨168,[hR],[.bool],λx=>f168 n x⟩
def B9i (α:Type) (n:Nat):D3 α:={ reg:=[],join:=[],loop:=[] }
theorem R6 (n:Nat):(R7 n).Sound PP:=Au (fn:=Tryz.f168) (D:=B9i _ n) trivial

def f205 (n:Nat) (a0:LI):Option LI :=
 some a0
def Agi (n:Nat):Ent:=⟨205,[hIs],[(.clo 220 (.ref hIs))],λx=>f205 n x⟩
def B8r (α:Type) (n:Nat):D3 α:={ reg:=[(1,⟨0,[],[(0,{ sh:=some (.ref hIs) })]⟩)],join:=[],loop:=[] }
theorem Alz (n:Nat):(Agi n).Sound PP:=Au (fn:=Tryz.f205) (D:=B8r _ n) trivial

def A3q {α:Type} (n:Nat) (i:Nat) (z:Int) (b:LI) (a:LI) (c:Int) (f:LI->LI->Int->Option α) (k0:Int->Option α) (k1:Int->Option α):Option α :=
 gd (decide (0<=(i:Int))&&decide ((i:Int)<(a.length:Int))) (
  bif (z != (a.getD ((i:Int).toNat) 0)) then
   gd (decide (0<=(i:Int))&&decide ((i:Int)<(a.length:Int))) (
    bif (decide (z<(a.getD ((i:Int).toNat) 0))) then
     k1 (-1)
    else
     k1 1)
  else
   f b a c)
abbrev K4:Tm:=⟨[(3,.k (.hp 3 0 0)),(4,.k (.hp 4 0 0)),(18,.d (.clo 220 (.ref hIs)))],[(3,.var 52 true false [.d hIs]),(4,.var 3 true false [.d hI])],[],[]⟩
abbrev Avg:Tm:=⟨[(4,.k (.hp 4 0 0))],[(4,.var 3 true false [.d hI])],[3],[]⟩
abbrev Avf:Tm:=⟨[(4,.k (.hp 4 0 0))],[(4,.var 3 true false [.d hI])],[3],[]⟩
abbrev U0:List (Exit × Tm):=[(.normal,Avg),(.ret,Avf)]
def Og (v:K4.den):List Int:=(λa b c=>a) v.1.2.2.1 v.2.1.1 v.2.2.1.1
def Oh {α:Type} (n:Nat) (i:Nat) (z:Int) (v:K4.den) (f:K4.den->Option α) (ks:KS α U0):Option α:=A3q n i z v.1.2.2.1 v.2.1.1 v.2.2.1.1 (λa b c=>f (((),(),a,()),((b,()),(c,()),()))) (λw0=>ks.1 (((),()),((w0,()),()))) (λw0=>ks.2.1 (((),()),((w0,()),())))
def Oj {α:Type} (v:K4.den) (ks:KS α U0):Option α:=(λb c a=>ks.1 (((),()),((a,()),()))) v.1.2.2.1 v.2.1.1 v.2.2.1.1
def Amn {α:Type} (n:Nat) (a:LI) (b:LI) (c:Int) (k0:Int->Option α) (k1:Int->Option α):Option α:=Nc Og (Oh n) Oj (((),(),a,()),((b,()),(c,()),())) (λw=>k0 w.2.1.1,λw=>k1 w.2.1.1,())
def Oi {α:Type} (n:Nat) (zs:List Int) (i:Nat) (a:LI) (b:LI) (c:Int) (k0:Int->Option α) (k1:Int->Option α):Option α:=Nf Og (Oh n) zs i (((),(),a,()),((b,()),(c,()),())) (λv=>Oj v (λw=>k0 w.2.1.1,λw=>k1 w.2.1.1,())) (λw=>k0 w.2.1.1,λw=>k1 w.2.1.1,())
theorem Avd {α:Type} (n:Nat) (a:LI) (b:LI) (c:Int) (k0:Int->Option α) (k1:Int->Option α):Amn (α:=α) n a b c k0 k1=gd (decide (a.length<=4611686018427387904)) (Oi n a a.length a b c k0 k1):=rfl
theorem Ave {α:Type} (n:Nat) (zs:List Int) (b:LI) (c:LI) (a:Int) (k0:Int->Option α) (k1:Int->Option α):Oi (α:=α) n zs 0 b c a k0 k1=k0 a:=rfl
theorem Avc {α:Type} (n:Nat) (zs:List Int) (i:Nat) (a:LI) (b:LI) (c:Int) (k0:Int->Option α) (k1:Int->Option α):Oi (α:=α) n zs (i+1) a b c k0 k1=A3q n i (zs.getD i 0) a b c (λa b c=>gd (decide (a=zs)) (Oi n zs i a b c k0 k1)) k0 k1:=rfl
def f155 (n:Nat) (a0 a1:LI):Option Int :=
 bif ((a0.length:Int) != (a1.length:Int)) then
  bif (decide ((a0.length:Int)<(a1.length:Int))) then
   some (-1)
  else
   some 1
 else
  ob (f205 n a0) λa =>
  Amn n a a1 0
   (λc=>(
    some 0))
   (λb=>(
    some b))
def Yb (n:Nat):Ent:=⟨155,[hIs,hIs],[hI],λx=>f155 n x.1 x.2⟩
def A73 (α:Type) (n:Nat):D3 α:={ reg:=[(5,⟨0,[],[(1,{ ent:=some (Agi n) })]⟩)],join:=[],loop:=[(6,⟨K4,U0,Nc Og (Oh n) Oj⟩)] }
theorem Ya (α:Type) (n:Nat):Ao PP (Af (A73 α n).reg):=⟨Alz n,trivial⟩
theorem Aq2 (α:Type) (n:Nat):D3.OK PP TT ⟨33,[]⟩ (A73 α n) ((A1 Tryz.f155).at [1,1,0,1,0,0]) :=
 D3.OK.mk3 (Ya α n) (show Aa ((A1 Tryz.f155).at [1,1,0,1,0,0])=[] by kernel_rfl) trivial
theorem Aq1 (α:Type) (n:Nat):D3.OK PP TT ⟨33,[]⟩ (A73 α n) ((A1 Tryz.f155).at [1,1,0,1,0,1]) :=
 D3.OK.mk3 (Ya α n) (show Aa ((A1 Tryz.f155).at [1,1,0,1,0,1])=[] by kernel_rfl) trivial
theorem Aq0 (α:Type) (n:Nat):LO.Sound (α:=α) PP ⟨33,[]⟩ ⟨K4,U0,Nc Og (Oh n) Oj⟩ (.rangeFunc (.tmp 18) #[19,20] ((A1 Tryz.f155).at [1,1,0,1,0,0]) ((A1 Tryz.f155).at [1,1,0,1,0,1])) :=
 Aer (Qj _) Ng Og (Oh n) Oj Amz rfl rfl rfl rfl (Aq2 α n) (Aq1 α n) (by intro v;rfl) (by intro i z v f ks;kernel_rfl) (by intro v ks;kernel_rfl)
theorem B9m (α:Type) (n:Nat):D3.OK PP TT ⟨33,[]⟩ (A73 α n) (A1 Tryz.f155) :=
 D3.OK.mk3 (Ya α n) (show Aa (A1 Tryz.f155)=[(6,(.rangeFunc (.tmp 18) #[19,20] ((A1 Tryz.f155).at [1,1,0,1,0,0]) ((A1 Tryz.f155).at [1,1,0,1,0,1])))] by kernel_rfl) ⟨Ab rfl (Aq0 α n),trivial⟩
theorem A0b (n:Nat):(Yb n).Sound PP:=fk (fn:=Tryz.f155) (B9m _ n)

def Aqe (n:Nat) (a0:LI):Option LI :=
 gd ((!a0.isEmpty)) (
  gd (decide ((0+a0.length)*8<=140737488355328)) (
   some a0))
def B5i (n:Nat):Ent:=⟨123,[hIs],[hIs],λx=>Aqe n x⟩
def B5j (α:Type) (n:Nat):D3 α:={ reg:=[(3,⟨0,[],[(0,{ sh:=some hI })]⟩)],join:=[],loop:=[] }
theorem B0i (n:Nat):(B5i n).Sound PP:=Au (fn:=Tryz.f123) (D:=B5j _ n) trivial

set_option maxRecDepth 100000 in
set_option maxHeartbeats 2000000 in
theorem Ax6 (ad:Option Addr) (cap:Nat) (hc:ad=none->cap=0) (w:World):Calls Tryz.prog 123 #[.slice ad 0 cap] w λe w'=>(∃ a c,e = .returned (.slice a 0 c)/\(a=none->c=0))/\w.grownBy w' none:=by
 refine (callsIn_wide (n:=3)).1 ?_;refine callsIn_of_wp Tryz.func123 rfl trivial ?_ rfl;simp only [Tryz.ntmps123,List.size_toArray,ZF,XI,Nat.reduceAdd,Nat.reduceSub,Array.replicate_succ,Array.replicate_zero,List.push_toArray,List.append_toArray,JJ,YF];have hi:∃ i,Tryz.prog.info? 3=some i:=⟨_,rfl⟩;obtain ⟨i3,hi3⟩:=hi
 have hap:∀ (base:Option Addr) (sCap:Nat) (a:Option Addr) (cp:Nat) (w:World),(Builtin.append_ #[52,52] 52 #[.slice base 0 sCap,.slice a 0 cp]).run Tryz.prog w = .ok (.slice base 0 sCap) w:=λbase sCap a cp w =>
  Pa w 52 52 3 i3 Tryz.underlying52 hi3 base 0 sCap (KM _) a cp
 cases ad with
 | none =>
  obtain rfl:=hc rfl
  have hb:∀ w,(binOp BinOp.eql 52 (.slice none 0 0) (.slice none 0 0)).run Tryz.prog w = .ok (.bool true) w:=λw=>by kernel_rfl
  gi_wp2
  refine bodyPost_ret (results_tmp rfl _ _ _) rfl ?_;exact ⟨⟨none,0,rfl,λ_=>rfl⟩,⟨rfl,rfl,rfl,QZ _,λ_ _ _=>rfl⟩⟩
 | some ad =>
  have hb:∀ w,(binOp BinOp.eql 52 (.slice (some ad) 0 cap) (.slice none 0 0)).run Tryz.prog w = .ok (.bool false) w:=λw=>by kernel_rfl
  gi_wp2
  refine bodyPost_ret (results_tmp rfl _ _ _) rfl ?_;exact ⟨⟨_,0,rfl,λ_=>rfl⟩,World.grownBy_alloc w _ none⟩
def f123 (n:Nat) (a0:List Int):Option (List Int):=bif a0.isEmpty then some [] else Aqe n a0
def Li (n:Nat):Ent:=⟨123,[hIs],[hIs],λx=>f123 n x⟩
theorem B0h (nt:Nat):Jh Tryz.prog 123 nt [] [] [.one (.i (.sl 0 false 1 []))] (.v (.one (.i (.sl 0 false 1 [])))) nt []:=by
 refine ⟨⟨Tryz.f123,by kernel_rfl,by kernel_rfl,by kernel_rfl⟩,λw E vs hin hv=>?_⟩
 obtain ⟨hl,hget⟩:=hv
 match vs,hl with
 | [v],_ =>
  have h1:Rv w E v (.one (.i (.sl 0 false 1 []))):=hget 0 v _ rfl rfl
  cases h1 with
  | one h1 =>
   cases h1 with
   | i h1 =>
    cases h1 with
    | sl _ _ _ _ _ _ _ hne=>exact absurd rfl hne
    | nil _ _ cap a _ hn hc =>
     refine (Ax6 a cap hc w).mono ?_
     rintro e w' ⟨⟨a',c',rfl,hc'⟩,hg⟩
     exact ⟨_,E,rfl,.v (.one (.i (.nil 0 1 c' a' false (λe=>by cases e) hc'))),⟨hg.os,hg.tape,hg.output,hg.size,λb hb _=>hg.block b hb (by simp)⟩,
      ⟨λb hb=>ZT (hin.wf.alt b hb) hg.size,hin.wf.tag,hin.wf.inj,λb h hb=>by cases hin.odom b h hb⟩,λ_ _=>Iff.rfl,QZ _,λ_ _=>rfl,λt g ht h=>absurd (hin.wf.tag t g h).1 (Nat.not_lt.2 ht),
      λh b hb=>(by cases hb),λh h' b b' g g' z z' hb=>(by cases hb),λh b g z hb=>(by cases hb),λh b hb=>(by cases hb),λg h hg=>(by cases hin.odom g h hg)⟩
theorem K6 (n:Nat):(Li n).Sound Tryz.prog:=by
 intro nt x r h
 cases x with
 | cons z l=>exact B0i n nt (z::l) r h
 | nil =>
  have h:some ([]:List Int)=some r:=h;obtain rfl:=QA h;exact B0h nt

def A2q {α:Type} (n:Nat) (b:LI) (a:Int) (f:LI->Int->Option α) (k0:LI->Int->Option α):Option α :=
 bif (decide (a>0)) then
  gd (decide (0<=(W (a-1)))&&decide ((W (a-1))<(b.length:Int))) (
   bif ((b.getD ((W (a-1)).toNat) 0)==0) then
    f b (W (a-1))
   else
    k0 b a)
 else
  k0 b a
abbrev Tf:Tm:=⟨[(0,.d hIs),(3,.d hI)],[],[],[]⟩
abbrev Aub:Tm:=⟨[(0,.d hIs),(3,.d hI)],[],[],[]⟩
abbrev A2p:List (Exit × Tm):=[(.exit 0,Aub)]
def A2o {α:Type} (n:Nat) (v:Tf.den) (f:Tf.den->Option α) (ks:KS α A2p):Option α:=A2q n v.1.1 v.1.2.1 (λa b=>f ((a,b,()),())) (λw0 w1=>ks.1 ((w0,w1,()),()))
def A00 {α:Type} (n m:Nat) (a:LI) (b:Int) (k0:LI->Int->Option α):Option α:=A5 (A2o n) m ((a,b,()),()) (λw=>k0 w.1.1 w.1.2.1,())
theorem Aua {α n m a b k0}:A00 (α:=α) n (m+1) a b k0=A2q n a b (λa b=>A00 n m a b k0) k0:=rfl
def f202 (n:Nat) (a0:LI):Option LI :=
 A00 n n a0 (a0.length:Int)
  (λb a=>(
   gd (decide (0<=a)&&decide (a<=(b.length:Int))) (
    some ((b.drop 0).take (a.toNat-0)))))
def Hc (n:Nat):Ent:=⟨202,[hIs],[hIs],λx=>f202 n x⟩
def Agq (α:Type) (n:Nat):D3 α:={ reg:=[],join:=[],loop:=[(2,⟨Tf,A2p,A5 (A2o n) n⟩)] }
theorem Abn (α:Type) (n:Nat):Ao PP (Af (Agq α n).reg):=trivial
theorem Apb (α:Type) (n:Nat):LO.Sound (α:=α) PP ⟨21,[]⟩ ⟨Tf,A2p,A5 (A2o n) n⟩ (.loop ((A1 Tryz.f202).at [1,1,0,0,0])):=C0 (D:=Agq α n) (Abn α n) n
theorem B8u (α:Type) (n:Nat):D3.OK PP TT ⟨21,[]⟩ (Agq α n) (A1 Tryz.f202) :=
 D3.OK.mk3 (Abn α n) (show Aa (A1 Tryz.f202)=[(2,(.loop ((A1 Tryz.f202).at [1,1,0,0,0])))] by kernel_rfl) ⟨Ab rfl (Apb α n),trivial⟩
theorem Qw (n:Nat):(Hc n).Sound PP:=fk (fn:=Tryz.f202) (B8u _ n)

def A42 {α:Type} (n:Nat) (a:Int) (b:LI) (f:Int->LI->Option α) (k0:LI->Option α):Option α :=
 bif (decide (a>0)) then
  gd (decide ((b.length+1)*8<=140737488355328)) (
   f (W (Int.tdiv a 10000)) (b++[(Int.tmod a 10000)]))
 else
  k0 b
abbrev U4:Tm:=⟨[(0,.d hI),(3,.k (.hw 4))],[(4,.arr 3 hI false)],[12],[]⟩
abbrev Avq:Tm:=⟨[(3,.k (.hw 4))],[(4,.arr 3 hI false)],[],[]⟩
abbrev A41:List (Exit × Tm):=[(.exit 0,Avq)]
def A40 {α:Type} (n:Nat) (v:U4.den) (f:U4.den->Option α) (ks:KS α A41):Option α:=A42 n v.1.1 v.2.1 (λa b=>f ((a,(),()),(b,()))) (λw0=>ks.1 (((),()),(w0,())))
def A0c {α:Type} (n m:Nat) (a:Int) (b:LI) (k0:LI->Option α):Option α:=A5 (A40 n) m ((a,(),()),(b,())) (λw=>k0 w.2.1,())
theorem Avp {α n m a b k0}:A0c (α:=α) n (m+1) a b k0=A42 n a b (λa b=>A0c n m a b k0) k0:=rfl
def f150 (n:Nat) (a0:Int):Option LI :=
 A0c n n a0 []
  (λa=>(
   some a))
def Lg (n:Nat):Ent:=⟨150,[hI],[hIs],λx=>f150 n x⟩
def Ahs (α:Type) (n:Nat):D3 α:={ reg:=[(1,⟨0,[],[(0,{ sh:=some hI })]⟩),(4,⟨0,[],[(3,{ sh:=some hI })]⟩)],join:=[],loop:=[(2,⟨U4,A41,A5 (A40 n) n⟩)] }
theorem Ac1 (α:Type) (n:Nat):Ao PP (Af (Ahs α n).reg):=trivial
theorem Aq6 (α:Type) (n:Nat):LO.Sound (α:=α) PP ⟨15,[]⟩ ⟨U4,A41,A5 (A40 n) n⟩ (.loop ((A1 Tryz.f150).at [1,1,0,0,0])):=C0 (D:=Ahs α n) (Ac1 α n) n
theorem B9r (α:Type) (n:Nat):D3.OK PP TT ⟨15,[]⟩ (Ahs α n) (A1 Tryz.f150) :=
 D3.OK.mk3 (Ac1 α n) (show Aa (A1 Tryz.f150)=[(2,(.loop ((A1 Tryz.f150).at [1,1,0,0,0])))] by kernel_rfl) ⟨Ab rfl (Aq6 α n),trivial⟩
theorem A9p (n:Nat):(Lg n).Sound PP:=fk (fn:=Tryz.f150) (B9r _ n)

def A79 (n:Nat) (a0:LI):Option LI :=
 gd ((!a0.isEmpty)) (
  gd (decide ((0+a0.length)*8<=140737488355328)) (
   some a0))
def I3 (n:Nat):Ent3:=⟨123,[.im hIs],[[.one (.own 3 hI)]],λx=>A79 n x,[]⟩
def B5k (α:Type) (n:Nat):D3 α:={ reg:=[(3,⟨0,[],[(0,{ sh:=some hI })]⟩)],join:=[],loop:=[] }
theorem Ahw (n:Nat):(I3 n).Sound PP:=A1z (fn:=Tryz.f123) (D:=B5k _ n) trivial

def Xl {α:Type} (n:Nat) (s0o s0l:Nat) (c:LI) (d e g i a:Int) (b:LI) (f:Nat->Nat->LI->Int->Int->Int->Int->Int->LI->Option α) (k0:Nat->Nat->LI->Int->Int->Int->LI->Option α):Option α :=
 bif (decide (a<i)) then
  gd (decide (0<=a)&&decide (a<(s0l:Int))) (
   gd (decide ((s0o+a.toNat)<b.length)) (
    let j:=λ(h:Int)=>(
     let k:=λ(l:Int)=>(
      gd (decide (0<=a)&&decide (a<(s0l:Int))) (
       gd (decide ((s0o+a.toNat)<b.length)) (
        f s0o s0l c d e l i (W (a+1)) (b.set (s0o+a.toNat) (W (h-(W (l*10000))))))))
     bif (decide (h<0)) then
      k (W (Int.tdiv (W ((W (h-10000))+1)) 10000))
     else
      k 0)
    bif (decide (a<d)) then
     gd (decide (0<=a)&&decide (a<(c.length:Int))) (
      j (W ((W ((b.getD (s0o+a.toNat) 0)+g))-(W (e*(c.getD a.toNat 0))))))
    else
     j (W ((b.getD (s0o+a.toNat) 0)+g))))
 else
  k0 s0o s0l c d e g b
abbrev Pi:Tm:=⟨[(0,.hs 1000),(1,.d hIs),(5,.d hI),(7,.d hI),(8,.d hI),(50,.d hI),(51,.d hI)],[(1000,.arr 3 hI false)],[],[]⟩
abbrev Aox:Tm:=⟨[(0,.hs 1000),(1,.d hIs),(5,.d hI),(7,.d hI),(8,.d hI)],[(1000,.arr 3 hI false)],[],[]⟩
abbrev Xk:List (Exit × Tm):=[(.exit 0,Aox)]
def Xj {α:Type} (n:Nat) (v:Pi.den) (f:Pi.den->Option α) (ks:KS α Xk):Option α:=Xl n v.1.1.1 v.1.1.2 v.1.2.1 v.1.2.2.1 v.1.2.2.2.1 v.1.2.2.2.2.1 v.1.2.2.2.2.2.1 v.1.2.2.2.2.2.2.1 v.2.1 (λs0o s0l a b c d e g h=>f (((s0o,s0l),a,b,c,d,e,g,()),(h,()))) (λw0 w1 w2 w3 w4 w5 w6=>ks.1 (((w0,w1),w2,w3,w4,w5,()),(w6,())))
def G1 {α:Type} (n m:Nat) (s0o s0l:Nat) (a:LI) (b c d e f:Int) (g:LI) (k0:Nat->Nat->LI->Int->Int->Int->LI->Option α):Option α:=A5 (Xj n) m (((s0o,s0l),a,b,c,d,e,f,()),(g,())) (λw=>k0 w.1.1.1 w.1.1.2 w.1.2.1 w.1.2.2.1 w.1.2.2.2.1 w.1.2.2.2.2.1 w.2.1,())
theorem Aow {α n m s0o s0l a b c d e f g k0}:G1 (α:=α) n (m+1) s0o s0l a b c d e f g k0=Xl n s0o s0l a b c d e f g (λs0o s0l a b c d e f g=>G1 n m s0o s0l a b c d e f g k0) k0:=rfl
def T2 {α:Type} (n:Nat) (s0o s0l:Nat) (c:LI) (d g h e i a:Int) (b:LI) (f:Nat->Nat->LI->Int->Int->Int->Int->Int->Int->LI->Option α) (k0:Nat->Nat->LI->Int->Int->Int->Int->LI->Option α):Option α :=
 bif (decide (a<i)) then
  gd (decide (0<=a)&&decide (a<(s0l:Int))) (
   gd (decide ((s0o+a.toNat)<b.length)) (
    let j:=λ(k:Int)=>(
     gd (decide (0<=a)&&decide (a<(s0l:Int))) (
      gd (decide ((s0o+a.toNat)<b.length)) (
       f s0o s0l c d g h (W (Int.tdiv k 10000)) i (W (a+1)) (b.set (s0o+a.toNat) (Int.tmod k 10000)))))
    bif (decide (a<d)) then
     gd (decide (0<=a)&&decide (a<(c.length:Int))) (
      j (W ((W ((b.getD (s0o+a.toNat) 0)+e))+(c.getD a.toNat 0))))
    else
     j (W ((b.getD (s0o+a.toNat) 0)+e))))
 else
  k0 s0o s0l c d g h e b
abbrev Md:Tm:=⟨[(0,.hs 1000),(1,.d hIs),(5,.d hI),(7,.d hI),(8,.d hI),(11,.d hI),(90,.d hI),(91,.d hI)],[(1000,.arr 3 hI false)],[],[]⟩
abbrev Ajy:Tm:=⟨[(0,.hs 1000),(1,.d hIs),(5,.d hI),(7,.d hI),(8,.d hI),(11,.d hI)],[(1000,.arr 3 hI false)],[],[]⟩
abbrev T1:List (Exit × Tm):=[(.exit 4,Ajy)]
def T0 {α:Type} (n:Nat) (v:Md.den) (f:Md.den->Option α) (ks:KS α T1):Option α:=T2 n v.1.1.1 v.1.1.2 v.1.2.1 v.1.2.2.1 v.1.2.2.2.1 v.1.2.2.2.2.1 v.1.2.2.2.2.2.1 v.1.2.2.2.2.2.2.1 v.1.2.2.2.2.2.2.2.1 v.2.1 (λs0o s0l a b c d e g h i=>f (((s0o,s0l),a,b,c,d,e,g,h,()),(i,()))) (λw0 w1 w2 w3 w4 w5 w6 w7=>ks.1 (((w0,w1),w2,w3,w4,w5,w6,()),(w7,())))
def I0 {α:Type} (n m:Nat) (s0o s0l:Nat) (a:LI) (b c d e f g:Int) (h:LI) (k0:Nat->Nat->LI->Int->Int->Int->Int->LI->Option α):Option α:=A5 (T0 n) m (((s0o,s0l),a,b,c,d,e,f,g,()),(h,())) (λw=>k0 w.1.1.1 w.1.1.2 w.1.2.1 w.1.2.2.1 w.1.2.2.2.1 w.1.2.2.2.2.1 w.1.2.2.2.2.2.1 w.2.1,())
theorem Ajx {α n m s0o s0l a b c d e f g h k0}:I0 (α:=α) n (m+1) s0o s0l a b c d e f g h k0=T2 n s0o s0l a b c d e f g h (λs0o s0l a b c d e f g h=>I0 n m s0o s0l a b c d e f g h k0) k0:=rfl
def T5 {α:Type} (n:Nat) (s0o s0l:Nat) (d:LI) (e a b:Int) (c:LI) (f:Nat->Nat->LI->Int->Int->Int->LI->Option α) (k0:Int->LI->Option α):Option α :=
 bif (decide (b<0)) then
  I0 n n s0o s0l d e (W (a-1)) b 0 (s0l:Int) 0 c
   (λg h i j k l m o=>(
    f g h i j k (W (l+m)) o))
 else
  k0 a c
abbrev Me:Tm:=⟨[(0,.hs 1000),(1,.d hIs),(5,.d hI),(7,.d hI),(8,.d hI)],[(1000,.arr 3 hI false)],[],[]⟩
abbrev Ak1:Tm:=⟨[(7,.d hI)],[(1000,.arr 3 hI false)],[],[]⟩
abbrev T4:List (Exit × Tm):=[(.exit 2,Ak1)]
def T3 {α:Type} (n:Nat) (v:Me.den) (f:Me.den->Option α) (ks:KS α T4):Option α:=T5 n v.1.1.1 v.1.1.2 v.1.2.1 v.1.2.2.1 v.1.2.2.2.1 v.1.2.2.2.2.1 v.2.1 (λs0o s0l a b c d e=>f (((s0o,s0l),a,b,c,d,()),(e,()))) (λw0 w1=>ks.1 ((w0,()),(w1,())))
def I1 {α:Type} (n m:Nat) (s0o s0l:Nat) (a:LI) (b c d:Int) (e:LI) (k0:Int->LI->Option α):Option α:=A5 (T3 n) m (((s0o,s0l),a,b,c,d,()),(e,())) (λw=>k0 w.1.1 w.2.1,())
theorem Ajz {α n m s0o s0l a b c d e k0}:I1 (α:=α) n (m+1) s0o s0l a b c d e k0=T5 n s0o s0l a b c d e (λs0o s0l a b c d e=>I1 n m s0o s0l a b c d e k0) k0:=rfl
abbrev Att:Tm:=⟨[(0,.hs 1000),(1,.d hIs),(5,.d hI),(7,.d hI),(9,.d hI),(10,.d hI),(50,.d hI),(51,.d hI)],[(1000,.arr 3 hI false)],[],[]⟩
abbrev Ats:Tm:=⟨[(0,.hs 1000),(1,.d hIs),(5,.d hI),(7,.d hI),(8,.d hI),(9,.d hI),(10,.d hI),(50,.d hI),(51,.d hI)],[(1000,.arr 3 hI false)],[],[]⟩
abbrev Atr:Tm:=⟨[(0,.hs 1000),(1,.d hIs),(5,.d hI),(7,.d hI),(8,.d hI),(12,.d hI),(13,.d hI),(90,.d hI),(91,.d hI)],[(1000,.arr 3 hI false)],[],[]⟩
def Ado (n:Nat) (a0:LI × Nat × Nat) (a1:LI):Option (Int × LI) :=
 gd (decide (0<=(a1.length:Int))&&decide ((a1.length:Int)<(a0.2.2:Int))) (
  gd (decide ((a0.2.1+(a1.length:Int).toNat)<a0.1.length)) (
   gd (decide (0<=(W ((a1.length:Int)-1)))&&decide ((W ((a1.length:Int)-1))<(a0.2.2:Int))) (
    gd (decide ((a0.2.1+(W ((a1.length:Int)-1)).toNat)<a0.1.length)) (
     gd (decide (0<=(W ((a1.length:Int)-2)))&&decide ((W ((a1.length:Int)-2))<(a0.2.2:Int))) (
      gd (decide ((a0.2.1+(W ((a1.length:Int)-2)).toNat)<a0.1.length)) (
       gd (decide (0<=(W ((a1.length:Int)-1)))&&decide ((W ((a1.length:Int)-1))<(a1.length:Int))) (
        gd (decide (0<=(W ((a1.length:Int)-2)))&&decide ((W ((a1.length:Int)-2))<(a1.length:Int))) (
         gd (decide ((W ((W ((a1.getD ((W ((a1.length:Int)-1)).toNat) 0)*10000))+(a1.getD ((W ((a1.length:Int)-2)).toNat) 0))) ≠ 0)) (
          G1 n n a0.2.1 a0.2.2 a1 (a1.length:Int) (min (W (Int.tdiv (W ((W ((W ((W ((a0.1.getD (a0.2.1+(a1.length:Int).toNat) 0)*10000))+(a0.1.getD (a0.2.1+(W ((a1.length:Int)-1)).toNat) 0)))*10000))+(a0.1.getD (a0.2.1+(W ((a1.length:Int)-2)).toNat) 0))) (W ((W ((a1.getD ((W ((a1.length:Int)-1)).toNat) 0)*10000))+(a1.getD ((W ((a1.length:Int)-2)).toNat) 0))))) 9999) 0 (a0.2.2:Int) 0 a0.1
           (λa b c d e f g=>(
            I1 n n a b c d e f g
             (λh i=>(
              some (h,i))))))))))))))
def Jw (n:Nat):Ent3:=⟨219,[.one (.win 3 hI),.im hIs],[[.im hI]],λx=>Ado n x.1 x.2,[]⟩
def Qs (α:Type) (n:Nat):D3 α:={ reg:=[(2,⟨17,[],[]⟩),(3,⟨13,[],[]⟩)],join:=[(11,Att),(14,Ats),(25,Atr)],loop:=[(6,⟨Pi,Xk,A5 (Xj n) n⟩),(20,⟨Md,T1,A5 (T0 n) n⟩),(16,⟨Me,T4,A5 (T3 n) n⟩)] }
theorem Mc (α:Type) (n:Nat):Ao PP (Af (Qs α n).reg):=trivial
theorem Ajw (α:Type) (n:Nat):LO.Sound (α:=α) PP ⟨121,[]⟩ ⟨Pi,Xk,A5 (Xj n) n⟩ (.loop ((A1 Tryz.f219).at [1,1,1,1,1,0,1,0,0])):=C0 (D:=Qs α n) (Mc α n) n
theorem Ag9 (α:Type) (n:Nat):LO.Sound (α:=α) PP ⟨121,[]⟩ ⟨Md,T1,A5 (T0 n) n⟩ (.loop ((A1 Tryz.f219).at [1,1,1,1,1,1,0,0,0,1,0,1,1,0,1,0,0])):=C0 (D:=Qs α n) (Mc α n) n
theorem Ak0 (α:Type) (n:Nat):D3.OK PP TT ⟨121,[]⟩ (Qs α n) ((A1 Tryz.f219).at [1,1,1,1,1,1,0,0,0]) :=
 D3.OK.mk3 (Mc α n) (show Aa ((A1 Tryz.f219).at [1,1,1,1,1,1,0,0,0])=[(20,(.loop ((A1 Tryz.f219).at [1,1,1,1,1,1,0,0,0,1,0,1,1,0,1,0,0])))] by kernel_rfl) ⟨Ab rfl (Ag9 α n),trivial⟩
theorem Aga (α:Type) (n:Nat):LO.Sound (α:=α) PP ⟨121,[]⟩ ⟨Me,T4,A5 (T3 n) n⟩ (.loop ((A1 Tryz.f219).at [1,1,1,1,1,1,0,0,0])):=lk (Ak0 α n) n
theorem B3f (α:Type) (n:Nat):D3.OK PP TT ⟨121,[]⟩ (Qs α n) (A1 Tryz.f219) :=
 D3.OK.mk3 (Mc α n) (show Aa (A1 Tryz.f219)=[(6,(.loop ((A1 Tryz.f219).at [1,1,1,1,1,0,1,0,0]))),(16,(.loop ((A1 Tryz.f219).at [1,1,1,1,1,1,0,0,0])))] by kernel_rfl) ⟨Ab rfl (Ajw α n),Ab rfl (Aga α n),trivial⟩
theorem Azo (n:Nat):(Jw n).Sound PP:=fkB (fn:=Tryz.f219) (B3f _ n)

def A2k {α:Type} (n:Nat) (i:Nat) (z:Int) (d:LI) (a:LI) (c:Int) (b:LI) (f:LI->LI->Int->LI->Option α) (k0:Int->LI->Option α):Option α :=
 gd (decide (0<(a.length:Int))) (
  gd (decide ((a.getD 0 0) ≠ 0)) (
   gd (decide (0<(a.length:Int))) (
    gd (decide ((a.getD 0 0) ≠ 0)) (
     gd (decide (0<=(i:Int))&&decide ((i:Int)<(b.length:Int))) (
      gd (decide ((i:Int).toNat<b.length)) (
       f d a (Int.tmod (W ((W (c*10000))+z)) (a.getD 0 0)) (b.set ((i:Int).toNat) (W (Int.tdiv (W ((W (c*10000))+z)) (a.getD 0 0))))))))))
abbrev K0:Tm:=⟨[(3,.k (.hp 3 0 0)),(7,.k (.hp 7 0 0)),(8,.k (.hp 8 0 0)),(29,.d (.clo 220 (.ref hIs)))],[(3,.var 52 true false [.d hIs]),(7,.var 52 false false [.k (.hw 27)]),(8,.var 3 true false [.d hI]),(27,.arr 3 hI false)],[],[]⟩
abbrev Au8:Tm:=⟨[(7,.k (.hp 7 0 0)),(8,.k (.hp 8 0 0))],[(7,.var 52 false false [.k (.hw 27)]),(8,.var 3 true false [.d hI]),(27,.arr 3 hI false)],[3],[]⟩
abbrev Tc:List (Exit × Tm):=[(.normal,Au8)]
def O2 (v:K0.den):List Int:=(λa b c d=>a) v.1.2.2.2.1 v.2.1.1 v.2.2.2.1.1 v.2.2.2.2.1
def O3 {α:Type} (n:Nat) (i:Nat) (z:Int) (v:K0.den) (f:K0.den->Option α) (ks:KS α Tc):Option α:=A2k n i z v.1.2.2.2.1 v.2.1.1 v.2.2.2.1.1 v.2.2.2.2.1 (λa b c d=>f (((),(),(),a,()),((b,()),((),()),(c,()),d,()))) (λw0 w1=>ks.1 (((),(),()),(((),()),(w0,()),w1,())))
def O4 {α:Type} (v:K0.den) (ks:KS α Tc):Option α:=(λc d a b=>ks.1 (((),(),()),(((),()),(a,()),b,()))) v.1.2.2.2.1 v.2.1.1 v.2.2.2.1.1 v.2.2.2.2.1
def Am0 {α:Type} (n:Nat) (a:LI) (b:LI) (c:Int) (d:LI) (k0:Int->LI->Option α):Option α:=Nc O2 (O3 n) O4 (((),(),(),a,()),((b,()),((),()),(c,()),d,())) (λw=>k0 w.2.2.1.1 w.2.2.2.1,())
def Jz {α:Type} (n:Nat) (zs:List Int) (i:Nat) (a:LI) (b:LI) (c:Int) (d:LI) (k0:Int->LI->Option α):Option α:=Nf O2 (O3 n) zs i (((),(),(),a,()),((b,()),((),()),(c,()),d,())) (λv=>O4 v (λw=>k0 w.2.2.1.1 w.2.2.2.1,())) (λw=>k0 w.2.2.1.1 w.2.2.2.1,())
theorem Au6 {α:Type} (n:Nat) (a:LI) (b:LI) (c:Int) (d:LI) (k0:Int->LI->Option α):Am0 (α:=α) n a b c d k0=gd (decide (a.length<=4611686018427387904)) (Jz n a a.length a b c d k0):=rfl
theorem Au7 {α:Type} (n:Nat) (zs:List Int) (c:LI) (d:LI) (a:Int) (b:LI) (k0:Int->LI->Option α):Jz (α:=α) n zs 0 c d a b k0=k0 a b:=rfl
theorem Au5 {α:Type} (n:Nat) (zs:List Int) (i:Nat) (a:LI) (b:LI) (c:Int) (d:LI) (k0:Int->LI->Option α):Jz (α:=α) n zs (i+1) a b c d k0=A2k n i (zs.getD i 0) a b c d (λa b c d=>gd (decide (a=zs)) (Jz n zs i a b c d k0)) k0:=rfl
def Pm {α:Type} (n:Nat) (b a:Int) (g c d:LI) (f:Int->Int->LI->LI->LI->Option α) (k0:LI->LI->Option α):Option α :=
 bif (decide (a>=0)) then
  gd (decide (0<=a)&&decide (a<=(W ((W (a+b))+1)))&&decide ((W ((W (a+b))+1))<=(d.length:Int))) (
   ob (Ado n (d,a.toNat,((W ((W (a+b))+1)).toNat-a.toNat)) g) λe =>
   gd (Nat.beq e.2.length d.length&&true) (
    gd (decide (0<=a)&&decide (a<(c.length:Int))) (
     gd (decide (a.toNat<c.length)) (
      f b (W (a-1)) g (c.set a.toNat e.1) e.2))))
 else
  k0 c d
abbrev Pl:Tm:=⟨[(3,.k (.hp 3 0 0)),(6,.d hI),(11,.k (.hw 310)),(12,.k (.hw 62)),(13,.d hI)],[(3,.var 52 true false [.d hIs]),(62,.arr 3 hI false),(310,.arr 3 hI false)],[55],[]⟩
abbrev Ap9:Tm:=⟨[(11,.k (.hw 310)),(12,.k (.hw 62))],[(62,.arr 3 hI false),(310,.arr 3 hI false)],[3],[]⟩
abbrev Xy:List (Exit × Tm):=[(.exit 2,Ap9)]
def Xx {α:Type} (n:Nat) (v:Pl.den) (f:Pl.den->Option α) (ks:KS α Xy):Option α:=Pm n v.1.2.1 v.1.2.2.2.2.1 v.2.1.1 v.2.2.1 v.2.2.2.1 (λa b c d e=>f (((),a,(),(),b,()),((c,()),d,e,()))) (λw0 w1=>ks.1 (((),(),()),(w0,w1,())))
def Td {α:Type} (n m:Nat) (a b:Int) (c d e:LI) (k0:LI->LI->Option α):Option α:=A5 (Xx n) m (((),a,(),(),b,()),((c,()),d,e,())) (λw=>k0 w.2.1 w.2.2.1,())
theorem A6f {α n m a b c d e k0}:Td (α:=α) n (m+1) a b c d e k0=Pm n a b c d e (λa b c d e=>Td n m a b c d e k0) k0:=rfl
abbrev Agm:Tm:=⟨[(3,.k (.hp 3 0 0)),(7,.k (.hp 7 0 0)),(8,.k (.hp 8 0 0)),(9,.d hI),(10,.d hI),(29,.d (.clo 220 (.ref hIs))),(30,.d hI),(31,.d hI)],[(3,.var 52 true false [.d hIs]),(7,.var 52 false false [.k (.hw 27)]),(8,.var 3 true false [.d hI]),(27,.arr 3 hI false)],[],[]⟩
abbrev Agl:Tm:=⟨[(7,.k (.hp 7 0 0)),(8,.k (.hp 8 0 0))],[(7,.var 52 false false [.k (.hw 27)]),(8,.var 3 true false [.d hI]),(27,.arr 3 hI false)],[],[]⟩
abbrev Agk:Tm:=⟨[(0,.d hIs),(3,.k (.hp 3 0 0)),(6,.d hI)],[(3,.var 52 true false [.d hIs])],[],[]⟩
abbrev Agj:Tm:=⟨[(3,.k (.hp 3 0 0)),(6,.d hI),(11,.k (.hw 310)),(12,.k (.hw 62)),(13,.d hI)],[(3,.var 52 true false [.d hIs]),(62,.arr 3 hI false),(310,.arr 3 hI false)],[],[]⟩
def f204 (n:Nat) (a0 a1:LI):Option (LI × LI) :=
 ob (f155 n a0 a1) λb =>
 bif (decide (b<0)) then
  ob (f123 n a0) λc =>
  some ([],c)
 else
  bif ((a1.length:Int)==1) then
   gd (decide (0<=(a0.length:Int))&&decide ((a0.length:Int)<=4611686018427387904)&&decide ((8:Int)*(a0.length:Int)<=281474976710656)) (
    ob (f205 n a0) λd =>
    Am0 n d a1 0 (List.replicate ((a0.length:Int).toNat) 0)
     (λe f=>(
      ob (f202 n f) λg =>
      ob (f150 n e) λh =>
      some (g,h))))
  else
   ob (A79 n a0) λa =>
   gd (decide ((a.length+1)*8<=140737488355328)) (
    gd (decide (0<=(W ((W ((a0.length:Int)-(a1.length:Int)))+1)))&&decide ((W ((W ((a0.length:Int)-(a1.length:Int)))+1))<=4611686018427387904)&&decide ((8:Int)*(W ((W ((a0.length:Int)-(a1.length:Int)))+1))<=281474976710656)) (
     Td n n (a1.length:Int) (W ((a0.length:Int)-(a1.length:Int))) a1 (List.replicate ((W ((W ((a0.length:Int)-(a1.length:Int)))+1)).toNat) 0) (a++[0])
      (λi j=>(
       ob (f202 n i) λk =>
       ob (f202 n j) λl =>
       some (k,l)))))
def A6g (n:Nat):Ent:=⟨204,[hIs,hIs],[hIs,hIs],λx=>f204 n x.1 x.2⟩
def Xz (α:Type) (n:Nat):D3 α:={ reg:=[(1,⟨0,[],[(2,{ ent:=some (Yb n) })]⟩),(2,⟨0,[],[(0,{ sh:=some hI }),(2,{ ent:=some (Li n) })]⟩),(6,⟨0,[],[(1,{ ent:=some (Agi n) })]⟩),(11,⟨0,[],[(1,{ ent:=some (Hc n),fz:=[(49,hIs)] }),(3,{ ent:=some (Lg n) })]⟩),(12,⟨0,[],[(1,{ entB:=some (I3 n),hb:=310 }),(2,{ sh:=some hI })]⟩),(16,⟨0,[],[(10,{ entB:=some (Jw n),hb:=320 })]⟩),(17,⟨0,[],[(1,{ ent:=some (Hc n),fz:=[(83,hIs)] }),(3,{ ent:=some (Hc n),fz:=[(85,hIs)] })]⟩)],join:=[],loop:=[(7,⟨K0,Tc,Nc O2 (O3 n) O4⟩),(14,⟨Pl,Xy,A5 (Xx n) n⟩)],any:=[(10,Agm),(11,Agl),(12,Agk),(16,Agj)] }
set_option maxHeartbeats 8000000 in
theorem Azt (n:Nat):As TT ⟨87,[]⟩ [] Agm (A9 ((A1 Tryz.f204).at [1,1,1,0,1,0,1,0,1,0,1,0,1])):=by
 refine ⟨by kernel_rfl,λw q hq=>?_⟩
 have e:WT [] (A7 (A9 ((A1 Tryz.f204).at [1,1,1,0,1,0,1,0,1,0,1,0,1])).toList) q=(q=[]):=by kernel_rfl
 rw [e] at hq;obtain rfl:=hq
 all_goals exact .inr ⟨14,by kernel_rfl,by kernel_rfl,by kernel_rfl⟩
set_option maxHeartbeats 8000000 in
theorem Azs (n:Nat):As TT ⟨87,[]⟩ [(1,{ ent:=some (Hc n),fz:=[(49,hIs)] }),(3,{ ent:=some (Lg n) })] Agl (A9 ((A1 Tryz.f204).at [1,1,1,0,1,0,1,1,0])):=by
 refine ⟨by kernel_rfl,λw q hq=>?_⟩
 have e:WT [(1,{ ent:=some (Hc n),fz:=[(49,hIs)] }),(3,{ ent:=some (Lg n) })] (A7 (A9 ((A1 Tryz.f204).at [1,1,1,0,1,0,1,1,0])).toList) q=(∃ (y0:HL (Hc n).rs) (q0:List (Nat × RV)),q=(1,.sv (Aj (Hc n).rs y0))::q0 /\ ∃ (y1:HL (Lg n).rs) (q1:List (Nat × RV)),q0=(3,.sv (Aj (Lg n).rs y1))::q1/\q1=[]):=by kernel_rfl
 rw [e] at hq;obtain ⟨y0,q0,rfl,y1,q1,rfl,rfl⟩:=hq
 all_goals exact .inl (Mo.mk (by kernel_rfl))
set_option maxHeartbeats 8000000 in
theorem Azr (n:Nat):As TT ⟨87,[]⟩ [(1,{ entB:=some (I3 n),hb:=310 }),(2,{ sh:=some hI })] Agk (A9 ((A1 Tryz.f204).at [1,1,1,1,0])):=by
 refine ⟨by kernel_rfl,λw q hq=>?_⟩
 have e:WT [(1,{ entB:=some (I3 n),hb:=310 }),(2,{ sh:=some hI })] (A7 (A9 ((A1 Tryz.f204).at [1,1,1,1,0])).toList) q=(∃ (y0:HF (Al 1000 (I3 n).ts) (I3 n).forms) (q0:List (Nat × RV)),q=(1,.bx (I3 n) y0)::q0/\q0=[]):=by kernel_rfl
 rw [e] at hq;obtain ⟨y0,q0,rfl,rfl⟩:=hq
 all_goals exact .inl (Mo.mk (by kernel_rfl))
set_option maxHeartbeats 8000000 in
theorem Agn (n:Nat):As TT ⟨87,[]⟩ [(10,{ entB:=some (Jw n),hb:=320 })] Agj (A9 ((A1 Tryz.f204).at [1,1,1,1,1,0,1,0,0,1,0,0])):=by
 refine ⟨by kernel_rfl,λw q hq=>?_⟩
 have e:WT [(10,{ entB:=some (Jw n),hb:=320 })] (A7 (A9 ((A1 Tryz.f204).at [1,1,1,1,1,0,1,0,0,1,0,0])).toList) q=(∃ (y0:HF (Al 1000 (Jw n).ts) (Jw n).forms) (q0:List (Nat × RV)),q=(10,.bx (Jw n) y0)::q0/\q0=[]):=by kernel_rfl
 rw [e] at hq;obtain ⟨y0,q0,rfl,rfl⟩:=hq
 all_goals exact .inr ⟨11,by kernel_rfl,by kernel_rfl,by kernel_rfl⟩
theorem Pk (α:Type) (n:Nat):Ao PP (Af (Xz α n).reg):=⟨A0b n,K6 n,Alz n,Qw n,A9p n,Ahw n,Azo n,Qw n,Qw n,trivial⟩
theorem Ap7 (α:Type) (n:Nat):D3.OK PP TT ⟨87,[]⟩ (Xz α n) ((A1 Tryz.f204).at [1,1,1,0,1,0,1,0,1,0,0]) :=
 D3.OK.mk3a (Pk α n) (show Aa ((A1 Tryz.f204).at [1,1,1,0,1,0,1,0,1,0,0])=[] by kernel_rfl) trivial (show B1 ((A1 Tryz.f204).at [1,1,1,0,1,0,1,0,1,0,0])=[] by kernel_rfl) trivial
theorem Ap6 (α:Type) (n:Nat):D3.OK PP TT ⟨87,[]⟩ (Xz α n) ((A1 Tryz.f204).at [1,1,1,0,1,0,1,0,1,0,1]) :=
 D3.OK.mk3a (Pk α n) (show Aa ((A1 Tryz.f204).at [1,1,1,0,1,0,1,0,1,0,1])=[] by kernel_rfl) trivial (show B1 ((A1 Tryz.f204).at [1,1,1,0,1,0,1,0,1,0,1])=[(10,A9 ((A1 Tryz.f204).at [1,1,1,0,1,0,1,0,1,0,1,0,1]))] by kernel_rfl) ⟨⟨Azt n,trivial⟩,trivial⟩
theorem Ap5 (α:Type) (n:Nat):LO.Sound (α:=α) PP ⟨87,[]⟩ ⟨K0,Tc,Nc O2 (O3 n) O4⟩ (.rangeFunc (.tmp 29) #[30,31] ((A1 Tryz.f204).at [1,1,1,0,1,0,1,0,1,0,0]) ((A1 Tryz.f204).at [1,1,1,0,1,0,1,0,1,0,1])) :=
 Aer (Qj _) Ng O2 (O3 n) O4 Amz rfl rfl rfl rfl (Ap7 α n) (Ap6 α n) (by intro v;rfl) (by intro i z v f ks;kernel_rfl) (by intro v ks;kernel_rfl)
theorem Ap8 (α:Type) (n:Nat):D3.OK PP TT ⟨87,[]⟩ (Xz α n) ((A1 Tryz.f204).at [1,1,1,1,1,0,1,0,0]) :=
 D3.OK.mk3a (Pk α n) (show Aa ((A1 Tryz.f204).at [1,1,1,1,1,0,1,0,0])=[] by kernel_rfl) trivial (show B1 ((A1 Tryz.f204).at [1,1,1,1,1,0,1,0,0])=[(16,A9 ((A1 Tryz.f204).at [1,1,1,1,1,0,1,0,0,1,0,0]))] by kernel_rfl) ⟨⟨Agn n,trivial⟩,trivial⟩
theorem Ak3 (α:Type) (n:Nat):LO.Sound (α:=α) PP ⟨87,[]⟩ ⟨Pl,Xy,A5 (Xx n) n⟩ (.loop ((A1 Tryz.f204).at [1,1,1,1,1,0,1,0,0])):=lk (Ap8 α n) n
theorem B8s (α:Type) (n:Nat):D3.OK PP TT ⟨87,[]⟩ (Xz α n) (A1 Tryz.f204) :=
 D3.OK.mk3a (Pk α n) (show Aa (A1 Tryz.f204)=[(7,(.rangeFunc (.tmp 29) #[30,31] ((A1 Tryz.f204).at [1,1,1,0,1,0,1,0,1,0,0]) ((A1 Tryz.f204).at [1,1,1,0,1,0,1,0,1,0,1]))),(14,(.loop ((A1 Tryz.f204).at [1,1,1,1,1,0,1,0,0])))] by kernel_rfl) ⟨Ab rfl (Ap5 α n),Ab rfl (Ak3 α n),trivial⟩ (show B1 (A1 Tryz.f204)=[(11,A9 ((A1 Tryz.f204).at [1,1,1,0,1,0,1,1,0])),(12,A9 ((A1 Tryz.f204).at [1,1,1,1,0])),(16,A9 ((A1 Tryz.f204).at [1,1,1,1,1,0,1,0,0,1,0,0]))] by kernel_rfl) ⟨⟨Azs n,trivial⟩,⟨Azr n,trivial⟩,⟨Agn n,trivial⟩,trivial⟩
theorem A9c (n:Nat):(A6g n).Sound PP:=fk (fn:=Tryz.f204) (B8s _ n)

def A2n {α:Type} (n:Nat) (b a:LI) (f:LI->LI->Option α) (k0:LI->Option α):Option α :=
 bif (decide ((a.length:Int)>0)) then
  ob (f204 n b a) λc =>
  f a c.2
 else
  k0 b
abbrev Te:Tm:=⟨[(0,.d hIs),(1,.d hIs)],[],[],[]⟩
abbrev Au9:Tm:=⟨[(0,.d hIs)],[],[],[]⟩
abbrev A2m:List (Exit × Tm):=[(.exit 0,Au9)]
def A2l {α:Type} (n:Nat) (v:Te.den) (f:Te.den->Option α) (ks:KS α A2m):Option α:=A2n n v.1.1 v.1.2.1 (λa b=>f ((a,b,()),())) (λw0=>ks.1 ((w0,()),()))
def K1 {α:Type} (n m:Nat) (a b:LI) (k0:LI->Option α):Option α:=A5 (A2l n) m ((a,b,()),()) (λw=>k0 w.1.1,())
theorem Abm {α n m a b k0}:K1 (α:=α) n (m+1) a b k0=A2n n a b (λa b=>K1 n m a b k0) k0:=rfl
def f203 (n:Nat) (a0 a1:LI):Option LI :=
 K1 n n a0 a1
  (λa=>(
   some a))
def Ago (n:Nat):Ent:=⟨203,[hIs,hIs],[hIs],λx=>f203 n x.1 x.2⟩
def Agp (α:Type) (n:Nat):D3 α:={ reg:=[(2,⟨0,[],[(2,{ ent:=some (A6g n) })]⟩)],join:=[],loop:=[(1,⟨Te,A2m,A5 (A2l n) n⟩)] }
theorem Abl (α:Type) (n:Nat):Ao PP (Af (Agp α n).reg):=⟨A9c n,trivial⟩
theorem Apa (α:Type) (n:Nat):LO.Sound (α:=α) PP ⟨19,[]⟩ ⟨Te,A2m,A5 (A2l n) n⟩ (.loop ((A1 Tryz.f203).at [1,0,0,0])):=C0 (D:=Agp α n) (Abl α n) n
theorem B8t (α:Type) (n:Nat):D3.OK PP TT ⟨19,[]⟩ (Agp α n) (A1 Tryz.f203) :=
 D3.OK.mk3 (Abl α n) (show Aa (A1 Tryz.f203)=[(1,(.loop ((A1 Tryz.f203).at [1,0,0,0])))] by kernel_rfl) ⟨Ab rfl (Apa α n),trivial⟩
theorem Am1 (n:Nat):(Ago n).Sound PP:=fk (fn:=Tryz.f203) (B8t _ n)

def f151 (n:Nat)  : Option LI :=
 some [1]
def Rb (n:Nat):Ent:=⟨151,[],[hIs],λ_=>f151 n⟩
def B9q (α:Type) (n:Nat):D3 α:={ reg:=[(1,⟨0,[],[(0,{ sh:=some hI })]⟩)],join:=[],loop:=[] }
theorem Ra (n:Nat):(Rb n).Sound PP:=Au (fn:=Tryz.f151) (D:=B9q _ n) trivial

abbrev B3i:Tm:=⟨[(1,.k (.hp 1 0 0))],[(1,.var 54 true false [.d .bool,.d hIs,.d hIs])],[],[]⟩
def f215 (n:Nat) (a0:Rq):Option Bool :=
 let a:=λ(_:Unit)=>(
  ob (f203 n a0.2.1 a0.2.2) λb =>
  ob (f151 n) λc =>
  ob (f155 n b c) λd =>
  some (d==0))
 ob (f225 n a0.2.1) λe =>
 bif (!e) then
  some false
 else
  ob (f225 n a0.2.2) λf =>
  bif (!f) then
   some false
  else
   bif ((a0.2.2.length:Int)==0) then
    some false
   else
    bif a0.1 then
     ob (f168 n a0) λg =>
     bif g then
      some false
     else
      a ()
    else
     a ()
def Aty (n:Nat):Ent:=⟨215,[hR],[.bool],λx=>f215 n x⟩
def B8h (α:Type) (n:Nat):D3 α:={ reg:=[(1,⟨0,[],[(2,{ ent:=some (Ag7 n) }),(7,{ ent:=some (Ag7 n) }),(21,{ ent:=some (R7 n) })]⟩),(3,⟨0,[],[(4,{ ent:=some (Ago n) }),(5,{ ent:=some (Rb n) }),(6,{ ent:=some (Yb n) })]⟩)],join:=[(3,B3i)],loop:=[] }
theorem B3g (n:Nat):(Aty n).Sound PP:=Au (fn:=Tryz.f215) (D:=B8h _ n) ⟨Als n,Als n,R6 n,Am1 n,Ra n,A0b n,trivial⟩

def f214 (n:Nat) (a0:Rq):Option Bool :=
 ob (f215 n a0) λa =>
 some (!a)
def Atz (n:Nat):Ent:=⟨214,[hR],[.bool],λx=>f214 n x⟩
def B8i (α:Type) (n:Nat):D3 α:={ reg:=[(1,⟨0,[],[(1,{ ent:=some (Aty n) })]⟩)],join:=[],loop:=[] }
theorem B3j (n:Nat):(Atz n).Sound PP:=Au (fn:=Tryz.f214) (D:=B8i _ n) ⟨B3g n,trivial⟩

def Oc {α:Type} (n:Nat) (b:LR) (c a:Int) (f:LR->Int->Int->Option α) (k0:Int->Option α) (k1:Unit->Option α):Option α :=
 bif (decide (a<c)) then
  gd (decide (0<=a)&&decide (a<(b.length:Int))) (
   let d:=b.getD a.toNat (false,[],[])
   ob (f214 n d) λe =>
   bif e then
    k0 a
   else
    f b c (W (a+1)))
 else
  k1 ()
abbrev Iy:Tm:=⟨[(0,.d hRs),(1,.d (.fn 214)),(7,.d hI),(8,.d hI)],[],[],[]⟩
abbrev Ad0:Tm:=⟨[(4,.d hI)],[],[],[]⟩
abbrev Acz:Tm:=⟨[],[],[],[]⟩
abbrev Ob:List (Exit × Tm):=[(.ret,Ad0),(.exit 0,Acz)]
def Oa {α:Type} (n:Nat) (v:Iy.den) (f:Iy.den->Option α) (ks:KS α Ob):Option α:=Oc n v.1.1 v.1.2.2.1 v.1.2.2.2.1 (λa b c=>f ((a,(),b,c,()),())) (λw0=>ks.1 ((w0,()),())) (λ_=>ks.2.1 ((),()))
def Hf {α:Type} (n m:Nat) (a:LR) (b c:Int) (k0:Int->Option α) (k1:Unit->Option α):Option α:=A5 (Oa n) m ((a,(),b,c,()),()) (λw=>k0 w.1.1,λw=>k1 (),())
theorem Acy {α n m a b c k0 k1}:Hf (α:=α) n (m+1) a b c k0 k1=Oc n a b c (λa b c=>Hf n m a b c k0 k1) k0 k1:=rfl
def A3i (n:Nat) (a0:LR) (a1:Unit):Option Int :=
 Hf n n a0 (a0.length:Int) 0
  (λa=>(
   some a))
  (λ(_:Unit)=>(
   some (-1)))
def A6o (n:Nat):Ent:=⟨172,[hRs,(.fn 214)],[hI],λx=>A3i n x.1 x.2⟩
def Tt (α:Type) (n:Nat):D3 α:={ reg:=[(4,⟨0,[],[(5,{ ent:=some (Atz n) })]⟩)],join:=[],loop:=[(2,⟨Iy,Ob,A5 (Oa n) n⟩)] }
theorem Vn (α:Type) (n:Nat):Ao PP (Af (Tt α n).reg):=⟨B3j n,trivial⟩
theorem A9i (α:Type) (n:Nat):LO.Sound (α:=α) PP ⟨19,[]⟩ ⟨Iy,Ob,A5 (Oa n) n⟩ (.loop ((A1 Tryz.f172).at [1,0,1,0,0])):=C0 (D:=Tt α n) (Vn α n) n
theorem Apm (α:Type) (n:Nat):D3.OK PP TT ⟨19,[]⟩ (Tt α n) (A1 Tryz.f172) :=
 D3.OK.mk3 (Vn α n) (show Aa (A1 Tryz.f172)=[(2,(.loop ((A1 Tryz.f172).at [1,0,1,0,0])))] by kernel_rfl) ⟨Ab rfl (A9i α n),trivial⟩
theorem Ak5 (n:Nat):(A6o n).Sound PP:=fk (fn:=Tryz.f172) (Apm _ n)

def Ug (n:Nat) (a0:LR) (a1:Unit):Option Bool :=
 ob (A3i n a0 a1) λa =>
 some (decide (a>=0))
def A7d (n:Nat):Ent:=⟨104,[hRs,(.fn 214)],[.bool],λx=>Ug n x.1 x.2⟩
def Aqo (α:Type) (n:Nat):D3 α:={ reg:=[(1,⟨0,[],[(2,{ ent:=some (A6o n) })]⟩)],join:=[],loop:=[] }
theorem Akf (n:Nat):(A7d n).Sound PP:=Au (fn:=Tryz.f104) (D:=Aqo _ n) ⟨Ak5 n,trivial⟩

def f185 (n:Nat) (a0:LR):Option Int :=
 ob (Ug n a0 ()) λa =>
 ob (f111 n (!a) 1) λb =>
 some b
def Agz (n:Nat):Ent:=⟨185,[hRs],[hI],λx=>f185 n x⟩
def B99 (α:Type) (n:Nat):D3 α:={ reg:=[(1,⟨0,[],[(1,{ ent:=some (A7d n) }),(3,{ ent:=some (Em n) })]⟩)],join:=[],loop:=[] }
theorem Am8 (n:Nat):(Agz n).Sound PP:=Au (fn:=Tryz.f185) (D:=B99 _ n) ⟨Akf n,I4 n,trivial⟩

def f119 (n:Nat) (a0:LR):Option Bool :=
 bif (decide ((a0.length:Int)>=1)) then
  bif (decide ((a0.length:Int)<=4)) then
   ob (f185 n a0) λa =>
   some (a==0)
  else
   some false
 else
  some false
def Lj (n:Nat):Ent:=⟨119,[hRs],[.bool],λx=>f119 n x⟩
def Bae (α:Type) (n:Nat):D3 α:={ reg:=[(1,⟨0,[],[(10,{ ent:=some (Agz n) })]⟩)],join:=[],loop:=[] }
theorem A9v (n:Nat):(Lj n).Sound PP:=Au (fn:=Tryz.f119) (D:=Bae _ n) ⟨Am8 n,trivial⟩

def A8w {α:Type} (n:Nat) (b:LI) (c a:Int) (f:LI->Int->Int->Option α) (k0:Int->Option α) (k1:Unit->Option α):Option α :=
 bif (decide (a<c)) then
  gd (decide (0<=a)&&decide (a<(b.length:Int))) (
   bif ((b.getD a.toNat 0) != 0) then
    k0 (b.getD a.toNat 0)
   else
    f b c (W (a+1)))
 else
  k1 ()
abbrev Zo:Tm:=⟨[(5,.d hIs),(6,.d hI),(7,.d hI)],[],[],[]⟩
abbrev Azb:Tm:=⟨[(2,.d hI)],[],[],[]⟩
abbrev Aza:Tm:=⟨[],[],[],[]⟩
abbrev A8v:List (Exit × Tm):=[(.ret,Azb),(.exit 0,Aza)]
def A8u {α:Type} (n:Nat) (v:Zo.den) (f:Zo.den->Option α) (ks:KS α A8v):Option α:=A8w n v.1.1 v.1.2.1 v.1.2.2.1 (λa b c=>f ((a,b,c,()),())) (λw0=>ks.1 ((w0,()),())) (λ_=>ks.2.1 ((),()))
def A61 {α:Type} (n m:Nat) (a:LI) (b c:Int) (k0:Int->Option α) (k1:Unit->Option α):Option α:=A5 (A8u n) m ((a,b,c,()),()) (λw=>k0 w.1.1,λw=>k1 (),())
theorem Az9 {α n m a b c k0 k1}:A61 (α:=α) n (m+1) a b c k0 k1=A8w n a b c (λa b c=>A61 n m a b c k0 k1) k0 k1:=rfl
def f70 (n:Nat) (a0:LI):Option Int :=
 A61 n n a0 (a0.length:Int) 0
  (λa=>(
   some a))
  (λ(_:Unit)=>(
   some 0))
def Ex (n:Nat):Ent:=⟨70,[hIs],[hI],λx=>f70 n x⟩
def Aoj (α:Type) (n:Nat):D3 α:={ reg:=[],join:=[],loop:=[(2,⟨Zo,A8v,A5 (A8u n) n⟩)] }
theorem Aft (α:Type) (n:Nat):Ao PP (Af (Aoj α n).reg):=trivial
theorem At8 (α:Type) (n:Nat):LO.Sound (α:=α) PP ⟨15,[]⟩ ⟨Zo,A8v,A5 (A8u n) n⟩ (.loop ((A1 Tryz.f70).at [1,0,1,0,0])):=C0 (D:=Aoj α n) (Aft α n) n
theorem Bbx (α:Type) (n:Nat):D3.OK PP TT ⟨15,[]⟩ (Aoj α n) (A1 Tryz.f70) :=
 D3.OK.mk3 (Aft α n) (show Aa (A1 Tryz.f70)=[(2,(.loop ((A1 Tryz.f70).at [1,0,1,0,0])))] by kernel_rfl) ⟨Ab rfl (At8 α n),trivial⟩
theorem Qr (n:Nat):(Ex n).Sound PP:=fk (fn:=Tryz.f70) (Bbx _ n)

def A4i {α:Type} (n:Nat) (c:Int) (b:LN) (d a:Int) (f:Int->LN->Int->Int->Option α) (k0:Int->Option α):Option α :=
 bif (decide (a<d)) then
  gd (decide (0<=a)&&decide (a<(b.length:Int))) (
   let e:=b.getD a.toNat (0,0,0,0)
   bif (e.1==2) then
    f (max c (W (e.2.2.2+1))) b d (W (a+1))
   else
    f c b d (W (a+1)))
 else
  k0 c
abbrev Uc:Tm:=⟨[(3,.d hI),(6,.d hNs),(7,.d hI),(8,.d hI)],[],[5],[]⟩
abbrev Awk:Tm:=⟨[(3,.d hI)],[],[],[]⟩
abbrev A4h:List (Exit × Tm):=[(.exit 0,Awk)]
def A4g {α:Type} (n:Nat) (v:Uc.den) (f:Uc.den->Option α) (ks:KS α A4h):Option α:=A4i n v.1.1 v.1.2.1 v.1.2.2.1 v.1.2.2.2.1 (λa b c d=>f ((a,b,c,d,()),())) (λw0=>ks.1 ((w0,()),()))
def A0h {α:Type} (n m:Nat) (a:Int) (b:LN) (c d:Int) (k0:Int->Option α):Option α:=A5 (A4g n) m ((a,b,c,d,()),()) (λw=>k0 w.1.1,())
theorem Awj {α n m a b c d k0}:A0h (α:=α) n (m+1) a b c d k0=A4i n a b c d (λa b c d=>A0h n m a b c d k0) k0:=rfl
def f120 (n:Nat) (a0:LN):Option Int :=
 A0h n n 0 a0 (a0.length:Int) 0
  (λa=>(
   some a))
def Awl (n:Nat):Ent:=⟨120,[hNs],[hI],λx=>f120 n x⟩
def Ahz (α:Type) (n:Nat):D3 α:={ reg:=[],join:=[],loop:=[(3,⟨Uc,A4h,A5 (A4g n) n⟩)] }
theorem Ac9 (α:Type) (n:Nat):Ao PP (Af (Ahz α n).reg):=trivial
theorem Aqg (α:Type) (n:Nat):LO.Sound (α:=α) PP ⟨22,[]⟩ ⟨Uc,A4h,A5 (A4g n) n⟩ (.loop ((A1 Tryz.f120).at [1,1,0,1,0,0])):=C0 (D:=Ahz α n) (Ac9 α n) n
theorem Bad (α:Type) (n:Nat):D3.OK PP TT ⟨22,[]⟩ (Ahz α n) (A1 Tryz.f120) :=
 D3.OK.mk3 (Ac9 α n) (show Aa (A1 Tryz.f120)=[(3,(.loop ((A1 Tryz.f120).at [1,1,0,1,0,0])))] by kernel_rfl) ⟨Ab rfl (Aqg α n),trivial⟩
theorem B5n (n:Nat):(Awl n).Sound PP:=fk (fn:=Tryz.f120) (Bad _ n)

abbrev Atb:Tm:=⟨[(1,.d hRs),(2,.k (.hp 2 0 0))],[(2,.var 43 true false [.d hNs])],[],[]⟩
def f67 (n:Nat) (a0:LN) (a1:LR):Option Int :=
 ob (f71 n [a1]) λb =>
 ob (f60 n a0) λc =>
 ob (f119 n a1) λd =>
 ob (f111 n d 1) λe =>
 ob (f70 n [b,c,e]) λa =>
 bif (a != 0) then
  ob (f111 n true 8) λf =>
  ob (f70 n [a,f]) λg =>
  some g
 else
  ob (f120 n a0) λh =>
  ob (f111 n (decide ((a1.length:Int)>=h)) 8) λi =>
  ob (f70 n [a,i]) λj =>
  some j
def Sr (n:Nat):Ent:=⟨67,[hE,hRs],[hI],λx=>f67 n x.1 x.2⟩
def B1s (α:Type) (n:Nat):D3 α:={ reg:=[(1,⟨0,[],[(1,{ sh:=some hRs }),(2,{ ent:=some (Gg n) }),(4,{ ent:=some (Zr n) }),(6,{ ent:=some (Lj n) }),(7,{ ent:=some (Em n) }),(8,{ sh:=some hI }),(9,{ ent:=some (Ex n) })]⟩),(2,⟨0,[],[(8,{ ent:=some (Awl n) }),(11,{ ent:=some (Em n) }),(12,{ sh:=some hI }),(13,{ ent:=some (Ex n) })]⟩)],join:=[],loop:=[],any:=[(1,Atb)] }
set_option maxHeartbeats 8000000 in
theorem B7u (n:Nat):As TT ⟨30,[]⟩ [(1,{ sh:=some hRs }),(2,{ ent:=some (Gg n) }),(4,{ ent:=some (Zr n) }),(6,{ ent:=some (Lj n) }),(7,{ ent:=some (Em n) }),(8,{ sh:=some hI }),(9,{ ent:=some (Ex n) })] Atb (A9 ((A1 Tryz.f67).at [1,0])):=by
 refine ⟨by kernel_rfl,λw q hq=>?_⟩
 have e:WT [(1,{ sh:=some hRs }),(2,{ ent:=some (Gg n) }),(4,{ ent:=some (Zr n) }),(6,{ ent:=some (Lj n) }),(7,{ ent:=some (Em n) }),(8,{ sh:=some hI }),(9,{ ent:=some (Ex n) })] (A7 (A9 ((A1 Tryz.f67).at [1,0])).toList) q=(∃ (y0:HL (Gg n).rs) (q0:List (Nat × RV)),q=(2,.sv (Aj (Gg n).rs y0))::q0 /\ ∃ (y1:HL (Zr n).rs) (q1:List (Nat × RV)),q0=(4,.sv (Aj (Zr n).rs y1))::q1 /\ ∃ (y2:HL (Lj n).rs) (q2:List (Nat × RV)),q1=(6,.sv (Aj (Lj n).rs y2))::q2 /\ ∃ (y3:HL (Em n).rs) (q3:List (Nat × RV)),q2=(7,.sv (Aj (Em n).rs y3))::q3 /\ ∃ (y4:HL (Ex n).rs) (q4:List (Nat × RV)),q3=(9,.sv (Aj (Ex n).rs y4))::q4/\q4=[]):=by kernel_rfl
 rw [e] at hq;obtain ⟨y0,q0,rfl,y1,q1,rfl,y2,q2,rfl,y3,q3,rfl,y4,q4,rfl,rfl⟩:=hq
 all_goals exact .inr ⟨6,by kernel_rfl,by kernel_rfl,by kernel_rfl⟩
theorem Azc (α:Type) (n:Nat):Ao PP (Af (B1s α n).reg):=⟨A60 n,B7w n,A9v n,I4 n,Qr n,B5n n,I4 n,Qr n,trivial⟩
theorem Bc1 (α:Type) (n:Nat):D3.OK PP TT ⟨30,[]⟩ (B1s α n) (A1 Tryz.f67) :=
 D3.OK.mk3a (Azc α n) (show Aa (A1 Tryz.f67)=[] by kernel_rfl) trivial (show B1 (A1 Tryz.f67)=[(1,A9 ((A1 Tryz.f67).at [1,0]))] by kernel_rfl) ⟨⟨B7u n,trivial⟩,trivial⟩
theorem Ata (n:Nat):(Sr n).Sound PP:=fk (fn:=Tryz.f67) (Bc1 _ n)

def f97 (n:Nat) (a0:Int):Option Rq :=
 bif (decide (a0<0)) then
  ob (f150 n (W (0-a0))) λa =>
  ob (f151 n) λb =>
  some (true,a,b)
 else
  ob (f150 n a0) λc =>
  ob (f151 n) λd =>
  some (false,c,d)
def Bo (n:Nat):Ent:=⟨97,[hI],[hR],λx=>f97 n x⟩
def Bbi (α:Type) (n:Nat):D3 α:={ reg:=[(2,⟨0,[],[(2,{ ent:=some (Lg n) }),(3,{ ent:=some (Rb n) })]⟩),(3,⟨0,[],[(1,{ ent:=some (Lg n) }),(2,{ ent:=some (Rb n) })]⟩)],join:=[],loop:=[] }
theorem Co (n:Nat):(Bo n).Sound PP:=Au (fn:=Tryz.f97) (D:=Bbi _ n) ⟨A9p n,Ra n,A9p n,Ra n,trivial⟩

def A22 {α:Type} (n:Nat) (b c:Int) (a:LR) (f:Int->Int->LR->Option α) (k0:LR->Option α):Option α :=
 bif (decide (c<b)) then
  ob (f97 n 0) λd =>
  gd (decide ((a.length+1)*56<=140737488355328)) (
   f b (W (c+1)) (a++[d]))
 else
  k0 a
abbrev Su:Tm:=⟨[(3,.k (.hw 4)),(5,.d hI),(6,.d hI)],[(4,.arr 54 hR false)],[10],[]⟩
abbrev Atf:Tm:=⟨[(3,.k (.hw 4))],[(4,.arr 54 hR false)],[],[]⟩
abbrev A21:List (Exit × Tm):=[(.exit 0,Atf)]
def A20 {α:Type} (n:Nat) (v:Su.den) (f:Su.den->Option α) (ks:KS α A21):Option α:=A22 n v.1.2.1 v.1.2.2.1 v.2.1 (λa b c=>f (((),a,b,()),(c,()))) (λw0=>ks.1 (((),()),(w0,())))
def Zq {α:Type} (n m:Nat) (a b:Int) (c:LR) (k0:LR->Option α):Option α:=A5 (A20 n) m (((),a,b,()),(c,())) (λw=>k0 w.2.1,())
theorem Ate {α n m a b c k0}:Zq (α:=α) n (m+1) a b c k0=A22 n a b c (λa b c=>Zq n m a b c k0) k0:=rfl
def A23 (n:Nat) (a0:Int):Option LR :=
 Zq n n a0 0 []
  (λa=>(
   some a))
def It (n:Nat):Ent3:=⟨64,[.im hI],[[.one (.own 54 hR)]],λx=>A23 n x,[]⟩
def Afv (α:Type) (n:Nat):D3 α:={ reg:=[(1,⟨0,[],[(0,{ sh:=some hR })]⟩),(4,⟨0,[],[(1,{ ent:=some (Bo n) }),(2,{ sh:=some hR })]⟩)],join:=[],loop:=[(3,⟨Su,A21,A5 (A20 n) n⟩)] }
theorem Abb (α:Type) (n:Nat):Ao PP (Af (Afv α n).reg):=⟨Co n,trivial⟩
theorem Aom (α:Type) (n:Nat):LO.Sound (α:=α) PP ⟨14,[]⟩ ⟨Su,A21,A5 (A20 n) n⟩ (.loop ((A1 Tryz.f64).at [1,1,0,1,0,0])):=C0 (D:=Afv α n) (Abb α n) n
theorem B7v (α:Type) (n:Nat):D3.OK PP TT ⟨14,[]⟩ (Afv α n) (A1 Tryz.f64) :=
 D3.OK.mk3 (Abb α n) (show Aa (A1 Tryz.f64)=[(3,(.loop ((A1 Tryz.f64).at [1,1,0,1,0,0])))] by kernel_rfl) ⟨Ab rfl (Aom α n),trivial⟩
theorem A90 (n:Nat):(It n).Sound PP:=fkB (fn:=Tryz.f64) (B7v _ n)

end Go.Ev
