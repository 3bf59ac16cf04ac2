/- DERIVED. What the functions compute, and that they do. -/
import Derived.Test.YtdheaaapdlekdaaGreatEe

set_option linter.all false
set_option linter.unusedVariables false
set_option linter.unusedSimpArgs false

namespace Go.Ev
open Go Go.Proofs Go.RowKit Go.Shelf
def A9z (n:Nat) (a0:LI):Option (LI × Int × Int) :=
 some (a0,0,(Int.tmod (a0.length:Int) 1000))
def Agx (n:Nat):Ent3:=⟨57,[.im (.sl (.int .u8))],[[.one (.ptr 126 (.st (.pair (.sl (.int .u8)) (.pair hI hI))))]],λx=>A9z n x,[]⟩
def Bao (α:Type) (n:Nat):D3 α:={ reg:=[],join:=[],loop:=[] }
theorem Amv (n:Nat):(Agx n).Sound PP:=A2n (fn:=Tryz.f57) (D:=Bao _ n) trivial

def Mv (n:Nat) (a0:LI × Int × Int):Option (Int × (LI × Int × Int)) :=
 bif (decide ((W (a0.2.1+1))<=(a0.1.length:Int))) then
  gd (decide (0<=(W ((W (a0.2.1+1))-1)))&&decide ((W ((W (a0.2.1+1))-1))<(a0.1.length:Int))) (
   gd (decide (0<=(W ((W (a0.2.1+1))-1)))&&decide ((W ((W (a0.2.1+1))-1))<(a0.1.length:Int))) (
    some ((W (a0.1.getD ((W ((W (a0.2.1+1))-1)).toNat) 0)),(a0.1,(W (a0.2.1+1)),(Int.tmod (W ((W ((W (a0.2.2*31))+(W (a0.1.getD ((W ((W (a0.2.1+1))-1)).toNat) 0))))+7)) 2147483648)))))
 else
  bif (decide ((W (a0.2.1+1))>3000)) then
   some (0,(a0.1,(W (a0.2.1+1)),a0.2.2))
  else
   some ((Int.tmod (W (Int.tdiv (Int.tmod (W ((W (a0.2.2*1103515245))+12345)) 2147483648) 65536)) 256),(a0.1,(W (a0.2.1+1)),(Int.tmod (W ((W (a0.2.2*1103515245))+12345)) 2147483648)))
def Ro (n:Nat):Ent3:=⟨175,[.one (.ptr 126 (.st (.pair (.sl (.int .u8)) (.pair hI hI))))],[[.im hI]],λx=>Mv n x,[]⟩
def B6w (α:Type) (n:Nat):D3 α:={ reg:=[(2,⟨9,[],[]⟩),(3,⟨21,[],[]⟩),(4,⟨9,[],[]⟩)],join:=[],loop:=[] }
theorem U5 (n:Nat):(Ro n).Sound PP:=A2n (fn:=Tryz.f175) (D:=B6w _ n) trivial

def Dr (n:Nat) (a0:LI × Int × Int) (a1:Int):Option (Int × (LI × Int × Int)) :=
 bif (decide (a1<=1)) then
  some (0,a0)
 else
  bif (decide (a1<=256)) then
   ob (Mv n a0) λa =>
   gd (decide (a1 ≠ 0)) (
    some ((Int.tmod a.1 a1),a.2))
  else
   ob (Mv n a0) λb =>
   ob (Mv n b.2) λc =>
   ob (Mv n c.2) λd =>
   gd (decide (a1 ≠ 0)) (
    some ((Int.tmod (W ((W ((W (b.1*65536))+(W (c.1*256))))+d.1)) a1),d.2))
def Fu (n:Nat):Ent3:=⟨109,[.one (.ptr 126 (.st (.pair (.sl (.int .u8)) (.pair hI hI)))),.im hI],[[.im hI]],λx=>Dr n x.1 x.2,[]⟩
def B8m (α:Type) (n:Nat):D3 α:={ reg:=[(4,⟨0,[],[(1,{ entB:=some (Ro n),hb:=310 })]⟩),(5,⟨0,[],[(1,{ entB:=some (Ro n),hb:=320 })]⟩),(6,⟨0,[],[(1,{ entB:=some (Ro n),hb:=330 })]⟩),(7,⟨0,[],[(1,{ entB:=some (Ro n),hb:=340 })]⟩)],join:=[],loop:=[] }
theorem F8 (n:Nat):(Fu n).Sound PP:=A2n (fn:=Tryz.f109) (D:=B8m _ n) ⟨U5 n,U5 n,U5 n,U5 n,trivial⟩

def A7p (n:Nat) (a0:LI × Int × Int) (a1:Int):Option (Bool × (LI × Int × Int)) :=
 ob (Dr n a0 a1) λa =>
 some ((a.1==(W (a1-1))),a.2)
def Ank (n:Nat):Ent3:=⟨173,[.one (.ptr 126 (.st (.pair (.sl (.int .u8)) (.pair hI hI)))),.im hI],[[.im .bool]],λx=>A7p n x.1 x.2,[]⟩
def B6y (α:Type) (n:Nat):D3 α:={ reg:=[(1,⟨0,[],[(2,{ entB:=some (Fu n),hb:=310 })]⟩)],join:=[],loop:=[] }
theorem B24 (n:Nat):(Ank n).Sound PP:=A2n (fn:=Tryz.f173) (D:=B6y _ n) ⟨F8 n,trivial⟩

def f174 (n:Nat) (a0:Bool):Option Int :=
 bif a0 then
  some 1
 else
  some 0
def Rr (n:Nat):Ent:=⟨174,[.bool],[hI],λx=>f174 n x⟩
def Bc7 (α:Type) (n:Nat):D3 α:={ reg:=[],join:=[],loop:=[] }
theorem Rp (n:Nat):(Rr n).Sound PP:=B0 (fn:=Tryz.f174) (D:=Bc7 _ n) trivial

abbrev B2x:Tm:=⟨[(0,.k (.hp 1000 0 0)),(1,.k (.hw 1001)),(2,.d hI),(3,.d hI),(4,.d .bool),(11,.d hI),(16,.d .bool)],[(1000,.var 126 true false [.d (.sl (.int .u8)),.d hI,.d hI]),(1001,.arr 85 hN false)],[],[]⟩
def Ql (n:Nat):Nat->(LI × Int × Int)->LN->Int->Int->Bool->Option (Unit × (LI × Int × Int) × LN)
 | 0,_,_,_,_,_=>none
 | d+1,a0,a1,a2,a3,a4 =>
  ob (Dr n a0 9) λa =>
  let g:=λ(m:Bool)=>(
   bif m then
    ob (A7p n a.2 3) λh =>
    bif h.1 then
     ob (Dr n h.2 6) λj =>
     gd (decide ((a1.length+1)*32<=140737488355328)) (
      some ((),j.2,(a1++[(1,0,0,j.1)])))
    else
     ob (Dr n h.2 a3) λk =>
     gd (decide ((a1.length+1)*32<=140737488355328)) (
      some ((),k.2,(a1++[(2,0,0,k.1)])))
   else
    bif (a.1==3) then
     ob (Ql n d a.2 a1 (W (a2-1)) a3 a4) λc =>
     gd (decide ((c.2.2.length+1)*32<=140737488355328)) (
      some ((),c.2.1,(c.2.2++[(7,(W ((c.2.2.length:Int)-1)),0,0)])))
    else
     bif (a.1==4) then
      ob (Ql n d a.2 a1 (min (W (a2-1)) 2) a3 a4) λe =>
      ob (Dr n e.2.1 4) λl =>
      gd (decide ((e.2.2.length+1)*32<=140737488355328)) (
       some ((),l.2,(e.2.2++[(8,(W ((e.2.2.length:Int)-1)),0,l.1)])))
     else
      ob (f174 n a4) λo =>
      ob (Dr n a.2 (W (5+o))) λb =>
      gd (decide (0<=b.1)&&decide (b.1<6)) (
       gd (decide (b.1.toNat<6)) (
        ob (Ql n d b.2 a1 (W (a2-1)) a3 a4) λi =>
        ob (Ql n d i.2.1 i.2.2 (W (a2-1)) a3 a4) λf =>
        gd (decide ((f.2.2.length+1)*32<=140737488355328)) (
         some ((),f.2.1,(f.2.2++[(([3,3,4,5,5,6].getD b.1.toNat 0),(W ((i.2.2.length:Int)-1)),(W ((f.2.2.length:Int)-1)),0)]))))))
  bif (decide (a2<=1)) then
   g true
  else
   bif (decide ((a1.length:Int)>30)) then
    g true
   else
    g (decide (a.1<3))
def Ik (n d:Nat):Ent3:=⟨108,[.one (.ptr 126 (.st (.pair (.sl (.int .u8)) (.pair hI hI)))),.one (.own 85 hN),.im hI,.im hI,.im .bool],[[.one (.back 1001)]],λx=>Ql n d x.1 x.2.1 x.2.2.1 x.2.2.2.1 x.2.2.2.2,[1001]⟩
def Aoj (α:Type) (n d:Nat):D3 α:={ reg:=[(1,⟨0,[],[(1,{ entB:=some (Fu n),hb:=310 })]⟩),(3,⟨0,[],[(1,{ entB:=some (Ank n),hb:=320 })]⟩),(4,⟨0,[],[(2,{ entB:=some (Fu n),hb:=330 }),(4,{ sh:=some hN })]⟩),(5,⟨0,[],[(3,{ entB:=some (Fu n),hb:=340 }),(5,{ sh:=some hN })]⟩),(7,⟨0,[],[(6,{ entB:=some (Ik n d),hb:=350 })]⟩),(8,⟨0,[],[(5,{ sh:=some hN })]⟩),(10,⟨0,[],[(7,{ entB:=some (Ik n d),hb:=360 })]⟩),(11,⟨0,[],[(5,{ entB:=some (Fu n),hb:=370 }),(7,{ sh:=some hN })]⟩),(12,⟨0,[],[(0,{ sh:=some hI }),(3,{ ent:=some (Rr n) }),(5,{ entB:=some (Fu n),hb:=380 })]⟩),(13,⟨0,[],[(6,{ entB:=some (Ik n d),hb:=390 })]⟩),(15,⟨0,[],[(6,{ entB:=some (Ik n d),hb:=400 })]⟩),(16,⟨0,[],[(7,{ sh:=some hN })]⟩)],join:=[(3,B2x)],loop:=[] }
theorem Asa (α:Type) (n d:Nat) (hd:(Ik n d).Sound PP):Ao PP (Ag (Aoj α n d).reg):=⟨F8 n,B24 n,F8 n,F8 n,hd,hd,F8 n,Rp n,F8 n,hd,hd,trivial⟩
theorem B8n (α:Type) (n d:Nat) (hd:(Ik n d).Sound PP):D3.OK PP TT ⟨114,[1001]⟩ (Aoj α n d) (A1 Tryz.f108) :=
 D3.OK.mk3 (Asa α n d hd) (show Ab (A1 Tryz.f108)=[] by kernel_rfl) trivial
theorem Aj5 (n:Nat):∀ d,(Ik n d).Sound PP
 | 0=>λ_ _ _ h=>by cases h
 | d+1=>fkB (fn:=Tryz.f108) (B8n _ n d (Aj5 n d))

def B1p (n:Nat) (a0:LI × Int × Int) (a1:Int) (a2:Bool):Option (LN × (LI × Int × Int)) :=
 ob (Dr n a0 3) λb =>
 ob (Ql n n b.2 [] (W (2+b.1)) a1 a2) λa =>
 gd (decide ((0+a.2.2.length)*32<=140737488355328)) (
  some (a.2.2,a.2.1))
def Auy (n:Nat):Ent3:=⟨58,[.one (.ptr 126 (.st (.pair (.sl (.int .u8)) (.pair hI hI)))),.im hI,.im .bool],[[.im hE]],λx=>B1p n x.1 x.2.1 x.2.2,[]⟩
def Ban (α:Type) (n:Nat):D3 α:={ reg:=[(1,⟨0,[],[(0,{ sh:=some hN }),(2,{ sh:=some hN }),(4,{ entB:=some (Fu n),hb:=310 }),(8,{ entB:=some (Ik n n),hb:=320 })]⟩)],join:=[],loop:=[] }
theorem B5n (n:Nat):(Auy n).Sound PP:=A2n (fn:=Tryz.f58) (D:=Ban _ n) ⟨F8 n,Aj5 n n,trivial⟩

def f20 (n:Nat) (a0:LI) (a1:Int) (a2:Bool):Option LN :=
 ob (A9z n a0) λa =>
 ob (B1p n a a1 a2) λb =>
 some b.1
def B4d (n:Nat):Ent:=⟨20,[(.sl (.int .u8)),hI,.bool],[hE],λx=>f20 n x.1 x.2.1 x.2.2⟩
def Bfc (α:Type) (n:Nat):D3 α:={ reg:=[(1,⟨0,[],[(1,{ entB:=some (Agx n),hb:=310 }),(4,{ entB:=some (Auy n),hb:=320 })]⟩)],join:=[],loop:=[] }
theorem Bbc (n:Nat):(B4d n).Sound PP:=B0 (fn:=Tryz.f20) (D:=Bfc _ n) ⟨Amv n,B5n n,trivial⟩

def f181 (n:Nat) (a0 a1 a2:Int):Option Bool :=
 bif (decide (a1<=a0)) then
  some (decide (a0<=a2))
 else
  some false
def Ex (n:Nat):Ent:=⟨181,[hI,hI,hI],[.bool],λx=>f181 n x.1 x.2.1 x.2.2⟩
def Bc1 (α:Type) (n:Nat):D3 α:={ reg:=[],join:=[],loop:=[] }
theorem Dy (n:Nat):(Ex n).Sound PP:=B0 (fn:=Tryz.f181) (D:=Bc1 _ n) trivial

def A3x {α:Type} (n:Nat) (a:Int) (b:LI) (f:Int->LI->Option α) (k0:LI->Option α):Option α :=
 bif (decide (a>0)) then
  gd (decide ((b.length+1)*8<=140737488355328)) (
   f (W (Int.tdiv a 10000)) (b++[(Int.tmod a 10000)]))
 else
  k0 b
abbrev U0:Tm:=⟨[(0,.d hI),(3,.k (.hw 4))],[(4,.arr 3 hI false)],[10],[]⟩
abbrev Aw5:Tm:=⟨[(3,.k (.hw 4))],[(4,.arr 3 hI false)],[],[]⟩
abbrev A3w:List (Exit × Tm):=[(.exit 0,Aw5)]
def A3v {α:Type} (n:Nat) (v:U0.den) (f:U0.den->Option α) (ks:KS α A3w):Option α:=A3x n v.1.1 v.2.1 (λa b=>f ((a,(),()),(b,()))) (λw0=>ks.1 (((),()),(w0,())))
def A0d {α:Type} (n m:Nat) (a:Int) (b:LI) (k0:LI->Option α):Option α:=A5 (A3v n) m ((a,(),()),(b,())) (λw=>k0 w.2.1,())
theorem Aw4 {α n m a b k0}:A0d (α:=α) n (m+1) a b k0=A3x n a b (λa b=>A0d n m a b k0) k0:=rfl
def f194 (n:Nat) (a0:Int):Option LI :=
 A0d n n a0 []
  (λa=>(
   some a))
def Yb (n:Nat):Ent:=⟨194,[hI],[hIs],λx=>f194 n x⟩
def Aho (α:Type) (n:Nat):D3 α:={ reg:=[(1,⟨0,[],[(0,{ sh:=some hI })]⟩),(3,⟨0,[],[(3,{ sh:=some hI })]⟩)],join:=[],loop:=[(2,⟨U0,A3w,A5 (A3v n) n⟩)] }
theorem Acf (α:Type) (n:Nat):Ao PP (Ag (Aho α n).reg):=trivial
theorem Aqz (α:Type) (n:Nat):LO.Sound (α:=α) PP ⟨15,[]⟩ ⟨U0,A3w,A5 (A3v n) n⟩ (.loop ((A1 Tryz.f194).at [1,1,0,0,0])):=C5 (D:=Aho α n) (Acf α n) n
theorem Bbq (α:Type) (n:Nat):D3.OK PP TT ⟨15,[]⟩ (Aho α n) (A1 Tryz.f194) :=
 D3.OK.mk3 (Acf α n) (show Ab (A1 Tryz.f194)=[(2,(.loop ((A1 Tryz.f194).at [1,1,0,0,0])))] by kernel_rfl) ⟨Ac rfl (Aqz α n),trivial⟩
theorem A0c (n:Nat):(Yb n).Sound PP:=fk (fn:=Tryz.f194) (Bbq _ n)

def f131 (n:Nat) (a0:Int):Option Rq :=
 bif (decide (a0<0)) then
  ob (f194 n (W (0-a0))) λa =>
  some (true,a,[1])
 else
  ob (f194 n a0) λb =>
  some (false,b,[1])
def C2 (n:Nat):Ent:=⟨131,[hI],[hR],λx=>f131 n x⟩
def Bd0 (α:Type) (n:Nat):D3 α:={ reg:=[(2,⟨0,[],[(2,{ ent:=some (Yb n) }),(3,{ sh:=some hI })]⟩),(3,⟨0,[],[(1,{ ent:=some (Yb n) }),(2,{ sh:=some hI })]⟩)],join:=[],loop:=[] }
theorem D2 (n:Nat):(C2 n).Sound PP:=B0 (fn:=Tryz.f131) (D:=Bd0 _ n) ⟨A0c n,A0c n,trivial⟩

def A2y {α:Type} (n:Nat) (b:LI) (a:Int) (f:LI->Int->Option α) (k0:LI->Int->Option α):Option α :=
 bif (decide (a>0)) then
  gd (decide (0<=(W (a-1)))&&decide ((W (a-1))<(b.length:Int))) (
   bif ((b.getD ((W (a-1)).toNat) 0)==0) then
    f b (W (a-1))
   else
    k0 b a)
 else
  k0 b a
abbrev Tn:Tm:=⟨[(0,.d hIs),(3,.d hI)],[],[],[]⟩
abbrev Ava:Tm:=⟨[(0,.d hIs),(3,.d hI)],[],[],[]⟩
abbrev A2x:List (Exit × Tm):=[(.exit 0,Ava)]
def A2w {α:Type} (n:Nat) (v:Tn.den) (f:Tn.den->Option α) (ks:KS α A2x):Option α:=A2y n v.1.1 v.1.2.1 (λa b=>f ((a,b,()),())) (λw0 w1=>ks.1 ((w0,w1,()),()))
def A07 {α:Type} (n m:Nat) (a:LI) (b:Int) (k0:LI->Int->Option α):Option α:=A5 (A2w n) m ((a,b,()),()) (λw=>k0 w.1.1 w.1.2.1,())
theorem Av9 {α n m a b k0}:A07 (α:=α) n (m+1) a b k0=A2y n a b (λa b=>A07 n m a b k0) k0:=rfl
def f216 (n:Nat) (a0:LI):Option LI :=
 A07 n n a0 (a0.length:Int)
  (λb a=>(
   gd (decide (0<=a)&&decide (a<=(b.length:Int))) (
    gd (decide ((0+((b.drop 0).take (a.toNat-0)).length)*8<=140737488355328)) (
     some ((b.drop 0).take (a.toNat-0))))))
def Xz (n:Nat):Ent:=⟨216,[hIs],[hIs],λx=>f216 n x⟩
def Ah4 (α:Type) (n:Nat):D3 α:={ reg:=[(4,⟨0,[],[(0,{ sh:=some hI })]⟩)],join:=[],loop:=[(2,⟨Tn,A2x,A5 (A2w n) n⟩)] }
theorem Ac4 (α:Type) (n:Nat):Ao PP (Ag (Ah4 α n).reg):=trivial
theorem Aqj (α:Type) (n:Nat):LO.Sound (α:=α) PP ⟨23,[]⟩ ⟨Tn,A2x,A5 (A2w n) n⟩ (.loop ((A1 Tryz.f216).at [1,1,0,0,0])):=C5 (D:=Ah4 α n) (Ac4 α n) n
theorem Bb5 (α:Type) (n:Nat):D3.OK PP TT ⟨23,[]⟩ (Ah4 α n) (A1 Tryz.f216) :=
 D3.OK.mk3 (Ac4 α n) (show Ab (A1 Tryz.f216)=[(2,(.loop ((A1 Tryz.f216).at [1,1,0,0,0])))] by kernel_rfl) ⟨Ac rfl (Aqj α n),trivial⟩
theorem A05 (n:Nat):(Xz n).Sound PP:=fk (fn:=Tryz.f216) (Bb5 _ n)

def A3l {α:Type} (n:Nat) (b c:LI) (a:Int) (f:LI->LI->Int->Option α) (k0:Int->Option α) (k1:Unit->Option α):Option α :=
 bif (decide (a>=0)) then
  gd (decide (0<=a)&&decide (a<(b.length:Int))) (
   gd (decide (0<=a)&&decide (a<(c.length:Int))) (
    bif ((b.getD a.toNat 0) != (c.getD a.toNat 0)) then
     gd (decide (0<=a)&&decide (a<(b.length:Int))) (
      gd (decide (0<=a)&&decide (a<(c.length:Int))) (
       ob (f174 n (decide ((b.getD a.toNat 0)>(c.getD a.toNat 0)))) λd =>
       k0 (W ((W (2*d))-1))))
    else
     f b c (W (a-1))))
 else
  k1 ()
abbrev Tv:Tm:=⟨[(0,.d hIs),(1,.d hIs),(5,.d hI)],[],[],[]⟩
abbrev Avv:Tm:=⟨[(4,.d hI)],[],[],[]⟩
abbrev Avu:Tm:=⟨[],[],[],[]⟩
abbrev A3k:List (Exit × Tm):=[(.ret,Avv),(.exit 0,Avu)]
def A3j {α:Type} (n:Nat) (v:Tv.den) (f:Tv.den->Option α) (ks:KS α A3k):Option α:=A3l n v.1.1 v.1.2.1 v.1.2.2.1 (λa b c=>f ((a,b,c,()),())) (λw0=>ks.1 ((w0,()),())) (λ_=>ks.2.1 ((),()))
def A0b {α:Type} (n m:Nat) (a b:LI) (c:Int) (k0:Int->Option α) (k1:Unit->Option α):Option α:=A5 (A3j n) m ((a,b,c,()),()) (λw=>k0 w.1.1,λw=>k1 (),())
theorem Avt {α n m a b c k0 k1}:A0b (α:=α) n (m+1) a b c k0 k1=A3l n a b c (λa b c=>A0b n m a b c k0 k1) k0 k1:=rfl
def f199 (n:Nat) (a0 a1:LI):Option Int :=
 bif ((a0.length:Int) != (a1.length:Int)) then
  ob (f174 n (decide ((a0.length:Int)>(a1.length:Int)))) λa =>
  some (W ((W (2*a))-1))
 else
  A0b n n a0 a1 (W ((a0.length:Int)-1))
   (λb=>(
    some b))
   (λ(_:Unit)=>(
    some 0))
def Y9 (n:Nat):Ent:=⟨199,[hIs,hIs],[hI],λx=>f199 n x.1 x.2⟩
def Ahm (α:Type) (n:Nat):D3 α:={ reg:=[(2,⟨0,[],[(5,{ ent:=some (Rr n) })]⟩),(6,⟨8,[],[]⟩),(7,⟨8,[],[(9,{ ent:=some (Rr n) })]⟩)],join:=[],loop:=[(4,⟨Tv,A3k,A5 (A3j n) n⟩)] }
theorem Acd (α:Type) (n:Nat):Ao PP (Ag (Ahm α n).reg):=⟨Rp n,Rp n,trivial⟩
theorem Aqv (α:Type) (n:Nat):LO.Sound (α:=α) PP ⟨47,[]⟩ ⟨Tv,A3k,A5 (A3j n) n⟩ (.loop ((A1 Tryz.f199).at [1,1,0,1,0,0])):=C5 (D:=Ahm α n) (Acd α n) n
theorem Bbm (α:Type) (n:Nat):D3.OK PP TT ⟨47,[]⟩ (Ahm α n) (A1 Tryz.f199) :=
 D3.OK.mk3 (Acd α n) (show Ab (A1 Tryz.f199)=[(4,(.loop ((A1 Tryz.f199).at [1,1,0,1,0,0])))] by kernel_rfl) ⟨Ac rfl (Aqv α n),trivial⟩
theorem A0a (n:Nat):(Y9 n).Sound PP:=fk (fn:=Tryz.f199) (Bbm _ n)

def A3r {α:Type} (n:Nat) (e d:LI) (b g a:Int) (c:LI) (f:LI->LI->Int->Int->Int->LI->Option α) (k0:LI->LI->Int->LI->Option α):Option α :=
 let h:=λ(_:Unit)=>(
  gd (decide (0<=(W (b+a)))&&decide ((W (b+a))<(c.length:Int))) (
   gd (decide ((W (b+a)).toNat<c.length)) (
    let i:=λ(j:Int)=>(
     gd (decide (0<=(W (b+a)))&&decide ((W (b+a))<(c.length:Int))) (
      gd (decide ((W (b+a)).toNat<c.length)) (
       f e d b (W (Int.tdiv j 10000)) (W (a+1)) (c.set ((W (b+a)).toNat) (Int.tmod j 10000)))))
    bif (decide (a<(d.length:Int))) then
     gd (decide (0<=b)&&decide (b<(e.length:Int))) (
      gd (decide (0<=a)&&decide (a<(d.length:Int))) (
       i (W ((W ((c.getD ((W (b+a)).toNat) 0)+g))+(W ((e.getD b.toNat 0)*(d.getD a.toNat 0)))))))
    else
     i (W ((c.getD ((W (b+a)).toNat) 0)+g)))))
 bif (decide (a<(d.length:Int))) then
  h ()
 else
  bif (decide (g>0)) then
   h ()
  else
   k0 e d b c
abbrev Tx:Tm:=⟨[(0,.d hIs),(1,.d hIs),(5,.k (.hw 16)),(6,.d hI),(7,.d hI),(8,.d hI)],[(16,.arr 3 hI false)],[],[]⟩
abbrev Aw0:Tm:=⟨[(0,.d hIs),(1,.d hIs),(5,.k (.hw 16)),(6,.d hI)],[(16,.arr 3 hI false)],[],[]⟩
abbrev A3q:List (Exit × Tm):=[(.exit 2,Aw0)]
def A3p {α:Type} (n:Nat) (v:Tx.den) (f:Tx.den->Option α) (ks:KS α A3q):Option α:=A3r n v.1.1 v.1.2.1 v.1.2.2.2.1 v.1.2.2.2.2.1 v.1.2.2.2.2.2.1 v.2.1 (λa b c d e g=>f ((a,b,(),c,d,e,()),(g,()))) (λw0 w1 w2 w3=>ks.1 ((w0,w1,(),w2,()),(w3,())))
def Ng {α:Type} (n m:Nat) (a b:LI) (c d e:Int) (f:LI) (k0:LI->LI->Int->LI->Option α):Option α:=A5 (A3p n) m ((a,b,(),c,d,e,()),(f,())) (λw=>k0 w.1.1 w.1.2.1 w.1.2.2.2.1 w.2.1,())
theorem Avz {α n m a b c d e f k0}:Ng (α:=α) n (m+1) a b c d e f k0=A3r n a b c d e f (λa b c d e f=>Ng n m a b c d e f k0) k0:=rfl
def A3u {α:Type} (n:Nat) (a d:LI) (b:Int) (c:LI) (f:LI->LI->Int->LI->Option α) (k0:LI->Option α):Option α :=
 bif (decide (b<(a.length:Int))) then
  Ng n n a d b 0 0 c
   (λe g h i=>(
    f e g (W (h+1)) i))
 else
  k0 c
abbrev Tz:Tm:=⟨[(0,.d hIs),(1,.d hIs),(5,.k (.hw 16)),(6,.d hI)],[(16,.arr 3 hI false)],[],[]⟩
abbrev Aw3:Tm:=⟨[(5,.k (.hw 16))],[(16,.arr 3 hI false)],[],[]⟩
abbrev A3t:List (Exit × Tm):=[(.exit 0,Aw3)]
def A3s {α:Type} (n:Nat) (v:Tz.den) (f:Tz.den->Option α) (ks:KS α A3t):Option α:=A3u n v.1.1 v.1.2.1 v.1.2.2.2.1 v.2.1 (λa b c d=>f ((a,b,(),c,()),(d,()))) (λw0=>ks.1 (((),()),(w0,())))
def Nh {α:Type} (n m:Nat) (a b:LI) (c:Int) (d:LI) (k0:LI->Option α):Option α:=A5 (A3s n) m ((a,b,(),c,()),(d,())) (λw=>k0 w.2.1,())
theorem Aw1 {α n m a b c d k0}:Nh (α:=α) n (m+1) a b c d k0=A3u n a b c d (λa b c d=>Nh n m a b c d k0) k0:=rfl
abbrev B6c:Tm:=⟨[(0,.d hIs),(1,.d hIs),(5,.k (.hw 16)),(6,.d hI),(7,.d hI),(8,.d hI)],[(16,.arr 3 hI false)],[],[]⟩
abbrev B21:Tm:=⟨[(0,.d hIs),(1,.d hIs),(5,.k (.hw 16)),(6,.d hI),(8,.d hI),(9,.d hI)],[(16,.arr 3 hI false)],[],[]⟩
def f196 (n:Nat) (a0 a1:LI):Option LI :=
 gd (decide (0<=(W ((W ((a0.length:Int)+(a1.length:Int)))+1)))&&decide ((W ((W ((a0.length:Int)+(a1.length:Int)))+1))<=4611686018427387904)&&decide ((8:Int)*(W ((W ((a0.length:Int)+(a1.length:Int)))+1))<=281474976710656)) (
  Nh n n a0 a1 0 (List.replicate ((W ((W ((a0.length:Int)+(a1.length:Int)))+1)).toNat) 0)
   (λa=>(
    ob (f216 n a) λb =>
    some b)))
def Hl (n:Nat):Ent:=⟨196,[hIs,hIs],[hIs],λx=>f196 n x.1 x.2⟩
def A7l (α:Type) (n:Nat):D3 α:={ reg:=[(11,⟨10,[],[]⟩),(14,⟨0,[],[(1,{ ent:=some (Xz n),fz:=[(65,hIs)] })]⟩)],join:=[(9,B6c),(12,B21)],loop:=[(7,⟨Tx,A3q,A5 (A3p n) n⟩),(3,⟨Tz,A3t,A5 (A3s n) n⟩)] }
theorem Ya (α:Type) (n:Nat):Ao PP (Ag (A7l α n).reg):=⟨A05 n,trivial⟩
theorem Aqx (α:Type) (n:Nat):LO.Sound (α:=α) PP ⟨67,[]⟩ ⟨Tx,A3q,A5 (A3p n) n⟩ (.loop ((A1 Tryz.f196).at [1,1,0,1,0,0,1,0,0,1,1,0,0])):=C5 (D:=A7l α n) (Ya α n) n
theorem Aw2 (α:Type) (n:Nat):D3.OK PP TT ⟨67,[]⟩ (A7l α n) ((A1 Tryz.f196).at [1,1,0,1,0,0]) :=
 D3.OK.mk3 (Ya α n) (show Ab ((A1 Tryz.f196).at [1,1,0,1,0,0])=[(7,(.loop ((A1 Tryz.f196).at [1,1,0,1,0,0,1,0,0,1,1,0,0])))] by kernel_rfl) ⟨Ac rfl (Aqx α n),trivial⟩
theorem Aqy (α:Type) (n:Nat):LO.Sound (α:=α) PP ⟨67,[]⟩ ⟨Tz,A3t,A5 (A3s n) n⟩ (.loop ((A1 Tryz.f196).at [1,1,0,1,0,0])):=lk (Aw2 α n) n
theorem Bbp (α:Type) (n:Nat):D3.OK PP TT ⟨67,[]⟩ (A7l α n) (A1 Tryz.f196) :=
 D3.OK.mk3 (Ya α n) (show Ab (A1 Tryz.f196)=[(3,(.loop ((A1 Tryz.f196).at [1,1,0,1,0,0])))] by kernel_rfl) ⟨Ac rfl (Aqy α n),trivial⟩
theorem Gu (n:Nat):(Hl n).Sound PP:=fk (fn:=Tryz.f196) (Bbp _ n)

def A3i {α:Type} (n:Nat) (b c:LI) (e a:Int) (d:LI) (f:LI->LI->Int->Int->LI->Option α) (k0:LI->Option α):Option α :=
 bif (decide (a<(b.length:Int))) then
  gd (decide (0<=a)&&decide (a<(b.length:Int))) (
   let g:=λ(h:Int)=>(
    ob (f174 n (decide (h<0))) λi =>
    gd (decide ((d.length+1)*8<=140737488355328)) (
     f b c i (W (a+1)) (d++[(W (h+(W (i*10000))))])))
   bif (decide (a<(c.length:Int))) then
    gd (decide (0<=a)&&decide (a<(c.length:Int))) (
     g (W ((W ((b.getD a.toNat 0)-e))-(c.getD a.toNat 0))))
   else
    g (W ((b.getD a.toNat 0)-e)))
 else
  k0 d
abbrev Tu:Tm:=⟨[(0,.d hIs),(1,.d hIs),(5,.k (.hw 9)),(6,.d hI),(7,.d hI)],[(9,.arr 3 hI false)],[40],[]⟩
abbrev Avs:Tm:=⟨[(5,.k (.hw 9))],[(9,.arr 3 hI false)],[],[]⟩
abbrev A3h:List (Exit × Tm):=[(.exit 0,Avs)]
def A3g {α:Type} (n:Nat) (v:Tu.den) (f:Tu.den->Option α) (ks:KS α A3h):Option α:=A3i n v.1.1 v.1.2.1 v.1.2.2.2.1 v.1.2.2.2.2.1 v.2.1 (λa b c d e=>f ((a,b,(),c,d,()),(e,()))) (λw0=>ks.1 (((),()),(w0,())))
def Nc {α:Type} (n m:Nat) (a b:LI) (c d:Int) (e:LI) (k0:LI->Option α):Option α:=A5 (A3g n) m ((a,b,(),c,d,()),(e,())) (λw=>k0 w.2.1,())
theorem Avr {α n m a b c d e k0}:Nc (α:=α) n (m+1) a b c d e k0=A3i n a b c d e (λa b c d e=>Nc n m a b c d e k0) k0:=rfl
abbrev B65:Tm:=⟨[(0,.d hIs),(1,.d hIs),(5,.k (.hw 9)),(7,.d hI),(8,.d hI)],[(9,.arr 3 hI false)],[],[]⟩
def f200 (n:Nat) (a0 a1:LI):Option LI :=
 Nc n n a0 a1 0 0 []
  (λa=>(
   ob (f216 n a) λb =>
   some b))
def A7k (n:Nat):Ent:=⟨200,[hIs,hIs],[hIs],λx=>f200 n x.1 x.2⟩
def Ahl (α:Type) (n:Nat):D3 α:={ reg:=[(1,⟨0,[],[(0,{ sh:=some hI })]⟩),(9,⟨0,[],[(2,{ ent:=some (Rr n) })]⟩),(10,⟨0,[],[(5,{ sh:=some hI })]⟩),(11,⟨0,[],[(1,{ ent:=some (Xz n),fz:=[(42,hIs)] })]⟩)],join:=[(9,B65)],loop:=[(4,⟨Tu,A3h,A5 (A3g n) n⟩)] }
theorem Acc (α:Type) (n:Nat):Ao PP (Ag (Ahl α n).reg):=⟨Rp n,A05 n,trivial⟩
theorem Aqu (α:Type) (n:Nat):LO.Sound (α:=α) PP ⟨44,[]⟩ ⟨Tu,A3h,A5 (A3g n) n⟩ (.loop ((A1 Tryz.f200).at [1,1,1,0,1,0,0])):=C5 (D:=Ahl α n) (Acc α n) n
theorem Bbl (α:Type) (n:Nat):D3.OK PP TT ⟨44,[]⟩ (Ahl α n) (A1 Tryz.f200) :=
 D3.OK.mk3 (Acc α n) (show Ab (A1 Tryz.f200)=[(4,(.loop ((A1 Tryz.f200).at [1,1,1,0,1,0,0])))] by kernel_rfl) ⟨Ac rfl (Aqu α n),trivial⟩
theorem Aa9 (n:Nat):(A7k n).Sound PP:=fk (fn:=Tryz.f200) (Bbl _ n)

def Xy {α:Type} (n:Nat) (e c d:LI) (g a b:Int) (h:LI) (f:LI->LI->LI->Int->Int->Int->LI->Option α) (k0:LI->LI->LI->Int->Int->LI->Option α):Option α :=
 bif (decide ((W (b-a))>1)) then
  ob (f194 n (W (Int.tdiv (W (a+b)) 2))) λi =>
  ob (f196 n c i) λj =>
  ob (f199 n j d) λk =>
  bif (decide (k<=0)) then
   f e c d g (W (Int.tdiv (W (a+b)) 2)) b h
  else
   f e c d g a (W (Int.tdiv (W (a+b)) 2)) h
 else
  k0 e c d g a h
abbrev Q6:Tm:=⟨[(0,.d hIs),(1,.d hIs),(6,.k (.hw 14)),(7,.d hIs),(8,.d hI),(9,.d hI),(10,.d hI)],[(14,.arr 3 hI false)],[27],[]⟩
abbrev Aqi:Tm:=⟨[(0,.d hIs),(1,.d hIs),(6,.k (.hw 14)),(7,.d hIs),(8,.d hI),(9,.d hI)],[(14,.arr 3 hI false)],[],[]⟩
abbrev Xx:List (Exit × Tm):=[(.exit 2,Aqi)]
def Xw {α:Type} (n:Nat) (v:Q6.den) (f:Q6.den->Option α) (ks:KS α Xx):Option α:=Xy n v.1.1 v.1.2.1 v.1.2.2.2.1 v.1.2.2.2.2.1 v.1.2.2.2.2.2.1 v.1.2.2.2.2.2.2.1 v.2.1 (λa b c d e g h=>f ((a,b,(),c,d,e,g,()),(h,()))) (λw0 w1 w2 w3 w4 w5=>ks.1 ((w0,w1,(),w2,w3,w4,()),(w5,())))
def Og {α:Type} (n m:Nat) (a b c:LI) (d e f:Int) (g:LI) (k0:LI->LI->LI->Int->Int->LI->Option α):Option α:=A5 (Xw n) m ((a,b,(),c,d,e,f,()),(g,())) (λw=>k0 w.1.1 w.1.2.1 w.1.2.2.2.1 w.1.2.2.2.2.1 w.1.2.2.2.2.2.1 w.2.1,())
theorem Aqh {α n m a b c d e f g k0}:Og (α:=α) n (m+1) a b c d e f g k0=Xy n a b c d e f g (λa b c d e f g=>Og n m a b c d e f g k0) k0:=rfl
def Tl {α:Type} (n:Nat) (c d e:LI) (a:Int) (g:LI) (f:LI->LI->LI->Int->LI->Option α) (k0:LI->LI->Option α):Option α :=
 bif (decide (a>=0)) then
  gd (decide (0<=a)&&decide (a<(c.length:Int))) (
   gd (decide ((1+e.length)*8<=140737488355328)) (
    ob (f216 n ([(c.getD a.toNat 0)]++e)) λh =>
    ob (f199 n h d) λl =>
    bif (decide (l<0)) then
     f c d h (W (a-1)) g
    else
     Og n n c d h a 0 10000 g
      (λm j o b k i=>(
       gd (decide (0<=b)&&decide (b<(i.length:Int))) (
        gd (decide (b.toNat<i.length)) (
         ob (f194 n k) λp =>
         ob (f196 n j p) λq =>
         ob (f200 n o q) λr =>
         f m j r (W (b-1)) (i.set b.toNat k)))))))
 else
  k0 e g
abbrev Tk:Tm:=⟨[(0,.d hIs),(1,.d hIs),(6,.k (.hw 14)),(7,.d hIs),(8,.d hI)],[(14,.arr 3 hI false)],[15,27],[(7,hIs)]⟩
abbrev Av8:Tm:=⟨[(6,.k (.hw 14)),(7,.d hIs)],[(14,.arr 3 hI false)],[],[]⟩
abbrev A2v:List (Exit × Tm):=[(.exit 0,Av8)]
def A2u {α:Type} (n:Nat) (v:Tk.den) (f:Tk.den->Option α) (ks:KS α A2v):Option α:=Tl n v.1.1 v.1.2.1 v.1.2.2.2.1 v.1.2.2.2.2.1 v.2.1 (λa b c d e=>f ((a,b,(),c,d,()),(e,()))) (λw0 w1=>ks.1 (((),w0,()),(w1,())))
def Rj {α:Type} (n m:Nat) (a b c:LI) (d:Int) (e:LI) (k0:LI->LI->Option α):Option α:=A5 (A2u n) m ((a,b,(),c,d,()),(e,())) (λw=>k0 w.1.2.1 w.2.1,())
theorem Ac3 {α n m a b c d e k0}:Rj (α:=α) n (m+1) a b c d e k0=Tl n a b c d e (λa b c d e=>Rj n m a b c d e k0) k0:=rfl
def f217 (n:Nat) (a0 a1:LI):Option (LI × LI) :=
 gd (decide (0<=(a0.length:Int))&&decide ((a0.length:Int)<=4611686018427387904)&&decide ((8:Int)*(a0.length:Int)<=281474976710656)) (
  Rj n n a0 a1 [] (W ((a0.length:Int)-1)) (List.replicate ((a0.length:Int).toNat) 0)
   (λa b=>(
    ob (f216 n b) λc =>
    some (c,a))))
def A7c (n:Nat):Ent:=⟨217,[hIs,hIs],[hIs,hIs],λx=>f217 n x.1 x.2⟩
def A7d (α:Type) (n:Nat):D3 α:={ reg:=[(2,⟨0,[],[(0,{ sh:=some hI })]⟩),(6,⟨0,[],[(4,{ sh:=some hI }),(7,{ ent:=some (Xz n),fz:=[(29,hIs)] })]⟩),(7,⟨0,[],[(2,{ ent:=some (Y9 n) })]⟩),(12,⟨0,[],[(2,{ ent:=some (Yb n) }),(3,{ ent:=some (Hl n) }),(5,{ ent:=some (Y9 n) })]⟩),(16,⟨0,[],[(3,{ ent:=some (Yb n) }),(4,{ ent:=some (Hl n) }),(5,{ ent:=some (A7k n) })]⟩),(17,⟨0,[],[(1,{ ent:=some (Xz n),fz:=[(62,hIs)] })]⟩)],join:=[],loop:=[(10,⟨Q6,Xx,A5 (Xw n) n⟩),(4,⟨Tk,A2v,A5 (A2u n) n⟩)] }
theorem Xv (α:Type) (n:Nat):Ao PP (Ag (A7d α n).reg):=⟨A05 n,A0a n,A0c n,Gu n,A0a n,A0c n,Gu n,Aa9 n,A05 n,trivial⟩
theorem Al5 (α:Type) (n:Nat):LO.Sound (α:=α) PP ⟨65,[]⟩ ⟨Q6,Xx,A5 (Xw n) n⟩ (.loop ((A1 Tryz.f217).at [1,1,1,0,1,0,0,1,0,0,1,1,1,1,0,0,0])):=C5 (D:=A7d α n) (Xv α n) n
theorem Av7 (α:Type) (n:Nat):D3.OK PP TT ⟨65,[]⟩ (A7d α n) ((A1 Tryz.f217).at [1,1,1,0,1,0,0]) :=
 D3.OK.mk3 (Xv α n) (show Ab ((A1 Tryz.f217).at [1,1,1,0,1,0,0])=[(10,(.loop ((A1 Tryz.f217).at [1,1,1,0,1,0,0,1,0,0,1,1,1,1,0,0,0])))] by kernel_rfl) ⟨Ac rfl (Al5 α n),trivial⟩
theorem Aqg (α:Type) (n:Nat):LO.Sound (α:=α) PP ⟨65,[]⟩ ⟨Tk,A2v,A5 (A2u n) n⟩ (.loop ((A1 Tryz.f217).at [1,1,1,0,1,0,0])):=lk (Av7 α n) n
theorem Bb4 (α:Type) (n:Nat):D3.OK PP TT ⟨65,[]⟩ (A7d α n) (A1 Tryz.f217) :=
 D3.OK.mk3 (Xv α n) (show Ab (A1 Tryz.f217)=[(4,(.loop ((A1 Tryz.f217).at [1,1,1,0,1,0,0])))] by kernel_rfl) ⟨Ac rfl (Aqg α n),trivial⟩
theorem Aa4 (n:Nat):(A7c n).Sound PP:=fk (fn:=Tryz.f217) (Bb4 _ n)

def A31 {α:Type} (n:Nat) (b a:LI) (f:LI->LI->Option α) (k0:LI->Option α):Option α :=
 bif (decide ((a.length:Int)>0)) then
  ob (f217 n b a) λc =>
  f a c.2
 else
  k0 b
abbrev To:Tm:=⟨[(0,.d hIs),(1,.d hIs)],[],[],[]⟩
abbrev Avd:Tm:=⟨[(0,.d hIs)],[],[],[]⟩
abbrev A30:List (Exit × Tm):=[(.exit 0,Avd)]
def A2z {α:Type} (n:Nat) (v:To.den) (f:To.den->Option α) (ks:KS α A30):Option α:=A31 n v.1.1 v.1.2.1 (λa b=>f ((a,b,()),())) (λw0=>ks.1 ((w0,()),()))
def K8 {α:Type} (n m:Nat) (a b:LI) (k0:LI->Option α):Option α:=A5 (A2z n) m ((a,b,()),()) (λw=>k0 w.1.1,())
theorem Ac6 {α n m a b k0}:K8 (α:=α) n (m+1) a b k0=A31 n a b (λa b=>K8 n m a b k0) k0:=rfl
def f213 (n:Nat) (a0 a1:LI):Option LI :=
 K8 n n a0 a1
  (λa=>(
   gd (decide ((0+a.length)*8<=140737488355328)) (
    some a)))
def Ah5 (n:Nat):Ent:=⟨213,[hIs,hIs],[hIs],λx=>f213 n x.1 x.2⟩
def Ah6 (α:Type) (n:Nat):D3 α:={ reg:=[(2,⟨0,[],[(2,{ ent:=some (A7c n) })]⟩),(5,⟨0,[],[(0,{ sh:=some hI })]⟩)],join:=[],loop:=[(1,⟨To,A30,A5 (A2z n) n⟩)] }
theorem Ac5 (α:Type) (n:Nat):Ao PP (Ag (Ah6 α n).reg):=⟨Aa4 n,trivial⟩
theorem Aqk (α:Type) (n:Nat):LO.Sound (α:=α) PP ⟨21,[]⟩ ⟨To,A30,A5 (A2z n) n⟩ (.loop ((A1 Tryz.f213).at [1,0,0,0])):=C5 (D:=Ah6 α n) (Ac5 α n) n
theorem Bb8 (α:Type) (n:Nat):D3.OK PP TT ⟨21,[]⟩ (Ah6 α n) (A1 Tryz.f213) :=
 D3.OK.mk3 (Ac5 α n) (show Ab (A1 Tryz.f213)=[(1,(.loop ((A1 Tryz.f213).at [1,0,0,0])))] by kernel_rfl) ⟨Ac rfl (Aqk α n),trivial⟩
theorem An0 (n:Nat):(Ah5 n).Sound PP:=fk (fn:=Tryz.f213) (Bb8 _ n)

def f197 (n:Nat) (a0:Bool) (a1 a2:LI):Option Rq :=
 ob (f213 n a1 a2) λb =>
 ob (f217 n a1 b) λa =>
 ob (f217 n a2 b) λc =>
 bif a0 then
  some ((decide ((a.1.length:Int)>0)),a.1,c.1)
 else
  some (false,a.1,c.1)
def Ow (n:Nat):Ent:=⟨197,[.bool,hIs,hIs],[hR],λx=>f197 n x.1 x.2.1 x.2.2⟩
def Bbo (α:Type) (n:Nat):D3 α:={ reg:=[(1,⟨0,[],[(2,{ ent:=some (Ah5 n) })]⟩),(2,⟨0,[],[(2,{ ent:=some (A7c n) })]⟩),(3,⟨0,[],[(2,{ ent:=some (A7c n) })]⟩)],join:=[],loop:=[] }
theorem Nf (n:Nat):(Ow n).Sound PP:=B0 (fn:=Tryz.f197) (D:=Bbo _ n) ⟨An0 n,Aa4 n,Aa4 n,trivial⟩

def f176 (n:Nat) (a0 a1:Int):Option (Rq × Int) :=
 ob (f181 n a0 (-1000000000) 1000000000) λc =>
 bif (!c) then
  some ((false,[],[]),4)
 else
  ob (f181 n a1 (-1000000000) 1000000000) λd =>
  bif (!d) then
   some ((false,[],[]),4)
  else
   bif (a1==0) then
    some ((false,[],[]),9)
   else
    ob (f131 n a0) λa =>
    ob (f131 n a1) λb =>
    ob (f197 n (!(a.1==b.1)) a.2.1 b.2.1) λe =>
    some (e,0)
def Awl (n:Nat):Ent:=⟨176,[hI,hI],[hR,hI],λx=>f176 n x.1 x.2⟩
def Bc6 (α:Type) (n:Nat):D3 α:={ reg:=[(1,⟨0,[],[(1,{ ent:=some (Ex n) }),(5,{ ent:=some (Ex n) })]⟩),(5,⟨0,[],[(1,{ ent:=some (C2 n) })]⟩),(6,⟨0,[],[(1,{ ent:=some (C2 n) })]⟩),(7,⟨0,[],[(9,{ ent:=some (Ow n) })]⟩)],join:=[],loop:=[] }
theorem B6v (n:Nat):(Awl n).Sound PP:=B0 (fn:=Tryz.f176) (D:=Bc6 _ n) ⟨Dy n,Dy n,D2 n,D2 n,Nf n,trivial⟩

def Qk (n:Nat) (a0:LI × Int × Int):Option (Rq × (LI × Int × Int)) :=
 ob (Dr n a0 21) λa =>
 ob (Dr n a.2 6) λb =>
 ob (f176 n (W (a.1-10)) (W (1+b.1))) λc =>
 some (c.1,b.2)
def Aoi (n:Nat):Ent3:=⟨110,[.one (.ptr 126 (.st (.pair (.sl (.int .u8)) (.pair hI hI))))],[[.im hR]],λx=>Qk n x,[]⟩
def B8l (α:Type) (n:Nat):D3 α:={ reg:=[(1,⟨0,[],[(1,{ entB:=some (Fu n),hb:=310 }),(4,{ entB:=some (Fu n),hb:=320 }),(6,{ ent:=some (Awl n) })]⟩)],join:=[],loop:=[] }
theorem B2w (n:Nat):(Aoi n).Sound PP:=A2n (fn:=Tryz.f110) (D:=B8l _ n) ⟨F8 n,F8 n,B6v n,trivial⟩

def Tc {α:Type} (n:Nat) (c d:Int) (b:LR) (e:LI) (g h:Int) (f:Int->Int->LR->LI->Int->Int->Option α) (k0:LR->LI->Int->Int->Option α):Option α :=
 bif (decide (d<c)) then
  ob (Qk n (e,g,h)) λa =>
  gd (decide ((b.length+1)*56<=140737488355328)) (
   f c (W (d+1)) (b++[a.1]) a.2.1 a.2.2.1 a.2.2.2)
 else
  k0 b e g h
abbrev Tb:Tm:=⟨[(0,.k (.hp 1000 0 0)),(1,.d hI),(5,.k (.hw 7)),(6,.d hI)],[(7,.arr 54 hR false),(1000,.var 126 true false [.d (.sl (.int .u8)),.d hI,.d hI])],[16],[]⟩
abbrev Auw:Tm:=⟨[(5,.k (.hw 7))],[(7,.arr 54 hR false),(1000,.var 126 true false [.d (.sl (.int .u8)),.d hI,.d hI])],[],[]⟩
abbrev A2s:List (Exit × Tm):=[(.exit 0,Auw)]
def A2r {α:Type} (n:Nat) (v:Tb.den) (f:Tb.den->Option α) (ks:KS α A2s):Option α:=Tc n v.1.2.1 v.1.2.2.2.1 v.2.1 v.2.2.1.1 v.2.2.1.2.1 v.2.2.1.2.2.1 (λa b c d e g=>f (((),a,(),b,()),(c,(d,e,g,()),()))) (λw0 w1 w2 w3=>ks.1 (((),()),(w0,(w1,w2,w3,()),())))
def K6 {α:Type} (n m:Nat) (a b:Int) (c:LR) (d:LI) (e f:Int) (k0:LR->LI->Int->Int->Option α):Option α:=A5 (A2r n) m (((),a,(),b,()),(c,(d,e,f,()),())) (λw=>k0 w.2.1 w.2.2.1.1 w.2.2.1.2.1 w.2.2.1.2.2.1,())
theorem Ac2 {α n m a b c d e f k0}:K6 (α:=α) n (m+1) a b c d e f k0=Tc n a b c d e f (λa b c d e f=>K6 n m a b c d e f k0) k0:=rfl
def Aq9 (n:Nat) (a0:LI × Int × Int) (a1:Int):Option (LR × (LI × Int × Int)) :=
 K6 n n a1 0 [] a0.1 a0.2.1 a0.2.2
  (λa b c d=>(
   some (a,(b,c,d))))
def Aux (n:Nat):Ent3:=⟨59,[.one (.ptr 126 (.st (.pair (.sl (.int .u8)) (.pair hI hI)))),.im hI],[[.im hRs]],λx=>Aq9 n x.1 x.2,[]⟩
def Agw (α:Type) (n:Nat):D3 α:={ reg:=[(1,⟨0,[],[(0,{ sh:=some hR })]⟩),(5,⟨0,[],[(2,{ entB:=some (Aoi n),hb:=310 }),(3,{ sh:=some hR })]⟩)],join:=[],loop:=[(3,⟨Tb,A2s,A5 (A2r n) n⟩)] }
theorem Ac1 (α:Type) (n:Nat):Ao PP (Ag (Agw α n).reg):=⟨B2w n,trivial⟩
theorem Aq8 (α:Type) (n:Nat):LO.Sound (α:=α) PP ⟨19,[]⟩ ⟨Tb,A2s,A5 (A2r n) n⟩ (.loop ((A1 Tryz.f59).at [1,1,0,1,0,0])):=C5 (D:=Agw α n) (Ac1 α n) n
theorem Bam (α:Type) (n:Nat):D3.OK PP TT ⟨19,[]⟩ (Agw α n) (A1 Tryz.f59) :=
 D3.OK.mk3 (Ac1 α n) (show Ab (A1 Tryz.f59)=[(3,(.loop ((A1 Tryz.f59).at [1,1,0,1,0,0])))] by kernel_rfl) ⟨Ac rfl (Aq8 α n),trivial⟩
theorem B5m (n:Nat):(Aux n).Sound PP:=fkB (fn:=Tryz.f59) (Bam _ n)

def f21 (n:Nat) (a0:LI) (a1:Int):Option LR :=
 ob (A9z n a0) λa =>
 ob (Aq9 n a a1) λb =>
 some b.1
def Aqd (n:Nat):Ent:=⟨21,[(.sl (.int .u8)),hI],[hRs],λx=>f21 n x.1 x.2⟩
def Bfb (α:Type) (n:Nat):D3 α:={ reg:=[(1,⟨0,[],[(1,{ entB:=some (Agx n),hb:=310 }),(3,{ entB:=some (Aux n),hb:=320 })]⟩)],join:=[],loop:=[] }
theorem Av3 (n:Nat):(Aqd n).Sound PP:=B0 (fn:=Tryz.f21) (D:=Bfb _ n) ⟨Amv n,B5m n,trivial⟩

def A5c {α:Type} (n:Nat) (c:Int) (b:LI) (d a:Int) (f:Int->LI->Int->Int->Option α) (k0:Int->Option α) (k1:Unit->Option α):Option α :=
 bif (decide (a<d)) then
  gd (decide (0<=a)&&decide (a<(b.length:Int))) (
   bif (decide ((b.getD a.toNat 0)>c)) then
    k0 2
   else
    f c b d (W (a+1)))
 else
  k1 ()
abbrev Un:Tm:=⟨[(0,.d hI),(7,.d hIs),(8,.d hI),(9,.d hI)],[],[],[]⟩
abbrev Ayh:Tm:=⟨[(4,.d hI)],[],[],[]⟩
abbrev Ayg:Tm:=⟨[],[],[],[]⟩
abbrev A5b:List (Exit × Tm):=[(.ret,Ayh),(.exit 0,Ayg)]
def A5a {α:Type} (n:Nat) (v:Un.den) (f:Un.den->Option α) (ks:KS α A5b):Option α:=A5c n v.1.1 v.1.2.1 v.1.2.2.1 v.1.2.2.2.1 (λa b c d=>f ((a,b,c,d,()),())) (λw0=>ks.1 ((w0,()),())) (λ_=>ks.2.1 ((),()))
def S6 {α:Type} (n m:Nat) (a:Int) (b:LI) (c d:Int) (k0:Int->Option α) (k1:Unit->Option α):Option α:=A5 (A5a n) m ((a,b,c,d,()),()) (λw=>k0 w.1.1,λw=>k1 (),())
theorem Ayf {α n m a b c d k0 k1}:S6 (α:=α) n (m+1) a b c d k0 k1=A5c n a b c d (λa b c d=>S6 n m a b c d k0 k1) k0 k1:=rfl
def f122 (n:Nat) (a0:Int) (a1:LI):Option Int :=
 S6 n n a0 a1 (a1.length:Int) 0
  (λa=>(
   some a))
  (λ(_:Unit)=>(
   some 0))
def Ayi (n:Nat):Ent:=⟨122,[hI,hIs],[hI],λx=>f122 n x.1 x.2⟩
def Aiz (α:Type) (n:Nat):D3 α:={ reg:=[],join:=[],loop:=[(2,⟨Un,A5b,A5 (A5a n) n⟩)] }
theorem Ad3 (α:Type) (n:Nat):Ao PP (Ag (Aiz α n).reg):=trivial
theorem As0 (α:Type) (n:Nat):LO.Sound (α:=α) PP ⟨17,[]⟩ ⟨Un,A5b,A5 (A5a n) n⟩ (.loop ((A1 Tryz.f122).at [1,0,1,0,0])):=C5 (D:=Aiz α n) (Ad3 α n) n
theorem Bd8 (α:Type) (n:Nat):D3.OK PP TT ⟨17,[]⟩ (Aiz α n) (A1 Tryz.f122) :=
 D3.OK.mk3 (Ad3 α n) (show Ab (A1 Tryz.f122)=[(2,(.loop ((A1 Tryz.f122).at [1,0,1,0,0])))] by kernel_rfl) ⟨Ac rfl (As0 α n),trivial⟩
theorem B89 (n:Nat):(Ayi n).Sound PP:=fk (fn:=Tryz.f122) (Bd8 _ n)

def A9q {α:Type} (n:Nat) (b:List LR) (d a:Int) (c:LI) (f:(List LR)->Int->Int->LI->Option α) (k0:LI->Option α):Option α :=
 bif (decide (a<d)) then
  gd (decide (0<=a)&&decide (a<(b.length:Int))) (
   gd (decide ((c.length+1)*8<=140737488355328)) (
    f b d (W (a+1)) (c++[(((b.getD a.toNat []).length:Nat):Int)])))
 else
  k0 c
abbrev Zy:Tm:=⟨[(3,.k (.hw 6)),(7,.d (.sl hRs)),(8,.d hI),(9,.d hI)],[(6,.arr 3 hI false)],[16],[]⟩
abbrev B1i:Tm:=⟨[(3,.k (.hw 6))],[(6,.arr 3 hI false)],[],[]⟩
abbrev A9p:List (Exit × Tm):=[(.exit 0,B1i)]
def A9o {α:Type} (n:Nat) (v:Zy.den) (f:Zy.den->Option α) (ks:KS α A9p):Option α:=A9q n v.1.2.1 v.1.2.2.1 v.1.2.2.2.1 v.2.1 (λa b c d=>f (((),a,b,c,()),(d,()))) (λw0=>ks.1 (((),()),(w0,())))
def Xn {α:Type} (n m:Nat) (a:List LR) (b c:Int) (d:LI) (k0:LI->Option α):Option α:=A5 (A9o n) m (((),a,b,c,()),(d,())) (λw=>k0 w.2.1,())
theorem B1h {α n m a b c d k0}:Xn (α:=α) n (m+1) a b c d k0=A9q n a b c d (λa b c d=>Xn n m a b c d k0) k0:=rfl
def f71 (n:Nat) (a0:List LR):Option Int :=
 Xn n n a0 (a0.length:Int) 0 []
  (λa=>(
   ob (f122 n 4096 a) λb =>
   some b))
def Ht (n:Nat):Ent:=⟨71,[(.sl hRs)],[hI],λx=>f71 n x⟩
def Aq2 (α:Type) (n:Nat):D3 α:={ reg:=[(1,⟨0,[],[(0,{ sh:=some hI })]⟩),(5,⟨0,[],[(3,{ sh:=some hI })]⟩),(7,⟨0,[],[(1,{ ent:=some (Ayi n) })]⟩)],join:=[],loop:=[(3,⟨Zy,A9p,A5 (A9o n) n⟩)] }
theorem Ago (α:Type) (n:Nat):Ao PP (Ag (Aq2 α n).reg):=⟨B89 n,trivial⟩
theorem Auo (α:Type) (n:Nat):LO.Sound (α:=α) PP ⟨21,[]⟩ ⟨Zy,A9p,A5 (A9o n) n⟩ (.loop ((A1 Tryz.f71).at [1,1,0,1,0,0])):=C5 (D:=Aq2 α n) (Ago α n) n
theorem Bes (α:Type) (n:Nat):D3.OK PP TT ⟨21,[]⟩ (Aq2 α n) (A1 Tryz.f71) :=
 D3.OK.mk3 (Ago α n) (show Ab (A1 Tryz.f71)=[(3,(.loop ((A1 Tryz.f71).at [1,1,0,1,0,0])))] by kernel_rfl) ⟨Ac rfl (Auo α n),trivial⟩
theorem Agm (n:Nat):(Ht n).Sound PP:=fk (fn:=Tryz.f71) (Bes _ n)

def f177 (n:Nat) (a0 a1 a2:Int):Option Bool :=
 bif (decide (a1<=a0)) then
  some (decide (a0<=a2))
 else
  some false
def Oy (n:Nat):Ent:=⟨177,[hI,hI,hI],[.bool],λx=>f177 n x.1 x.2.1 x.2.2⟩
def Bc5 (α:Type) (n:Nat):D3 α:={ reg:=[],join:=[],loop:=[] }
theorem Nj (n:Nat):(Oy n).Sound PP:=B0 (fn:=Tryz.f177) (D:=Bc5 _ n) trivial

def f223 (n:Nat) (a0:Nq):Option Bool :=
 bif (a0.1==1) then
  ob (f177 n a0.2.2.2 0 999999999) λa =>
  some a
 else
  bif (a0.1==2) then
   ob (f177 n a0.2.2.2 0 3) λb =>
   some b
  else
   bif (a0.1==8) then
    ob (f177 n a0.2.2.2 0 8) λc =>
    some c
   else
    some (a0.2.2.2==0)
def Av2 (n:Nat):Ent:=⟨223,[hN],[.bool],λx=>f223 n x⟩
def Bb0 (α:Type) (n:Nat):D3 α:={ reg:=[(3,⟨0,[],[(2,{ ent:=some (Oy n) })]⟩),(5,⟨0,[],[(2,{ ent:=some (Oy n) })]⟩),(7,⟨0,[],[(2,{ ent:=some (Oy n) })]⟩)],join:=[],loop:=[] }
theorem B5q (n:Nat):(Av2 n).Sound PP:=B0 (fn:=Tryz.f223) (D:=Bb0 _ n) ⟨Nj n,Nj n,Nj n,trivial⟩

def f61 (n:Nat) (a0:Nq):Option Int :=
 bif (a0.1==3) then
  some 2
 else
  bif (a0.1==4) then
   some 2
  else
   bif (a0.1==5) then
    some 2
   else
    bif (a0.1==6) then
     some 2
    else
     bif (a0.1==7) then
      some 1
     else
      bif (a0.1==8) then
       some 1
      else
       some 0
def A02 (n:Nat):Ent:=⟨61,[hN],[hI],λx=>f61 n x⟩
def Bey (α:Type) (n:Nat):D3 α:={ reg:=[],join:=[],loop:=[] }
theorem Xp (n:Nat):(A02 n).Sound PP:=B0 (fn:=Tryz.f61) (D:=Bey _ n) trivial

def f224 (n:Nat) (a0:Bool) (a1 a2:Int):Option Bool :=
 bif a0 then
  ob (f177 n a1 0 (W (a2-1))) λa =>
  bif a then
   some true
  else
   bif (!a0) then
    some (a1==0)
   else
    some false
 else
  bif (!a0) then
   some (a1==0)
  else
   some false
def Ah1 (n:Nat):Ent:=⟨224,[.bool,hI,(.ref hI)],[.bool],λx=>f224 n x.1 x.2.1 x.2.2⟩
def Baz (α:Type) (n:Nat):D3 α:={ reg:=[(1,⟨0,[],[(5,{ ent:=some (Oy n) })]⟩)],join:=[],loop:=[] }
theorem Amy (n:Nat):(Ah1 n).Sound PP:=B0 (fn:=Tryz.f224) (D:=Baz _ n) ⟨Nj n,trivial⟩

def f211 (n:Nat) (a0:Nq) (a1:Int):Option Bool :=
 ob (f177 n a0.1 1 8) λa =>
 bif (!a) then
  some false
 else
  ob (f223 n a0) λb =>
  bif (!b) then
   some false
  else
   ob (f61 n a0) λc =>
   ob (f224 n (decide (c>0)) a0.2.1 a1) λd =>
   bif d then
    ob (f61 n a0) λe =>
    ob (f224 n (decide (e>1)) a0.2.2.1 a1) λf =>
    some f
   else
    some false
def Avh (n:Nat):Ent:=⟨211,[hN,hI],[.bool],λx=>f211 n x.1 x.2⟩
def Bba (α:Type) (n:Nat):D3 α:={ reg:=[(1,⟨0,[],[(2,{ ent:=some (Oy n) }),(6,{ ent:=some (Av2 n) })]⟩),(3,⟨0,[],[(0,{ sh:=some (.ref hI) })]⟩),(4,⟨14,[],[(2,{ ent:=some (A02 n) }),(6,{ ent:=some (Ah1 n) }),(10,{ ent:=some (A02 n) }),(14,{ ent:=some (Ah1 n) })]⟩)],join:=[],loop:=[] }
theorem B5z (n:Nat):(Avh n).Sound PP:=B0 (fn:=Tryz.f211) (D:=Bba _ n) ⟨Nj n,B5q n,Xp n,Amy n,Xp n,Amy n,trivial⟩

def Ox {α:Type} (n:Nat) (e:LN) (h d:Int) (b c:LI) (f:LN->Int->Int->LI->LI->Option α) (k0:Bool->Option α) (k1:LI->LI->Option α):Option α :=
 bif (decide (d<h)) then
  gd (decide (0<=d)&&decide (d<(e.length:Int))) (
   let a:=e.getD d.toNat (0,0,0,0)
   ob (f211 n a d) λj =>
   bif (!j) then
    k0 false
   else
    let g:=λ(k:Int) (l:Int)=>(
     gd (decide ((b.length+1)*8<=140737488355328)) (
      gd (decide ((c.length+1)*8<=140737488355328)) (
       f e h (W (d+1)) (b++[k]) (c++[l]))))
    ob (f61 n a) λi =>
    bif (i==1) then
     bif (a.2.1 != (W (d-1))) then
      k0 false
     else
      gd (decide (0<=a.2.1)&&decide (a.2.1<(b.length:Int))) (
       gd (decide (a.2.1.toNat<b.length)) (
        gd (decide (0<=a.2.1)&&decide (a.2.1<(c.length:Int))) (
         gd (decide (a.2.1.toNat<c.length)) (
          g (b.getD a.2.1.toNat 0) (W ((c.getD a.2.1.toNat 0)+1))))))
    else
     bif (i==2) then
      bif (a.2.2.1 != (W (d-1))) then
       k0 false
      else
       gd (decide (0<=a.2.2.1)&&decide (a.2.2.1<(b.length:Int))) (
        gd (decide (a.2.2.1.toNat<b.length)) (
         bif (a.2.1 != (W ((b.getD a.2.2.1.toNat 0)-1))) then
          k0 false
         else
          gd (decide (0<=a.2.1)&&decide (a.2.1<(b.length:Int))) (
           gd (decide (a.2.1.toNat<b.length)) (
            gd (decide (0<=a.2.1)&&decide (a.2.1<(c.length:Int))) (
             gd (decide (a.2.1.toNat<c.length)) (
              gd (decide (0<=a.2.2.1)&&decide (a.2.2.1<(c.length:Int))) (
               gd (decide (a.2.2.1.toNat<c.length)) (
                g (b.getD a.2.1.toNat 0) (W ((max (c.getD a.2.1.toNat 0) (c.getD a.2.2.1.toNat 0))+1))))))))))
     else
      g d 1)
 else
  k1 b c
abbrev U4:Tm:=⟨[(5,.k (.hw 11)),(6,.k (.hw 12)),(13,.d hNs),(14,.d hI),(15,.d hI)],[(11,.arr 3 hI false),(12,.arr 3 hI false)],[82,86],[]⟩
abbrev Awj:Tm:=⟨[(2,.d .nil),(3,.d .nil),(4,.d .bool)],[],[8,11,12],[]⟩
abbrev Awi:Tm:=⟨[(5,.k (.hw 11)),(6,.k (.hw 12))],[(11,.arr 3 hI false),(12,.arr 3 hI false)],[],[]⟩
abbrev A44:List (Exit × Tm):=[(.ret,Awj),(.exit 0,Awi)]
def A43 {α:Type} (n:Nat) (v:U4.den) (f:U4.den->Option α) (ks:KS α A44):Option α:=Ox n v.1.2.2.1 v.1.2.2.2.1 v.1.2.2.2.2.1 v.2.1 v.2.2.1 (λa b c d e=>f (((),(),a,b,c,()),(d,e,()))) (λw0=>ks.1 (((),(),w0,()),())) (λw0 w1=>ks.2.1 (((),(),()),(w0,w1,())))
def A0g {α:Type} (n m:Nat) (a:LN) (b c:Int) (d e:LI) (k0:Bool->Option α) (k1:LI->LI->Option α):Option α:=A5 (A43 n) m (((),(),a,b,c,()),(d,e,())) (λw=>k0 w.1.2.2.1,λw=>k1 w.2.1 w.2.2.1,())
theorem Ack {α n m a b c d e k0 k1}:A0g (α:=α) n (m+1) a b c d e k0 k1=Ox n a b c d e (λa b c d e=>A0g n m a b c d e k0 k1) k0 k1:=rfl
abbrev B23:Tm:=⟨[(5,.k (.hw 11)),(6,.k (.hw 12)),(9,.d hI),(10,.d hI),(13,.d hNs),(14,.d hI),(15,.d hI)],[(11,.arr 3 hI false),(12,.arr 3 hI false)],[8],[]⟩
def f178 (n:Nat) (a0:LN):Option (LI × LI × Bool) :=
 A0g n n a0 (a0.length:Int) 0 [] []
  (λa=>(
   some ([],[],a)))
  (λb c=>(
   some (b,c,true)))
def Awk (n:Nat):Ent:=⟨178,[hNs],[hIs,hIs,.bool],λx=>f178 n x⟩
def Ahu (α:Type) (n:Nat):D3 α:={ reg:=[(1,⟨0,[],[(0,{ sh:=some hI }),(1,{ sh:=some hI })]⟩),(5,⟨0,[],[(2,{ ent:=some (Avh n) })]⟩),(8,⟨0,[],[(1,{ ent:=some (A02 n) })]⟩),(12,⟨12,[],[]⟩),(14,⟨14,[],[]⟩),(16,⟨18,[],[]⟩),(17,⟨0,[],[(2,{ sh:=some hI }),(6,{ sh:=some hI })]⟩)],join:=[(17,B23)],loop:=[(3,⟨U4,A44,A5 (A43 n) n⟩)] }
theorem Acj (α:Type) (n:Nat):Ao PP (Ag (Ahu α n).reg):=⟨B5z n,Xp n,trivial⟩
theorem Ar2 (α:Type) (n:Nat):LO.Sound (α:=α) PP ⟨91,[]⟩ ⟨U4,A44,A5 (A43 n) n⟩ (.loop ((A1 Tryz.f178).at [1,1,0,1,0,0])):=C5 (D:=Ahu α n) (Acj α n) n
theorem Bc4 (α:Type) (n:Nat):D3.OK PP TT ⟨91,[]⟩ (Ahu α n) (A1 Tryz.f178) :=
 D3.OK.mk3 (Acj α n) (show Ab (A1 Tryz.f178)=[(3,(.loop ((A1 Tryz.f178).at [1,1,0,1,0,0])))] by kernel_rfl) ⟨Ac rfl (Ar2 α n),trivial⟩
theorem B6t (n:Nat):(Awk n).Sound PP:=fk (fn:=Tryz.f178) (Bc4 _ n)

def U3 {α:Type} (n:Nat) (b:LI) (c a:Int) (f:LI->Int->Int->Option α) (k0:Int->Option α):Option α :=
 bif (decide (a<(b.length:Int))) then
  gd (decide (0<=a)&&decide (a<(b.length:Int))) (
   f b (max c (b.getD a.toNat 0)) (W (a+1)))
 else
  k0 c
abbrev U2:Tm:=⟨[(0,.d hIs),(3,.d hI),(4,.d hI)],[],[],[]⟩
abbrev Awg:Tm:=⟨[(3,.d hI)],[],[],[]⟩
abbrev A42:List (Exit × Tm):=[(.exit 0,Awg)]
def A41 {α:Type} (n:Nat) (v:U2.den) (f:U2.den->Option α) (ks:KS α A42):Option α:=U3 n v.1.1 v.1.2.1 v.1.2.2.1 (λa b c=>f ((a,b,c,()),())) (λw0=>ks.1 ((w0,()),()))
def A0f {α:Type} (n m:Nat) (a:LI) (b c:Int) (k0:Int->Option α):Option α:=A5 (A41 n) m ((a,b,c,()),()) (λw=>k0 w.1.1,())
theorem Aci {α n m a b c k0}:A0f (α:=α) n (m+1) a b c k0=U3 n a b c (λa b c=>A0f n m a b c k0) k0:=rfl
def f179 (n:Nat) (a0:LI):Option Int :=
 bif (decide ((a0.length:Int)<1)) then
  none
 else
  gd (decide (0<(a0.length:Int))) (
   A0f n n a0 (a0.getD 0 0) 1
    (λa=>(
     some a)))
def Awh (n:Nat):Ent:=⟨179,[hIs],[hI],λx=>f179 n x⟩
def Aht (α:Type) (n:Nat):D3 α:={ reg:=[],join:=[],loop:=[(5,⟨U2,A42,A5 (A41 n) n⟩)] }
theorem Ach (α:Type) (n:Nat):Ao PP (Ag (Aht α n).reg):=trivial
theorem Ar1 (α:Type) (n:Nat):LO.Sound (α:=α) PP ⟨25,[]⟩ ⟨U2,A42,A5 (A41 n) n⟩ (.loop ((A1 Tryz.f179).at [1,1,1,0,1,0,0])):=C5 (D:=Aht α n) (Ach α n) n
theorem Bc3 (α:Type) (n:Nat):D3.OK PP TT ⟨25,[]⟩ (Aht α n) (A1 Tryz.f179) :=
 D3.OK.mk3 (Ach α n) (show Ab (A1 Tryz.f179)=[(5,(.loop ((A1 Tryz.f179).at [1,1,1,0,1,0,0])))] by kernel_rfl) ⟨Ac rfl (Ar1 α n),trivial⟩
theorem B6r (n:Nat):(Awh n).Sound PP:=fk (fn:=Tryz.f179) (Bc3 _ n)

def f112 (n:Nat) (a0:LN):Option Bool :=
 ob (f177 n (a0.length:Int) 1 60) λb =>
 bif (!b) then
  some false
 else
  ob (f178 n a0) λa =>
  bif a.2.2 then
   gd (decide (0<=(W ((a0.length:Int)-1)))&&decide ((W ((a0.length:Int)-1))<(a.1.length:Int))) (
    bif ((a.1.getD ((W ((a0.length:Int)-1)).toNat) 0)==0) then
     ob (f179 n a.2.1) λc =>
     some (decide (c<=12))
    else
     some false)
  else
   some false
def Ayw (n:Nat):Ent:=⟨112,[hE],[.bool],λx=>f112 n x⟩
def Bdf (α:Type) (n:Nat):D3 α:={ reg:=[(2,⟨0,[],[(1,{ ent:=some (Oy n) })]⟩),(4,⟨0,[],[(2,{ ent:=some (Awk n) })]⟩),(5,⟨0,[],[(11,{ ent:=some (Awh n) })]⟩)],join:=[],loop:=[] }
theorem B8i (n:Nat):(Ayw n).Sound PP:=B0 (fn:=Tryz.f112) (D:=Bdf _ n) ⟨Nj n,B6t n,B6r n,trivial⟩

def f111 (n:Nat) (a0:Bool) (a1:Int):Option Int :=
 bif a0 then
  some 0
 else
  some a1
def Gd (n:Nat):Ent:=⟨111,[.bool,hI],[hI],λx=>f111 n x.1 x.2⟩
def Bdg (α:Type) (n:Nat):D3 α:={ reg:=[],join:=[],loop:=[] }
theorem Np (n:Nat):(Gd n).Sound PP:=B0 (fn:=Tryz.f111) (D:=Bdg _ n) trivial

def f60 (n:Nat) (a0:LN):Option Int :=
 ob (f112 n a0) λa =>
 ob (f111 n a 1) λb =>
 some b
def A03 (n:Nat):Ent:=⟨60,[hE],[hI],λx=>f60 n x⟩
def Bez (α:Type) (n:Nat):D3 α:={ reg:=[(1,⟨0,[],[(1,{ ent:=some (Ayw n) }),(2,{ ent:=some (Gd n) })]⟩)],join:=[],loop:=[] }
theorem Bak (n:Nat):(A03 n).Sound PP:=B0 (fn:=Tryz.f60) (D:=Bez _ n) ⟨B8i n,Np n,trivial⟩

def f227 (n:Nat) (a0:Int):Option Bool :=
 bif (decide (a0<0)) then
  some true
 else
  some (decide (a0>=10000))
def Av1 (n:Nat):Ent:=⟨227,[hI],[.bool],λx=>f227 n x⟩
def Bax (α:Type) (n:Nat):D3 α:={ reg:=[],join:=[],loop:=[] }
theorem B5o (n:Nat):(Av1 n).Sound PP:=B0 (fn:=Tryz.f227) (D:=Bax _ n) trivial

def Oe {α:Type} (n:Nat) (b:LI) (c a:Int) (f:LI->Int->Int->Option α) (k0:Int->Option α) (k1:Unit->Option α):Option α :=
 bif (decide (a<c)) then
  gd (decide (0<=a)&&decide (a<(b.length:Int))) (
   ob (f227 n (b.getD a.toNat 0)) λd =>
   bif d then
    k0 a
   else
    f b c (W (a+1)))
 else
  k1 ()
abbrev J3:Tm:=⟨[(0,.d hIs),(1,.d (.fn 227)),(7,.d hI),(8,.d hI)],[],[],[]⟩
abbrev Adq:Tm:=⟨[(4,.d hI)],[],[],[]⟩
abbrev Adp:Tm:=⟨[],[],[],[]⟩
abbrev Od:List (Exit × Tm):=[(.ret,Adq),(.exit 0,Adp)]
def Oc {α:Type} (n:Nat) (v:J3.den) (f:J3.den->Option α) (ks:KS α Od):Option α:=Oe n v.1.1 v.1.2.2.1 v.1.2.2.2.1 (λa b c=>f ((a,(),b,c,()),())) (λw0=>ks.1 ((w0,()),())) (λ_=>ks.2.1 ((),()))
def Hh {α:Type} (n m:Nat) (a:LI) (b c:Int) (k0:Int->Option α) (k1:Unit->Option α):Option α:=A5 (Oc n) m ((a,(),b,c,()),()) (λw=>k0 w.1.1,λw=>k1 (),())
theorem Ado {α n m a b c k0 k1}:Hh (α:=α) n (m+1) a b c k0 k1=Oe n a b c (λa b c=>Hh n m a b c k0 k1) k0 k1:=rfl
def A2t (n:Nat) (a0:LI) (a1:Unit):Option Int :=
 Hh n n a0 (a0.length:Int) 0
  (λa=>(
   some a))
  (λ(_:Unit)=>(
   some (-1)))
def A7a (n:Nat):Ent:=⟨228,[hIs,(.fn 227)],[hI],λx=>A2t n x.1 x.2⟩
def Td (α:Type) (n:Nat):D3 α:={ reg:=[(4,⟨0,[],[(5,{ ent:=some (Av1 n) })]⟩)],join:=[],loop:=[(2,⟨J3,Od,A5 (Oc n) n⟩)] }
theorem Vv (α:Type) (n:Nat):Ao PP (Ag (Td α n).reg):=⟨B5o n,trivial⟩
theorem Aa3 (α:Type) (n:Nat):LO.Sound (α:=α) PP ⟨19,[]⟩ ⟨J3,Od,A5 (Oc n) n⟩ (.loop ((A1 Tryz.f228).at [1,0,1,0,0])):=C5 (D:=Td α n) (Vv α n) n
theorem Aqb (α:Type) (n:Nat):D3.OK PP TT ⟨19,[]⟩ (Td α n) (A1 Tryz.f228) :=
 D3.OK.mk3 (Vv α n) (show Ab (A1 Tryz.f228)=[(2,(.loop ((A1 Tryz.f228).at [1,0,1,0,0])))] by kernel_rfl) ⟨Ac rfl (Aa3 α n),trivial⟩
theorem Akx (n:Nat):(A7a n).Sound PP:=fk (fn:=Tryz.f228) (Aqb _ n)

def Of (n:Nat) (a0:LI) (a1:Unit):Option Bool :=
 ob (A2t n a0 a1) λa =>
 some (decide (a>=0))
def A7b (n:Nat):Ent:=⟨226,[hIs,(.fn 227)],[.bool],λx=>Of n x.1 x.2⟩
def Aqc (α:Type) (n:Nat):D3 α:={ reg:=[(1,⟨0,[],[(2,{ ent:=some (A7a n) })]⟩)],join:=[],loop:=[] }
theorem Aky (n:Nat):(A7b n).Sound PP:=B0 (fn:=Tryz.f226) (D:=Aqc _ n) ⟨Akx n,trivial⟩

def f225 (n:Nat) (a0:LI):Option Bool :=
 bif (decide ((a0.length:Int)>40)) then
  some false
 else
  bif (decide ((a0.length:Int)>0)) then
   gd (decide (0<=(W ((a0.length:Int)-1)))&&decide ((W ((a0.length:Int)-1))<(a0.length:Int))) (
    bif ((a0.getD ((W ((a0.length:Int)-1)).toNat) 0)==0) then
     some false
    else
     ob (Of n a0 ()) λa =>
     some (!a))
  else
   ob (Of n a0 ()) λb =>
   some (!b)
def Ah0 (n:Nat):Ent:=⟨225,[hIs],[.bool],λx=>f225 n x⟩
def Bay (α:Type) (n:Nat):D3 α:={ reg:=[(4,⟨0,[],[(1,{ ent:=some (A7b n) })]⟩)],join:=[],loop:=[] }
theorem Amw (n:Nat):(Ah0 n).Sound PP:=B0 (fn:=Tryz.f225) (D:=Bay _ n) ⟨Aky n,trivial⟩

def f168 (n:Nat) (a0:Rq):Option Bool :=
 some ((a0.2.1.length:Int)==0)
def P5 (n:Nat):Ent:=⟨168,[hR],[.bool],λx=>f168 n x⟩
def Bcb (α:Type) (n:Nat):D3 α:={ reg:=[],join:=[],loop:=[] }
theorem Nl (n:Nat):(P5 n).Sound PP:=B0 (fn:=Tryz.f168) (D:=Bcb _ n) trivial

def f205 (n:Nat) (a0:LI):Option LI :=
 some a0
def Ahc (n:Nat):Ent:=⟨205,[hIs],[(.clo 220 (.ref hIs))],λx=>f205 n x⟩
def Bbh (α:Type) (n:Nat):D3 α:={ reg:=[(1,⟨0,[],[(0,{ sh:=some (.ref hIs) })]⟩)],join:=[],loop:=[] }
theorem An8 (n:Nat):(Ahc n).Sound PP:=B0 (fn:=Tryz.f205) (D:=Bbh _ n) trivial

def A4k {α:Type} (n:Nat) (i:Nat) (z:Int) (b:LI) (a:LI) (c:Int) (f:LI->LI->Int->Option α) (k0:Int->Option α) (k1:Int->Option α):Option α :=
 gd (decide (0<=(i:Int))&&decide ((i:Int)<(a.length:Int))) (
  bif (z != (a.getD ((i:Int).toNat) 0)) then
   gd (decide (0<=(i:Int))&&decide ((i:Int)<(a.length:Int))) (
    bif (decide (z<(a.getD ((i:Int).toNat) 0))) then
     k1 (-1)
    else
     k1 1)
  else
   f b a c)
abbrev Kf:Tm:=⟨[(3,.k (.hp 3 0 0)),(4,.k (.hp 4 0 0)),(18,.d (.clo 220 (.ref hIs)))],[(3,.var 52 true false [.d hIs]),(4,.var 3 true false [.d hI])],[],[]⟩
abbrev Axh:Tm:=⟨[(4,.k (.hp 4 0 0))],[(4,.var 3 true false [.d hI])],[3],[]⟩
abbrev Axg:Tm:=⟨[(4,.k (.hp 4 0 0))],[(4,.var 3 true false [.d hI])],[3],[]⟩
abbrev Uc:List (Exit × Tm):=[(.normal,Axh),(.ret,Axg)]
def P6 (v:Kf.den):List Int:=(λa b c=>a) v.1.2.2.1 v.2.1.1 v.2.2.1.1
def P7 {α:Type} (n:Nat) (i:Nat) (z:Int) (v:Kf.den) (f:Kf.den->Option α) (ks:KS α Uc):Option α:=A4k n i z v.1.2.2.1 v.2.1.1 v.2.2.1.1 (λa b c=>f (((),(),a,()),((b,()),(c,()),()))) (λw0=>ks.1 (((),()),((w0,()),()))) (λw0=>ks.2.1 (((),()),((w0,()),())))
def P9 {α:Type} (v:Kf.den) (ks:KS α Uc):Option α:=(λb c a=>ks.1 (((),()),((a,()),()))) v.1.2.2.1 v.2.1.1 v.2.2.1.1
def Aob {α:Type} (n:Nat) (a:LI) (b:LI) (c:Int) (k0:Int->Option α) (k1:Int->Option α):Option α:=O3 P6 (P7 n) P9 (((),(),a,()),((b,()),(c,()),())) (λw=>k0 w.2.1.1,λw=>k1 w.2.1.1,())
def P8 {α:Type} (n:Nat) (zs:List Int) (i:Nat) (a:LI) (b:LI) (c:Int) (k0:Int->Option α) (k1:Int->Option α):Option α:=O4 P6 (P7 n) zs i (((),(),a,()),((b,()),(c,()),())) (λv=>P9 v (λw=>k0 w.2.1.1,λw=>k1 w.2.1.1,())) (λw=>k0 w.2.1.1,λw=>k1 w.2.1.1,())
theorem Axe {α:Type} (n:Nat) (a:LI) (b:LI) (c:Int) (k0:Int->Option α) (k1:Int->Option α):Aob (α:=α) n a b c k0 k1=gd (decide (a.length<=4611686018427387904)) (P8 n a a.length a b c k0 k1):=rfl
theorem Axf {α:Type} (n:Nat) (zs:List Int) (b:LI) (c:LI) (a:Int) (k0:Int->Option α) (k1:Int->Option α):P8 (α:=α) n zs 0 b c a k0 k1=k0 a:=rfl
theorem Axd {α:Type} (n:Nat) (zs:List Int) (i:Nat) (a:LI) (b:LI) (c:Int) (k0:Int->Option α) (k1:Int->Option α):P8 (α:=α) n zs (i+1) a b c k0 k1=A4k n i (zs.getD i 0) a b c (λa b c=>gd (decide (a=zs)) (P8 n zs i a b c k0 k1)) k0 k1:=rfl
def f155 (n:Nat) (a0 a1:LI):Option Int :=
 bif ((a0.length:Int) != (a1.length:Int)) then
  bif (decide ((a0.length:Int)<(a1.length:Int))) then
   some (-1)
  else
   some 1
 else
  ob (f205 n a0) λa =>
  Aob n a a1 0
   (λc=>(
    some 0))
   (λb=>(
    some b))
def Yh (n:Nat):Ent:=⟨155,[hIs,hIs],[hI],λx=>f155 n x.1 x.2⟩
def A84 (α:Type) (n:Nat):D3 α:={ reg:=[(5,⟨0,[],[(1,{ ent:=some (Ahc n) })]⟩)],join:=[],loop:=[(6,⟨Kf,Uc,O3 P6 (P7 n) P9⟩)] }
theorem Yg (α:Type) (n:Nat):Ao PP (Ag (A84 α n).reg):=⟨An8 n,trivial⟩
theorem Ark (α:Type) (n:Nat):D3.OK PP TT ⟨33,[]⟩ (A84 α n) ((A1 Tryz.f155).at [1,1,0,1,0,0]) :=
 D3.OK.mk3 (Yg α n) (show Ab ((A1 Tryz.f155).at [1,1,0,1,0,0])=[] by kernel_rfl) trivial
theorem Arj (α:Type) (n:Nat):D3.OK PP TT ⟨33,[]⟩ (A84 α n) ((A1 Tryz.f155).at [1,1,0,1,0,1]) :=
 D3.OK.mk3 (Yg α n) (show Ab ((A1 Tryz.f155).at [1,1,0,1,0,1])=[] by kernel_rfl) trivial
theorem Ari (α:Type) (n:Nat):LO.Sound (α:=α) PP ⟨33,[]⟩ ⟨Kf,Uc,O3 P6 (P7 n) P9⟩ (.rangeFunc (.tmp 18) #[19,20] ((A1 Tryz.f155).at [1,1,0,1,0,0]) ((A1 Tryz.f155).at [1,1,0,1,0,1])) :=
 Afh (R8 _) O5 P6 (P7 n) P9 Aor rfl rfl rfl rfl (Ark α n) (Arj α n) (by intro v;rfl) (by intro i z v f ks;kernel_rfl) (by intro v ks;kernel_rfl)
theorem Bcl (α:Type) (n:Nat):D3.OK PP TT ⟨33,[]⟩ (A84 α n) (A1 Tryz.f155) :=
 D3.OK.mk3 (Yg α n) (show Ab (A1 Tryz.f155)=[(6,(.rangeFunc (.tmp 18) #[19,20] ((A1 Tryz.f155).at [1,1,0,1,0,0]) ((A1 Tryz.f155).at [1,1,0,1,0,1])))] by kernel_rfl) ⟨Ac rfl (Ari α n),trivial⟩
theorem A0m (n:Nat):(Yh n).Sound PP:=fk (fn:=Tryz.f155) (Bcl _ n)

def Arz (n:Nat) (a0:LI):Option LI :=
 gd ((!a0.isEmpty)) (
  gd (decide ((0+a0.length)*8<=140737488355328)) (
   some a0))
def B86 (n:Nat):Ent:=⟨123,[hIs],[hIs],λx=>Arz n x⟩
def B87 (α:Type) (n:Nat):D3 α:={ reg:=[(3,⟨0,[],[(0,{ sh:=some hI })]⟩)],join:=[],loop:=[] }
theorem B2s (n:Nat):(B86 n).Sound PP:=B0 (fn:=Tryz.f123) (D:=B87 _ n) trivial

set_option maxRecDepth 100000 in
set_option maxHeartbeats 2000000 in
theorem Azd (ad:Option Addr) (cap:Nat) (hc:ad=none->cap=0) (w:World):Calls Tryz.prog 123 #[.slice ad 0 cap] w λe w'=>(∃ a c,e = .returned (.slice a 0 c)/\(a=none->c=0))/\w.grownBy w' none:=by
 refine (callsIn_wide (n:=3)).1 ?_;refine callsIn_of_wp Tryz.func123 rfl trivial ?_ rfl;simp only [Tryz.ntmps123,List.size_toArray,ZH,XA,Nat.reduceAdd,Nat.reduceSub,Array.replicate_succ,Array.replicate_zero,List.push_toArray,List.append_toArray,JJ,YD];have hi:∃ i,Tryz.prog.info? 3=some i:=⟨_,rfl⟩;obtain ⟨i3,hi3⟩:=hi
 have hap:∀ (base:Option Addr) (sCap:Nat) (a:Option Addr) (cp:Nat) (w:World),(Builtin.append_ #[52,52] 52 #[.slice base 0 sCap,.slice a 0 cp]).run Tryz.prog w = .ok (.slice base 0 sCap) w:=λbase sCap a cp w =>
  Pw w 52 52 3 i3 Tryz.underlying52 hi3 base 0 sCap (KJ _) a cp
 cases ad with
 | none =>
  obtain rfl:=hc rfl
  have hb:∀ w,(binOp BinOp.eql 52 (.slice none 0 0) (.slice none 0 0)).run Tryz.prog w = .ok (.bool true) w:=λw=>by kernel_rfl
  gi_wp2
  refine bodyPost_ret (results_tmp rfl _ _ _) rfl ?_;exact ⟨⟨none,0,rfl,λ_=>rfl⟩,⟨rfl,rfl,rfl,QZ _,λ_ _ _=>rfl⟩⟩
 | some ad =>
  have hb:∀ w,(binOp BinOp.eql 52 (.slice (some ad) 0 cap) (.slice none 0 0)).run Tryz.prog w = .ok (.bool false) w:=λw=>by kernel_rfl
  gi_wp2
  refine bodyPost_ret (results_tmp rfl _ _ _) rfl ?_;exact ⟨⟨_,0,rfl,λ_=>rfl⟩,World.grownBy_alloc w _ none⟩
def f123 (n:Nat) (a0:List Int):Option (List Int):=bif a0.isEmpty then some [] else Arz n a0
def Lp (n:Nat):Ent:=⟨123,[hIs],[hIs],λx=>f123 n x⟩
theorem B2r (nt:Nat):Jo Tryz.prog 123 nt [] [] [.one (.i (.sl 0 false 1 []))] (.v (.one (.i (.sl 0 false 1 [])))) nt []:=by
 refine ⟨⟨Tryz.f123,by kernel_rfl,by kernel_rfl,by kernel_rfl⟩,λw E vs hin hv=>?_⟩
 obtain ⟨hl,hget⟩:=hv
 match vs,hl with
 | [v],_ =>
  have h1:Rv w E v (.one (.i (.sl 0 false 1 []))):=hget 0 v _ rfl rfl
  cases h1 with
  | one h1 =>
   cases h1 with
   | i h1 =>
    cases h1 with
    | sl _ _ _ _ _ _ _ hne=>exact absurd rfl hne
    | nil _ _ cap a _ hn hc =>
     refine (Azd a cap hc w).mono ?_
     rintro e w' ⟨⟨a',c',rfl,hc'⟩,hg⟩
     exact ⟨_,E,rfl,.v (.one (.i (.nil 0 1 c' a' false (λe=>by cases e) hc'))),⟨hg.os,hg.tape,hg.output,hg.size,λb hb _=>hg.block b hb (by simp)⟩,
      ⟨λb hb=>ZU (hin.wf.alt b hb) hg.size,hin.wf.tag,hin.wf.inj,λb h hb=>by cases hin.odom b h hb⟩,λ_ _=>Iff.rfl,QZ _,λ_ _=>rfl,λt g ht h=>absurd (hin.wf.tag t g h).1 (Nat.not_lt.2 ht),
      λh b hb=>(by cases hb),λh h' b b' g g' z z' hb=>(by cases hb),λh b g z hb=>(by cases hb),λh b hb=>(by cases hb),λg h hg=>(by cases hin.odom g h hg)⟩
theorem Ki (n:Nat):(Lp n).Sound Tryz.prog:=by
 intro nt x r h
 cases x with
 | cons z l=>exact B2s n nt (z::l) r h
 | nil =>
  have h:some ([]:List Int)=some r:=h;obtain rfl:=QA h;exact B2r nt

def A3f {α:Type} (n:Nat) (b:LI) (a:Int) (f:LI->Int->Option α) (k0:LI->Int->Option α):Option α :=
 bif (decide (a>0)) then
  gd (decide (0<=(W (a-1)))&&decide ((W (a-1))<(b.length:Int))) (
   bif ((b.getD ((W (a-1)).toNat) 0)==0) then
    f b (W (a-1))
   else
    k0 b a)
 else
  k0 b a
abbrev Tt:Tm:=⟨[(0,.d hIs),(3,.d hI)],[],[],[]⟩
abbrev Avq:Tm:=⟨[(0,.d hIs),(3,.d hI)],[],[],[]⟩
abbrev A3e:List (Exit × Tm):=[(.exit 0,Avq)]
def A3d {α:Type} (n:Nat) (v:Tt.den) (f:Tt.den->Option α) (ks:KS α A3e):Option α:=A3f n v.1.1 v.1.2.1 (λa b=>f ((a,b,()),())) (λw0 w1=>ks.1 ((w0,w1,()),()))
def A09 {α:Type} (n m:Nat) (a:LI) (b:Int) (k0:LI->Int->Option α):Option α:=A5 (A3d n) m ((a,b,()),()) (λw=>k0 w.1.1 w.1.2.1,())
theorem Avp {α n m a b k0}:A09 (α:=α) n (m+1) a b k0=A3f n a b (λa b=>A09 n m a b k0) k0:=rfl
def f202 (n:Nat) (a0:LI):Option LI :=
 A09 n n a0 (a0.length:Int)
  (λb a=>(
   gd (decide (0<=a)&&decide (a<=(b.length:Int))) (
    some ((b.drop 0).take (a.toNat-0)))))
def Hk (n:Nat):Ent:=⟨202,[hIs],[hIs],λx=>f202 n x⟩
def Ahk (α:Type) (n:Nat):D3 α:={ reg:=[],join:=[],loop:=[(2,⟨Tt,A3e,A5 (A3d n) n⟩)] }
theorem Acb (α:Type) (n:Nat):Ao PP (Ag (Ahk α n).reg):=trivial
theorem Aqt (α:Type) (n:Nat):LO.Sound (α:=α) PP ⟨21,[]⟩ ⟨Tt,A3e,A5 (A3d n) n⟩ (.loop ((A1 Tryz.f202).at [1,1,0,0,0])):=C5 (D:=Ahk α n) (Acb α n) n
theorem Bbk (α:Type) (n:Nat):D3.OK PP TT ⟨21,[]⟩ (Ahk α n) (A1 Tryz.f202) :=
 D3.OK.mk3 (Acb α n) (show Ab (A1 Tryz.f202)=[(2,(.loop ((A1 Tryz.f202).at [1,1,0,0,0])))] by kernel_rfl) ⟨Ac rfl (Aqt α n),trivial⟩
theorem Rl (n:Nat):(Hk n).Sound PP:=fk (fn:=Tryz.f202) (Bbk _ n)

def A4w {α:Type} (n:Nat) (a:Int) (b:LI) (f:Int->LI->Option α) (k0:LI->Option α):Option α :=
 bif (decide (a>0)) then
  gd (decide ((b.length+1)*8<=140737488355328)) (
   f (W (Int.tdiv a 10000)) (b++[(Int.tmod a 10000)]))
 else
  k0 b
abbrev Ug:Tm:=⟨[(0,.d hI),(3,.k (.hw 4))],[(4,.arr 3 hI false)],[12],[]⟩
abbrev Axr:Tm:=⟨[(3,.k (.hw 4))],[(4,.arr 3 hI false)],[],[]⟩
abbrev A4v:List (Exit × Tm):=[(.exit 0,Axr)]
def A4u {α:Type} (n:Nat) (v:Ug.den) (f:Ug.den->Option α) (ks:KS α A4v):Option α:=A4w n v.1.1 v.2.1 (λa b=>f ((a,(),()),(b,()))) (λw0=>ks.1 (((),()),(w0,())))
def A0n {α:Type} (n m:Nat) (a:Int) (b:LI) (k0:LI->Option α):Option α:=A5 (A4u n) m ((a,(),()),(b,())) (λw=>k0 w.2.1,())
theorem Axq {α n m a b k0}:A0n (α:=α) n (m+1) a b k0=A4w n a b (λa b=>A0n n m a b k0) k0:=rfl
def f150 (n:Nat) (a0:Int):Option LI :=
 A0n n n a0 []
  (λa=>(
   some a))
def Ln (n:Nat):Ent:=⟨150,[hI],[hIs],λx=>f150 n x⟩
def Ais (α:Type) (n:Nat):D3 α:={ reg:=[(1,⟨0,[],[(0,{ sh:=some hI })]⟩),(4,⟨0,[],[(3,{ sh:=some hI })]⟩)],join:=[],loop:=[(2,⟨Ug,A4v,A5 (A4u n) n⟩)] }
theorem Acw (α:Type) (n:Nat):Ao PP (Ag (Ais α n).reg):=trivial
theorem Aro (α:Type) (n:Nat):LO.Sound (α:=α) PP ⟨15,[]⟩ ⟨Ug,A4v,A5 (A4u n) n⟩ (.loop ((A1 Tryz.f150).at [1,1,0,0,0])):=C5 (D:=Ais α n) (Acw α n) n
theorem Bcq (α:Type) (n:Nat):D3.OK PP TT ⟨15,[]⟩ (Ais α n) (A1 Tryz.f150) :=
 D3.OK.mk3 (Acw α n) (show Ab (A1 Tryz.f150)=[(2,(.loop ((A1 Tryz.f150).at [1,1,0,0,0])))] by kernel_rfl) ⟨Ac rfl (Aro α n),trivial⟩
theorem Aak (n:Nat):(Ln n).Sound PP:=fk (fn:=Tryz.f150) (Bcq _ n)

def A8b (n:Nat) (a0:LI):Option LI :=
 gd ((!a0.isEmpty)) (
  gd (decide ((0+a0.length)*8<=140737488355328)) (
   some a0))
def Ij (n:Nat):Ent3:=⟨123,[.im hIs],[[.one (.own 3 hI)]],λx=>A8b n x,[]⟩
def B88 (α:Type) (n:Nat):D3 α:={ reg:=[(3,⟨0,[],[(0,{ sh:=some hI })]⟩)],join:=[],loop:=[] }
theorem Aix (n:Nat):(Ij n).Sound PP:=A2n (fn:=Tryz.f123) (D:=B88 _ n) trivial

def Xu {α:Type} (n:Nat) (s0o s0l:Nat) (c:LI) (d e g i a:Int) (b:LI) (f:Nat->Nat->LI->Int->Int->Int->Int->Int->LI->Option α) (k0:Nat->Nat->LI->Int->Int->Int->LI->Option α):Option α :=
 bif (decide (a<i)) then
  gd (decide (0<=a)&&decide (a<(s0l:Int))) (
   gd (decide ((s0o+a.toNat)<b.length)) (
    let j:=λ(h:Int)=>(
     let k:=λ(l:Int)=>(
      gd (decide (0<=a)&&decide (a<(s0l:Int))) (
       gd (decide ((s0o+a.toNat)<b.length)) (
        f s0o s0l c d e l i (W (a+1)) (b.set (s0o+a.toNat) (W (h-(W (l*10000))))))))
     bif (decide (h<0)) then
      k (W (Int.tdiv (W ((W (h-10000))+1)) 10000))
     else
      k 0)
    bif (decide (a<d)) then
     gd (decide (0<=a)&&decide (a<(c.length:Int))) (
      j (W ((W ((b.getD (s0o+a.toNat) 0)+g))-(W (e*(c.getD a.toNat 0))))))
    else
     j (W ((b.getD (s0o+a.toNat) 0)+g))))
 else
  k0 s0o s0l c d e g b
abbrev Q5:Tm:=⟨[(0,.hs 1000),(1,.d hIs),(5,.d hI),(7,.d hI),(8,.d hI),(50,.d hI),(51,.d hI)],[(1000,.arr 3 hI false)],[],[]⟩
abbrev Aqf:Tm:=⟨[(0,.hs 1000),(1,.d hIs),(5,.d hI),(7,.d hI),(8,.d hI)],[(1000,.arr 3 hI false)],[],[]⟩
abbrev Xt:List (Exit × Tm):=[(.exit 0,Aqf)]
def Xs {α:Type} (n:Nat) (v:Q5.den) (f:Q5.den->Option α) (ks:KS α Xt):Option α:=Xu n v.1.1.1 v.1.1.2 v.1.2.1 v.1.2.2.1 v.1.2.2.2.1 v.1.2.2.2.2.1 v.1.2.2.2.2.2.1 v.1.2.2.2.2.2.2.1 v.2.1 (λs0o s0l a b c d e g h=>f (((s0o,s0l),a,b,c,d,e,g,()),(h,()))) (λw0 w1 w2 w3 w4 w5 w6=>ks.1 (((w0,w1),w2,w3,w4,w5,()),(w6,())))
def G9 {α:Type} (n m:Nat) (s0o s0l:Nat) (a:LI) (b c d e f:Int) (g:LI) (k0:Nat->Nat->LI->Int->Int->Int->LI->Option α):Option α:=A5 (Xs n) m (((s0o,s0l),a,b,c,d,e,f,()),(g,())) (λw=>k0 w.1.1.1 w.1.1.2 w.1.2.1 w.1.2.2.1 w.1.2.2.2.1 w.1.2.2.2.2.1 w.2.1,())
theorem Aqe {α n m s0o s0l a b c d e f g k0}:G9 (α:=α) n (m+1) s0o s0l a b c d e f g k0=Xu n s0o s0l a b c d e f g (λs0o s0l a b c d e f g=>G9 n m s0o s0l a b c d e f g k0) k0:=rfl
def Tg {α:Type} (n:Nat) (s0o s0l:Nat) (c:LI) (d g h e i a:Int) (b:LI) (f:Nat->Nat->LI->Int->Int->Int->Int->Int->Int->LI->Option α) (k0:Nat->Nat->LI->Int->Int->Int->Int->LI->Option α):Option α :=
 bif (decide (a<i)) then
  gd (decide (0<=a)&&decide (a<(s0l:Int))) (
   gd (decide ((s0o+a.toNat)<b.length)) (
    let j:=λ(k:Int)=>(
     gd (decide (0<=a)&&decide (a<(s0l:Int))) (
      gd (decide ((s0o+a.toNat)<b.length)) (
       f s0o s0l c d g h (W (Int.tdiv k 10000)) i (W (a+1)) (b.set (s0o+a.toNat) (Int.tmod k 10000)))))
    bif (decide (a<d)) then
     gd (decide (0<=a)&&decide (a<(c.length:Int))) (
      j (W ((W ((b.getD (s0o+a.toNat) 0)+e))+(c.getD a.toNat 0))))
    else
     j (W ((b.getD (s0o+a.toNat) 0)+e))))
 else
  k0 s0o s0l c d g h e b
abbrev Mt:Tm:=⟨[(0,.hs 1000),(1,.d hIs),(5,.d hI),(7,.d hI),(8,.d hI),(11,.d hI),(90,.d hI),(91,.d hI)],[(1000,.arr 3 hI false)],[],[]⟩
abbrev Al1:Tm:=⟨[(0,.hs 1000),(1,.d hIs),(5,.d hI),(7,.d hI),(8,.d hI),(11,.d hI)],[(1000,.arr 3 hI false)],[],[]⟩
abbrev Tf:List (Exit × Tm):=[(.exit 4,Al1)]
def Te {α:Type} (n:Nat) (v:Mt.den) (f:Mt.den->Option α) (ks:KS α Tf):Option α:=Tg n v.1.1.1 v.1.1.2 v.1.2.1 v.1.2.2.1 v.1.2.2.2.1 v.1.2.2.2.2.1 v.1.2.2.2.2.2.1 v.1.2.2.2.2.2.2.1 v.1.2.2.2.2.2.2.2.1 v.2.1 (λs0o s0l a b c d e g h i=>f (((s0o,s0l),a,b,c,d,e,g,h,()),(i,()))) (λw0 w1 w2 w3 w4 w5 w6 w7=>ks.1 (((w0,w1),w2,w3,w4,w5,w6,()),(w7,())))
def If {α:Type} (n m:Nat) (s0o s0l:Nat) (a:LI) (b c d e f g:Int) (h:LI) (k0:Nat->Nat->LI->Int->Int->Int->Int->LI->Option α):Option α:=A5 (Te n) m (((s0o,s0l),a,b,c,d,e,f,g,()),(h,())) (λw=>k0 w.1.1.1 w.1.1.2 w.1.2.1 w.1.2.2.1 w.1.2.2.2.1 w.1.2.2.2.2.1 w.1.2.2.2.2.2.1 w.2.1,())
theorem Al0 {α n m s0o s0l a b c d e f g h k0}:If (α:=α) n (m+1) s0o s0l a b c d e f g h k0=Tg n s0o s0l a b c d e f g h (λs0o s0l a b c d e f g h=>If n m s0o s0l a b c d e f g h k0) k0:=rfl
def Tj {α:Type} (n:Nat) (s0o s0l:Nat) (d:LI) (e a b:Int) (c:LI) (f:Nat->Nat->LI->Int->Int->Int->LI->Option α) (k0:Int->LI->Option α):Option α :=
 bif (decide (b<0)) then
  If n n s0o s0l d e (W (a-1)) b 0 (s0l:Int) 0 c
   (λg h i j k l m o=>(
    f g h i j k (W (l+m)) o))
 else
  k0 a c
abbrev Mu:Tm:=⟨[(0,.hs 1000),(1,.d hIs),(5,.d hI),(7,.d hI),(8,.d hI)],[(1000,.arr 3 hI false)],[],[]⟩
abbrev Al4:Tm:=⟨[(7,.d hI)],[(1000,.arr 3 hI false)],[],[]⟩
abbrev Ti:List (Exit × Tm):=[(.exit 2,Al4)]
def Th {α:Type} (n:Nat) (v:Mu.den) (f:Mu.den->Option α) (ks:KS α Ti):Option α:=Tj n v.1.1.1 v.1.1.2 v.1.2.1 v.1.2.2.1 v.1.2.2.2.1 v.1.2.2.2.2.1 v.2.1 (λs0o s0l a b c d e=>f (((s0o,s0l),a,b,c,d,()),(e,()))) (λw0 w1=>ks.1 ((w0,()),(w1,())))
def Ig {α:Type} (n m:Nat) (s0o s0l:Nat) (a:LI) (b c d:Int) (e:LI) (k0:Int->LI->Option α):Option α:=A5 (Th n) m (((s0o,s0l),a,b,c,d,()),(e,())) (λw=>k0 w.1.1 w.2.1,())
theorem Al2 {α n m s0o s0l a b c d e k0}:Ig (α:=α) n (m+1) s0o s0l a b c d e k0=Tj n s0o s0l a b c d e (λs0o s0l a b c d e=>Ig n m s0o s0l a b c d e k0) k0:=rfl
abbrev Av6:Tm:=⟨[(0,.hs 1000),(1,.d hIs),(5,.d hI),(7,.d hI),(9,.d hI),(10,.d hI),(50,.d hI),(51,.d hI)],[(1000,.arr 3 hI false)],[],[]⟩
abbrev Av5:Tm:=⟨[(0,.hs 1000),(1,.d hIs),(5,.d hI),(7,.d hI),(8,.d hI),(9,.d hI),(10,.d hI),(50,.d hI),(51,.d hI)],[(1000,.arr 3 hI false)],[],[]⟩
abbrev Av4:Tm:=⟨[(0,.hs 1000),(1,.d hIs),(5,.d hI),(7,.d hI),(8,.d hI),(12,.d hI),(13,.d hI),(90,.d hI),(91,.d hI)],[(1000,.arr 3 hI false)],[],[]⟩
def Aec (n:Nat) (a0:LI × Nat × Nat) (a1:LI):Option (Int × LI) :=
 gd (decide (0<=(a1.length:Int))&&decide ((a1.length:Int)<(a0.2.2:Int))) (
  gd (decide ((a0.2.1+(a1.length:Int).toNat)<a0.1.length)) (
   gd (decide (0<=(W ((a1.length:Int)-1)))&&decide ((W ((a1.length:Int)-1))<(a0.2.2:Int))) (
    gd (decide ((a0.2.1+(W ((a1.length:Int)-1)).toNat)<a0.1.length)) (
     gd (decide (0<=(W ((a1.length:Int)-2)))&&decide ((W ((a1.length:Int)-2))<(a0.2.2:Int))) (
      gd (decide ((a0.2.1+(W ((a1.length:Int)-2)).toNat)<a0.1.length)) (
       gd (decide (0<=(W ((a1.length:Int)-1)))&&decide ((W ((a1.length:Int)-1))<(a1.length:Int))) (
        gd (decide (0<=(W ((a1.length:Int)-2)))&&decide ((W ((a1.length:Int)-2))<(a1.length:Int))) (
         gd (decide ((W ((W ((a1.getD ((W ((a1.length:Int)-1)).toNat) 0)*10000))+(a1.getD ((W ((a1.length:Int)-2)).toNat) 0))) ≠ 0)) (
          G9 n n a0.2.1 a0.2.2 a1 (a1.length:Int) (min (W (Int.tdiv (W ((W ((W ((W ((a0.1.getD (a0.2.1+(a1.length:Int).toNat) 0)*10000))+(a0.1.getD (a0.2.1+(W ((a1.length:Int)-1)).toNat) 0)))*10000))+(a0.1.getD (a0.2.1+(W ((a1.length:Int)-2)).toNat) 0))) (W ((W ((a1.getD ((W ((a1.length:Int)-1)).toNat) 0)*10000))+(a1.getD ((W ((a1.length:Int)-2)).toNat) 0))))) 9999) 0 (a0.2.2:Int) 0 a0.1
           (λa b c d e f g=>(
            Ig n n a b c d e f g
             (λh i=>(
              some (h,i))))))))))))))
def K7 (n:Nat):Ent3:=⟨219,[.one (.win 3 hI),.im hIs],[[.im hI]],λx=>Aec n x.1 x.2,[]⟩
def Rh (α:Type) (n:Nat):D3 α:={ reg:=[(2,⟨17,[],[]⟩),(3,⟨13,[],[]⟩)],join:=[(11,Av6),(14,Av5),(25,Av4)],loop:=[(6,⟨Q5,Xt,A5 (Xs n) n⟩),(20,⟨Mt,Tf,A5 (Te n) n⟩),(16,⟨Mu,Ti,A5 (Th n) n⟩)] }
theorem Ms (α:Type) (n:Nat):Ao PP (Ag (Rh α n).reg):=trivial
theorem Akz (α:Type) (n:Nat):LO.Sound (α:=α) PP ⟨121,[]⟩ ⟨Q5,Xt,A5 (Xs n) n⟩ (.loop ((A1 Tryz.f219).at [1,1,1,1,1,0,1,0,0])):=C5 (D:=Rh α n) (Ms α n) n
theorem Ah2 (α:Type) (n:Nat):LO.Sound (α:=α) PP ⟨121,[]⟩ ⟨Mt,Tf,A5 (Te n) n⟩ (.loop ((A1 Tryz.f219).at [1,1,1,1,1,1,0,0,0,1,0,1,1,0,1,0,0])):=C5 (D:=Rh α n) (Ms α n) n
theorem Al3 (α:Type) (n:Nat):D3.OK PP TT ⟨121,[]⟩ (Rh α n) ((A1 Tryz.f219).at [1,1,1,1,1,1,0,0,0]) :=
 D3.OK.mk3 (Ms α n) (show Ab ((A1 Tryz.f219).at [1,1,1,1,1,1,0,0,0])=[(20,(.loop ((A1 Tryz.f219).at [1,1,1,1,1,1,0,0,0,1,0,1,1,0,1,0,0])))] by kernel_rfl) ⟨Ac rfl (Ah2 α n),trivial⟩
theorem Ah3 (α:Type) (n:Nat):LO.Sound (α:=α) PP ⟨121,[]⟩ ⟨Mu,Ti,A5 (Th n) n⟩ (.loop ((A1 Tryz.f219).at [1,1,1,1,1,1,0,0,0])):=lk (Al3 α n) n
theorem B5u (α:Type) (n:Nat):D3.OK PP TT ⟨121,[]⟩ (Rh α n) (A1 Tryz.f219) :=
 D3.OK.mk3 (Ms α n) (show Ab (A1 Tryz.f219)=[(6,(.loop ((A1 Tryz.f219).at [1,1,1,1,1,0,1,0,0]))),(16,(.loop ((A1 Tryz.f219).at [1,1,1,1,1,1,0,0,0])))] by kernel_rfl) ⟨Ac rfl (Akz α n),Ac rfl (Ah3 α n),trivial⟩
theorem B1u (n:Nat):(K7 n).Sound PP:=fkB (fn:=Tryz.f219) (B5u _ n)

def A39 {α:Type} (n:Nat) (i:Nat) (z:Int) (d:LI) (a:LI) (c:Int) (b:LI) (f:LI->LI->Int->LI->Option α) (k0:Int->LI->Option α):Option α :=
 gd (decide (0<(a.length:Int))) (
  gd (decide ((a.getD 0 0) ≠ 0)) (
   gd (decide (0<(a.length:Int))) (
    gd (decide ((a.getD 0 0) ≠ 0)) (
     gd (decide (0<=(i:Int))&&decide ((i:Int)<(b.length:Int))) (
      gd (decide ((i:Int).toNat<b.length)) (
       f d a (Int.tmod (W ((W (c*10000))+z)) (a.getD 0 0)) (b.set ((i:Int).toNat) (W (Int.tdiv (W ((W (c*10000))+z)) (a.getD 0 0))))))))))
abbrev Kc:Tm:=⟨[(3,.k (.hp 3 0 0)),(7,.k (.hp 7 0 0)),(8,.k (.hp 8 0 0)),(29,.d (.clo 220 (.ref hIs)))],[(3,.var 52 true false [.d hIs]),(7,.var 52 false false [.k (.hw 27)]),(8,.var 3 true false [.d hI]),(27,.arr 3 hI false)],[],[]⟩
abbrev Avn:Tm:=⟨[(7,.k (.hp 7 0 0)),(8,.k (.hp 8 0 0))],[(7,.var 52 false false [.k (.hw 27)]),(8,.var 3 true false [.d hI]),(27,.arr 3 hI false)],[3],[]⟩
abbrev Tq:List (Exit × Tm):=[(.normal,Avn)]
def Ot (v:Kc.den):List Int:=(λa b c d=>a) v.1.2.2.2.1 v.2.1.1 v.2.2.2.1.1 v.2.2.2.2.1
def Ou {α:Type} (n:Nat) (i:Nat) (z:Int) (v:Kc.den) (f:Kc.den->Option α) (ks:KS α Tq):Option α:=A39 n i z v.1.2.2.2.1 v.2.1.1 v.2.2.2.1.1 v.2.2.2.2.1 (λa b c d=>f (((),(),(),a,()),((b,()),((),()),(c,()),d,()))) (λw0 w1=>ks.1 (((),(),()),(((),()),(w0,()),w1,())))
def Ov {α:Type} (v:Kc.den) (ks:KS α Tq):Option α:=(λc d a b=>ks.1 (((),(),()),(((),()),(a,()),b,()))) v.1.2.2.2.1 v.2.1.1 v.2.2.2.1.1 v.2.2.2.2.1
def An9 {α:Type} (n:Nat) (a:LI) (b:LI) (c:Int) (d:LI) (k0:Int->LI->Option α):Option α:=O3 Ot (Ou n) Ov (((),(),(),a,()),((b,()),((),()),(c,()),d,())) (λw=>k0 w.2.2.1.1 w.2.2.2.1,())
def Kb {α:Type} (n:Nat) (zs:List Int) (i:Nat) (a:LI) (b:LI) (c:Int) (d:LI) (k0:Int->LI->Option α):Option α:=O4 Ot (Ou n) zs i (((),(),(),a,()),((b,()),((),()),(c,()),d,())) (λv=>Ov v (λw=>k0 w.2.2.1.1 w.2.2.2.1,())) (λw=>k0 w.2.2.1.1 w.2.2.2.1,())
theorem Avl {α:Type} (n:Nat) (a:LI) (b:LI) (c:Int) (d:LI) (k0:Int->LI->Option α):An9 (α:=α) n a b c d k0=gd (decide (a.length<=4611686018427387904)) (Kb n a a.length a b c d k0):=rfl
theorem Avm {α:Type} (n:Nat) (zs:List Int) (c:LI) (d:LI) (a:Int) (b:LI) (k0:Int->LI->Option α):Kb (α:=α) n zs 0 c d a b k0=k0 a b:=rfl
theorem Avk {α:Type} (n:Nat) (zs:List Int) (i:Nat) (a:LI) (b:LI) (c:Int) (d:LI) (k0:Int->LI->Option α):Kb (α:=α) n zs (i+1) a b c d k0=A39 n i (zs.getD i 0) a b c d (λa b c d=>gd (decide (a=zs)) (Kb n zs i a b c d k0)) k0:=rfl
def Qd {α:Type} (n:Nat) (b a:Int) (g c d:LI) (f:Int->Int->LI->LI->LI->Option α) (k0:LI->LI->Option α):Option α :=
 bif (decide (a>=0)) then
  gd (decide (0<=a)&&decide (a<=(W ((W (a+b))+1)))&&decide ((W ((W (a+b))+1))<=(d.length:Int))) (
   ob (Aec n (d,a.toNat,((W ((W (a+b))+1)).toNat-a.toNat)) g) λe =>
   gd (Nat.beq e.2.length d.length&&true) (
    gd (decide (0<=a)&&decide (a<(c.length:Int))) (
     gd (decide (a.toNat<c.length)) (
      f b (W (a-1)) g (c.set a.toNat e.1) e.2))))
 else
  k0 c d
abbrev Qc:Tm:=⟨[(3,.k (.hp 3 0 0)),(6,.d hI),(11,.k (.hw 310)),(12,.k (.hw 62)),(13,.d hI)],[(3,.var 52 true false [.d hIs]),(62,.arr 3 hI false),(310,.arr 3 hI false)],[55],[]⟩
abbrev Aqr:Tm:=⟨[(11,.k (.hw 310)),(12,.k (.hw 62))],[(62,.arr 3 hI false),(310,.arr 3 hI false)],[3],[]⟩
abbrev Y7:List (Exit × Tm):=[(.exit 2,Aqr)]
def Y6 {α:Type} (n:Nat) (v:Qc.den) (f:Qc.den->Option α) (ks:KS α Y7):Option α:=Qd n v.1.2.1 v.1.2.2.2.2.1 v.2.1.1 v.2.2.1 v.2.2.2.1 (λa b c d e=>f (((),a,(),(),b,()),((c,()),d,e,()))) (λw0 w1=>ks.1 (((),(),()),(w0,w1,())))
def Tr {α:Type} (n m:Nat) (a b:Int) (c d e:LI) (k0:LI->LI->Option α):Option α:=A5 (Y6 n) m (((),a,(),(),b,()),((c,()),d,e,())) (λw=>k0 w.2.1 w.2.2.1,())
theorem A7i {α n m a b c d e k0}:Tr (α:=α) n (m+1) a b c d e k0=Qd n a b c d e (λa b c d e=>Tr n m a b c d e k0) k0:=rfl
abbrev Ahg:Tm:=⟨[(3,.k (.hp 3 0 0)),(7,.k (.hp 7 0 0)),(8,.k (.hp 8 0 0)),(9,.d hI),(10,.d hI),(29,.d (.clo 220 (.ref hIs))),(30,.d hI),(31,.d hI)],[(3,.var 52 true false [.d hIs]),(7,.var 52 false false [.k (.hw 27)]),(8,.var 3 true false [.d hI]),(27,.arr 3 hI false)],[],[]⟩
abbrev Ahf:Tm:=⟨[(7,.k (.hp 7 0 0)),(8,.k (.hp 8 0 0))],[(7,.var 52 false false [.k (.hw 27)]),(8,.var 3 true false [.d hI]),(27,.arr 3 hI false)],[],[]⟩
abbrev Ahe:Tm:=⟨[(0,.d hIs),(3,.k (.hp 3 0 0)),(6,.d hI)],[(3,.var 52 true false [.d hIs])],[],[]⟩
abbrev Ahd:Tm:=⟨[(3,.k (.hp 3 0 0)),(6,.d hI),(11,.k (.hw 310)),(12,.k (.hw 62)),(13,.d hI)],[(3,.var 52 true false [.d hIs]),(62,.arr 3 hI false),(310,.arr 3 hI false)],[],[]⟩
def f204 (n:Nat) (a0 a1:LI):Option (LI × LI) :=
 ob (f155 n a0 a1) λb =>
 bif (decide (b<0)) then
  ob (f123 n a0) λc =>
  some ([],c)
 else
  bif ((a1.length:Int)==1) then
   gd (decide (0<=(a0.length:Int))&&decide ((a0.length:Int)<=4611686018427387904)&&decide ((8:Int)*(a0.length:Int)<=281474976710656)) (
    ob (f205 n a0) λd =>
    An9 n d a1 0 (List.replicate ((a0.length:Int).toNat) 0)
     (λe f=>(
      ob (f202 n f) λg =>
      ob (f150 n e) λh =>
      some (g,h))))
  else
   ob (A8b n a0) λa =>
   gd (decide ((a.length+1)*8<=140737488355328)) (
    gd (decide (0<=(W ((W ((a0.length:Int)-(a1.length:Int)))+1)))&&decide ((W ((W ((a0.length:Int)-(a1.length:Int)))+1))<=4611686018427387904)&&decide ((8:Int)*(W ((W ((a0.length:Int)-(a1.length:Int)))+1))<=281474976710656)) (
     Tr n n (a1.length:Int) (W ((a0.length:Int)-(a1.length:Int))) a1 (List.replicate ((W ((W ((a0.length:Int)-(a1.length:Int)))+1)).toNat) 0) (a++[0])
      (λi j=>(
       ob (f202 n i) λk =>
       ob (f202 n j) λl =>
       some (k,l)))))
def A7j (n:Nat):Ent:=⟨204,[hIs,hIs],[hIs,hIs],λx=>f204 n x.1 x.2⟩
def Y8 (α:Type) (n:Nat):D3 α:={ reg:=[(1,⟨0,[],[(2,{ ent:=some (Yh n) })]⟩),(2,⟨0,[],[(0,{ sh:=some hI }),(2,{ ent:=some (Lp n) })]⟩),(6,⟨0,[],[(1,{ ent:=some (Ahc n) })]⟩),(11,⟨0,[],[(1,{ ent:=some (Hk n),fz:=[(49,hIs)] }),(3,{ ent:=some (Ln n) })]⟩),(12,⟨0,[],[(1,{ entB:=some (Ij n),hb:=310 }),(2,{ sh:=some hI })]⟩),(16,⟨0,[],[(10,{ entB:=some (K7 n),hb:=320 })]⟩),(17,⟨0,[],[(1,{ ent:=some (Hk n),fz:=[(83,hIs)] }),(3,{ ent:=some (Hk n),fz:=[(85,hIs)] })]⟩)],join:=[],loop:=[(7,⟨Kc,Tq,O3 Ot (Ou n) Ov⟩),(14,⟨Qc,Y7,A5 (Y6 n) n⟩)],any:=[(10,Ahg),(11,Ahf),(12,Ahe),(16,Ahd)] }
set_option maxHeartbeats 8000000 in
theorem B1z (n:Nat):Al TT ⟨87,[]⟩ [] Ahg (A4 ((A1 Tryz.f204).at [1,1,1,0,1,0,1,0,1,0,1,0,1])):=by
 refine ⟨by kernel_rfl,λw q hq=>?_⟩
 have e:WT [] (A8 (A4 ((A1 Tryz.f204).at [1,1,1,0,1,0,1,0,1,0,1,0,1])).toList) q=(q=[]):=by kernel_rfl
 rw [e] at hq;obtain rfl:=hq
 all_goals exact .inr ⟨14,by kernel_rfl,by kernel_rfl,by kernel_rfl⟩
set_option maxHeartbeats 8000000 in
theorem B1y (n:Nat):Al TT ⟨87,[]⟩ [(1,{ ent:=some (Hk n),fz:=[(49,hIs)] }),(3,{ ent:=some (Ln n) })] Ahf (A4 ((A1 Tryz.f204).at [1,1,1,0,1,0,1,1,0])):=by
 refine ⟨by kernel_rfl,λw q hq=>?_⟩
 have e:WT [(1,{ ent:=some (Hk n),fz:=[(49,hIs)] }),(3,{ ent:=some (Ln n) })] (A8 (A4 ((A1 Tryz.f204).at [1,1,1,0,1,0,1,1,0])).toList) q=(∃ (y0:HL (Hk n).rs) (q0:List (Nat × RV)),q=(1,.sv (Ae (Hk n).rs y0))::q0 /\ ∃ (y1:HL (Ln n).rs) (q1:List (Nat × RV)),q0=(3,.sv (Ae (Ln n).rs y1))::q1/\q1=[]):=by kernel_rfl
 rw [e] at hq;obtain ⟨y0,q0,rfl,y1,q1,rfl,rfl⟩:=hq
 all_goals exact .inl (Hy.mk (by kernel_rfl))
set_option maxHeartbeats 8000000 in
theorem B1x (n:Nat):Al TT ⟨87,[]⟩ [(1,{ entB:=some (Ij n),hb:=310 }),(2,{ sh:=some hI })] Ahe (A4 ((A1 Tryz.f204).at [1,1,1,1,0])):=by
 refine ⟨by kernel_rfl,λw q hq=>?_⟩
 have e:WT [(1,{ entB:=some (Ij n),hb:=310 }),(2,{ sh:=some hI })] (A8 (A4 ((A1 Tryz.f204).at [1,1,1,1,0])).toList) q=(∃ (y0:HF (Am 1000 (Ij n).ts) (Ij n).forms) (q0:List (Nat × RV)),q=(1,.bx (Ij n) y0)::q0/\q0=[]):=by kernel_rfl
 rw [e] at hq;obtain ⟨y0,q0,rfl,rfl⟩:=hq
 all_goals exact .inl (Hy.mk (by kernel_rfl))
set_option maxHeartbeats 8000000 in
theorem Ahh (n:Nat):Al TT ⟨87,[]⟩ [(10,{ entB:=some (K7 n),hb:=320 })] Ahd (A4 ((A1 Tryz.f204).at [1,1,1,1,1,0,1,0,0,1,0,0])):=by
 refine ⟨by kernel_rfl,λw q hq=>?_⟩
 have e:WT [(10,{ entB:=some (K7 n),hb:=320 })] (A8 (A4 ((A1 Tryz.f204).at [1,1,1,1,1,0,1,0,0,1,0,0])).toList) q=(∃ (y0:HF (Am 1000 (K7 n).ts) (K7 n).forms) (q0:List (Nat × RV)),q=(10,.bx (K7 n) y0)::q0/\q0=[]):=by kernel_rfl
 rw [e] at hq;obtain ⟨y0,q0,rfl,rfl⟩:=hq
 all_goals exact .inr ⟨11,by kernel_rfl,by kernel_rfl,by kernel_rfl⟩
theorem Qb (α:Type) (n:Nat):Ao PP (Ag (Y8 α n).reg):=⟨A0m n,Ki n,An8 n,Rl n,Aak n,Aix n,B1u n,Rl n,Rl n,trivial⟩
theorem Aqp (α:Type) (n:Nat):D3.OK PP TT ⟨87,[]⟩ (Y8 α n) ((A1 Tryz.f204).at [1,1,1,0,1,0,1,0,1,0,0]) :=
 D3.OK.mk3a (Qb α n) (show Ab ((A1 Tryz.f204).at [1,1,1,0,1,0,1,0,1,0,0])=[] by kernel_rfl) trivial (show Ar ((A1 Tryz.f204).at [1,1,1,0,1,0,1,0,1,0,0])=[] by kernel_rfl) trivial
theorem Aqo (α:Type) (n:Nat):D3.OK PP TT ⟨87,[]⟩ (Y8 α n) ((A1 Tryz.f204).at [1,1,1,0,1,0,1,0,1,0,1]) :=
 D3.OK.mk3a (Qb α n) (show Ab ((A1 Tryz.f204).at [1,1,1,0,1,0,1,0,1,0,1])=[] by kernel_rfl) trivial (show Ar ((A1 Tryz.f204).at [1,1,1,0,1,0,1,0,1,0,1])=[(10,A4 ((A1 Tryz.f204).at [1,1,1,0,1,0,1,0,1,0,1,0,1]))] by kernel_rfl) ⟨⟨B1z n,trivial⟩,trivial⟩
theorem Aqn (α:Type) (n:Nat):LO.Sound (α:=α) PP ⟨87,[]⟩ ⟨Kc,Tq,O3 Ot (Ou n) Ov⟩ (.rangeFunc (.tmp 29) #[30,31] ((A1 Tryz.f204).at [1,1,1,0,1,0,1,0,1,0,0]) ((A1 Tryz.f204).at [1,1,1,0,1,0,1,0,1,0,1])) :=
 Afh (R8 _) O5 Ot (Ou n) Ov Aor rfl rfl rfl rfl (Aqp α n) (Aqo α n) (by intro v;rfl) (by intro i z v f ks;kernel_rfl) (by intro v ks;kernel_rfl)
theorem Aqq (α:Type) (n:Nat):D3.OK PP TT ⟨87,[]⟩ (Y8 α n) ((A1 Tryz.f204).at [1,1,1,1,1,0,1,0,0]) :=
 D3.OK.mk3a (Qb α n) (show Ab ((A1 Tryz.f204).at [1,1,1,1,1,0,1,0,0])=[] by kernel_rfl) trivial (show Ar ((A1 Tryz.f204).at [1,1,1,1,1,0,1,0,0])=[(16,A4 ((A1 Tryz.f204).at [1,1,1,1,1,0,1,0,0,1,0,0]))] by kernel_rfl) ⟨⟨Ahh n,trivial⟩,trivial⟩
theorem Al6 (α:Type) (n:Nat):LO.Sound (α:=α) PP ⟨87,[]⟩ ⟨Qc,Y7,A5 (Y6 n) n⟩ (.loop ((A1 Tryz.f204).at [1,1,1,1,1,0,1,0,0])):=lk (Aqq α n) n
theorem Bbi (α:Type) (n:Nat):D3.OK PP TT ⟨87,[]⟩ (Y8 α n) (A1 Tryz.f204) :=
 D3.OK.mk3a (Qb α n) (show Ab (A1 Tryz.f204)=[(7,(.rangeFunc (.tmp 29) #[30,31] ((A1 Tryz.f204).at [1,1,1,0,1,0,1,0,1,0,0]) ((A1 Tryz.f204).at [1,1,1,0,1,0,1,0,1,0,1]))),(14,(.loop ((A1 Tryz.f204).at [1,1,1,1,1,0,1,0,0])))] by kernel_rfl) ⟨Ac rfl (Aqn α n),Ac rfl (Al6 α n),trivial⟩ (show Ar (A1 Tryz.f204)=[(11,A4 ((A1 Tryz.f204).at [1,1,1,0,1,0,1,1,0])),(12,A4 ((A1 Tryz.f204).at [1,1,1,1,0])),(16,A4 ((A1 Tryz.f204).at [1,1,1,1,1,0,1,0,0,1,0,0]))] by kernel_rfl) ⟨⟨B1y n,trivial⟩,⟨B1x n,trivial⟩,⟨Ahh n,trivial⟩,trivial⟩
theorem Aa8 (n:Nat):(A7j n).Sound PP:=fk (fn:=Tryz.f204) (Bbi _ n)

def A3c {α:Type} (n:Nat) (b a:LI) (f:LI->LI->Option α) (k0:LI->Option α):Option α :=
 bif (decide ((a.length:Int)>0)) then
  ob (f204 n b a) λc =>
  f a c.2
 else
  k0 b
abbrev Ts:Tm:=⟨[(0,.d hIs),(1,.d hIs)],[],[],[]⟩
abbrev Avo:Tm:=⟨[(0,.d hIs)],[],[],[]⟩
abbrev A3b:List (Exit × Tm):=[(.exit 0,Avo)]
def A3a {α:Type} (n:Nat) (v:Ts.den) (f:Ts.den->Option α) (ks:KS α A3b):Option α:=A3c n v.1.1 v.1.2.1 (λa b=>f ((a,b,()),())) (λw0=>ks.1 ((w0,()),()))
def Kd {α:Type} (n m:Nat) (a b:LI) (k0:LI->Option α):Option α:=A5 (A3a n) m ((a,b,()),()) (λw=>k0 w.1.1,())
theorem Aca {α n m a b k0}:Kd (α:=α) n (m+1) a b k0=A3c n a b (λa b=>Kd n m a b k0) k0:=rfl
def f203 (n:Nat) (a0 a1:LI):Option LI :=
 Kd n n a0 a1
  (λa=>(
   some a))
def Ahi (n:Nat):Ent:=⟨203,[hIs,hIs],[hIs],λx=>f203 n x.1 x.2⟩
def Ahj (α:Type) (n:Nat):D3 α:={ reg:=[(2,⟨0,[],[(2,{ ent:=some (A7j n) })]⟩)],join:=[],loop:=[(1,⟨Ts,A3b,A5 (A3a n) n⟩)] }
theorem Ac9 (α:Type) (n:Nat):Ao PP (Ag (Ahj α n).reg):=⟨Aa8 n,trivial⟩
theorem Aqs (α:Type) (n:Nat):LO.Sound (α:=α) PP ⟨19,[]⟩ ⟨Ts,A3b,A5 (A3a n) n⟩ (.loop ((A1 Tryz.f203).at [1,0,0,0])):=C5 (D:=Ahj α n) (Ac9 α n) n
theorem Bbj (α:Type) (n:Nat):D3.OK PP TT ⟨19,[]⟩ (Ahj α n) (A1 Tryz.f203) :=
 D3.OK.mk3 (Ac9 α n) (show Ab (A1 Tryz.f203)=[(1,(.loop ((A1 Tryz.f203).at [1,0,0,0])))] by kernel_rfl) ⟨Ac rfl (Aqs α n),trivial⟩
theorem Ana (n:Nat):(Ahi n).Sound PP:=fk (fn:=Tryz.f203) (Bbj _ n)

def f151 (n:Nat)  : Option LI :=
 some [1]
def Rz (n:Nat):Ent:=⟨151,[],[hIs],λ_=>f151 n⟩
def Bcp (α:Type) (n:Nat):D3 α:={ reg:=[(1,⟨0,[],[(0,{ sh:=some hI })]⟩)],join:=[],loop:=[] }
theorem Ry (n:Nat):(Rz n).Sound PP:=B0 (fn:=Tryz.f151) (D:=Bcp _ n) trivial

abbrev B5x:Tm:=⟨[(1,.k (.hp 1 0 0))],[(1,.var 54 true false [.d .bool,.d hIs,.d hIs])],[],[]⟩
def f215 (n:Nat) (a0:Rq):Option Bool :=
 let a:=λ(_:Unit)=>(
  ob (f203 n a0.2.1 a0.2.2) λb =>
  ob (f151 n) λc =>
  ob (f155 n b c) λd =>
  some (d==0))
 ob (f225 n a0.2.1) λe =>
 bif (!e) then
  some false
 else
  ob (f225 n a0.2.2) λf =>
  bif (!f) then
   some false
  else
   bif ((a0.2.2.length:Int)==0) then
    some false
   else
    bif a0.1 then
     ob (f168 n a0) λg =>
     bif g then
      some false
     else
      a ()
    else
     a ()
def Avb (n:Nat):Ent:=⟨215,[hR],[.bool],λx=>f215 n x⟩
def Bb6 (α:Type) (n:Nat):D3 α:={ reg:=[(1,⟨0,[],[(2,{ ent:=some (Ah0 n) }),(7,{ ent:=some (Ah0 n) }),(21,{ ent:=some (P5 n) })]⟩),(3,⟨0,[],[(4,{ ent:=some (Ahi n) }),(5,{ ent:=some (Rz n) }),(6,{ ent:=some (Yh n) })]⟩)],join:=[(3,B5x)],loop:=[] }
theorem B5v (n:Nat):(Avb n).Sound PP:=B0 (fn:=Tryz.f215) (D:=Bb6 _ n) ⟨Amw n,Amw n,Nl n,Ana n,Ry n,A0m n,trivial⟩

def f214 (n:Nat) (a0:Rq):Option Bool :=
 ob (f215 n a0) λa =>
 some (!a)
def Avc (n:Nat):Ent:=⟨214,[hR],[.bool],λx=>f214 n x⟩
def Bb7 (α:Type) (n:Nat):D3 α:={ reg:=[(1,⟨0,[],[(1,{ ent:=some (Avb n) })]⟩)],join:=[],loop:=[] }
theorem B5y (n:Nat):(Avc n).Sound PP:=B0 (fn:=Tryz.f214) (D:=Bb7 _ n) ⟨B5v n,trivial⟩

def P1 {α:Type} (n:Nat) (b:LR) (c a:Int) (f:LR->Int->Int->Option α) (k0:Int->Option α) (k1:Unit->Option α):Option α :=
 bif (decide (a<c)) then
  gd (decide (0<=a)&&decide (a<(b.length:Int))) (
   let d:=b.getD a.toNat (false,[],[])
   ob (f214 n d) λe =>
   bif e then
    k0 a
   else
    f b c (W (a+1)))
 else
  k1 ()
abbrev J6:Tm:=⟨[(0,.d hRs),(1,.d (.fn 214)),(7,.d hI),(8,.d hI)],[],[],[]⟩
abbrev Adt:Tm:=⟨[(4,.d hI)],[],[],[]⟩
abbrev Ads:Tm:=⟨[],[],[],[]⟩
abbrev P0:List (Exit × Tm):=[(.ret,Adt),(.exit 0,Ads)]
def Oz {α:Type} (n:Nat) (v:J6.den) (f:J6.den->Option α) (ks:KS α P0):Option α:=P1 n v.1.1 v.1.2.2.1 v.1.2.2.2.1 (λa b c=>f ((a,(),b,c,()),())) (λw0=>ks.1 ((w0,()),())) (λ_=>ks.2.1 ((),()))
def Hm {α:Type} (n m:Nat) (a:LR) (b c:Int) (k0:Int->Option α) (k1:Unit->Option α):Option α:=A5 (Oz n) m ((a,(),b,c,()),()) (λw=>k0 w.1.1,λw=>k1 (),())
theorem Adr {α n m a b c k0 k1}:Hm (α:=α) n (m+1) a b c k0 k1=P1 n a b c (λa b c=>Hm n m a b c k0 k1) k0 k1:=rfl
def A46 (n:Nat) (a0:LR) (a1:Unit):Option Int :=
 Hm n n a0 (a0.length:Int) 0
  (λa=>(
   some a))
  (λ(_:Unit)=>(
   some (-1)))
def A7q (n:Nat):Ent:=⟨172,[hRs,(.fn 214)],[hI],λx=>A46 n x.1 x.2⟩
def U6 (α:Type) (n:Nat):D3 α:={ reg:=[(4,⟨0,[],[(5,{ ent:=some (Avc n) })]⟩)],join:=[],loop:=[(2,⟨J6,P0,A5 (Oz n) n⟩)] }
theorem Vz (α:Type) (n:Nat):Ao PP (Ag (U6 α n).reg):=⟨B5y n,trivial⟩
theorem Aad (α:Type) (n:Nat):LO.Sound (α:=α) PP ⟨19,[]⟩ ⟨J6,P0,A5 (Oz n) n⟩ (.loop ((A1 Tryz.f172).at [1,0,1,0,0])):=C5 (D:=U6 α n) (Vz α n) n
theorem Ar3 (α:Type) (n:Nat):D3.OK PP TT ⟨19,[]⟩ (U6 α n) (A1 Tryz.f172) :=
 D3.OK.mk3 (Vz α n) (show Ab (A1 Tryz.f172)=[(2,(.loop ((A1 Tryz.f172).at [1,0,1,0,0])))] by kernel_rfl) ⟨Ac rfl (Aad α n),trivial⟩
theorem Al7 (n:Nat):(A7q n).Sound PP:=fk (fn:=Tryz.f172) (Ar3 _ n)

def Uv (n:Nat) (a0:LR) (a1:Unit):Option Bool :=
 ob (A46 n a0 a1) λa =>
 some (decide (a>=0))
def A8e (n:Nat):Ent:=⟨104,[hRs,(.fn 214)],[.bool],λx=>Uv n x.1 x.2⟩
def Asb (α:Type) (n:Nat):D3 α:={ reg:=[(1,⟨0,[],[(2,{ ent:=some (A7q n) })]⟩)],join:=[],loop:=[] }
theorem Alg (n:Nat):(A8e n).Sound PP:=B0 (fn:=Tryz.f104) (D:=Asb _ n) ⟨Al7 n,trivial⟩

def f185 (n:Nat) (a0:LR):Option Int :=
 ob (Uv n a0 ()) λa =>
 ob (f111 n (!a) 1) λb =>
 some b
def Awd (n:Nat):Ent:=⟨185,[hRs],[hI],λx=>f185 n x⟩
def Bbz (α:Type) (n:Nat):D3 α:={ reg:=[(1,⟨0,[],[(1,{ ent:=some (A8e n) }),(3,{ ent:=some (Gd n) })]⟩)],join:=[],loop:=[] }
theorem B6k (n:Nat):(Awd n).Sound PP:=B0 (fn:=Tryz.f185) (D:=Bbz _ n) ⟨Alg n,Np n,trivial⟩

def f119 (n:Nat) (a0:LR):Option Bool :=
 bif (decide ((a0.length:Int)>=1)) then
  bif (decide ((a0.length:Int)<=4)) then
   ob (f185 n a0) λa =>
   some (a==0)
  else
   some false
 else
  some false
def Lq (n:Nat):Ent:=⟨119,[hRs],[.bool],λx=>f119 n x⟩
def Bdb (α:Type) (n:Nat):D3 α:={ reg:=[(1,⟨0,[],[(10,{ ent:=some (Awd n) })]⟩)],join:=[],loop:=[] }
theorem Aaq (n:Nat):(Lq n).Sound PP:=B0 (fn:=Tryz.f119) (D:=Bdb _ n) ⟨B6k n,trivial⟩

def A9t {α:Type} (n:Nat) (b:LI) (c a:Int) (f:LI->Int->Int->Option α) (k0:Int->Option α) (k1:Unit->Option α):Option α :=
 bif (decide (a<c)) then
  gd (decide (0<=a)&&decide (a<(b.length:Int))) (
   bif ((b.getD a.toNat 0) != 0) then
    k0 (b.getD a.toNat 0)
   else
    f b c (W (a+1)))
 else
  k1 ()
abbrev Zz:Tm:=⟨[(5,.d hIs),(6,.d hI),(7,.d hI)],[],[],[]⟩
abbrev B1l:Tm:=⟨[(2,.d hI)],[],[],[]⟩
abbrev B1k:Tm:=⟨[],[],[],[]⟩
abbrev A9s:List (Exit × Tm):=[(.ret,B1l),(.exit 0,B1k)]
def A9r {α:Type} (n:Nat) (v:Zz.den) (f:Zz.den->Option α) (ks:KS α A9s):Option α:=A9t n v.1.1 v.1.2.1 v.1.2.2.1 (λa b c=>f ((a,b,c,()),())) (λw0=>ks.1 ((w0,()),())) (λ_=>ks.2.1 ((),()))
def A73 {α:Type} (n m:Nat) (a:LI) (b c:Int) (k0:Int->Option α) (k1:Unit->Option α):Option α:=A5 (A9r n) m ((a,b,c,()),()) (λw=>k0 w.1.1,λw=>k1 (),())
theorem B1j {α n m a b c k0 k1}:A73 (α:=α) n (m+1) a b c k0 k1=A9t n a b c (λa b c=>A73 n m a b c k0 k1) k0 k1:=rfl
def f70 (n:Nat) (a0:LI):Option Int :=
 A73 n n a0 (a0.length:Int) 0
  (λa=>(
   some a))
  (λ(_:Unit)=>(
   some 0))
def Gt (n:Nat):Ent:=⟨70,[hIs],[hI],λx=>f70 n x⟩
def Aq3 (α:Type) (n:Nat):D3 α:={ reg:=[],join:=[],loop:=[(2,⟨Zz,A9s,A5 (A9r n) n⟩)] }
theorem Agq (α:Type) (n:Nat):Ao PP (Ag (Aq3 α n).reg):=trivial
theorem Aup (α:Type) (n:Nat):LO.Sound (α:=α) PP ⟨15,[]⟩ ⟨Zz,A9s,A5 (A9r n) n⟩ (.loop ((A1 Tryz.f70).at [1,0,1,0,0])):=C5 (D:=Aq3 α n) (Agq α n) n
theorem Bet (α:Type) (n:Nat):D3.OK PP TT ⟨15,[]⟩ (Aq3 α n) (A1 Tryz.f70) :=
 D3.OK.mk3 (Agq α n) (show Ab (A1 Tryz.f70)=[(2,(.loop ((A1 Tryz.f70).at [1,0,1,0,0])))] by kernel_rfl) ⟨Ac rfl (Aup α n),trivial⟩
theorem A72 (n:Nat):(Gt n).Sound PP:=fk (fn:=Tryz.f70) (Bet _ n)

def A5f {α:Type} (n:Nat) (c:Int) (b:LN) (d a:Int) (f:Int->LN->Int->Int->Option α) (k0:Int->Option α):Option α :=
 bif (decide (a<d)) then
  gd (decide (0<=a)&&decide (a<(b.length:Int))) (
   let e:=b.getD a.toNat (0,0,0,0)
   bif (e.1==2) then
    f (max c (W (e.2.2.2+1))) b d (W (a+1))
   else
    f c b d (W (a+1)))
 else
  k0 c
abbrev Uo:Tm:=⟨[(3,.d hI),(6,.d hNs),(7,.d hI),(8,.d hI)],[],[5],[]⟩
abbrev Ayl:Tm:=⟨[(3,.d hI)],[],[],[]⟩
abbrev A5e:List (Exit × Tm):=[(.exit 0,Ayl)]
def A5d {α:Type} (n:Nat) (v:Uo.den) (f:Uo.den->Option α) (ks:KS α A5e):Option α:=A5f n v.1.1 v.1.2.1 v.1.2.2.1 v.1.2.2.2.1 (λa b c d=>f ((a,b,c,d,()),())) (λw0=>ks.1 ((w0,()),()))
def A0s {α:Type} (n m:Nat) (a:Int) (b:LN) (c d:Int) (k0:Int->Option α):Option α:=A5 (A5d n) m ((a,b,c,d,()),()) (λw=>k0 w.1.1,())
theorem Ayk {α n m a b c d k0}:A0s (α:=α) n (m+1) a b c d k0=A5f n a b c d (λa b c d=>A0s n m a b c d k0) k0:=rfl
def f120 (n:Nat) (a0:LN):Option Int :=
 A0s n n 0 a0 (a0.length:Int) 0
  (λa=>(
   some a))
def Aym (n:Nat):Ent:=⟨120,[hNs],[hI],λx=>f120 n x⟩
def Aj0 (α:Type) (n:Nat):D3 α:={ reg:=[],join:=[],loop:=[(3,⟨Uo,A5e,A5 (A5d n) n⟩)] }
theorem Ad4 (α:Type) (n:Nat):Ao PP (Ag (Aj0 α n).reg):=trivial
theorem As1 (α:Type) (n:Nat):LO.Sound (α:=α) PP ⟨22,[]⟩ ⟨Uo,A5e,A5 (A5d n) n⟩ (.loop ((A1 Tryz.f120).at [1,1,0,1,0,0])):=C5 (D:=Aj0 α n) (Ad4 α n) n
theorem Bda (α:Type) (n:Nat):D3.OK PP TT ⟨22,[]⟩ (Aj0 α n) (A1 Tryz.f120) :=
 D3.OK.mk3 (Ad4 α n) (show Ab (A1 Tryz.f120)=[(3,(.loop ((A1 Tryz.f120).at [1,1,0,1,0,0])))] by kernel_rfl) ⟨Ac rfl (As1 α n),trivial⟩
theorem B8b (n:Nat):(Aym n).Sound PP:=fk (fn:=Tryz.f120) (Bda _ n)

abbrev Aus:Tm:=⟨[(1,.d hRs),(2,.k (.hp 2 0 0))],[(2,.var 43 true false [.d hNs])],[],[]⟩
def f67 (n:Nat) (a0:LN) (a1:LR):Option Int :=
 ob (f71 n [a1]) λb =>
 ob (f60 n a0) λc =>
 ob (f119 n a1) λd =>
 ob (f111 n d 1) λe =>
 ob (f70 n [b,c,e]) λa =>
 bif (a != 0) then
  ob (f111 n true 8) λf =>
  ob (f70 n [a,f]) λg =>
  some g
 else
  ob (f120 n a0) λh =>
  ob (f111 n (decide ((a1.length:Int)>=h)) 8) λi =>
  ob (f70 n [a,i]) λj =>
  some j
def Q3 (n:Nat):Ent:=⟨67,[hE,hRs],[hI],λx=>f67 n x.1 x.2⟩
def B44 (α:Type) (n:Nat):D3 α:={ reg:=[(1,⟨0,[],[(1,{ sh:=some hRs }),(2,{ ent:=some (Ht n) }),(4,{ ent:=some (A03 n) }),(6,{ ent:=some (Lq n) }),(7,{ ent:=some (Gd n) }),(8,{ sh:=some hI }),(9,{ ent:=some (Gt n) })]⟩),(2,⟨0,[],[(8,{ ent:=some (Aym n) }),(11,{ ent:=some (Gd n) }),(12,{ sh:=some hI }),(13,{ ent:=some (Gt n) })]⟩)],join:=[],loop:=[],any:=[(1,Aus)] }
set_option maxHeartbeats 8000000 in
theorem Bai (n:Nat):Al TT ⟨30,[]⟩ [(1,{ sh:=some hRs }),(2,{ ent:=some (Ht n) }),(4,{ ent:=some (A03 n) }),(6,{ ent:=some (Lq n) }),(7,{ ent:=some (Gd n) }),(8,{ sh:=some hI }),(9,{ ent:=some (Gt n) })] Aus (A4 ((A1 Tryz.f67).at [1,0])):=by
 refine ⟨by kernel_rfl,λw q hq=>?_⟩
 have e:WT [(1,{ sh:=some hRs }),(2,{ ent:=some (Ht n) }),(4,{ ent:=some (A03 n) }),(6,{ ent:=some (Lq n) }),(7,{ ent:=some (Gd n) }),(8,{ sh:=some hI }),(9,{ ent:=some (Gt n) })] (A8 (A4 ((A1 Tryz.f67).at [1,0])).toList) q=(∃ (y0:HL (Ht n).rs) (q0:List (Nat × RV)),q=(2,.sv (Ae (Ht n).rs y0))::q0 /\ ∃ (y1:HL (A03 n).rs) (q1:List (Nat × RV)),q0=(4,.sv (Ae (A03 n).rs y1))::q1 /\ ∃ (y2:HL (Lq n).rs) (q2:List (Nat × RV)),q1=(6,.sv (Ae (Lq n).rs y2))::q2 /\ ∃ (y3:HL (Gd n).rs) (q3:List (Nat × RV)),q2=(7,.sv (Ae (Gd n).rs y3))::q3 /\ ∃ (y4:HL (Gt n).rs) (q4:List (Nat × RV)),q3=(9,.sv (Ae (Gt n).rs y4))::q4/\q4=[]):=by kernel_rfl
 rw [e] at hq;obtain ⟨y0,q0,rfl,y1,q1,rfl,y2,q2,rfl,y3,q3,rfl,y4,q4,rfl,rfl⟩:=hq
 all_goals exact .inr ⟨6,by kernel_rfl,by kernel_rfl,by kernel_rfl⟩
theorem B1m (α:Type) (n:Nat):Ao PP (Ag (B44 α n).reg):=⟨Agm n,Bak n,Aaq n,Np n,A72 n,B8b n,Np n,A72 n,trivial⟩
theorem Bew (α:Type) (n:Nat):D3.OK PP TT ⟨30,[]⟩ (B44 α n) (A1 Tryz.f67) :=
 D3.OK.mk3a (B1m α n) (show Ab (A1 Tryz.f67)=[] by kernel_rfl) trivial (show Ar (A1 Tryz.f67)=[(1,A4 ((A1 Tryz.f67).at [1,0]))] by kernel_rfl) ⟨⟨Bai n,trivial⟩,trivial⟩
theorem Agr (n:Nat):(Q3 n).Sound PP:=fk (fn:=Tryz.f67) (Bew _ n)

def f97 (n:Nat) (a0:Int):Option Rq :=
 bif (decide (a0<0)) then
  ob (f150 n (W (0-a0))) λa =>
  ob (f151 n) λb =>
  some (true,a,b)
 else
  ob (f150 n a0) λc =>
  ob (f151 n) λd =>
  some (false,c,d)
def At (n:Nat):Ent:=⟨97,[hI],[hR],λx=>f97 n x⟩
def Bej (α:Type) (n:Nat):D3 α:={ reg:=[(2,⟨0,[],[(2,{ ent:=some (Ln n) }),(3,{ ent:=some (Rz n) })]⟩),(3,⟨0,[],[(1,{ ent:=some (Ln n) }),(2,{ ent:=some (Rz n) })]⟩)],join:=[],loop:=[] }
theorem Bi (n:Nat):(At n).Sound PP:=B0 (fn:=Tryz.f97) (D:=Bej _ n) ⟨Aak n,Ry n,Aak n,Ry n,trivial⟩

def A9x {α:Type} (n:Nat) (b c:Int) (a:LR) (f:Int->Int->LR->Option α) (k0:LR->Option α):Option α :=
 bif (decide (c<b)) then
  ob (f97 n 0) λd =>
  gd (decide ((a.length+1)*56<=140737488355328)) (
   f b (W (c+1)) (a++[d]))
 else
  k0 a
abbrev A00:Tm:=⟨[(3,.k (.hw 4)),(5,.d hI),(6,.d hI)],[(4,.arr 54 hR false)],[10],[]⟩
abbrev B1o:Tm:=⟨[(3,.k (.hw 4))],[(4,.arr 54 hR false)],[],[]⟩
abbrev A9w:List (Exit × Tm):=[(.exit 0,B1o)]
def A9v {α:Type} (n:Nat) (v:A00.den) (f:A00.den->Option α) (ks:KS α A9w):Option α:=A9x n v.1.2.1 v.1.2.2.1 v.2.1 (λa b c=>f (((),a,b,()),(c,()))) (λw0=>ks.1 (((),()),(w0,())))
def A74 {α:Type} (n m:Nat) (a b:Int) (c:LR) (k0:LR->Option α):Option α:=A5 (A9v n) m (((),a,b,()),(c,())) (λw=>k0 w.2.1,())
theorem B1n {α n m a b c k0}:A74 (α:=α) n (m+1) a b c k0=A9x n a b c (λa b c=>A74 n m a b c k0) k0:=rfl
def f64 (n:Nat) (a0:Int):Option LR :=
 A74 n n a0 0 []
  (λa=>(
   some a))
def Hu (n:Nat):Ent:=⟨64,[hI],[hRs],λx=>f64 n x⟩
def Aq6 (α:Type) (n:Nat):D3 α:={ reg:=[(1,⟨0,[],[(0,{ sh:=some hR })]⟩),(4,⟨0,[],[(1,{ ent:=some (At n) }),(2,{ sh:=some hR })]⟩)],join:=[],loop:=[(3,⟨A00,A9w,A5 (A9v n) n⟩)] }
theorem Agt (α:Type) (n:Nat):Ao PP (Ag (Aq6 α n).reg):=⟨Bi n,trivial⟩
theorem Aut (α:Type) (n:Nat):LO.Sound (α:=α) PP ⟨14,[]⟩ ⟨A00,A9w,A5 (A9v n) n⟩ (.loop ((A1 Tryz.f64).at [1,1,0,1,0,0])):=C5 (D:=Aq6 α n) (Agt α n) n
theorem Bex (α:Type) (n:Nat):D3.OK PP TT ⟨14,[]⟩ (Aq6 α n) (A1 Tryz.f64) :=
 D3.OK.mk3 (Agt α n) (show Ab (A1 Tryz.f64)=[(3,(.loop ((A1 Tryz.f64).at [1,1,0,1,0,0])))] by kernel_rfl) ⟨Ac rfl (Aut α n),trivial⟩
theorem Ags (n:Nat):(Hu n).Sound PP:=fk (fn:=Tryz.f64) (Bex _ n)

abbrev Ao3:Tm:=⟨[(2,.k (.hp 2 0 0)),(3,.k (.hp 3 0 0)),(4,.k (.hp 4 0 0))],[(2,.var 94 true false [.d hI,.d .nil]),(3,.var 54 true false [.d .bool,.d hIs,.d hIs]),(4,.var 91 true false [.d .bool,.d .nil,.d .nil,.d .nil,.d .nil,.d .bool,.d .nil,.d .nil])],[],[]⟩
def f163 (n:Nat) (a0:Int × Unit) (a1:Rq):Option (Rq × LR × Unit × Rq) :=
 ob (f64 n a0.1) λa =>
 ob (f97 n 0) λb =>
 some (a1,a,(),b)
def Ax4 (n:Nat):Ent:=⟨163,[(.st (.pair hI .nil)),hR],[(.st (.pair hR (.pair hRs (.pair .nil hR))))],λx=>f163 n x.1 x.2⟩
def Ax5 (α:Type) (n:Nat):D3 α:={ reg:=[(1,⟨0,[],[(3,{ ent:=some (Hu n) }),(4,{ ent:=some (At n) })]⟩)],join:=[],loop:=[],any:=[(1,Ao3)] }
set_option maxHeartbeats 8000000 in
theorem B7f (n:Nat):Al TT ⟨20,[]⟩ [(3,{ ent:=some (Hu n) }),(4,{ ent:=some (At n) })] Ao3 (A4 ((A1 Tryz.f163).at [1,0])):=by
 refine ⟨by kernel_rfl,λw q hq=>?_⟩
 have e:WT [(3,{ ent:=some (Hu n) }),(4,{ ent:=some (At n) })] (A8 (A4 ((A1 Tryz.f163).at [1,0])).toList) q=(∃ (y0:HL (Hu n).rs) (q0:List (Nat × RV)),q=(3,.sv (Ae (Hu n).rs y0))::q0 /\ ∃ (y1:HL (At n).rs) (q1:List (Nat × RV)),q0=(4,.sv (Ae (At n).rs y1))::q1/\q1=[]):=by kernel_rfl
 rw [e] at hq;obtain ⟨y0,q0,rfl,y1,q1,rfl,rfl⟩:=hq
 all_goals exact .inr ⟨7,by kernel_rfl,by kernel_rfl,by kernel_rfl⟩
theorem Ax3 (α:Type) (n:Nat):Ao PP (Ag (Ax5 α n).reg):=⟨Ags n,Bi n,trivial⟩
theorem Bcg (α:Type) (n:Nat):D3.OK PP TT ⟨20,[]⟩ (Ax5 α n) (A1 Tryz.f163) :=
 D3.OK.mk3a (Ax3 α n) (show Ab (A1 Tryz.f163)=[] by kernel_rfl) trivial (show Ar (A1 Tryz.f163)=[(1,A4 ((A1 Tryz.f163).at [1,0]))] by kernel_rfl) ⟨⟨B7f n,trivial⟩,trivial⟩
theorem B7e (n:Nat):(Ax4 n).Sound PP:=fk (fn:=Tryz.f163) (Bcg _ n)

def A2q {α:Type} (n:Nat) (b c:Int) (a:LR) (f:Int->Int->LR->Option α) (k0:LR->Option α):Option α :=
 bif (decide (c<b)) then
  ob (f97 n 0) λd =>
  gd (decide ((a.length+1)*56<=140737488355328)) (
   f b (W (c+1)) (a++[d]))
 else
  k0 a
abbrev Ta:Tm:=⟨[(3,.k (.hw 4)),(5,.d hI),(6,.d hI)],[(4,.arr 54 hR false)],[10],[]⟩
abbrev Auv:Tm:=⟨[(3,.k (.hw 4))],[(4,.arr 54 hR false)],[],[]⟩
abbrev A2p:List (Exit × Tm):=[(.exit 0,Auv)]
def A2o {α:Type} (n:Nat) (v:Ta.den) (f:Ta.den->Option α) (ks:KS α A2p):Option α:=A2q n v.1.2.1 v.1.2.2.1 v.2.1 (λa b c=>f (((),a,b,()),(c,()))) (λw0=>ks.1 (((),()),(w0,())))
def A01 {α:Type} (n m:Nat) (a b:Int) (c:LR) (k0:LR->Option α):Option α:=A5 (A2o n) m (((),a,b,()),(c,())) (λw=>k0 w.2.1,())
theorem Auu {α n m a b c k0}:A01 (α:=α) n (m+1) a b c k0=A2q n a b c (λa b c=>A01 n m a b c k0) k0:=rfl
def Xo (n:Nat) (a0:Int):Option LR :=
 A01 n n a0 0 []
  (λa=>(
   some a))
def E8 (n:Nat):Ent3:=⟨64,[.im hI],[[.one (.own 54 hR)]],λx=>Xo n x,[]⟩
def Agu (α:Type) (n:Nat):D3 α:={ reg:=[(1,⟨0,[],[(0,{ sh:=some hR })]⟩),(4,⟨0,[],[(1,{ ent:=some (At n) }),(2,{ sh:=some hR })]⟩)],join:=[],loop:=[(3,⟨Ta,A2p,A5 (A2o n) n⟩)] }
theorem Abz (α:Type) (n:Nat):Ao PP (Ag (Agu α n).reg):=⟨Bi n,trivial⟩
theorem Aq7 (α:Type) (n:Nat):LO.Sound (α:=α) PP ⟨14,[]⟩ ⟨Ta,A2p,A5 (A2o n) n⟩ (.loop ((A1 Tryz.f64).at [1,1,0,1,0,0])):=C5 (D:=Agu α n) (Abz α n) n
theorem Baj (α:Type) (n:Nat):D3.OK PP TT ⟨14,[]⟩ (Agu α n) (A1 Tryz.f64) :=
 D3.OK.mk3 (Abz α n) (show Ab (A1 Tryz.f64)=[(3,(.loop ((A1 Tryz.f64).at [1,1,0,1,0,0])))] by kernel_rfl) ⟨Ac rfl (Aq7 α n),trivial⟩
theorem A9y (n:Nat):(E8 n).Sound PP:=fkB (fn:=Tryz.f64) (Baj _ n)

abbrev Aij:Tm:=⟨[(2,.k (.hp 2 0 0)),(3,.k (.hp 3 0 0)),(4,.k (.hp 4 0 0))],[(2,.var 94 true false [.d hI,.d .nil]),(3,.var 54 true false [.d .bool,.d hIs,.d hIs]),(4,.var 91 true false [.d .bool,.d .nil,.d .nil,.d .nil,.d .nil,.d .bool,.d .nil,.d .nil])],[],[]⟩
def Aef (n:Nat) (a0:Int × Unit) (a1:Rq):Option (Bool × LI × LI × LR × Unit × Bool × LI × LI) :=
 ob (Xo n a0.1) λb =>
 ob (f97 n 0) λa =>
 some (a1.1,a1.2.1,a1.2.2,b,(),a.1,a.2.1,a.2.2)
def Ao4 (n:Nat):Ent3:=⟨163,[.im (.st (.pair hI .nil)),.im hR],[[.mix [.im .bool,.im hIs,.im hIs,.own 54 hR,.im .nil,.im .bool,.im hIs,.im hIs]]],λx=>Aef n x.1 x.2,[]⟩
def Ao5 (α:Type) (n:Nat):D3 α:={ reg:=[(1,⟨0,[],[(3,{ entB:=some (E8 n),hb:=310 }),(4,{ ent:=some (At n) })]⟩)],join:=[],loop:=[],any:=[(1,Aij)] }
set_option maxHeartbeats 8000000 in
theorem B2i (n:Nat):Al TT ⟨20,[]⟩ [(3,{ entB:=some (E8 n),hb:=310 }),(4,{ ent:=some (At n) })] Aij (A4 ((A1 Tryz.f163).at [1,0])):=by
 refine ⟨by kernel_rfl,λw q hq=>?_⟩
 have e:WT [(3,{ entB:=some (E8 n),hb:=310 }),(4,{ ent:=some (At n) })] (A8 (A4 ((A1 Tryz.f163).at [1,0])).toList) q=(∃ (y0:HF (Am 1000 (E8 n).ts) (E8 n).forms) (q0:List (Nat × RV)),q=(3,.bx (E8 n) y0)::q0 /\ ∃ (y1:HL (At n).rs) (q1:List (Nat × RV)),q0=(4,.sv (Ae (At n).rs y1))::q1/\q1=[]):=by kernel_rfl
 rw [e] at hq;obtain ⟨y0,q0,rfl,y1,q1,rfl,rfl⟩:=hq
 all_goals exact .inl (Hy.mk (by kernel_rfl))
theorem Arf (α:Type) (n:Nat):Ao PP (Ag (Ao5 α n).reg):=⟨A9y n,Bi n,trivial⟩
theorem B7g (α:Type) (n:Nat):D3.OK PP TT ⟨20,[]⟩ (Ao5 α n) (A1 Tryz.f163) :=
 D3.OK.mk3a (Arf α n) (show Ab (A1 Tryz.f163)=[] by kernel_rfl) trivial (show Ar (A1 Tryz.f163)=[(1,A4 ((A1 Tryz.f163).at [1,0]))] by kernel_rfl) ⟨⟨B2i n,trivial⟩,trivial⟩
theorem B2h (n:Nat):(Ao4 n).Sound PP:=fkB (fn:=Tryz.f163) (B7g _ n)

abbrev B7c:Tm:=⟨[(2,.d hI),(3,.k (.hp 3 0 0)),(6,.k (.hp 6 0 0)),(7,.k (.hp 7 0 0))],[(3,.var 94 true false [.d hI,.d .nil]),(6,.var 91 true false [.d .bool,.d .nil,.d .nil,.d .nil,.d .nil,.d .bool,.d .nil,.d .nil]),(7,.var 91 false false [.d .bool,.d hIs,.d hIs,.k (.hw 313),.d .nil,.d .bool,.d hIs,.d hIs]),(313,.arr 54 hR false)],[4],[]⟩
def f164 (n:Nat) (a0:Int × Unit) (a1:Rq) (a2:Int):Option (Rq × LR × Unit × Rq) :=
 ob (Aef n a0 a1) λa =>
 let b:=λ(c:LR)=>(
  some ((a.1,a.2.1,a.2.2.1),c,(),a.2.2.2.2.2))
 bif (decide (a2<a0.1)) then
  ob (f97 n 1) λd =>
  gd (decide (0<=a2)&&decide (a2<(a.2.2.2.1.length:Int))) (
   gd (decide (a2.toNat<a.2.2.2.1.length)) (
    b (a.2.2.2.1.set a2.toNat d)))
 else
  b a.2.2.2.1
def Ax2 (n:Nat):Ent:=⟨164,[(.st (.pair hI .nil)),hR,hI],[(.st (.pair hR (.pair hRs (.pair .nil hR))))],λx=>f164 n x.1 x.2.1 x.2.2⟩
def Bcf (α:Type) (n:Nat):D3 α:={ reg:=[(1,⟨0,[],[(2,{ alt:=[(Ao4 n)],hb:=310 })]⟩),(3,⟨4,[],[(3,{ ent:=some (At n) })]⟩)],join:=[(4,B7c)],loop:=[] }
theorem B7b (n:Nat):(Ax2 n).Sound PP:=B0 (fn:=Tryz.f164) (D:=Bcf _ n) ⟨B2h n,Bi n,trivial⟩

def A4q {α:Type} (n:Nat) (d:LI) (b g e a:Int) (h:LI) (i j:Int) (c:LI) (f:LI->Int->Int->Int->Int->LI->Int->Int->LI->Option α) (k0:LI->LI->Int->Int->LI->Option α):Option α :=
 let k:=λ(_:Unit)=>(
  let l:=λ(m:Int)=>(
   gd (decide (0<=(W (b+a)))&&decide ((W (b+a))<(c.length:Int))) (
    gd (decide ((W (b+a)).toNat<c.length)) (
     gd (decide (0<=(W (b+a)))&&decide ((W (b+a))<(c.length:Int))) (
      gd (decide ((W (b+a)).toNat<c.length)) (
       f d b g (W (Int.tdiv (W (m+(c.getD ((W (b+a)).toNat) 0))) 10000)) (W (a+1)) h i j (c.set ((W (b+a)).toNat) (Int.tmod (W (m+(c.getD ((W (b+a)).toNat) 0))) 10000)))))))
  bif (decide (a<(d.length:Int))) then
   gd (decide (0<=a)&&decide (a<(d.length:Int))) (
    l (W (e+(W (g*(d.getD a.toNat 0))))))
  else
   l e)
 bif (decide (a<(d.length:Int))) then
  k ()
 else
  bif (decide (e>0)) then
   k ()
  else
   k0 d h i j c
abbrev Ue:Tm:=⟨[(1,.d hIs),(5,.k (.hw 15)),(6,.d hI),(7,.d hI),(8,.d hI),(9,.d hI),(16,.d hIs),(17,.d hI),(18,.d hI)],[(15,.arr 3 hI false)],[],[]⟩
abbrev Axm:Tm:=⟨[(1,.d hIs),(5,.k (.hw 15)),(16,.d hIs),(17,.d hI),(18,.d hI)],[(15,.arr 3 hI false)],[],[]⟩
abbrev A4p:List (Exit × Tm):=[(.exit 2,Axm)]
def A4o {α:Type} (n:Nat) (v:Ue.den) (f:Ue.den->Option α) (ks:KS α A4p):Option α:=A4q n v.1.1 v.1.2.2.1 v.1.2.2.2.1 v.1.2.2.2.2.1 v.1.2.2.2.2.2.1 v.1.2.2.2.2.2.2.1 v.1.2.2.2.2.2.2.2.1 v.1.2.2.2.2.2.2.2.2.1 v.2.1 (λa b c d e g h i j=>f ((a,(),b,c,d,e,g,h,i,()),(j,()))) (λw0 w1 w2 w3 w4=>ks.1 ((w0,(),w1,w2,w3,()),(w4,())))
def Nn {α:Type} (n m:Nat) (a:LI) (b c d e:Int) (f:LI) (g h:Int) (i:LI) (k0:LI->LI->Int->Int->LI->Option α):Option α:=A5 (A4o n) m ((a,(),b,c,d,e,f,g,h,()),(i,())) (λw=>k0 w.1.1 w.1.2.2.1 w.1.2.2.2.1 w.1.2.2.2.2.1 w.2.1,())
theorem Axl {α n m a b c d e f g h i k0}:Nn (α:=α) n (m+1) a b c d e f g h i k0=A4q n a b c d e f g h i (λa b c d e f g h i=>Nn n m a b c d e f g h i k0) k0:=rfl
def A4t {α:Type} (n:Nat) (e b:LI) (c a:Int) (d:LI) (f:LI->LI->Int->Int->LI->Option α) (k0:LI->Option α):Option α :=
 bif (decide (a<c)) then
  gd (decide (0<=a)&&decide (a<(b.length:Int))) (
   Nn n n e a (b.getD a.toNat 0) 0 0 b c a d
    (λg h i j k=>(
     f g h i (W (j+1)) k)))
 else
  k0 d
abbrev Uf:Tm:=⟨[(1,.d hIs),(5,.k (.hw 15)),(16,.d hIs),(17,.d hI),(18,.d hI)],[(15,.arr 3 hI false)],[],[]⟩
abbrev Axp:Tm:=⟨[(5,.k (.hw 15))],[(15,.arr 3 hI false)],[],[]⟩
abbrev A4s:List (Exit × Tm):=[(.exit 0,Axp)]
def A4r {α:Type} (n:Nat) (v:Uf.den) (f:Uf.den->Option α) (ks:KS α A4s):Option α:=A4t n v.1.1 v.1.2.2.1 v.1.2.2.2.1 v.1.2.2.2.2.1 v.2.1 (λa b c d e=>f ((a,(),b,c,d,()),(e,()))) (λw0=>ks.1 (((),()),(w0,())))
def No {α:Type} (n m:Nat) (a b:LI) (c d:Int) (e:LI) (k0:LI->Option α):Option α:=A5 (A4r n) m ((a,(),b,c,d,()),(e,())) (λw=>k0 w.2.1,())
theorem Axn {α n m a b c d e k0}:No (α:=α) n (m+1) a b c d e k0=A4t n a b c d e (λa b c d e=>No n m a b c d e k0) k0:=rfl
abbrev B7t:Tm:=⟨[(1,.d hIs),(5,.k (.hw 15)),(6,.d hI),(7,.d hI),(8,.d hI),(9,.d hI),(16,.d hIs),(17,.d hI),(18,.d hI)],[(15,.arr 3 hI false)],[],[]⟩
abbrev B2n:Tm:=⟨[(1,.d hIs),(5,.k (.hw 15)),(6,.d hI),(7,.d hI),(8,.d hI),(9,.d hI),(16,.d hIs),(17,.d hI),(18,.d hI)],[(15,.arr 3 hI false)],[],[]⟩
def f152 (n:Nat) (a0 a1:LI):Option LI :=
 gd (decide (0<=(W ((a0.length:Int)+(a1.length:Int))))&&decide ((W ((a0.length:Int)+(a1.length:Int)))<=4611686018427387904)&&decide ((8:Int)*(W ((a0.length:Int)+(a1.length:Int)))<=281474976710656)) (
  No n n a1 a0 (a0.length:Int) 0 (List.replicate ((W ((a0.length:Int)+(a1.length:Int))).toNat) 0)
   (λa=>(
    ob (f202 n a) λb =>
    some b)))
def Ho (n:Nat):Ent:=⟨152,[hIs,hIs],[hIs],λx=>f152 n x.1 x.2⟩
def A85 (α:Type) (n:Nat):D3 α:={ reg:=[(14,⟨0,[],[(1,{ ent:=some (Hk n),fz:=[(63,hIs)] })]⟩)],join:=[(9,B7t),(11,B2n)],loop:=[(7,⟨Ue,A4p,A5 (A4o n) n⟩),(3,⟨Uf,A4s,A5 (A4r n) n⟩)] }
theorem Yi (α:Type) (n:Nat):Ao PP (Ag (A85 α n).reg):=⟨Rl n,trivial⟩
theorem Arm (α:Type) (n:Nat):LO.Sound (α:=α) PP ⟨65,[]⟩ ⟨Ue,A4p,A5 (A4o n) n⟩ (.loop ((A1 Tryz.f152).at [1,1,0,1,0,0,1,1,0,0,1,1,1,0,0])):=C5 (D:=A85 α n) (Yi α n) n
theorem Axo (α:Type) (n:Nat):D3.OK PP TT ⟨65,[]⟩ (A85 α n) ((A1 Tryz.f152).at [1,1,0,1,0,0]) :=
 D3.OK.mk3 (Yi α n) (show Ab ((A1 Tryz.f152).at [1,1,0,1,0,0])=[(7,(.loop ((A1 Tryz.f152).at [1,1,0,1,0,0,1,1,0,0,1,1,1,0,0])))] by kernel_rfl) ⟨Ac rfl (Arm α n),trivial⟩
theorem Arn (α:Type) (n:Nat):LO.Sound (α:=α) PP ⟨65,[]⟩ ⟨Uf,A4s,A5 (A4r n) n⟩ (.loop ((A1 Tryz.f152).at [1,1,0,1,0,0])):=lk (Axo α n) n
theorem Bco (α:Type) (n:Nat):D3.OK PP TT ⟨65,[]⟩ (A85 α n) (A1 Tryz.f152) :=
 D3.OK.mk3 (Yi α n) (show Ab (A1 Tryz.f152)=[(3,(.loop ((A1 Tryz.f152).at [1,1,0,1,0,0])))] by kernel_rfl) ⟨Ac rfl (Arn α n),trivial⟩
theorem Gv (n:Nat):(Ho n).Sound PP:=fk (fn:=Tryz.f152) (Bco _ n)

def A4n {α:Type} (n:Nat) (b c:LI) (d a:Int) (e:LI) (f:LI->LI->Int->Int->LI->Option α) (k0:LI->Option α):Option α :=
 let g:=λ(_:Unit)=>(
  let h:=λ(i:Int)=>(
   let j:=λ(k:Int)=>(
    gd (decide ((e.length+1)*8<=140737488355328)) (
     f b c (W (Int.tdiv k 10000)) (W (a+1)) (e++[(Int.tmod k 10000)])))
   bif (decide (a<(c.length:Int))) then
    gd (decide (0<=a)&&decide (a<(c.length:Int))) (
     j (W (i+(c.getD a.toNat 0))))
   else
    j i)
  bif (decide (a<(b.length:Int))) then
   gd (decide (0<=a)&&decide (a<(b.length:Int))) (
    h (W (d+(b.getD a.toNat 0))))
  else
   h d)
 bif (decide (a<(max (b.length:Int) (c.length:Int)))) then
  g ()
 else
  bif (decide (d>0)) then
   g ()
  else
   k0 e
abbrev Ud:Tm:=⟨[(0,.d hIs),(1,.d hIs),(5,.k (.hw 8)),(6,.d hI),(7,.d hI)],[(8,.arr 3 hI false)],[45],[]⟩
abbrev Axj:Tm:=⟨[(5,.k (.hw 8))],[(8,.arr 3 hI false)],[],[]⟩
abbrev A4m:List (Exit × Tm):=[(.exit 0,Axj)]
def A4l {α:Type} (n:Nat) (v:Ud.den) (f:Ud.den->Option α) (ks:KS α A4m):Option α:=A4n n v.1.1 v.1.2.1 v.1.2.2.2.1 v.1.2.2.2.2.1 v.2.1 (λa b c d e=>f ((a,b,(),c,d,()),(e,()))) (λw0=>ks.1 (((),()),(w0,())))
def Nm {α:Type} (n m:Nat) (a b:LI) (c d:Int) (e:LI) (k0:LI->Option α):Option α:=A5 (A4l n) m ((a,b,(),c,d,()),(e,())) (λw=>k0 w.2.1,())
theorem Axi {α n m a b c d e k0}:Nm (α:=α) n (m+1) a b c d e k0=A4n n a b c d e (λa b c d e=>Nm n m a b c d e k0) k0:=rfl
abbrev B7q:Tm:=⟨[(0,.d hIs),(1,.d hIs),(5,.k (.hw 8)),(6,.d hI),(7,.d hI)],[(8,.arr 3 hI false)],[],[]⟩
abbrev B7p:Tm:=⟨[(0,.d hIs),(1,.d hIs),(5,.k (.hw 8)),(6,.d hI),(7,.d hI)],[(8,.arr 3 hI false)],[],[]⟩
abbrev B7o:Tm:=⟨[(0,.d hIs),(1,.d hIs),(5,.k (.hw 8)),(6,.d hI),(7,.d hI)],[(8,.arr 3 hI false)],[],[]⟩
def f154 (n:Nat) (a0 a1:LI):Option LI :=
 Nm n n a0 a1 0 0 []
  (λa=>(
   some a))
def Axk (n:Nat):Ent:=⟨154,[hIs,hIs],[hIs],λx=>f154 n x.1 x.2⟩
def Air (α:Type) (n:Nat):D3 α:={ reg:=[(1,⟨0,[],[(0,{ sh:=some hI })]⟩),(9,⟨0,[],[(3,{ sh:=some hI })]⟩)],join:=[(5,B7q),(7,B7p),(9,B7o)],loop:=[(3,⟨Ud,A4m,A5 (A4l n) n⟩)] }
theorem Acv (α:Type) (n:Nat):Ao PP (Ag (Air α n).reg):=trivial
theorem Arl (α:Type) (n:Nat):LO.Sound (α:=α) PP ⟨50,[]⟩ ⟨Ud,A4m,A5 (A4l n) n⟩ (.loop ((A1 Tryz.f154).at [1,1,0,1,0,0])):=C5 (D:=Air α n) (Acv α n) n
theorem Bcm (α:Type) (n:Nat):D3.OK PP TT ⟨50,[]⟩ (Air α n) (A1 Tryz.f154) :=
 D3.OK.mk3 (Acv α n) (show Ab (A1 Tryz.f154)=[(3,(.loop ((A1 Tryz.f154).at [1,1,0,1,0,0])))] by kernel_rfl) ⟨Ac rfl (Arl α n),trivial⟩
theorem B7n (n:Nat):(Axk n).Sound PP:=fk (fn:=Tryz.f154) (Bcm _ n)

abbrev B7r:Tm:=⟨[(0,.d .bool),(1,.d hIs),(2,.d hIs),(6,.k (.hp 6 0 0))],[(6,.var 54 true false [.d .bool,.d .nil,.d .nil])],[],[]⟩
def f153 (n:Nat) (a0:Bool) (a1 a2:LI):Option Rq :=
 let c:=λ(a:LI) (d:LI)=>(
  bif a0 then
   ob (f123 n a) λe =>
   ob (f123 n d) λf =>
   some ((decide ((a.length:Int)>0)),e,f)
  else
   ob (f123 n a) λg =>
   ob (f123 n d) λh =>
   some (false,g,h))
 ob (f203 n a1 a2) λb =>
 ob (f151 n) λi =>
 ob (f155 n b i) λj =>
 bif (j != 0) then
  ob (f204 n a1 b) λk =>
  ob (f204 n a2 b) λl =>
  c k.1 l.1
 else
  c a1 a2
def Rx (n:Nat):Ent:=⟨153,[.bool,hIs,hIs],[hR],λx=>f153 n x.1 x.2.1 x.2.2⟩
def Bcn (α:Type) (n:Nat):D3 α:={ reg:=[(1,⟨0,[],[(2,{ ent:=some (Ahi n) })]⟩),(2,⟨0,[],[(1,{ ent:=some (Rz n) }),(2,{ ent:=some (Yh n) })]⟩),(3,⟨0,[],[(2,{ ent:=some (A7j n) })]⟩),(4,⟨0,[],[(2,{ ent:=some (A7j n) })]⟩),(5,⟨0,[],[(7,{ ent:=some (Lp n) }),(9,{ ent:=some (Lp n) })]⟩)],join:=[(5,B7r)],loop:=[] }
theorem Rw (n:Nat):(Rx n).Sound PP:=B0 (fn:=Tryz.f153) (D:=Bcn _ n) ⟨Ana n,Ry n,A0m n,Aa8 n,Aa8 n,Ki n,Ki n,trivial⟩

def A4j {α:Type} (n:Nat) (c:LI) (g d a:Int) (b:LI) (f:LI->Int->Int->Int->LI->Option α) (k0:LI->Option α):Option α :=
 bif (decide (a<d)) then
  gd (decide (0<=a)&&decide (a<(b.length:Int))) (
   gd (decide (a.toNat<b.length)) (
    let h:=λ(e:Int)=>(
     bif (decide (e<0)) then
      gd (decide (0<=a)&&decide (a<(b.length:Int))) (
       gd (decide (a.toNat<b.length)) (
        f c 1 d (W (a+1)) (b.set a.toNat (W (e+10000)))))
     else
      gd (decide (0<=a)&&decide (a<(b.length:Int))) (
       gd (decide (a.toNat<b.length)) (
        f c 0 d (W (a+1)) (b.set a.toNat e))))
    bif (decide (a<(c.length:Int))) then
     gd (decide (0<=a)&&decide (a<(c.length:Int))) (
      h (W ((W ((b.getD a.toNat 0)-g))-(c.getD a.toNat 0))))
    else
     h (W ((b.getD a.toNat 0)-g))))
 else
  k0 b
abbrev Ub:Tm:=⟨[(1,.d hIs),(5,.k (.hw 310)),(6,.d hI),(12,.d hI),(13,.d hI)],[(310,.arr 3 hI false)],[],[]⟩
abbrev Axc:Tm:=⟨[(5,.k (.hw 310))],[(310,.arr 3 hI false)],[],[]⟩
abbrev A4i:List (Exit × Tm):=[(.exit 0,Axc)]
def A4h {α:Type} (n:Nat) (v:Ub.den) (f:Ub.den->Option α) (ks:KS α A4i):Option α:=A4j n v.1.1 v.1.2.2.1 v.1.2.2.2.1 v.1.2.2.2.2.1 v.2.1 (λa b c d e=>f ((a,(),b,c,d,()),(e,()))) (λw0=>ks.1 (((),()),(w0,())))
def Ii {α:Type} (n m:Nat) (a:LI) (b c d:Int) (e:LI) (k0:LI->Option α):Option α:=A5 (A4h n) m ((a,(),b,c,d,()),(e,())) (λw=>k0 w.2.1,())
theorem Axb {α n m a b c d e k0}:Ii (α:=α) n (m+1) a b c d e k0=A4j n a b c d e (λa b c d e=>Ii n m a b c d e k0) k0:=rfl
abbrev B7l:Tm:=⟨[(1,.d hIs),(5,.k (.hw 310)),(7,.d hI),(8,.d hI),(12,.d hI),(13,.d hI)],[(310,.arr 3 hI false)],[],[]⟩
def f156 (n:Nat) (a0 a1:LI):Option LI :=
 ob (A8b n a0) λa =>
 Ii n n a1 0 (a.length:Int) 0 a
  (λb=>(
   ob (f202 n b) λc =>
   some c))
def Aip (n:Nat):Ent:=⟨156,[hIs,hIs],[hIs],λx=>f156 n x.1 x.2⟩
def Aiq (α:Type) (n:Nat):D3 α:={ reg:=[(1,⟨0,[],[(1,{ entB:=some (Ij n),hb:=310 })]⟩),(13,⟨0,[],[(1,{ ent:=some (Hk n),fz:=[(41,hIs)] })]⟩)],join:=[(8,B7l)],loop:=[(3,⟨Ub,A4i,A5 (A4h n) n⟩)] }
theorem Acu (α:Type) (n:Nat):Ao PP (Ag (Aiq α n).reg):=⟨Aix n,Rl n,trivial⟩
theorem Arh (α:Type) (n:Nat):LO.Sound (α:=α) PP ⟨43,[]⟩ ⟨Ub,A4i,A5 (A4h n) n⟩ (.loop ((A1 Tryz.f156).at [1,1,0,1,0,0])):=C5 (D:=Aiq α n) (Acu α n) n
theorem Bck (α:Type) (n:Nat):D3.OK PP TT ⟨43,[]⟩ (Aiq α n) (A1 Tryz.f156) :=
 D3.OK.mk3 (Acu α n) (show Ab (A1 Tryz.f156)=[(3,(.loop ((A1 Tryz.f156).at [1,1,0,1,0,0])))] by kernel_rfl) ⟨Ac rfl (Arh α n),trivial⟩
theorem Aoa (n:Nat):(Aip n).Sound PP:=fk (fn:=Tryz.f156) (Bck _ n)

end Go.Ev
