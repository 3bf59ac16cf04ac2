/- DERIVED. What the functions compute, and that they do. -/
import Derived.Test.YtdheaaapdlekdaaGreatEe

set_option linter.all false
set_option linter.unusedVariables false
set_option linter.unusedSimpArgs false

namespace Go.Ev
open Go Go.Proofs Go.RowKit Go.Shelf
def A9q (n:Nat) (a0:LI):Option (LI × Int × Int) :=
 some (a0,0,(Int.tmod (a0.length:Int) 1000))
def Agx (n:Nat):Ent3:=⟨57,[.im (.sl (.int .u8))],[[.one (.ptr 126 (.st (.pair (.sl (.int .u8)) (.pair hI hI))))]],λx=>A9q n x,[]⟩
def Bdc (α:Type) (n:Nat):D3 α:={ reg:=[],join:=[],loop:=[] }
theorem An4 (n:Nat):(Agx n).Sound PP:=Xi (fn:=Tryz.f57) (D:=Bdc _ n) trivial

def N4 (n:Nat) (a0:LI × Int × Int):Option (Int × (LI × Int × Int)) :=
 bif (decide ((W (a0.2.1+1))<=(a0.1.length:Int))) then
  gd (decide (0<=(W ((W (a0.2.1+1))-1)))&&decide ((W ((W (a0.2.1+1))-1))<(a0.1.length:Int))) (
   gd (decide (0<=(W ((W (a0.2.1+1))-1)))&&decide ((W ((W (a0.2.1+1))-1))<(a0.1.length:Int))) (
    some ((W (a0.1.getD ((W ((W (a0.2.1+1))-1)).toNat) 0)),(a0.1,(W (a0.2.1+1)),(Int.tmod (W ((W ((W (a0.2.2*31))+(W (a0.1.getD ((W ((W (a0.2.1+1))-1)).toNat) 0))))+7)) 2147483648)))))
 else
  bif (decide ((W (a0.2.1+1))>3000)) then
   some (0,(a0.1,(W (a0.2.1+1)),a0.2.2))
  else
   some ((Int.tmod (W (Int.tdiv (Int.tmod (W ((W (a0.2.2*1103515245))+12345)) 2147483648) 65536)) 256),(a0.1,(W (a0.2.1+1)),(Int.tmod (W ((W (a0.2.2*1103515245))+12345)) 2147483648)))
def Rz (n:Nat):Ent3:=⟨175,[.one (.ptr 126 (.st (.pair (.sl (.int .u8)) (.pair hI hI))))],[[.im hI]],λx=>N4 n x,[]⟩
def B92 (α:Type) (n:Nat):D3 α:={ reg:=[(2,⟨9,[],[]⟩),(3,⟨21,[],[]⟩),(4,⟨9,[],[]⟩)],join:=[],loop:=[] }
theorem U8 (n:Nat):(Rz n).Sound PP:=Xi (fn:=Tryz.f175) (D:=B92 _ n) trivial

def Dl (n:Nat) (a0:LI × Int × Int) (a1:Int):Option (Int × (LI × Int × Int)) :=
 bif (decide (a1<=1)) then
  some (0,a0)
 else
  bif (decide (a1<=256)) then
   ob (N4 n a0) λa =>
   gd (decide (a1 ≠ 0)) (
    some ((Int.tmod a.1 a1),a.2))
  else
   ob (N4 n a0) λb =>
   ob (N4 n b.2) λc =>
   ob (N4 n c.2) λd =>
   gd (decide (a1 ≠ 0)) (
    some ((Int.tmod (W ((W ((W (b.1*65536))+(W (c.1*256))))+d.1)) a1),d.2))
def Fa (n:Nat):Ent3:=⟨109,[.one (.ptr 126 (.st (.pair (.sl (.int .u8)) (.pair hI hI)))),.im hI],[[.im hI]],λx=>Dl n x.1 x.2,[]⟩
def Bb0 (α:Type) (n:Nat):D3 α:={ reg:=[(4,⟨0,[],[(1,{ entB:=some (Rz n),hb:=310 })]⟩),(5,⟨0,[],[(1,{ entB:=some (Rz n),hb:=320 })]⟩),(6,⟨0,[],[(1,{ entB:=some (Rz n),hb:=330 })]⟩),(7,⟨0,[],[(1,{ entB:=some (Rz n),hb:=340 })]⟩)],join:=[],loop:=[] }
theorem Ey (n:Nat):(Fa n).Sound PP:=Xi (fn:=Tryz.f109) (D:=Bb0 _ n) ⟨U8 n,U8 n,U8 n,U8 n,trivial⟩

def A76 (n:Nat) (a0:LI × Int × Int) (a1:Int):Option (Bool × (LI × Int × Int)) :=
 ob (Dl n a0 a1) λa =>
 some ((a.1==(W (a1-1))),a.2)
def Ano (n:Nat):Ent3:=⟨173,[.one (.ptr 126 (.st (.pair (.sl (.int .u8)) (.pair hI hI)))),.im hI],[[.im .bool]],λx=>A76 n x.1 x.2,[]⟩
def B94 (α:Type) (n:Nat):D3 α:={ reg:=[(1,⟨0,[],[(2,{ entB:=some (Fa n),hb:=310 })]⟩)],join:=[],loop:=[] }
theorem B3g (n:Nat):(Ano n).Sound PP:=Xi (fn:=Tryz.f173) (D:=B94 _ n) ⟨Ey n,trivial⟩

def f174 (n:Nat) (a0:Bool):Option Int :=
 bif a0 then
  some 1
 else
  some 0
def P4 (n:Nat):Ent:=⟨174,[.bool],[hI],λx=>f174 n x⟩
def Bes (α:Type) (n:Nat):D3 α:={ reg:=[],join:=[],loop:=[] }
theorem Nu (n:Nat):(P4 n).Sound PP:=B0 (fn:=Tryz.f174) (D:=Bes _ n) trivial

abbrev B4p:Tm:=⟨[(0,.k (.hp 1000 0 0)),(1,.k (.hw 1001)),(2,.d hI),(3,.d hI),(4,.d .bool),(11,.d hI),(16,.d .bool)],[(1000,.var 126 true false [.d (.sl (.int .u8)),.d hI,.d hI]),(1001,.arr 85 hN false)],[],[]⟩
def Qn (n:Nat):Nat->(LI × Int × Int)->LN->Int->Int->Bool->Option (Unit × (LI × Int × Int) × LN)
 | 0,_,_,_,_,_=>none
 | d+1,a0,a1,a2,a3,a4 =>
  ob (Dl n a0 9) λa =>
  let g:=λ(m:Bool)=>(
   bif m then
    ob (A76 n a.2 3) λh =>
    bif h.1 then
     ob (Dl n h.2 6) λj =>
     gd (decide ((a1.length+1)*32<=140737488355328)) (
      some ((),j.2,(a1++[(1,0,0,j.1)])))
    else
     ob (Dl n h.2 a3) λk =>
     gd (decide ((a1.length+1)*32<=140737488355328)) (
      some ((),k.2,(a1++[(2,0,0,k.1)])))
   else
    bif (a.1==3) then
     ob (Qn n d a.2 a1 (W (a2-1)) a3 a4) λc =>
     gd (decide ((c.2.2.length+1)*32<=140737488355328)) (
      some ((),c.2.1,(c.2.2++[(7,(W ((c.2.2.length:Int)-1)),0,0)])))
    else
     bif (a.1==4) then
      ob (Qn n d a.2 a1 (min (W (a2-1)) 2) a3 a4) λe =>
      ob (Dl n e.2.1 4) λl =>
      gd (decide ((e.2.2.length+1)*32<=140737488355328)) (
       some ((),l.2,(e.2.2++[(8,(W ((e.2.2.length:Int)-1)),0,l.1)])))
     else
      ob (f174 n a4) λo =>
      ob (Dl n a.2 (W (5+o))) λb =>
      gd (decide (0<=b.1)&&decide (b.1<6)) (
       gd (decide (b.1.toNat<6)) (
        ob (Qn n d b.2 a1 (W (a2-1)) a3 a4) λi =>
        ob (Qn n d i.2.1 i.2.2 (W (a2-1)) a3 a4) λf =>
        gd (decide ((f.2.2.length+1)*32<=140737488355328)) (
         some ((),f.2.1,(f.2.2++[(([3,3,4,5,5,6].getD b.1.toNat 0),(W ((i.2.2.length:Int)-1)),(W ((f.2.2.length:Int)-1)),0)]))))))
  bif (decide (a2<=1)) then
   g true
  else
   bif (decide ((a1.length:Int)>30)) then
    g true
   else
    g (decide (a.1<3))
def J0 (n d:Nat):Ent3:=⟨108,[.one (.ptr 126 (.st (.pair (.sl (.int .u8)) (.pair hI hI)))),.one (.own 85 hN),.im hI,.im hI,.im .bool],[[.one (.back 1001)]],λx=>Qn n d x.1 x.2.1 x.2.2.1 x.2.2.2.1 x.2.2.2.2,[1001]⟩
def Aos (α:Type) (n d:Nat):D3 α:={ reg:=[(1,⟨0,[],[(1,{ entB:=some (Fa n),hb:=310 })]⟩),(3,⟨0,[],[(1,{ entB:=some (Ano n),hb:=320 })]⟩),(4,⟨0,[],[(2,{ entB:=some (Fa n),hb:=330 }),(4,{ sh:=some hN })]⟩),(5,⟨0,[],[(3,{ entB:=some (Fa n),hb:=340 }),(5,{ sh:=some hN })]⟩),(7,⟨0,[],[(6,{ entB:=some (J0 n d),hb:=350 })]⟩),(8,⟨0,[],[(5,{ sh:=some hN })]⟩),(10,⟨0,[],[(7,{ entB:=some (J0 n d),hb:=360 })]⟩),(11,⟨0,[],[(5,{ entB:=some (Fa n),hb:=370 }),(7,{ sh:=some hN })]⟩),(12,⟨0,[],[(0,{ sh:=some hI }),(3,{ ent:=some (P4 n) }),(5,{ entB:=some (Fa n),hb:=380 })]⟩),(13,⟨0,[],[(6,{ entB:=some (J0 n d),hb:=390 })]⟩),(15,⟨0,[],[(6,{ entB:=some (J0 n d),hb:=400 })]⟩),(16,⟨0,[],[(7,{ sh:=some hN })]⟩)],join:=[(3,B4p)],loop:=[] }
theorem Asi (α:Type) (n d:Nat) (hd:(J0 n d).Sound PP):Al PP (Af (Aos α n d).reg):=⟨Ey n,B3g n,Ey n,Ey n,hd,hd,Ey n,Nu n,Ey n,hd,hd,trivial⟩
theorem Bb1 (α:Type) (n d:Nat) (hd:(J0 n d).Sound PP):D3.OK PP TT ⟨114,[1001]⟩ (Aos α n d) (A0 Tryz.f108) :=
 D3.OK.mk3 (Asi α n d hd) (show Aa (A0 Tryz.f108)=[] by kernel_rfl) trivial
theorem Ajk (n:Nat):∀ d,(J0 n d).Sound PP
 | 0=>λ_ _ _ h=>by cases h
 | d+1=>Vt (fn:=Tryz.f108) (Bb1 _ n d (Ajk n d))

def B2w (n:Nat) (a0:LI × Int × Int) (a1:Int) (a2:Bool):Option (LN × (LI × Int × Int)) :=
 ob (Dl n a0 3) λb =>
 ob (Qn n n b.2 [] (W (2+b.1)) a1 a2) λa =>
 gd (decide ((0+a.2.2.length)*32<=140737488355328)) (
  some (a.2.2,a.2.1))
def Avm (n:Nat):Ent3:=⟨58,[.one (.ptr 126 (.st (.pair (.sl (.int .u8)) (.pair hI hI)))),.im hI,.im .bool],[[.im hE]],λx=>B2w n x.1 x.2.1 x.2.2,[]⟩
def Bdb (α:Type) (n:Nat):D3 α:={ reg:=[(1,⟨0,[],[(0,{ sh:=some hN }),(2,{ sh:=some hN }),(4,{ entB:=some (Fa n),hb:=310 }),(8,{ entB:=some (J0 n n),hb:=320 })]⟩)],join:=[],loop:=[] }
theorem B7x (n:Nat):(Avm n).Sound PP:=Xi (fn:=Tryz.f58) (D:=Bdb _ n) ⟨Ey n,Ajk n n,trivial⟩

def f181 (n:Nat) (a0 a1 a2:Int):Option Bool :=
 bif (decide (a1<=a0)) then
  some (decide (a0<=a2))
 else
  some false
def D6 (n:Nat):Ent:=⟨181,[hI,hI,hI],[.bool],λx=>f181 n x.1 x.2.1 x.2.2⟩
def Beo (α:Type) (n:Nat):D3 α:={ reg:=[],join:=[],loop:=[] }
theorem Co (n:Nat):(D6 n).Sound PP:=B0 (fn:=Tryz.f181) (D:=Beo _ n) trivial

def f146 (n:Nat) (a0:Int):Option Bool :=
 ob (f181 n a0 3 6) λa =>
 some a
def Sa (n:Nat):Ent:=⟨146,[hI],[.bool],λx=>f146 n x⟩
def Bfg (α:Type) (n:Nat):D3 α:={ reg:=[(1,⟨0,[],[(1,{ ent:=some (D6 n) })]⟩)],join:=[],loop:=[] }
theorem S9 (n:Nat):(Sa n).Sound PP:=B0 (fn:=Tryz.f146) (D:=Bfg _ n) ⟨Co n,trivial⟩

def f147 (n:Nat) (a0:Int):Option Bool :=
 bif (a0==7) then
  some true
 else
  some (a0==8)
def Yi (n:Nat):Ent:=⟨147,[hI],[.bool],λx=>f147 n x⟩
def Bff (α:Type) (n:Nat):D3 α:={ reg:=[],join:=[],loop:=[] }
theorem A0c (n:Nat):(Yi n).Sound PP:=B0 (fn:=Tryz.f147) (D:=Bff _ n) trivial

def P2 {α:Type} (n:Nat) (b:LN) (a d e g h:Int) (f:LN->Int->Int->Int->Int->Int->Option α) (k0:Int->Option α) (k1:Unit->Option α):Option α :=
 bif (decide (a<(b.length:Int))) then
  gd (decide (0<=a)&&decide (a<(b.length:Int))) (
   let c:=b.getD a.toNat (0,0,0,0)
   bif (c.1==d&&(c.2.1==e&&(c.2.2.1==g&&(c.2.2.2==h&&true)))) then
    k0 a
   else
    f b (W (a+1)) d e g h)
 else
  k1 ()
abbrev U7:Tm:=⟨[(0,.d hNs),(3,.k (.hp 3 0 0)),(5,.d hI)],[(3,.var 85 true false [.d hI,.d hI,.d hI,.d hI])],[],[]⟩
abbrev Ax7:Tm:=⟨[(4,.d hI)],[],[3],[]⟩
abbrev Ax6:Tm:=⟨[],[],[3],[]⟩
abbrev A3o:List (Exit × Tm):=[(.ret,Ax7),(.exit 0,Ax6)]
def A3n {α:Type} (n:Nat) (v:U7.den) (f:U7.den->Option α) (ks:KS α A3o):Option α:=P2 n v.1.1 v.1.2.2.1 v.2.1.1 v.2.1.2.1 v.2.1.2.2.1 v.2.1.2.2.2.1 (λa b c d e g=>f ((a,(),b,()),((c,d,e,g,()),()))) (λw0=>ks.1 ((w0,()),())) (λ_=>ks.2.1 ((),()))
def Ns {α:Type} (n m:Nat) (a:LN) (b c d e f:Int) (k0:Int->Option α) (k1:Unit->Option α):Option α:=A5 (A3n n) m ((a,(),b,()),((c,d,e,f,()),())) (λw=>k0 w.1.1,λw=>k1 (),())
theorem Ya {α n m a b c d e f k0 k1}:Ns (α:=α) n (m+1) a b c d e f k0 k1=P2 n a b c d e f (λa b c d e f=>Ns n m a b c d e f k0 k1) k0 k1:=rfl
def f183 (n:Nat) (a0:LN) (a1:Nq):Option Int :=
 Ns n n a0 0 a1.1 a1.2.1 a1.2.2.1 a1.2.2.2
  (λa=>(
   some a))
  (λ(_:Unit)=>(
   some (-1)))
def Aht (n:Nat):Ent:=⟨183,[hNs,hN],[hI],λx=>f183 n x.1 x.2⟩
def Ahu (α:Type) (n:Nat):D3 α:={ reg:=[(4,⟨5,[],[]⟩)],join:=[],loop:=[(2,⟨U7,A3o,A5 (A3n n) n⟩)] }
theorem Ace (α:Type) (n:Nat):Al PP (Af (Ahu α n).reg):=trivial
theorem Arc (α:Type) (n:Nat):LO.Sound (α:=α) PP ⟨19,[]⟩ ⟨U7,A3o,A5 (A3n n) n⟩ (.loop ((A0 Tryz.f183).at [1,0,1,0,0])):=C1 (D:=Ahu α n) (Ace α n) n
theorem Bem (α:Type) (n:Nat):D3.OK PP TT ⟨19,[]⟩ (Ahu α n) (A0 Tryz.f183) :=
 D3.OK.mk3 (Ace α n) (show Aa (A0 Tryz.f183)=[(2,(.loop ((A0 Tryz.f183).at [1,0,1,0,0])))] by kernel_rfl) ⟨Ac rfl (Arc α n),trivial⟩
theorem Anm (n:Nat):(Aht n).Sound PP:=fk (fn:=Tryz.f183) (Bem _ n)

def Pi {α:Type} (n:Nat) (c:Int) (e:LN) (h i:Int) (d:LN) (b:LI) (f:Int->LN->Int->Int->LN->LI->Option α) (k0:Int->Int->LN->LI->Option α):Option α :=
 bif (decide (c<(e.length:Int))) then
  gd (decide (0<=c)&&decide (c<(e.length:Int))) (
   let a:=e.getD c.toNat (0,0,0,0)
   let j:=λ(g:Int) (k:Int)=>(
    let l:=λ(m:Int)=>(
     ob (f183 n d (a.1,m,k,a.2.2.2)) λo =>
     bif (decide (o<0)) then
      gd (decide ((d.length+1)*32<=140737488355328)) (
       gd (decide ((b.length+1)*8<=140737488355328)) (
        f (W (c+1)) e h i (d++[(a.1,m,k,a.2.2.2)]) (b++[(d.length:Int)])))
     else
      gd (decide ((b.length+1)*8<=140737488355328)) (
       f (W (c+1)) e h i d (b++[o])))
    ob (f147 n a.1) λp =>
    bif p then
     gd (decide (0<=g)&&decide (g<(b.length:Int))) (
      gd (decide (g.toNat<b.length)) (
       l (b.getD g.toNat 0)))
    else
     l g)
   ob (f146 n a.1) λq =>
   bif q then
    gd (decide (0<=a.2.1)&&decide (a.2.1<(b.length:Int))) (
     gd (decide (a.2.1.toNat<b.length)) (
      gd (decide (0<=a.2.2.1)&&decide (a.2.2.1<(b.length:Int))) (
       gd (decide (a.2.2.1.toNat<b.length)) (
        j (b.getD a.2.1.toNat 0) (b.getD a.2.2.1.toNat 0)))))
   else
    j a.2.1 a.2.2.1)
 else
  k0 h i d b
abbrev Ul:Tm:=⟨[(1,.k (.hp 1 0 0)),(2,.k (.hp 2 0 0)),(3,.k (.hp 3 0 0)),(4,.k (.hw 10)),(5,.d hI)],[(1,.var 43 true false [.d hNs]),(2,.var 33 true false [.d .nil,.d hI]),(3,.var 33 false false [.k (.hw 8),.d hI]),(8,.arr 85 hN false),(10,.arr 3 hI false)],[6,59,64],[]⟩
abbrev Aym:Tm:=⟨[(2,.k (.hp 2 0 0)),(3,.k (.hp 3 0 0)),(4,.k (.hw 10))],[(2,.var 33 true false [.d .nil,.d hI]),(3,.var 33 false false [.k (.hw 8),.d hI]),(8,.arr 85 hN false),(10,.arr 3 hI false)],[1],[]⟩
abbrev A4j:List (Exit × Tm):=[(.exit 0,Aym)]
def A4i {α:Type} (n:Nat) (v:Ul.den) (f:Ul.den->Option α) (ks:KS α A4j):Option α:=Pi n v.1.2.2.2.2.1 v.2.1.1 v.2.2.1.2.1 v.2.2.2.1.2.1 v.2.2.2.2.1 v.2.2.2.2.2.1 (λa b c d e g=>f (((),(),(),(),a,()),((b,()),((),c,()),((),d,()),e,g,()))) (λw0 w1 w2 w3=>ks.1 (((),(),(),()),(((),w0,()),((),w1,()),w2,w3,())))
def A0f {α:Type} (n m:Nat) (a:Int) (b:LN) (c d:Int) (e:LN) (f:LI) (k0:Int->Int->LN->LI->Option α):Option α:=A5 (A4i n) m (((),(),(),(),a,()),((b,()),((),c,()),((),d,()),e,f,())) (λw=>k0 w.2.1.2.1 w.2.2.1.2.1 w.2.2.2.1 w.2.2.2.2.1,())
theorem Acs {α n m a b c d e f k0}:A0f (α:=α) n (m+1) a b c d e f k0=Pi n a b c d e f (λa b c d e f=>A0f n m a b c d e f k0) k0:=rfl
abbrev B4k:Tm:=⟨[(1,.k (.hp 1 0 0)),(2,.k (.hp 2 0 0)),(3,.k (.hp 3 0 0)),(4,.k (.hw 10)),(5,.d hI),(6,.k (.hp 6 0 0))],[(1,.var 43 true false [.d hNs]),(2,.var 33 true false [.d .nil,.d hI]),(3,.var 33 false false [.k (.hw 8),.d hI]),(6,.var 85 true false [.d hI,.d hI,.d hI,.d hI]),(8,.arr 85 hN false),(10,.arr 3 hI false)],[],[]⟩
abbrev B4j:Tm:=⟨[(1,.k (.hp 1 0 0)),(2,.k (.hp 2 0 0)),(3,.k (.hp 3 0 0)),(4,.k (.hw 10)),(5,.d hI),(6,.k (.hp 6 0 0))],[(1,.var 43 true false [.d hNs]),(2,.var 33 true false [.d .nil,.d hI]),(3,.var 33 false false [.k (.hw 8),.d hI]),(6,.var 85 true false [.d hI,.d hI,.d hI,.d hI]),(8,.arr 85 hN false),(10,.arr 3 hI false)],[],[]⟩
def f137 (n:Nat) (a0:LN):Option (LN × Int) :=
 A0f n n 0 a0 0 0 [] []
  (λc d b a=>(
   gd (decide (0<=(W ((a.length:Int)-1)))&&decide ((W ((a.length:Int)-1))<(a.length:Int))) (
    gd (decide ((W ((a.length:Int)-1)).toNat<a.length)) (
     some (b,(a.getD ((W ((a.length:Int)-1)).toNat) 0))))))
def Ayn (n:Nat):Ent:=⟨137,[hE],[(.st (.pair hNs hI))],λx=>f137 n x⟩
def Aj7 (α:Type) (n:Nat):D3 α:={ reg:=[(1,⟨0,[],[(0,{ sh:=some hN })]⟩),(2,⟨0,[],[(0,{ sh:=some hI })]⟩),(7,⟨0,[],[(2,{ ent:=some (Sa n) })]⟩),(10,⟨0,[],[(2,{ ent:=some (Yi n) })]⟩),(12,⟨0,[],[(3,{ ent:=some (Aht n) })]⟩),(15,⟨0,[],[(3,{ sh:=some hN })]⟩),(16,⟨0,[],[(2,{ sh:=some hI })]⟩)],join:=[(10,B4k),(12,B4j)],loop:=[(4,⟨Ul,A4j,A5 (A4i n) n⟩)] }
theorem Acr (α:Type) (n:Nat):Al PP (Af (Aj7 α n).reg):=⟨S9 n,A0c n,Anm n,trivial⟩
theorem As4 (α:Type) (n:Nat):LO.Sound (α:=α) PP ⟨74,[]⟩ ⟨Ul,A4j,A5 (A4i n) n⟩ (.loop ((A0 Tryz.f137).at [1,1,1,0,1,0,0])):=C1 (D:=Aj7 α n) (Acr α n) n
theorem Bfp (α:Type) (n:Nat):D3.OK PP TT ⟨74,[]⟩ (Aj7 α n) (A0 Tryz.f137) :=
 D3.OK.mk3 (Acr α n) (show Aa (A0 Tryz.f137)=[(4,(.loop ((A0 Tryz.f137).at [1,1,1,0,1,0,0])))] by kernel_rfl) ⟨Ac rfl (As4 α n),trivial⟩
theorem Bac (n:Nat):(Ayn n).Sound PP:=fk (fn:=Tryz.f137) (Bfp _ n)

def B2i (n:Nat) (a0:LI × Int × Int):Option ((LN × Int) × (LI × Int × Int)) :=
 ob (Dl n a0 3) λa =>
 ob (B2w n a.2 (W (1+a.1)) true) λb =>
 ob (f137 n b.1) λc =>
 some (c,b.2)
def Av7 (n:Nat):Ent3:=⟨87,[.one (.ptr 126 (.st (.pair (.sl (.int .u8)) (.pair hI hI))))],[[.im (.st (.pair hNs hI))]],λx=>B2i n x,[]⟩
def Bd2 (α:Type) (n:Nat):D3 α:={ reg:=[(1,⟨0,[],[(2,{ entB:=some (Fa n),hb:=310 }),(4,{ entB:=some (Avm n),hb:=320 }),(5,{ ent:=some (Ayn n) })]⟩)],join:=[],loop:=[] }
theorem B7t (n:Nat):(Av7 n).Sound PP:=Xi (fn:=Tryz.f87) (D:=Bd2 _ n) ⟨Ey n,B7x n,Bac n,trivial⟩

def f39 (n:Nat) (a0:LI):Option (LN × Int) :=
 ob (A9q n a0) λa =>
 ob (B2i n a) λb =>
 some b.1
def B6c (n:Nat):Ent:=⟨39,[(.sl (.int .u8))],[(.st (.pair hNs hI))],λx=>f39 n x⟩
def Bhz (α:Type) (n:Nat):D3 α:={ reg:=[(1,⟨0,[],[(1,{ entB:=some (Agx n),hb:=310 }),(2,{ entB:=some (Av7 n),hb:=320 })]⟩)],join:=[],loop:=[] }
theorem Bdk (n:Nat):(B6c n).Sound PP:=B0 (fn:=Tryz.f39) (D:=Bhz _ n) ⟨An4 n,B7t n,trivial⟩

def A3m {α:Type} (n:Nat) (a:Int) (b:LI) (f:Int->LI->Option α) (k0:LI->Option α):Option α :=
 bif (decide (a>0)) then
  gd (decide ((b.length+1)*8<=140737488355328)) (
   f (W (Int.tdiv a 10000)) (b++[(Int.tmod a 10000)]))
 else
  k0 b
abbrev U6:Tm:=⟨[(0,.d hI),(3,.k (.hw 4))],[(4,.arr 3 hI false)],[10],[]⟩
abbrev Ax2:Tm:=⟨[(3,.k (.hw 4))],[(4,.arr 3 hI false)],[],[]⟩
abbrev A3l:List (Exit × Tm):=[(.exit 0,Ax2)]
def A3k {α:Type} (n:Nat) (v:U6.den) (f:U6.den->Option α) (ks:KS α A3l):Option α:=A3m n v.1.1 v.2.1 (λa b=>f ((a,(),()),(b,()))) (λw0=>ks.1 (((),()),(w0,())))
def A06 {α:Type} (n m:Nat) (a:Int) (b:LI) (k0:LI->Option α):Option α:=A5 (A3k n) m ((a,(),()),(b,())) (λw=>k0 w.2.1,())
theorem Ax1 {α n m a b k0}:A06 (α:=α) n (m+1) a b k0=A3m n a b (λa b=>A06 n m a b k0) k0:=rfl
def f194 (n:Nat) (a0:Int):Option LI :=
 A06 n n a0 []
  (λa=>(
   some a))
def Y9 (n:Nat):Ent:=⟨194,[hI],[hIs],λx=>f194 n x⟩
def Ahs (α:Type) (n:Nat):D3 α:={ reg:=[(1,⟨0,[],[(0,{ sh:=some hI })]⟩),(3,⟨0,[],[(3,{ sh:=some hI })]⟩)],join:=[],loop:=[(2,⟨U6,A3l,A5 (A3k n) n⟩)] }
theorem Acc (α:Type) (n:Nat):Al PP (Af (Ahs α n).reg):=trivial
theorem Arb (α:Type) (n:Nat):LO.Sound (α:=α) PP ⟨15,[]⟩ ⟨U6,A3l,A5 (A3k n) n⟩ (.loop ((A0 Tryz.f194).at [1,1,0,0,0])):=C1 (D:=Ahs α n) (Acc α n) n
theorem Bei (α:Type) (n:Nat):D3.OK PP TT ⟨15,[]⟩ (Ahs α n) (A0 Tryz.f194) :=
 D3.OK.mk3 (Acc α n) (show Aa (A0 Tryz.f194)=[(2,(.loop ((A0 Tryz.f194).at [1,1,0,0,0])))] by kernel_rfl) ⟨Ac rfl (Arb α n),trivial⟩
theorem A05 (n:Nat):(Y9 n).Sound PP:=fk (fn:=Tryz.f194) (Bei _ n)

def f131 (n:Nat) (a0:Int):Option Rq :=
 bif (decide (a0<0)) then
  ob (f194 n (W (0-a0))) λa =>
  some (true,a,[1])
 else
  ob (f194 n a0) λb =>
  some (false,b,[1])
def Bf (n:Nat):Ent:=⟨131,[hI],[hR],λx=>f131 n x⟩
def Bfq (α:Type) (n:Nat):D3 α:={ reg:=[(2,⟨0,[],[(2,{ ent:=some (Y9 n) }),(3,{ sh:=some hI })]⟩),(3,⟨0,[],[(1,{ ent:=some (Y9 n) }),(2,{ sh:=some hI })]⟩)],join:=[],loop:=[] }
theorem Du (n:Nat):(Bf n).Sound PP:=B0 (fn:=Tryz.f131) (D:=Bfq _ n) ⟨A05 n,A05 n,trivial⟩

def A2i {α:Type} (n:Nat) (b:LI) (a:Int) (f:LI->Int->Option α) (k0:LI->Int->Option α):Option α :=
 bif (decide (a>0)) then
  gd (decide (0<=(W (a-1)))&&decide ((W (a-1))<(b.length:Int))) (
   bif ((b.getD ((W (a-1)).toNat) 0)==0) then
    f b (W (a-1))
   else
    k0 b a)
 else
  k0 b a
abbrev Ts:Tm:=⟨[(0,.d hIs),(3,.d hI)],[],[],[]⟩
abbrev Aw3:Tm:=⟨[(0,.d hIs),(3,.d hI)],[],[],[]⟩
abbrev A2h:List (Exit × Tm):=[(.exit 0,Aw3)]
def A2g {α:Type} (n:Nat) (v:Ts.den) (f:Ts.den->Option α) (ks:KS α A2h):Option α:=A2i n v.1.1 v.1.2.1 (λa b=>f ((a,b,()),())) (λw0 w1=>ks.1 ((w0,w1,()),()))
def Zz {α:Type} (n m:Nat) (a:LI) (b:Int) (k0:LI->Int->Option α):Option α:=A5 (A2g n) m ((a,b,()),()) (λw=>k0 w.1.1 w.1.2.1,())
theorem Aw2 {α n m a b k0}:Zz (α:=α) n (m+1) a b k0=A2i n a b (λa b=>Zz n m a b k0) k0:=rfl
def f216 (n:Nat) (a0:LI):Option LI :=
 Zz n n a0 (a0.length:Int)
  (λb a=>(
   gd (decide (0<=a)&&decide (a<=(b.length:Int))) (
    gd (decide ((0+((b.drop 0).take (a.toNat-0)).length)*8<=140737488355328)) (
     some ((b.drop 0).take (a.toNat-0))))))
def Xv (n:Nat):Ent:=⟨216,[hIs],[hIs],λx=>f216 n x⟩
def Ah7 (α:Type) (n:Nat):D3 α:={ reg:=[(4,⟨0,[],[(0,{ sh:=some hI })]⟩)],join:=[],loop:=[(2,⟨Ts,A2h,A5 (A2g n) n⟩)] }
theorem Abz (α:Type) (n:Nat):Al PP (Af (Ah7 α n).reg):=trivial
theorem Aqu (α:Type) (n:Nat):LO.Sound (α:=α) PP ⟨23,[]⟩ ⟨Ts,A2h,A5 (A2g n) n⟩ (.loop ((A0 Tryz.f216).at [1,1,0,0,0])):=C1 (D:=Ah7 α n) (Abz α n) n
theorem Bdy (α:Type) (n:Nat):D3.OK PP TT ⟨23,[]⟩ (Ah7 α n) (A0 Tryz.f216) :=
 D3.OK.mk3 (Abz α n) (show Aa (A0 Tryz.f216)=[(2,(.loop ((A0 Tryz.f216).at [1,1,0,0,0])))] by kernel_rfl) ⟨Ac rfl (Aqu α n),trivial⟩
theorem Zx (n:Nat):(Xv n).Sound PP:=fk (fn:=Tryz.f216) (Bdy _ n)

def A3a {α:Type} (n:Nat) (b c:LI) (a:Int) (f:LI->LI->Int->Option α) (k0:Int->Option α) (k1:Unit->Option α):Option α :=
 bif (decide (a>=0)) then
  gd (decide (0<=a)&&decide (a<(b.length:Int))) (
   gd (decide (0<=a)&&decide (a<(c.length:Int))) (
    bif ((b.getD a.toNat 0) != (c.getD a.toNat 0)) then
     gd (decide (0<=a)&&decide (a<(b.length:Int))) (
      gd (decide (0<=a)&&decide (a<(c.length:Int))) (
       ob (f174 n (decide ((b.getD a.toNat 0)>(c.getD a.toNat 0)))) λd =>
       k0 (W ((W (2*d))-1))))
    else
     f b c (W (a-1))))
 else
  k1 ()
abbrev U2:Tm:=⟨[(0,.d hIs),(1,.d hIs),(5,.d hI)],[],[],[]⟩
abbrev Aws:Tm:=⟨[(4,.d hI)],[],[],[]⟩
abbrev Awr:Tm:=⟨[],[],[],[]⟩
abbrev A39:List (Exit × Tm):=[(.ret,Aws),(.exit 0,Awr)]
def A38 {α:Type} (n:Nat) (v:U2.den) (f:U2.den->Option α) (ks:KS α A39):Option α:=A3a n v.1.1 v.1.2.1 v.1.2.2.1 (λa b c=>f ((a,b,c,()),())) (λw0=>ks.1 ((w0,()),())) (λ_=>ks.2.1 ((),()))
def A04 {α:Type} (n m:Nat) (a b:LI) (c:Int) (k0:Int->Option α) (k1:Unit->Option α):Option α:=A5 (A38 n) m ((a,b,c,()),()) (λw=>k0 w.1.1,λw=>k1 (),())
theorem Awq {α n m a b c k0 k1}:A04 (α:=α) n (m+1) a b c k0 k1=A3a n a b c (λa b c=>A04 n m a b c k0 k1) k0 k1:=rfl
def f199 (n:Nat) (a0 a1:LI):Option Int :=
 bif ((a0.length:Int) != (a1.length:Int)) then
  ob (f174 n (decide ((a0.length:Int)>(a1.length:Int)))) λa =>
  some (W ((W (2*a))-1))
 else
  A04 n n a0 a1 (W ((a0.length:Int)-1))
   (λb=>(
    some b))
   (λ(_:Unit)=>(
    some 0))
def Y7 (n:Nat):Ent:=⟨199,[hIs,hIs],[hI],λx=>f199 n x.1 x.2⟩
def Ahq (α:Type) (n:Nat):D3 α:={ reg:=[(2,⟨0,[],[(5,{ ent:=some (P4 n) })]⟩),(6,⟨8,[],[]⟩),(7,⟨8,[],[(9,{ ent:=some (P4 n) })]⟩)],join:=[],loop:=[(4,⟨U2,A39,A5 (A38 n) n⟩)] }
theorem Aca (α:Type) (n:Nat):Al PP (Af (Ahq α n).reg):=⟨Nu n,Nu n,trivial⟩
theorem Ar7 (α:Type) (n:Nat):LO.Sound (α:=α) PP ⟨47,[]⟩ ⟨U2,A39,A5 (A38 n) n⟩ (.loop ((A0 Tryz.f199).at [1,1,0,1,0,0])):=C1 (D:=Ahq α n) (Aca α n) n
theorem Bee (α:Type) (n:Nat):D3.OK PP TT ⟨47,[]⟩ (Ahq α n) (A0 Tryz.f199) :=
 D3.OK.mk3 (Aca α n) (show Aa (A0 Tryz.f199)=[(4,(.loop ((A0 Tryz.f199).at [1,1,0,1,0,0])))] by kernel_rfl) ⟨Ac rfl (Ar7 α n),trivial⟩
theorem A03 (n:Nat):(Y7 n).Sound PP:=fk (fn:=Tryz.f199) (Bee _ n)

def A3g {α:Type} (n:Nat) (e d:LI) (b g a:Int) (c:LI) (f:LI->LI->Int->Int->Int->LI->Option α) (k0:LI->LI->Int->LI->Option α):Option α :=
 let h:=λ(_:Unit)=>(
  gd (decide (0<=(W (b+a)))&&decide ((W (b+a))<(c.length:Int))) (
   gd (decide ((W (b+a)).toNat<c.length)) (
    let i:=λ(j:Int)=>(
     gd (decide (0<=(W (b+a)))&&decide ((W (b+a))<(c.length:Int))) (
      gd (decide ((W (b+a)).toNat<c.length)) (
       f e d b (W (Int.tdiv j 10000)) (W (a+1)) (c.set ((W (b+a)).toNat) (Int.tmod j 10000)))))
    bif (decide (a<(d.length:Int))) then
     gd (decide (0<=b)&&decide (b<(e.length:Int))) (
      gd (decide (0<=a)&&decide (a<(d.length:Int))) (
       i (W ((W ((c.getD ((W (b+a)).toNat) 0)+g))+(W ((e.getD b.toNat 0)*(d.getD a.toNat 0)))))))
    else
     i (W ((c.getD ((W (b+a)).toNat) 0)+g)))))
 bif (decide (a<(d.length:Int))) then
  h ()
 else
  bif (decide (g>0)) then
   h ()
  else
   k0 e d b c
abbrev U4:Tm:=⟨[(0,.d hIs),(1,.d hIs),(5,.k (.hw 16)),(6,.d hI),(7,.d hI),(8,.d hI)],[(16,.arr 3 hI false)],[],[]⟩
abbrev Awx:Tm:=⟨[(0,.d hIs),(1,.d hIs),(5,.k (.hw 16)),(6,.d hI)],[(16,.arr 3 hI false)],[],[]⟩
abbrev A3f:List (Exit × Tm):=[(.exit 2,Awx)]
def A3e {α:Type} (n:Nat) (v:U4.den) (f:U4.den->Option α) (ks:KS α A3f):Option α:=A3g n v.1.1 v.1.2.1 v.1.2.2.2.1 v.1.2.2.2.2.1 v.1.2.2.2.2.2.1 v.2.1 (λa b c d e g=>f ((a,b,(),c,d,e,()),(g,()))) (λw0 w1 w2 w3=>ks.1 ((w0,w1,(),w2,()),(w3,())))
def Np {α:Type} (n m:Nat) (a b:LI) (c d e:Int) (f:LI) (k0:LI->LI->Int->LI->Option α):Option α:=A5 (A3e n) m ((a,b,(),c,d,e,()),(f,())) (λw=>k0 w.1.1 w.1.2.1 w.1.2.2.2.1 w.2.1,())
theorem Aww {α n m a b c d e f k0}:Np (α:=α) n (m+1) a b c d e f k0=A3g n a b c d e f (λa b c d e f=>Np n m a b c d e f k0) k0:=rfl
def A3j {α:Type} (n:Nat) (a d:LI) (b:Int) (c:LI) (f:LI->LI->Int->LI->Option α) (k0:LI->Option α):Option α :=
 bif (decide (b<(a.length:Int))) then
  Np n n a d b 0 0 c
   (λe g h i=>(
    f e g (W (h+1)) i))
 else
  k0 c
abbrev U5:Tm:=⟨[(0,.d hIs),(1,.d hIs),(5,.k (.hw 16)),(6,.d hI)],[(16,.arr 3 hI false)],[],[]⟩
abbrev Ax0:Tm:=⟨[(5,.k (.hw 16))],[(16,.arr 3 hI false)],[],[]⟩
abbrev A3i:List (Exit × Tm):=[(.exit 0,Ax0)]
def A3h {α:Type} (n:Nat) (v:U5.den) (f:U5.den->Option α) (ks:KS α A3i):Option α:=A3j n v.1.1 v.1.2.1 v.1.2.2.2.1 v.2.1 (λa b c d=>f ((a,b,(),c,()),(d,()))) (λw0=>ks.1 (((),()),(w0,())))
def Nr {α:Type} (n m:Nat) (a b:LI) (c:Int) (d:LI) (k0:LI->Option α):Option α:=A5 (A3h n) m ((a,b,(),c,()),(d,())) (λw=>k0 w.2.1,())
theorem Awy {α n m a b c d k0}:Nr (α:=α) n (m+1) a b c d k0=A3j n a b c d (λa b c d=>Nr n m a b c d k0) k0:=rfl
abbrev B8q:Tm:=⟨[(0,.d hIs),(1,.d hIs),(5,.k (.hw 16)),(6,.d hI),(7,.d hI),(8,.d hI)],[(16,.arr 3 hI false)],[],[]⟩
abbrev B3e:Tm:=⟨[(0,.d hIs),(1,.d hIs),(5,.k (.hw 16)),(6,.d hI),(8,.d hI),(9,.d hI)],[(16,.arr 3 hI false)],[],[]⟩
def f196 (n:Nat) (a0 a1:LI):Option LI :=
 gd (decide (0<=(W ((W ((a0.length:Int)+(a1.length:Int)))+1)))&&decide ((W ((W ((a0.length:Int)+(a1.length:Int)))+1))<=4611686018427387904)&&decide ((8:Int)*(W ((W ((a0.length:Int)+(a1.length:Int)))+1))<=281474976710656)) (
  Nr n n a0 a1 0 (List.replicate ((W ((W ((a0.length:Int)+(a1.length:Int)))+1)).toNat) 0)
   (λa=>(
    ob (f216 n a) λb =>
    some b)))
def Hw (n:Nat):Ent:=⟨196,[hIs,hIs],[hIs],λx=>f196 n x.1 x.2⟩
def A75 (α:Type) (n:Nat):D3 α:={ reg:=[(11,⟨10,[],[]⟩),(14,⟨0,[],[(1,{ ent:=some (Xv n),fz:=[(65,hIs)] })]⟩)],join:=[(9,B8q),(12,B3e)],loop:=[(7,⟨U4,A3f,A5 (A3e n) n⟩),(3,⟨U5,A3i,A5 (A3h n) n⟩)] }
theorem Y8 (α:Type) (n:Nat):Al PP (Af (A75 α n).reg):=⟨Zx n,trivial⟩
theorem Ar9 (α:Type) (n:Nat):LO.Sound (α:=α) PP ⟨67,[]⟩ ⟨U4,A3f,A5 (A3e n) n⟩ (.loop ((A0 Tryz.f196).at [1,1,0,1,0,0,1,0,0,1,1,0,0])):=C1 (D:=A75 α n) (Y8 α n) n
theorem Awz (α:Type) (n:Nat):D3.OK PP TT ⟨67,[]⟩ (A75 α n) ((A0 Tryz.f196).at [1,1,0,1,0,0]) :=
 D3.OK.mk3 (Y8 α n) (show Aa ((A0 Tryz.f196).at [1,1,0,1,0,0])=[(7,(.loop ((A0 Tryz.f196).at [1,1,0,1,0,0,1,0,0,1,1,0,0])))] by kernel_rfl) ⟨Ac rfl (Ar9 α n),trivial⟩
theorem Ara (α:Type) (n:Nat):LO.Sound (α:=α) PP ⟨67,[]⟩ ⟨U5,A3i,A5 (A3h n) n⟩ (.loop ((A0 Tryz.f196).at [1,1,0,1,0,0])):=lk (Awz α n) n
theorem Beh (α:Type) (n:Nat):D3.OK PP TT ⟨67,[]⟩ (A75 α n) (A0 Tryz.f196) :=
 D3.OK.mk3 (Y8 α n) (show Aa (A0 Tryz.f196)=[(3,(.loop ((A0 Tryz.f196).at [1,1,0,1,0,0])))] by kernel_rfl) ⟨Ac rfl (Ara α n),trivial⟩
theorem Gz (n:Nat):(Hw n).Sound PP:=fk (fn:=Tryz.f196) (Beh _ n)

def A37 {α:Type} (n:Nat) (b c:LI) (e a:Int) (d:LI) (f:LI->LI->Int->Int->LI->Option α) (k0:LI->Option α):Option α :=
 bif (decide (a<(b.length:Int))) then
  gd (decide (0<=a)&&decide (a<(b.length:Int))) (
   let g:=λ(h:Int)=>(
    ob (f174 n (decide (h<0))) λi =>
    gd (decide ((d.length+1)*8<=140737488355328)) (
     f b c i (W (a+1)) (d++[(W (h+(W (i*10000))))])))
   bif (decide (a<(c.length:Int))) then
    gd (decide (0<=a)&&decide (a<(c.length:Int))) (
     g (W ((W ((b.getD a.toNat 0)-e))-(c.getD a.toNat 0))))
   else
    g (W ((b.getD a.toNat 0)-e)))
 else
  k0 d
abbrev U1:Tm:=⟨[(0,.d hIs),(1,.d hIs),(5,.k (.hw 9)),(6,.d hI),(7,.d hI)],[(9,.arr 3 hI false)],[40],[]⟩
abbrev Awp:Tm:=⟨[(5,.k (.hw 9))],[(9,.arr 3 hI false)],[],[]⟩
abbrev A36:List (Exit × Tm):=[(.exit 0,Awp)]
def A35 {α:Type} (n:Nat) (v:U1.den) (f:U1.den->Option α) (ks:KS α A36):Option α:=A37 n v.1.1 v.1.2.1 v.1.2.2.2.1 v.1.2.2.2.2.1 v.2.1 (λa b c d e=>f ((a,b,(),c,d,()),(e,()))) (λw0=>ks.1 (((),()),(w0,())))
def Nn {α:Type} (n m:Nat) (a b:LI) (c d:Int) (e:LI) (k0:LI->Option α):Option α:=A5 (A35 n) m ((a,b,(),c,d,()),(e,())) (λw=>k0 w.2.1,())
theorem Awo {α n m a b c d e k0}:Nn (α:=α) n (m+1) a b c d e k0=A37 n a b c d e (λa b c d e=>Nn n m a b c d e k0) k0:=rfl
abbrev B8j:Tm:=⟨[(0,.d hIs),(1,.d hIs),(5,.k (.hw 9)),(7,.d hI),(8,.d hI)],[(9,.arr 3 hI false)],[],[]⟩
def f200 (n:Nat) (a0 a1:LI):Option LI :=
 Nn n n a0 a1 0 0 []
  (λa=>(
   ob (f216 n a) λb =>
   some b))
def A74 (n:Nat):Ent:=⟨200,[hIs,hIs],[hIs],λx=>f200 n x.1 x.2⟩
def Ahp (α:Type) (n:Nat):D3 α:={ reg:=[(1,⟨0,[],[(0,{ sh:=some hI })]⟩),(9,⟨0,[],[(2,{ ent:=some (P4 n) })]⟩),(10,⟨0,[],[(5,{ sh:=some hI })]⟩),(11,⟨0,[],[(1,{ ent:=some (Xv n),fz:=[(42,hIs)] })]⟩)],join:=[(9,B8j)],loop:=[(4,⟨U1,A36,A5 (A35 n) n⟩)] }
theorem Ac9 (α:Type) (n:Nat):Al PP (Af (Ahp α n).reg):=⟨Nu n,Zx n,trivial⟩
theorem Ar6 (α:Type) (n:Nat):LO.Sound (α:=α) PP ⟨44,[]⟩ ⟨U1,A36,A5 (A35 n) n⟩ (.loop ((A0 Tryz.f200).at [1,1,1,0,1,0,0])):=C1 (D:=Ahp α n) (Ac9 α n) n
theorem Bed (α:Type) (n:Nat):D3.OK PP TT ⟨44,[]⟩ (Ahp α n) (A0 Tryz.f200) :=
 D3.OK.mk3 (Ac9 α n) (show Aa (A0 Tryz.f200)=[(4,(.loop ((A0 Tryz.f200).at [1,1,1,0,1,0,0])))] by kernel_rfl) ⟨Ac rfl (Ar6 α n),trivial⟩
theorem Aa6 (n:Nat):(A74 n).Sound PP:=fk (fn:=Tryz.f200) (Bed _ n)

def Xu {α:Type} (n:Nat) (e c d:LI) (g a b:Int) (h:LI) (f:LI->LI->LI->Int->Int->Int->LI->Option α) (k0:LI->LI->LI->Int->Int->LI->Option α):Option α :=
 bif (decide ((W (b-a))>1)) then
  ob (f194 n (W (Int.tdiv (W (a+b)) 2))) λi =>
  ob (f196 n c i) λj =>
  ob (f199 n j d) λk =>
  bif (decide (k<=0)) then
   f e c d g (W (Int.tdiv (W (a+b)) 2)) b h
  else
   f e c d g a (W (Int.tdiv (W (a+b)) 2)) h
 else
  k0 e c d g a h
abbrev Qa:Tm:=⟨[(0,.d hIs),(1,.d hIs),(6,.k (.hw 14)),(7,.d hIs),(8,.d hI),(9,.d hI),(10,.d hI)],[(14,.arr 3 hI false)],[27],[]⟩
abbrev Aqt:Tm:=⟨[(0,.d hIs),(1,.d hIs),(6,.k (.hw 14)),(7,.d hIs),(8,.d hI),(9,.d hI)],[(14,.arr 3 hI false)],[],[]⟩
abbrev Xt:List (Exit × Tm):=[(.exit 2,Aqt)]
def Xs {α:Type} (n:Nat) (v:Qa.den) (f:Qa.den->Option α) (ks:KS α Xt):Option α:=Xu n v.1.1 v.1.2.1 v.1.2.2.2.1 v.1.2.2.2.2.1 v.1.2.2.2.2.2.1 v.1.2.2.2.2.2.2.1 v.2.1 (λa b c d e g h=>f ((a,b,(),c,d,e,g,()),(h,()))) (λw0 w1 w2 w3 w4 w5=>ks.1 ((w0,w1,(),w2,w3,w4,()),(w5,())))
def On {α:Type} (n m:Nat) (a b c:LI) (d e f:Int) (g:LI) (k0:LI->LI->LI->Int->Int->LI->Option α):Option α:=A5 (Xs n) m ((a,b,(),c,d,e,f,()),(g,())) (λw=>k0 w.1.1 w.1.2.1 w.1.2.2.2.1 w.1.2.2.2.2.1 w.1.2.2.2.2.2.1 w.2.1,())
theorem Aqs {α n m a b c d e f g k0}:On (α:=α) n (m+1) a b c d e f g k0=Xu n a b c d e f g (λa b c d e f g=>On n m a b c d e f g k0) k0:=rfl
def Tr {α:Type} (n:Nat) (c d e:LI) (a:Int) (g:LI) (f:LI->LI->LI->Int->LI->Option α) (k0:LI->LI->Option α):Option α :=
 bif (decide (a>=0)) then
  gd (decide (0<=a)&&decide (a<(c.length:Int))) (
   gd (decide ((1+e.length)*8<=140737488355328)) (
    ob (f216 n ([(c.getD a.toNat 0)]++e)) λh =>
    ob (f199 n h d) λl =>
    bif (decide (l<0)) then
     f c d h (W (a-1)) g
    else
     On n n c d h a 0 10000 g
      (λm j o b k i=>(
       gd (decide (0<=b)&&decide (b<(i.length:Int))) (
        gd (decide (b.toNat<i.length)) (
         ob (f194 n k) λp =>
         ob (f196 n j p) λq =>
         ob (f200 n o q) λr =>
         f m j r (W (b-1)) (i.set b.toNat k)))))))
 else
  k0 e g
abbrev Tq:Tm:=⟨[(0,.d hIs),(1,.d hIs),(6,.k (.hw 14)),(7,.d hIs),(8,.d hI)],[(14,.arr 3 hI false)],[15,27],[(7,hIs)]⟩
abbrev Aw1:Tm:=⟨[(6,.k (.hw 14)),(7,.d hIs)],[(14,.arr 3 hI false)],[],[]⟩
abbrev A2f:List (Exit × Tm):=[(.exit 0,Aw1)]
def A2e {α:Type} (n:Nat) (v:Tq.den) (f:Tq.den->Option α) (ks:KS α A2f):Option α:=Tr n v.1.1 v.1.2.1 v.1.2.2.2.1 v.1.2.2.2.2.1 v.2.1 (λa b c d e=>f ((a,b,(),c,d,()),(e,()))) (λw0 w1=>ks.1 (((),w0,()),(w1,())))
def Rp {α:Type} (n m:Nat) (a b c:LI) (d:Int) (e:LI) (k0:LI->LI->Option α):Option α:=A5 (A2e n) m ((a,b,(),c,d,()),(e,())) (λw=>k0 w.1.2.1 w.2.1,())
theorem Aby {α n m a b c d e k0}:Rp (α:=α) n (m+1) a b c d e k0=Tr n a b c d e (λa b c d e=>Rp n m a b c d e k0) k0:=rfl
def f217 (n:Nat) (a0 a1:LI):Option (LI × LI) :=
 gd (decide (0<=(a0.length:Int))&&decide ((a0.length:Int)<=4611686018427387904)&&decide ((8:Int)*(a0.length:Int)<=281474976710656)) (
  Rp n n a0 a1 [] (W ((a0.length:Int)-1)) (List.replicate ((a0.length:Int).toNat) 0)
   (λa b=>(
    ob (f216 n b) λc =>
    some (c,a))))
def A6u (n:Nat):Ent:=⟨217,[hIs,hIs],[hIs,hIs],λx=>f217 n x.1 x.2⟩
def A6v (α:Type) (n:Nat):D3 α:={ reg:=[(2,⟨0,[],[(0,{ sh:=some hI })]⟩),(6,⟨0,[],[(4,{ sh:=some hI }),(7,{ ent:=some (Xv n),fz:=[(29,hIs)] })]⟩),(7,⟨0,[],[(2,{ ent:=some (Y7 n) })]⟩),(12,⟨0,[],[(2,{ ent:=some (Y9 n) }),(3,{ ent:=some (Hw n) }),(5,{ ent:=some (Y7 n) })]⟩),(16,⟨0,[],[(3,{ ent:=some (Y9 n) }),(4,{ ent:=some (Hw n) }),(5,{ ent:=some (A74 n) })]⟩),(17,⟨0,[],[(1,{ ent:=some (Xv n),fz:=[(62,hIs)] })]⟩)],join:=[],loop:=[(10,⟨Qa,Xt,A5 (Xs n) n⟩),(4,⟨Tq,A2f,A5 (A2e n) n⟩)] }
theorem Xr (α:Type) (n:Nat):Al PP (Af (A6v α n).reg):=⟨Zx n,A03 n,A05 n,Gz n,A03 n,A05 n,Gz n,Aa6 n,Zx n,trivial⟩
theorem Alj (α:Type) (n:Nat):LO.Sound (α:=α) PP ⟨65,[]⟩ ⟨Qa,Xt,A5 (Xs n) n⟩ (.loop ((A0 Tryz.f217).at [1,1,1,0,1,0,0,1,0,0,1,1,1,1,0,0,0])):=C1 (D:=A6v α n) (Xr α n) n
theorem Aw0 (α:Type) (n:Nat):D3.OK PP TT ⟨65,[]⟩ (A6v α n) ((A0 Tryz.f217).at [1,1,1,0,1,0,0]) :=
 D3.OK.mk3 (Xr α n) (show Aa ((A0 Tryz.f217).at [1,1,1,0,1,0,0])=[(10,(.loop ((A0 Tryz.f217).at [1,1,1,0,1,0,0,1,0,0,1,1,1,1,0,0,0])))] by kernel_rfl) ⟨Ac rfl (Alj α n),trivial⟩
theorem Aqr (α:Type) (n:Nat):LO.Sound (α:=α) PP ⟨65,[]⟩ ⟨Tq,A2f,A5 (A2e n) n⟩ (.loop ((A0 Tryz.f217).at [1,1,1,0,1,0,0])):=lk (Aw0 α n) n
theorem Bdx (α:Type) (n:Nat):D3.OK PP TT ⟨65,[]⟩ (A6v α n) (A0 Tryz.f217) :=
 D3.OK.mk3 (Xr α n) (show Aa (A0 Tryz.f217)=[(4,(.loop ((A0 Tryz.f217).at [1,1,1,0,1,0,0])))] by kernel_rfl) ⟨Ac rfl (Aqr α n),trivial⟩
theorem Aa0 (n:Nat):(A6u n).Sound PP:=fk (fn:=Tryz.f217) (Bdx _ n)

def A2l {α:Type} (n:Nat) (b a:LI) (f:LI->LI->Option α) (k0:LI->Option α):Option α :=
 bif (decide ((a.length:Int)>0)) then
  ob (f217 n b a) λc =>
  f a c.2
 else
  k0 b
abbrev Tt:Tm:=⟨[(0,.d hIs),(1,.d hIs)],[],[],[]⟩
abbrev Aw6:Tm:=⟨[(0,.d hIs)],[],[],[]⟩
abbrev A2k:List (Exit × Tm):=[(.exit 0,Aw6)]
def A2j {α:Type} (n:Nat) (v:Tt.den) (f:Tt.den->Option α) (ks:KS α A2k):Option α:=A2l n v.1.1 v.1.2.1 (λa b=>f ((a,b,()),())) (λw0=>ks.1 ((w0,()),()))
def Kp {α:Type} (n m:Nat) (a b:LI) (k0:LI->Option α):Option α:=A5 (A2j n) m ((a,b,()),()) (λw=>k0 w.1.1,())
theorem Ac1 {α n m a b k0}:Kp (α:=α) n (m+1) a b k0=A2l n a b (λa b=>Kp n m a b k0) k0:=rfl
def f213 (n:Nat) (a0 a1:LI):Option LI :=
 Kp n n a0 a1
  (λa=>(
   gd (decide ((0+a.length)*8<=140737488355328)) (
    some a)))
def Ah8 (n:Nat):Ent:=⟨213,[hIs,hIs],[hIs],λx=>f213 n x.1 x.2⟩
def Ah9 (α:Type) (n:Nat):D3 α:={ reg:=[(2,⟨0,[],[(2,{ ent:=some (A6u n) })]⟩),(5,⟨0,[],[(0,{ sh:=some hI })]⟩)],join:=[],loop:=[(1,⟨Tt,A2k,A5 (A2j n) n⟩)] }
theorem Ac0 (α:Type) (n:Nat):Al PP (Af (Ah9 α n).reg):=⟨Aa0 n,trivial⟩
theorem Aqv (α:Type) (n:Nat):LO.Sound (α:=α) PP ⟨21,[]⟩ ⟨Tt,A2k,A5 (A2j n) n⟩ (.loop ((A0 Tryz.f213).at [1,0,0,0])):=C1 (D:=Ah9 α n) (Ac0 α n) n
theorem Be1 (α:Type) (n:Nat):D3.OK PP TT ⟨21,[]⟩ (Ah9 α n) (A0 Tryz.f213) :=
 D3.OK.mk3 (Ac0 α n) (show Aa (A0 Tryz.f213)=[(1,(.loop ((A0 Tryz.f213).at [1,0,0,0])))] by kernel_rfl) ⟨Ac rfl (Aqv α n),trivial⟩
theorem Anb (n:Nat):(Ah8 n).Sound PP:=fk (fn:=Tryz.f213) (Be1 _ n)

def f197 (n:Nat) (a0:Bool) (a1 a2:LI):Option Rq :=
 ob (f213 n a1 a2) λb =>
 ob (f217 n a1 b) λa =>
 ob (f217 n a2 b) λc =>
 bif a0 then
  some ((decide ((a.1.length:Int)>0)),a.1,c.1)
 else
  some (false,a.1,c.1)
def P1 (n:Nat):Ent:=⟨197,[.bool,hIs,hIs],[hR],λx=>f197 n x.1 x.2.1 x.2.2⟩
def Beg (α:Type) (n:Nat):D3 α:={ reg:=[(1,⟨0,[],[(2,{ ent:=some (Ah8 n) })]⟩),(2,⟨0,[],[(2,{ ent:=some (A6u n) })]⟩),(3,⟨0,[],[(2,{ ent:=some (A6u n) })]⟩)],join:=[],loop:=[] }
theorem No (n:Nat):(P1 n).Sound PP:=B0 (fn:=Tryz.f197) (D:=Beg _ n) ⟨Anb n,Aa0 n,Aa0 n,trivial⟩

def f176 (n:Nat) (a0 a1:Int):Option (Rq × Int) :=
 ob (f181 n a0 (-1000000000) 1000000000) λc =>
 bif (!c) then
  some ((false,[],[]),4)
 else
  ob (f181 n a1 (-1000000000) 1000000000) λd =>
  bif (!d) then
   some ((false,[],[]),4)
  else
   bif (a1==0) then
    some ((false,[],[]),9)
   else
    ob (f131 n a0) λa =>
    ob (f131 n a1) λb =>
    ob (f197 n (!(a.1==b.1)) a.2.1 b.2.1) λe =>
    some (e,0)
def Axa (n:Nat):Ent:=⟨176,[hI,hI],[hR,hI],λx=>f176 n x.1 x.2⟩
def Ber (α:Type) (n:Nat):D3 α:={ reg:=[(1,⟨0,[],[(1,{ ent:=some (D6 n) }),(5,{ ent:=some (D6 n) })]⟩),(5,⟨0,[],[(1,{ ent:=some (Bf n) })]⟩),(6,⟨0,[],[(1,{ ent:=some (Bf n) })]⟩),(7,⟨0,[],[(9,{ ent:=some (P1 n) })]⟩)],join:=[],loop:=[] }
theorem B91 (n:Nat):(Axa n).Sound PP:=B0 (fn:=Tryz.f176) (D:=Ber _ n) ⟨Co n,Co n,Du n,Du n,No n,trivial⟩

def Qm (n:Nat) (a0:LI × Int × Int):Option (Rq × (LI × Int × Int)) :=
 ob (Dl n a0 21) λa =>
 ob (Dl n a.2 6) λb =>
 ob (f176 n (W (a.1-10)) (W (1+b.1))) λc =>
 some (c.1,b.2)
def Aor (n:Nat):Ent3:=⟨110,[.one (.ptr 126 (.st (.pair (.sl (.int .u8)) (.pair hI hI))))],[[.im hR]],λx=>Qm n x,[]⟩
def Baz (α:Type) (n:Nat):D3 α:={ reg:=[(1,⟨0,[],[(1,{ entB:=some (Fa n),hb:=310 }),(4,{ entB:=some (Fa n),hb:=320 }),(6,{ ent:=some (Axa n) })]⟩)],join:=[],loop:=[] }
theorem B4o (n:Nat):(Aor n).Sound PP:=Xi (fn:=Tryz.f110) (D:=Baz _ n) ⟨Ey n,Ey n,B91 n,trivial⟩

def Th {α:Type} (n:Nat) (c d:Int) (b:LR) (e:LI) (g h:Int) (f:Int->Int->LR->LI->Int->Int->Option α) (k0:LR->LI->Int->Int->Option α):Option α :=
 bif (decide (d<c)) then
  ob (Qm n (e,g,h)) λa =>
  gd (decide ((b.length+1)*56<=140737488355328)) (
   f c (W (d+1)) (b++[a.1]) a.2.1 a.2.2.1 a.2.2.2)
 else
  k0 b e g h
abbrev Tg:Tm:=⟨[(0,.k (.hp 1000 0 0)),(1,.d hI),(5,.k (.hw 7)),(6,.d hI)],[(7,.arr 54 hR false),(1000,.var 126 true false [.d (.sl (.int .u8)),.d hI,.d hI])],[16],[]⟩
abbrev Avk:Tm:=⟨[(5,.k (.hw 7))],[(7,.arr 54 hR false),(1000,.var 126 true false [.d (.sl (.int .u8)),.d hI,.d hI])],[],[]⟩
abbrev A2c:List (Exit × Tm):=[(.exit 0,Avk)]
def A2b {α:Type} (n:Nat) (v:Tg.den) (f:Tg.den->Option α) (ks:KS α A2c):Option α:=Th n v.1.2.1 v.1.2.2.2.1 v.2.1 v.2.2.1.1 v.2.2.1.2.1 v.2.2.1.2.2.1 (λa b c d e g=>f (((),a,(),b,()),(c,(d,e,g,()),()))) (λw0 w1 w2 w3=>ks.1 (((),()),(w0,(w1,w2,w3,()),())))
def Kn {α:Type} (n m:Nat) (a b:Int) (c:LR) (d:LI) (e f:Int) (k0:LR->LI->Int->Int->Option α):Option α:=A5 (A2b n) m (((),a,(),b,()),(c,(d,e,f,()),())) (λw=>k0 w.2.1 w.2.2.1.1 w.2.2.1.2.1 w.2.2.1.2.2.1,())
theorem Abx {α n m a b c d e f k0}:Kn (α:=α) n (m+1) a b c d e f k0=Th n a b c d e f (λa b c d e f=>Kn n m a b c d e f k0) k0:=rfl
def Aqh (n:Nat) (a0:LI × Int × Int) (a1:Int):Option (LR × (LI × Int × Int)) :=
 Kn n n a1 0 [] a0.1 a0.2.1 a0.2.2
  (λa b c d=>(
   some (a,(b,c,d))))
def Avl (n:Nat):Ent3:=⟨59,[.one (.ptr 126 (.st (.pair (.sl (.int .u8)) (.pair hI hI)))),.im hI],[[.im hRs]],λx=>Aqh n x.1 x.2,[]⟩
def Agw (α:Type) (n:Nat):D3 α:={ reg:=[(1,⟨0,[],[(0,{ sh:=some hR })]⟩),(5,⟨0,[],[(2,{ entB:=some (Aor n),hb:=310 }),(3,{ sh:=some hR })]⟩)],join:=[],loop:=[(3,⟨Tg,A2c,A5 (A2b n) n⟩)] }
theorem Abw (α:Type) (n:Nat):Al PP (Af (Agw α n).reg):=⟨B4o n,trivial⟩
theorem Aqg (α:Type) (n:Nat):LO.Sound (α:=α) PP ⟨19,[]⟩ ⟨Tg,A2c,A5 (A2b n) n⟩ (.loop ((A0 Tryz.f59).at [1,1,0,1,0,0])):=C1 (D:=Agw α n) (Abw α n) n
theorem Bda (α:Type) (n:Nat):D3.OK PP TT ⟨19,[]⟩ (Agw α n) (A0 Tryz.f59) :=
 D3.OK.mk3 (Abw α n) (show Aa (A0 Tryz.f59)=[(3,(.loop ((A0 Tryz.f59).at [1,1,0,1,0,0])))] by kernel_rfl) ⟨Ac rfl (Aqg α n),trivial⟩
theorem B7w (n:Nat):(Avl n).Sound PP:=Vt (fn:=Tryz.f59) (Bda _ n)

def f21 (n:Nat) (a0:LI) (a1:Int):Option LR :=
 ob (A9q n a0) λa =>
 ob (Aqh n a a1) λb =>
 some b.1
def Aqo (n:Nat):Ent:=⟨21,[(.sl (.int .u8)),hI],[hRs],λx=>f21 n x.1 x.2⟩
def Bi4 (α:Type) (n:Nat):D3 α:={ reg:=[(1,⟨0,[],[(1,{ entB:=some (Agx n),hb:=310 }),(3,{ entB:=some (Avl n),hb:=320 })]⟩)],join:=[],loop:=[] }
theorem Avv (n:Nat):(Aqo n).Sound PP:=B0 (fn:=Tryz.f21) (D:=Bi4 _ n) ⟨An4 n,B7w n,trivial⟩

def A4v {α:Type} (n:Nat) (c:Int) (b:LI) (d a:Int) (f:Int->LI->Int->Int->Option α) (k0:Int->Option α) (k1:Unit->Option α):Option α :=
 bif (decide (a<d)) then
  gd (decide (0<=a)&&decide (a<(b.length:Int))) (
   bif (decide ((b.getD a.toNat 0)>c)) then
    k0 2
   else
    f c b d (W (a+1)))
 else
  k1 ()
abbrev Up:Tm:=⟨[(0,.d hI),(7,.d hIs),(8,.d hI),(9,.d hI)],[],[],[]⟩
abbrev Az3:Tm:=⟨[(4,.d hI)],[],[],[]⟩
abbrev Az2:Tm:=⟨[],[],[],[]⟩
abbrev A4u:List (Exit × Tm):=[(.ret,Az3),(.exit 0,Az2)]
def A4t {α:Type} (n:Nat) (v:Up.den) (f:Up.den->Option α) (ks:KS α A4u):Option α:=A4v n v.1.1 v.1.2.1 v.1.2.2.1 v.1.2.2.2.1 (λa b c d=>f ((a,b,c,d,()),())) (λw0=>ks.1 ((w0,()),())) (λ_=>ks.2.1 ((),()))
def Se {α:Type} (n m:Nat) (a:Int) (b:LI) (c d:Int) (k0:Int->Option α) (k1:Unit->Option α):Option α:=A5 (A4t n) m ((a,b,c,d,()),()) (λw=>k0 w.1.1,λw=>k1 (),())
theorem Az1 {α n m a b c d k0 k1}:Se (α:=α) n (m+1) a b c d k0 k1=A4v n a b c d (λa b c d=>Se n m a b c d k0 k1) k0 k1:=rfl
def f122 (n:Nat) (a0:Int) (a1:LI):Option Int :=
 Se n n a0 a1 (a1.length:Int) 0
  (λa=>(
   some a))
  (λ(_:Unit)=>(
   some 0))
def Az4 (n:Nat):Ent:=⟨122,[hI,hIs],[hI],λx=>f122 n x.1 x.2⟩
def Ajd (α:Type) (n:Nat):D3 α:={ reg:=[],join:=[],loop:=[(2,⟨Up,A4u,A5 (A4t n) n⟩)] }
theorem Acy (α:Type) (n:Nat):Al PP (Af (Ajd α n).reg):=trivial
theorem Asc (α:Type) (n:Nat):LO.Sound (α:=α) PP ⟨17,[]⟩ ⟨Up,A4u,A5 (A4t n) n⟩ (.loop ((A0 Tryz.f122).at [1,0,1,0,0])):=C1 (D:=Ajd α n) (Acy α n) n
theorem Bfw (α:Type) (n:Nat):D3.OK PP TT ⟨17,[]⟩ (Ajd α n) (A0 Tryz.f122) :=
 D3.OK.mk3 (Acy α n) (show Aa (A0 Tryz.f122)=[(2,(.loop ((A0 Tryz.f122).at [1,0,1,0,0])))] by kernel_rfl) ⟨Ac rfl (Asc α n),trivial⟩
theorem Bao (n:Nat):(Az4 n).Sound PP:=fk (fn:=Tryz.f122) (Bfw _ n)

def A9g {α:Type} (n:Nat) (b:List LR) (d a:Int) (c:LI) (f:(List LR)->Int->Int->LI->Option α) (k0:LI->Option α):Option α :=
 bif (decide (a<d)) then
  gd (decide (0<=a)&&decide (a<(b.length:Int))) (
   gd (decide ((c.length+1)*8<=140737488355328)) (
    f b d (W (a+1)) (c++[(((b.getD a.toNat []).length:Nat):Int)])))
 else
  k0 c
abbrev Zo:Tm:=⟨[(3,.k (.hw 6)),(7,.d (.sl hRs)),(8,.d hI),(9,.d hI)],[(6,.arr 3 hI false)],[16],[]⟩
abbrev B2n:Tm:=⟨[(3,.k (.hw 6))],[(6,.arr 3 hI false)],[],[]⟩
abbrev A9f:List (Exit × Tm):=[(.exit 0,B2n)]
def A9e {α:Type} (n:Nat) (v:Zo.den) (f:Zo.den->Option α) (ks:KS α A9f):Option α:=A9g n v.1.2.1 v.1.2.2.1 v.1.2.2.2.1 v.2.1 (λa b c d=>f (((),a,b,c,()),(d,()))) (λw0=>ks.1 (((),()),(w0,())))
def Xl {α:Type} (n m:Nat) (a:List LR) (b c:Int) (d:LI) (k0:LI->Option α):Option α:=A5 (A9e n) m (((),a,b,c,()),(d,())) (λw=>k0 w.2.1,())
theorem B2m {α n m a b c d k0}:Xl (α:=α) n (m+1) a b c d k0=A9g n a b c d (λa b c d=>Xl n m a b c d k0) k0:=rfl
def f71 (n:Nat) (a0:List LR):Option Int :=
 Xl n n a0 (a0.length:Int) 0 []
  (λa=>(
   ob (f122 n 4096 a) λb =>
   some b))
def I6 (n:Nat):Ent:=⟨71,[(.sl hRs)],[hI],λx=>f71 n x⟩
def Aqa (α:Type) (n:Nat):D3 α:={ reg:=[(1,⟨0,[],[(0,{ sh:=some hI })]⟩),(5,⟨0,[],[(3,{ sh:=some hI })]⟩),(7,⟨0,[],[(1,{ ent:=some (Az4 n) })]⟩)],join:=[],loop:=[(3,⟨Zo,A9f,A5 (A9e n) n⟩)] }
theorem Agn (α:Type) (n:Nat):Al PP (Af (Aqa α n).reg):=⟨Bao n,trivial⟩
theorem Avd (α:Type) (n:Nat):LO.Sound (α:=α) PP ⟨21,[]⟩ ⟨Zo,A9f,A5 (A9e n) n⟩ (.loop ((A0 Tryz.f71).at [1,1,0,1,0,0])):=C1 (D:=Aqa α n) (Agn α n) n
theorem Bhl (α:Type) (n:Nat):D3.OK PP TT ⟨21,[]⟩ (Aqa α n) (A0 Tryz.f71) :=
 D3.OK.mk3 (Agn α n) (show Aa (A0 Tryz.f71)=[(3,(.loop ((A0 Tryz.f71).at [1,1,0,1,0,0])))] by kernel_rfl) ⟨Ac rfl (Avd α n),trivial⟩
theorem Agl (n:Nat):(I6 n).Sound PP:=fk (fn:=Tryz.f71) (Bhl _ n)

def f177 (n:Nat) (a0 a1 a2:Int):Option Bool :=
 bif (decide (a1<=a0)) then
  some (decide (a0<=a2))
 else
  some false
def P3 (n:Nat):Ent:=⟨177,[hI,hI,hI],[.bool],λx=>f177 n x.1 x.2.1 x.2.2⟩
def Beq (α:Type) (n:Nat):D3 α:={ reg:=[],join:=[],loop:=[] }
theorem Nt (n:Nat):(P3 n).Sound PP:=B0 (fn:=Tryz.f177) (D:=Beq _ n) trivial

def f223 (n:Nat) (a0:Nq):Option Bool :=
 bif (a0.1==1) then
  ob (f177 n a0.2.2.2 0 999999999) λa =>
  some a
 else
  bif (a0.1==2) then
   ob (f177 n a0.2.2.2 0 3) λb =>
   some b
  else
   bif (a0.1==8) then
    ob (f177 n a0.2.2.2 0 8) λc =>
    some c
   else
    some (a0.2.2.2==0)
def Avu (n:Nat):Ent:=⟨223,[hN],[.bool],λx=>f223 n x⟩
def Bds (α:Type) (n:Nat):D3 α:={ reg:=[(3,⟨0,[],[(2,{ ent:=some (P3 n) })]⟩),(5,⟨0,[],[(2,{ ent:=some (P3 n) })]⟩),(7,⟨0,[],[(2,{ ent:=some (P3 n) })]⟩)],join:=[],loop:=[] }
theorem B80 (n:Nat):(Avu n).Sound PP:=B0 (fn:=Tryz.f223) (D:=Bds _ n) ⟨Nt n,Nt n,Nt n,trivial⟩

def f61 (n:Nat) (a0:Nq):Option Int :=
 bif (a0.1==3) then
  some 2
 else
  bif (a0.1==4) then
   some 2
  else
   bif (a0.1==5) then
    some 2
   else
    bif (a0.1==6) then
     some 2
    else
     bif (a0.1==7) then
      some 1
     else
      bif (a0.1==8) then
       some 1
      else
       some 0
def A6n (n:Nat):Ent:=⟨61,[hN],[hI],λx=>f61 n x⟩
def Bhr (α:Type) (n:Nat):D3 α:={ reg:=[],join:=[],loop:=[] }
theorem A6m (n:Nat):(A6n n).Sound PP:=B0 (fn:=Tryz.f61) (D:=Bhr _ n) trivial

def f224 (n:Nat) (a0:Bool) (a1 a2:Int):Option Bool :=
 bif a0 then
  ob (f177 n a1 0 (W (a2-1))) λa =>
  bif a then
   some true
  else
   bif (!a0) then
    some (a1==0)
   else
    some false
 else
  bif (!a0) then
   some (a1==0)
  else
   some false
def Ah4 (n:Nat):Ent:=⟨224,[.bool,hI,(.ref hI)],[.bool],λx=>f224 n x.1 x.2.1 x.2.2⟩
def Bdr (α:Type) (n:Nat):D3 α:={ reg:=[(1,⟨0,[],[(5,{ ent:=some (P3 n) })]⟩)],join:=[],loop:=[] }
theorem An9 (n:Nat):(Ah4 n).Sound PP:=B0 (fn:=Tryz.f224) (D:=Bdr _ n) ⟨Nt n,trivial⟩

def f211 (n:Nat) (a0:Nq) (a1:Int):Option Bool :=
 ob (f177 n a0.1 1 8) λa =>
 bif (!a) then
  some false
 else
  ob (f223 n a0) λb =>
  bif (!b) then
   some false
  else
   ob (f61 n a0) λc =>
   ob (f224 n (decide (c>0)) a0.2.1 a1) λd =>
   bif d then
    ob (f61 n a0) λe =>
    ob (f224 n (decide (e>1)) a0.2.2.1 a1) λf =>
    some f
   else
    some false
def Awa (n:Nat):Ent:=⟨211,[hN,hI],[.bool],λx=>f211 n x.1 x.2⟩
def Be3 (α:Type) (n:Nat):D3 α:={ reg:=[(1,⟨0,[],[(2,{ ent:=some (P3 n) }),(6,{ ent:=some (Avu n) })]⟩),(3,⟨0,[],[(0,{ sh:=some (.ref hI) })]⟩),(4,⟨14,[],[(2,{ ent:=some (A6n n) }),(6,{ ent:=some (Ah4 n) }),(10,{ ent:=some (A6n n) }),(14,{ ent:=some (Ah4 n) })]⟩)],join:=[],loop:=[] }
theorem B8b (n:Nat):(Awa n).Sound PP:=B0 (fn:=Tryz.f211) (D:=Be3 _ n) ⟨Nt n,B80 n,A6m n,An9 n,A6m n,An9 n,trivial⟩

def A9p {α:Type} (n:Nat) (c:LN) (d a e g h i:Int) (f:LN->Int->Int->Int->Int->Int->Int->Option α) (k0:Int->Option α) (k1:Unit->Option α):Option α :=
 bif (decide (a<d)) then
  gd (decide (0<=a)&&decide (a<(c.length:Int))) (
   let b:=c.getD a.toNat (0,0,0,0)
   bif (e==b.1&&(g==b.2.1&&(h==b.2.2.1&&(i==b.2.2.2&&true)))) then
    k0 a
   else
    f c d (W (a+1)) e g h i)
 else
  k1 ()
abbrev Zs:Tm:=⟨[(0,.d hNs),(3,.k (.hp 3 0 0)),(7,.d hI),(8,.d hI)],[(3,.var 85 true false [.d hI,.d hI,.d hI,.d hI])],[],[]⟩
abbrev B2v:Tm:=⟨[(4,.d hI)],[],[3],[]⟩
abbrev B2u:Tm:=⟨[],[],[3],[]⟩
abbrev A9o:List (Exit × Tm):=[(.ret,B2v),(.exit 0,B2u)]
def A9n {α:Type} (n:Nat) (v:Zs.den) (f:Zs.den->Option α) (ks:KS α A9o):Option α:=A9p n v.1.1 v.1.2.2.1 v.1.2.2.2.1 v.2.1.1 v.2.1.2.1 v.2.1.2.2.1 v.2.1.2.2.2.1 (λa b c d e g h=>f ((a,(),b,c,()),((d,e,g,h,()),()))) (λw0=>ks.1 ((w0,()),())) (λ_=>ks.2.1 ((),()))
def Xm {α:Type} (n m:Nat) (a:LN) (b c d e f g:Int) (k0:Int->Option α) (k1:Unit->Option α):Option α:=A5 (A9n n) m ((a,(),b,c,()),((d,e,f,g,()),())) (λw=>k0 w.1.1,λw=>k1 (),())
theorem B2t {α n m a b c d e f g k0 k1}:Xm (α:=α) n (m+1) a b c d e f g k0 k1=A9p n a b c d e f g (λa b c d e f g=>Xm n m a b c d e f g k0 k1) k0 k1:=rfl
def f62 (n:Nat) (a0:LN) (a1:Nq):Option Int :=
 Xm n n a0 (a0.length:Int) 0 a1.1 a1.2.1 a1.2.2.1 a1.2.2.2
  (λa=>(
   some a))
  (λ(_:Unit)=>(
   some (-1)))
def B64 (n:Nat):Ent:=⟨62,[hNs,hN],[hI],λx=>f62 n x.1 x.2⟩
def Aqf (α:Type) (n:Nat):D3 α:={ reg:=[(4,⟨5,[],[]⟩)],join:=[],loop:=[(2,⟨Zs,A9o,A5 (A9n n) n⟩)] }
theorem Agt (α:Type) (n:Nat):Al PP (Af (Aqf α n).reg):=trivial
theorem Avj (α:Type) (n:Nat):LO.Sound (α:=α) PP ⟨19,[]⟩ ⟨Zs,A9o,A5 (A9n n) n⟩ (.loop ((A0 Tryz.f62).at [1,0,1,0,0])):=C1 (D:=Aqf α n) (Agt α n) n
theorem Bhq (α:Type) (n:Nat):D3.OK PP TT ⟨19,[]⟩ (Aqf α n) (A0 Tryz.f62) :=
 D3.OK.mk3 (Agt α n) (show Aa (A0 Tryz.f62)=[(2,(.loop ((A0 Tryz.f62).at [1,0,1,0,0])))] by kernel_rfl) ⟨Ac rfl (Avj α n),trivial⟩
theorem Bd9 (n:Nat):(B64 n).Sound PP:=fk (fn:=Tryz.f62) (Bhq _ n)

def f218 (n:Nat) (a0:LN) (a1:Nq):Option Bool :=
 ob (f62 n a0 a1) λa =>
 some (decide (a>=0))
def Avz (n:Nat):Ent:=⟨218,[hNs,hN],[.bool],λx=>f218 n x.1 x.2⟩
def Bdw (α:Type) (n:Nat):D3 α:={ reg:=[(1,⟨0,[],[(2,{ ent:=some (B64 n) })]⟩)],join:=[],loop:=[] }
theorem B85 (n:Nat):(Avz n).Sound PP:=B0 (fn:=Tryz.f218) (D:=Bdw _ n) ⟨Bd9 n,trivial⟩

def A34 {α:Type} (n:Nat) (b:LN) (d a:Int) (c:LN) (g:Int) (f:LN->Int->Int->LN->Int->Option α) (k0:Bool->Option α) (k1:Unit->Option α):Option α :=
 bif (decide (a<d)) then
  gd (decide (0<=a)&&decide (a<(b.length:Int))) (
   let e:=b.getD a.toNat (0,0,0,0)
   ob (f211 n e a) λh =>
   bif (!h) then
    k0 false
   else
    gd (decide (0<=a)&&decide (a<=(c.length:Int))) (
     ob (f218 n ((c.drop 0).take (a.toNat-0)) e) λi =>
     bif i then
      k0 false
     else
      f b d (W (a+1)) c g))
 else
  k1 ()
abbrev U0:Tm:=⟨[(1,.k (.hp 1 0 0)),(20,.d hNs),(21,.d hI),(22,.d hI)],[(1,.var 33 true false [.d hNs,.d hI])],[4],[]⟩
abbrev Awm:Tm:=⟨[(2,.d .bool)],[],[1,4],[]⟩
abbrev Awl:Tm:=⟨[],[],[1],[]⟩
abbrev A33:List (Exit × Tm):=[(.ret,Awm),(.exit 0,Awl)]
def A32 {α:Type} (n:Nat) (v:U0.den) (f:U0.den->Option α) (ks:KS α A33):Option α:=A34 n v.1.2.1 v.1.2.2.1 v.1.2.2.2.1 v.2.1.1 v.2.1.2.1 (λa b c d e=>f (((),a,b,c,()),((d,e,()),()))) (λw0=>ks.1 ((w0,()),())) (λ_=>ks.2.1 ((),()))
def A02 {α:Type} (n m:Nat) (a:LN) (b c:Int) (d:LN) (e:Int) (k0:Bool->Option α) (k1:Unit->Option α):Option α:=A5 (A32 n) m (((),a,b,c,()),((d,e,()),())) (λw=>k0 w.1.1,λw=>k1 (),())
theorem Awk {α n m a b c d e k0 k1}:A02 (α:=α) n (m+1) a b c d e k0 k1=A34 n a b c d e (λa b c d e=>A02 n m a b c d e k0 k1) k0 k1:=rfl
def f201 (n:Nat) (a0:LN × Int):Option Bool :=
 ob (f177 n (a0.1.length:Int) 1 60) λa =>
 bif (!a) then
  some false
 else
  bif (a0.2 != (W ((a0.1.length:Int)-1))) then
   some false
  else
   A02 n n a0.1 (a0.1.length:Int) 0 a0.1 a0.2
    (λb=>(
     some b))
    (λ(_:Unit)=>(
     some true))
def Awn (n:Nat):Ent:=⟨201,[(.st (.pair hNs hI))],[.bool],λx=>f201 n x⟩
def Aho (α:Type) (n:Nat):D3 α:={ reg:=[(1,⟨0,[],[(3,{ ent:=some (P3 n) })]⟩),(6,⟨10,[],[(2,{ ent:=some (Awa n) }),(10,{ ent:=some (Avz n) })]⟩)],join:=[],loop:=[(4,⟨U0,A33,A5 (A32 n) n⟩)] }
theorem Ac8 (α:Type) (n:Nat):Al PP (Af (Aho α n).reg):=⟨Nt n,B8b n,B85 n,trivial⟩
theorem Ar5 (α:Type) (n:Nat):LO.Sound (α:=α) PP ⟨40,[]⟩ ⟨U0,A33,A5 (A32 n) n⟩ (.loop ((A0 Tryz.f201).at [1,1,0,1,0,0])):=C1 (D:=Aho α n) (Ac8 α n) n
theorem Bec (α:Type) (n:Nat):D3.OK PP TT ⟨40,[]⟩ (Aho α n) (A0 Tryz.f201) :=
 D3.OK.mk3 (Ac8 α n) (show Aa (A0 Tryz.f201)=[(4,(.loop ((A0 Tryz.f201).at [1,1,0,1,0,0])))] by kernel_rfl) ⟨Ac rfl (Ar5 α n),trivial⟩
theorem B8g (n:Nat):(Awn n).Sound PP:=fk (fn:=Tryz.f201) (Bec _ n)

def f111 (n:Nat) (a0:Bool) (a1:Int):Option Int :=
 bif a0 then
  some 0
 else
  some a1
def Gk (n:Nat):Ent:=⟨111,[.bool,hI],[hI],λx=>f111 n x.1 x.2⟩
def Bg5 (α:Type) (n:Nat):D3 α:={ reg:=[],join:=[],loop:=[] }
theorem Nz (n:Nat):(Gk n).Sound PP:=B0 (fn:=Tryz.f111) (D:=Bg5 _ n) trivial

def f149 (n:Nat) (a0:LN × Int):Option Int :=
 ob (f201 n a0) λa =>
 ob (f111 n a 1) λb =>
 some b
def S8 (n:Nat):Ent:=⟨149,[(.st (.pair hNs hI))],[hI],λx=>f149 n x⟩
def Bfd (α:Type) (n:Nat):D3 α:={ reg:=[(1,⟨0,[],[(1,{ ent:=some (Awn n) }),(2,{ ent:=some (Gk n) })]⟩)],join:=[],loop:=[] }
theorem Ba5 (n:Nat):(S8 n).Sound PP:=B0 (fn:=Tryz.f149) (D:=Bfd _ n) ⟨B8g n,Nz n,trivial⟩

def f227 (n:Nat) (a0:Int):Option Bool :=
 bif (decide (a0<0)) then
  some true
 else
  some (decide (a0>=10000))
def Avt (n:Nat):Ent:=⟨227,[hI],[.bool],λx=>f227 n x⟩
def Bdp (α:Type) (n:Nat):D3 α:={ reg:=[],join:=[],loop:=[] }
theorem B7y (n:Nat):(Avt n).Sound PP:=B0 (fn:=Tryz.f227) (D:=Bdp _ n) trivial

def Ol {α:Type} (n:Nat) (b:LI) (c a:Int) (f:LI->Int->Int->Option α) (k0:Int->Option α) (k1:Unit->Option α):Option α :=
 bif (decide (a<c)) then
  gd (decide (0<=a)&&decide (a<(b.length:Int))) (
   ob (f227 n (b.getD a.toNat 0)) λd =>
   bif d then
    k0 a
   else
    f b c (W (a+1)))
 else
  k1 ()
abbrev Jj:Tm:=⟨[(0,.d hIs),(1,.d (.fn 227)),(7,.d hI),(8,.d hI)],[],[],[]⟩
abbrev Ads:Tm:=⟨[(4,.d hI)],[],[],[]⟩
abbrev Adr:Tm:=⟨[],[],[],[]⟩
abbrev Ok:List (Exit × Tm):=[(.ret,Ads),(.exit 0,Adr)]
def Oj {α:Type} (n:Nat) (v:Jj.den) (f:Jj.den->Option α) (ks:KS α Ok):Option α:=Ol n v.1.1 v.1.2.2.1 v.1.2.2.2.1 (λa b c=>f ((a,(),b,c,()),())) (λw0=>ks.1 ((w0,()),())) (λ_=>ks.2.1 ((),()))
def Hs {α:Type} (n m:Nat) (a:LI) (b c:Int) (k0:Int->Option α) (k1:Unit->Option α):Option α:=A5 (Oj n) m ((a,(),b,c,()),()) (λw=>k0 w.1.1,λw=>k1 (),())
theorem Adq {α n m a b c k0 k1}:Hs (α:=α) n (m+1) a b c k0 k1=Ol n a b c (λa b c=>Hs n m a b c k0 k1) k0 k1:=rfl
def A2d (n:Nat) (a0:LI) (a1:Unit):Option Int :=
 Hs n n a0 (a0.length:Int) 0
  (λa=>(
   some a))
  (λ(_:Unit)=>(
   some (-1)))
def A6s (n:Nat):Ent:=⟨228,[hIs,(.fn 227)],[hI],λx=>A2d n x.1 x.2⟩
def Ti (α:Type) (n:Nat):D3 α:={ reg:=[(4,⟨0,[],[(5,{ ent:=some (Avt n) })]⟩)],join:=[],loop:=[(2,⟨Jj,Ok,A5 (Oj n) n⟩)] }
theorem Vw (α:Type) (n:Nat):Al PP (Af (Ti α n).reg):=⟨B7y n,trivial⟩
theorem A9z (α:Type) (n:Nat):LO.Sound (α:=α) PP ⟨19,[]⟩ ⟨Jj,Ok,A5 (Oj n) n⟩ (.loop ((A0 Tryz.f228).at [1,0,1,0,0])):=C1 (D:=Ti α n) (Vw α n) n
theorem Aqm (α:Type) (n:Nat):D3.OK PP TT ⟨19,[]⟩ (Ti α n) (A0 Tryz.f228) :=
 D3.OK.mk3 (Vw α n) (show Aa (A0 Tryz.f228)=[(2,(.loop ((A0 Tryz.f228).at [1,0,1,0,0])))] by kernel_rfl) ⟨Ac rfl (A9z α n),trivial⟩
theorem Alb (n:Nat):(A6s n).Sound PP:=fk (fn:=Tryz.f228) (Aqm _ n)

def Om (n:Nat) (a0:LI) (a1:Unit):Option Bool :=
 ob (A2d n a0 a1) λa =>
 some (decide (a>=0))
def A6t (n:Nat):Ent:=⟨226,[hIs,(.fn 227)],[.bool],λx=>Om n x.1 x.2⟩
def Aqn (α:Type) (n:Nat):D3 α:={ reg:=[(1,⟨0,[],[(2,{ ent:=some (A6s n) })]⟩)],join:=[],loop:=[] }
theorem Alc (n:Nat):(A6t n).Sound PP:=B0 (fn:=Tryz.f226) (D:=Aqn _ n) ⟨Alb n,trivial⟩

def f225 (n:Nat) (a0:LI):Option Bool :=
 bif (decide ((a0.length:Int)>40)) then
  some false
 else
  bif (decide ((a0.length:Int)>0)) then
   gd (decide (0<=(W ((a0.length:Int)-1)))&&decide ((W ((a0.length:Int)-1))<(a0.length:Int))) (
    bif ((a0.getD ((W ((a0.length:Int)-1)).toNat) 0)==0) then
     some false
    else
     ob (Om n a0 ()) λa =>
     some (!a))
  else
   ob (Om n a0 ()) λb =>
   some (!b)
def Ah3 (n:Nat):Ent:=⟨225,[hIs],[.bool],λx=>f225 n x⟩
def Bdq (α:Type) (n:Nat):D3 α:={ reg:=[(4,⟨0,[],[(1,{ ent:=some (A6t n) })]⟩)],join:=[],loop:=[] }
theorem An7 (n:Nat):(Ah3 n).Sound PP:=B0 (fn:=Tryz.f225) (D:=Bdq _ n) ⟨Alc n,trivial⟩

def f168 (n:Nat) (a0:Rq):Option Bool :=
 some ((a0.2.1.length:Int)==0)
def Pb (n:Nat):Ent:=⟨168,[hR],[.bool],λx=>f168 n x⟩
def Bew (α:Type) (n:Nat):D3 α:={ reg:=[],join:=[],loop:=[] }
theorem Nv (n:Nat):(Pb n).Sound PP:=B0 (fn:=Tryz.f168) (D:=Bew _ n) trivial

def f205 (n:Nat) (a0:LI):Option LI :=
 some a0
def Ahf (n:Nat):Ent:=⟨205,[hIs],[(.clo 220 (.ref hIs))],λx=>f205 n x⟩
def Be8 (α:Type) (n:Nat):D3 α:={ reg:=[(1,⟨0,[],[(0,{ sh:=some (.ref hIs) })]⟩)],join:=[],loop:=[] }
theorem Anj (n:Nat):(Ahf n).Sound PP:=B0 (fn:=Tryz.f205) (D:=Be8 _ n) trivial

def A42 {α:Type} (n:Nat) (i:Nat) (z:Int) (b:LI) (a:LI) (c:Int) (f:LI->LI->Int->Option α) (k0:Int->Option α) (k1:Int->Option α):Option α :=
 gd (decide (0<=(i:Int))&&decide ((i:Int)<(a.length:Int))) (
  bif (z != (a.getD ((i:Int).toNat) 0)) then
   gd (decide (0<=(i:Int))&&decide ((i:Int)<(a.length:Int))) (
    bif (decide (z<(a.getD ((i:Int).toNat) 0))) then
     k1 (-1)
    else
     k1 1)
  else
   f b a c)
abbrev Kx:Tm:=⟨[(3,.k (.hp 3 0 0)),(4,.k (.hp 4 0 0)),(18,.d (.clo 220 (.ref hIs)))],[(3,.var 52 true false [.d hIs]),(4,.var 3 true false [.d hI])],[],[]⟩
abbrev Ay4:Tm:=⟨[(4,.k (.hp 4 0 0))],[(4,.var 3 true false [.d hI])],[3],[]⟩
abbrev Ay3:Tm:=⟨[(4,.k (.hp 4 0 0))],[(4,.var 3 true false [.d hI])],[3],[]⟩
abbrev Uf:List (Exit × Tm):=[(.normal,Ay4),(.ret,Ay3)]
def Pc (v:Kx.den):List Int:=(λa b c=>a) v.1.2.2.1 v.2.1.1 v.2.2.1.1
def Pe {α:Type} (n:Nat) (i:Nat) (z:Int) (v:Kx.den) (f:Kx.den->Option α) (ks:KS α Uf):Option α:=A42 n i z v.1.2.2.1 v.2.1.1 v.2.2.1.1 (λa b c=>f (((),(),a,()),((b,()),(c,()),()))) (λw0=>ks.1 (((),()),((w0,()),()))) (λw0=>ks.2.1 (((),()),((w0,()),())))
def Pg {α:Type} (v:Kx.den) (ks:KS α Uf):Option α:=(λb c a=>ks.1 (((),()),((a,()),()))) v.1.2.2.1 v.2.1.1 v.2.2.1.1
def Aoj {α:Type} (n:Nat) (a:LI) (b:LI) (c:Int) (k0:Int->Option α) (k1:Int->Option α):Option α:=Oa Pc (Pe n) Pg (((),(),a,()),((b,()),(c,()),())) (λw=>k0 w.2.1.1,λw=>k1 w.2.1.1,())
def Pf {α:Type} (n:Nat) (zs:List Int) (i:Nat) (a:LI) (b:LI) (c:Int) (k0:Int->Option α) (k1:Int->Option α):Option α:=Ob Pc (Pe n) zs i (((),(),a,()),((b,()),(c,()),())) (λv=>Pg v (λw=>k0 w.2.1.1,λw=>k1 w.2.1.1,())) (λw=>k0 w.2.1.1,λw=>k1 w.2.1.1,())
theorem Ay1 {α:Type} (n:Nat) (a:LI) (b:LI) (c:Int) (k0:Int->Option α) (k1:Int->Option α):Aoj (α:=α) n a b c k0 k1=gd (decide (a.length<=4611686018427387904)) (Pf n a a.length a b c k0 k1):=rfl
theorem Ay2 {α:Type} (n:Nat) (zs:List Int) (b:LI) (c:LI) (a:Int) (k0:Int->Option α) (k1:Int->Option α):Pf (α:=α) n zs 0 b c a k0 k1=k0 a:=rfl
theorem Ay0 {α:Type} (n:Nat) (zs:List Int) (i:Nat) (a:LI) (b:LI) (c:Int) (k0:Int->Option α) (k1:Int->Option α):Pf (α:=α) n zs (i+1) a b c k0 k1=A42 n i (zs.getD i 0) a b c (λa b c=>gd (decide (a=zs)) (Pf n zs i a b c k0 k1)) k0 k1:=rfl
def f155 (n:Nat) (a0 a1:LI):Option Int :=
 bif ((a0.length:Int) != (a1.length:Int)) then
  bif (decide ((a0.length:Int)<(a1.length:Int))) then
   some (-1)
  else
   some 1
 else
  ob (f205 n a0) λa =>
  Aoj n a a1 0
   (λc=>(
    some 0))
   (λb=>(
    some b))
def Yg (n:Nat):Ent:=⟨155,[hIs,hIs],[hI],λx=>f155 n x.1 x.2⟩
def A7m (α:Type) (n:Nat):D3 α:={ reg:=[(5,⟨0,[],[(1,{ ent:=some (Ahf n) })]⟩)],join:=[],loop:=[(6,⟨Kx,Uf,Oa Pc (Pe n) Pg⟩)] }
theorem Yf (α:Type) (n:Nat):Al PP (Af (A7m α n).reg):=⟨Anj n,trivial⟩
theorem Ary (α:Type) (n:Nat):D3.OK PP TT ⟨33,[]⟩ (A7m α n) ((A0 Tryz.f155).at [1,1,0,1,0,0]) :=
 D3.OK.mk3 (Yf α n) (show Aa ((A0 Tryz.f155).at [1,1,0,1,0,0])=[] by kernel_rfl) trivial
theorem Arx (α:Type) (n:Nat):D3.OK PP TT ⟨33,[]⟩ (A7m α n) ((A0 Tryz.f155).at [1,1,0,1,0,1]) :=
 D3.OK.mk3 (Yf α n) (show Aa ((A0 Tryz.f155).at [1,1,0,1,0,1])=[] by kernel_rfl) trivial
theorem Arw (α:Type) (n:Nat):LO.Sound (α:=α) PP ⟨33,[]⟩ ⟨Kx,Uf,Oa Pc (Pe n) Pg⟩ (.rangeFunc (.tmp 18) #[19,20] ((A0 Tryz.f155).at [1,1,0,1,0,0]) ((A0 Tryz.f155).at [1,1,0,1,0,1])) :=
 Afl (Rb _) Oc Pc (Pe n) Pg Ap2 rfl rfl rfl rfl (Ary α n) (Arx α n) (by intro v;rfl) (by intro i z v f ks;kernel_rfl) (by intro v ks;kernel_rfl)
theorem Bf7 (α:Type) (n:Nat):D3.OK PP TT ⟨33,[]⟩ (A7m α n) (A0 Tryz.f155) :=
 D3.OK.mk3 (Yf α n) (show Aa (A0 Tryz.f155)=[(6,(.rangeFunc (.tmp 18) #[19,20] ((A0 Tryz.f155).at [1,1,0,1,0,0]) ((A0 Tryz.f155).at [1,1,0,1,0,1])))] by kernel_rfl) ⟨Ac rfl (Arw α n),trivial⟩
theorem A0a (n:Nat):(Yg n).Sound PP:=fk (fn:=Tryz.f155) (Bf7 _ n)

def Asb (n:Nat) (a0:LI):Option LI :=
 gd ((!a0.isEmpty)) (
  gd (decide ((0+a0.length)*8<=140737488355328)) (
   some a0))
def Bal (n:Nat):Ent:=⟨123,[hIs],[hIs],λx=>Asb n x⟩
def Bam (α:Type) (n:Nat):D3 α:={ reg:=[(3,⟨0,[],[(0,{ sh:=some hI })]⟩)],join:=[],loop:=[] }
theorem B4m (n:Nat):(Bal n).Sound PP:=B0 (fn:=Tryz.f123) (D:=Bam _ n) trivial

set_option maxRecDepth 100000 in
set_option maxHeartbeats 2000000 in
theorem B09 (ad:Option Addr) (cap:Nat) (hc:ad=none->cap=0) (w:World):Calls Tryz.prog 123 #[.slice ad 0 cap] w λe w'=>(∃ a c,e = .returned (.slice a 0 c)/\(a=none->c=0))/\w.grownBy w' none:=by
 refine (callsIn_wide (n:=3)).1 ?_;refine callsIn_of_wp Tryz.func123 rfl trivial ?_ rfl;simp only [Tryz.ntmps123,List.size_toArray,ZD,XD,Nat.reduceAdd,Nat.reduceSub,Array.replicate_succ,Array.replicate_zero,List.push_toArray,List.append_toArray,JM,YA];have hi:∃ i,Tryz.prog.info? 3=some i:=⟨_,rfl⟩;obtain ⟨i3,hi3⟩:=hi
 have hap:∀ (base:Option Addr) (sCap:Nat) (a:Option Addr) (cp:Nat) (w:World),(Builtin.append_ #[52,52] 52 #[.slice base 0 sCap,.slice a 0 cp]).run Tryz.prog w = .ok (.slice base 0 sCap) w:=λbase sCap a cp w =>
  Q1 w 52 52 3 i3 Tryz.underlying52 hi3 base 0 sCap (KI _) a cp
 cases ad with
 | none =>
  obtain rfl:=hc rfl
  have hb:∀ w,(binOp BinOp.eql 52 (.slice none 0 0) (.slice none 0 0)).run Tryz.prog w = .ok (.bool true) w:=λw=>by kernel_rfl
  gi_wp2
  refine bodyPost_ret (results_tmp rfl _ _ _) rfl ?_;exact ⟨⟨none,0,rfl,λ_=>rfl⟩,⟨rfl,rfl,rfl,ZG _,λ_ _ _=>rfl⟩⟩
 | some ad =>
  have hb:∀ w,(binOp BinOp.eql 52 (.slice (some ad) 0 cap) (.slice none 0 0)).run Tryz.prog w = .ok (.bool false) w:=λw=>by kernel_rfl
  gi_wp2
  refine bodyPost_ret (results_tmp rfl _ _ _) rfl ?_;exact ⟨⟨_,0,rfl,λ_=>rfl⟩,World.grownBy_alloc w _ none⟩
def f123 (n:Nat) (a0:List Int):Option (List Int):=bif a0.isEmpty then some [] else Asb n a0
def M6 (n:Nat):Ent:=⟨123,[hIs],[hIs],λx=>f123 n x⟩
theorem B4l (nt:Nat):K6 Tryz.prog 123 nt [] [] [.one (.i (.sl 0 false 1 []))] (.v (.one (.i (.sl 0 false 1 [])))) nt []:=by
 refine ⟨⟨Tryz.f123,by kernel_rfl,by kernel_rfl,by kernel_rfl⟩,λw E vs hin hv=>?_⟩
 obtain ⟨hl,hget⟩:=hv
 match vs,hl with
 | [v],_ =>
  have h1:Rv w E v (.one (.i (.sl 0 false 1 []))):=hget 0 v _ rfl rfl
  cases h1 with
  | one h1 =>
   cases h1 with
   | i h1 =>
    cases h1 with
    | sl _ _ _ _ _ _ _ hne=>exact absurd rfl hne
    | nil _ _ cap a _ hn hc =>
     refine (B09 a cap hc w).mono ?_
     rintro e w' ⟨⟨a',c',rfl,hc'⟩,hg⟩
     exact ⟨_,E,rfl,.v (.one (.i (.nil 0 1 c' a' false (λe=>by cases e) hc'))),⟨hg.os,hg.tape,hg.output,hg.size,λb hb _=>hg.block b hb (by simp)⟩,
      ⟨λb hb=>ZU (hin.wf.alt b hb) hg.size,hin.wf.tag,hin.wf.inj,λb h hb=>by cases hin.odom b h hb⟩,λ_ _=>Iff.rfl,ZG _,λ_ _=>rfl,λt g ht h=>absurd (hin.wf.tag t g h).1 (Nat.not_lt.2 ht),
      λh b hb=>(by cases hb),λh h' b b' g g' z z' hb=>(by cases hb),λh b g z hb=>(by cases hb),λh b hb=>(by cases hb),λg h hg=>(by cases hin.odom g h hg)⟩
theorem L3 (n:Nat):(M6 n).Sound Tryz.prog:=by
 intro nt x r h
 cases x with
 | cons z l=>exact B4m n nt (z::l) r h
 | nil =>
  have h:some ([]:List Int)=some r:=h;obtain rfl:=QA h;exact B4l nt

def A31 {α:Type} (n:Nat) (b:LI) (a:Int) (f:LI->Int->Option α) (k0:LI->Int->Option α):Option α :=
 bif (decide (a>0)) then
  gd (decide (0<=(W (a-1)))&&decide ((W (a-1))<(b.length:Int))) (
   bif ((b.getD ((W (a-1)).toNat) 0)==0) then
    f b (W (a-1))
   else
    k0 b a)
 else
  k0 b a
abbrev Tz:Tm:=⟨[(0,.d hIs),(3,.d hI)],[],[],[]⟩
abbrev Awj:Tm:=⟨[(0,.d hIs),(3,.d hI)],[],[],[]⟩
abbrev A30:List (Exit × Tm):=[(.exit 0,Awj)]
def A2z {α:Type} (n:Nat) (v:Tz.den) (f:Tz.den->Option α) (ks:KS α A30):Option α:=A31 n v.1.1 v.1.2.1 (λa b=>f ((a,b,()),())) (λw0 w1=>ks.1 ((w0,w1,()),()))
def A01 {α:Type} (n m:Nat) (a:LI) (b:Int) (k0:LI->Int->Option α):Option α:=A5 (A2z n) m ((a,b,()),()) (λw=>k0 w.1.1 w.1.2.1,())
theorem Awi {α n m a b k0}:A01 (α:=α) n (m+1) a b k0=A31 n a b (λa b=>A01 n m a b k0) k0:=rfl
def f202 (n:Nat) (a0:LI):Option LI :=
 A01 n n a0 (a0.length:Int)
  (λb a=>(
   gd (decide (0<=a)&&decide (a<=(b.length:Int))) (
    some ((b.drop 0).take (a.toNat-0)))))
def Hv (n:Nat):Ent:=⟨202,[hIs],[hIs],λx=>f202 n x⟩
def Ahn (α:Type) (n:Nat):D3 α:={ reg:=[],join:=[],loop:=[(2,⟨Tz,A30,A5 (A2z n) n⟩)] }
theorem Ac6 (α:Type) (n:Nat):Al PP (Af (Ahn α n).reg):=trivial
theorem Ar4 (α:Type) (n:Nat):LO.Sound (α:=α) PP ⟨21,[]⟩ ⟨Tz,A30,A5 (A2z n) n⟩ (.loop ((A0 Tryz.f202).at [1,1,0,0,0])):=C1 (D:=Ahn α n) (Ac6 α n) n
theorem Beb (α:Type) (n:Nat):D3.OK PP TT ⟨21,[]⟩ (Ahn α n) (A0 Tryz.f202) :=
 D3.OK.mk3 (Ac6 α n) (show Aa (A0 Tryz.f202)=[(2,(.loop ((A0 Tryz.f202).at [1,1,0,0,0])))] by kernel_rfl) ⟨Ac rfl (Ar4 α n),trivial⟩
theorem Ru (n:Nat):(Hv n).Sound PP:=fk (fn:=Tryz.f202) (Beb _ n)

def A4e {α:Type} (n:Nat) (a:Int) (b:LI) (f:Int->LI->Option α) (k0:LI->Option α):Option α :=
 bif (decide (a>0)) then
  gd (decide ((b.length+1)*8<=140737488355328)) (
   f (W (Int.tdiv a 10000)) (b++[(Int.tmod a 10000)]))
 else
  k0 b
abbrev Uj:Tm:=⟨[(0,.d hI),(3,.k (.hw 4))],[(4,.arr 3 hI false)],[12],[]⟩
abbrev Aye:Tm:=⟨[(3,.k (.hw 4))],[(4,.arr 3 hI false)],[],[]⟩
abbrev A4d:List (Exit × Tm):=[(.exit 0,Aye)]
def A4c {α:Type} (n:Nat) (v:Uj.den) (f:Uj.den->Option α) (ks:KS α A4d):Option α:=A4e n v.1.1 v.2.1 (λa b=>f ((a,(),()),(b,()))) (λw0=>ks.1 (((),()),(w0,())))
def A0b {α:Type} (n m:Nat) (a:Int) (b:LI) (k0:LI->Option α):Option α:=A5 (A4c n) m ((a,(),()),(b,())) (λw=>k0 w.2.1,())
theorem Ayd {α n m a b k0}:A0b (α:=α) n (m+1) a b k0=A4e n a b (λa b=>A0b n m a b k0) k0:=rfl
def f150 (n:Nat) (a0:Int):Option LI :=
 A0b n n a0 []
  (λa=>(
   some a))
def M4 (n:Nat):Ent:=⟨150,[hI],[hIs],λx=>f150 n x⟩
def Aiu (α:Type) (n:Nat):D3 α:={ reg:=[(1,⟨0,[],[(0,{ sh:=some hI })]⟩),(4,⟨0,[],[(3,{ sh:=some hI })]⟩)],join:=[],loop:=[(2,⟨Uj,A4d,A5 (A4c n) n⟩)] }
theorem Acp (α:Type) (n:Nat):Al PP (Af (Aiu α n).reg):=trivial
theorem As2 (α:Type) (n:Nat):LO.Sound (α:=α) PP ⟨15,[]⟩ ⟨Uj,A4d,A5 (A4c n) n⟩ (.loop ((A0 Tryz.f150).at [1,1,0,0,0])):=C1 (D:=Aiu α n) (Acp α n) n
theorem Bfc (α:Type) (n:Nat):D3.OK PP TT ⟨15,[]⟩ (Aiu α n) (A0 Tryz.f150) :=
 D3.OK.mk3 (Acp α n) (show Aa (A0 Tryz.f150)=[(2,(.loop ((A0 Tryz.f150).at [1,1,0,0,0])))] by kernel_rfl) ⟨Ac rfl (As2 α n),trivial⟩
theorem Aag (n:Nat):(M4 n).Sound PP:=fk (fn:=Tryz.f150) (Bfc _ n)

def A7q (n:Nat) (a0:LI):Option LI :=
 gd ((!a0.isEmpty)) (
  gd (decide ((0+a0.length)*8<=140737488355328)) (
   some a0))
def Iz (n:Nat):Ent3:=⟨123,[.im hIs],[[.one (.own 3 hI)]],λx=>A7q n x,[]⟩
def Ban (α:Type) (n:Nat):D3 α:={ reg:=[(3,⟨0,[],[(0,{ sh:=some hI })]⟩)],join:=[],loop:=[] }
theorem Ajb (n:Nat):(Iz n).Sound PP:=Xi (fn:=Tryz.f123) (D:=Ban _ n) trivial

def Xq {α:Type} (n:Nat) (s0o s0l:Nat) (c:LI) (d e g i a:Int) (b:LI) (f:Nat->Nat->LI->Int->Int->Int->Int->Int->LI->Option α) (k0:Nat->Nat->LI->Int->Int->Int->LI->Option α):Option α :=
 bif (decide (a<i)) then
  gd (decide (0<=a)&&decide (a<(s0l:Int))) (
   gd (decide ((s0o+a.toNat)<b.length)) (
    let j:=λ(h:Int)=>(
     let k:=λ(l:Int)=>(
      gd (decide (0<=a)&&decide (a<(s0l:Int))) (
       gd (decide ((s0o+a.toNat)<b.length)) (
        f s0o s0l c d e l i (W (a+1)) (b.set (s0o+a.toNat) (W (h-(W (l*10000))))))))
     bif (decide (h<0)) then
      k (W (Int.tdiv (W ((W (h-10000))+1)) 10000))
     else
      k 0)
    bif (decide (a<d)) then
     gd (decide (0<=a)&&decide (a<(c.length:Int))) (
      j (W ((W ((b.getD (s0o+a.toNat) 0)+g))-(W (e*(c.getD a.toNat 0))))))
    else
     j (W ((b.getD (s0o+a.toNat) 0)+g))))
 else
  k0 s0o s0l c d e g b
abbrev Q9:Tm:=⟨[(0,.hs 1000),(1,.d hIs),(5,.d hI),(7,.d hI),(8,.d hI),(50,.d hI),(51,.d hI)],[(1000,.arr 3 hI false)],[],[]⟩
abbrev Aqq:Tm:=⟨[(0,.hs 1000),(1,.d hIs),(5,.d hI),(7,.d hI),(8,.d hI)],[(1000,.arr 3 hI false)],[],[]⟩
abbrev Xp:List (Exit × Tm):=[(.exit 0,Aqq)]
def Xo {α:Type} (n:Nat) (v:Q9.den) (f:Q9.den->Option α) (ks:KS α Xp):Option α:=Xq n v.1.1.1 v.1.1.2 v.1.2.1 v.1.2.2.1 v.1.2.2.2.1 v.1.2.2.2.2.1 v.1.2.2.2.2.2.1 v.1.2.2.2.2.2.2.1 v.2.1 (λs0o s0l a b c d e g h=>f (((s0o,s0l),a,b,c,d,e,g,()),(h,()))) (λw0 w1 w2 w3 w4 w5 w6=>ks.1 (((w0,w1),w2,w3,w4,w5,()),(w6,())))
def Gh {α:Type} (n m:Nat) (s0o s0l:Nat) (a:LI) (b c d e f:Int) (g:LI) (k0:Nat->Nat->LI->Int->Int->Int->LI->Option α):Option α:=A5 (Xo n) m (((s0o,s0l),a,b,c,d,e,f,()),(g,())) (λw=>k0 w.1.1.1 w.1.1.2 w.1.2.1 w.1.2.2.1 w.1.2.2.2.1 w.1.2.2.2.2.1 w.2.1,())
theorem Aqp {α n m s0o s0l a b c d e f g k0}:Gh (α:=α) n (m+1) s0o s0l a b c d e f g k0=Xq n s0o s0l a b c d e f g (λs0o s0l a b c d e f g=>Gh n m s0o s0l a b c d e f g k0) k0:=rfl
def Tl {α:Type} (n:Nat) (s0o s0l:Nat) (c:LI) (d g h e i a:Int) (b:LI) (f:Nat->Nat->LI->Int->Int->Int->Int->Int->Int->LI->Option α) (k0:Nat->Nat->LI->Int->Int->Int->Int->LI->Option α):Option α :=
 bif (decide (a<i)) then
  gd (decide (0<=a)&&decide (a<(s0l:Int))) (
   gd (decide ((s0o+a.toNat)<b.length)) (
    let j:=λ(k:Int)=>(
     gd (decide (0<=a)&&decide (a<(s0l:Int))) (
      gd (decide ((s0o+a.toNat)<b.length)) (
       f s0o s0l c d g h (W (Int.tdiv k 10000)) i (W (a+1)) (b.set (s0o+a.toNat) (Int.tmod k 10000)))))
    bif (decide (a<d)) then
     gd (decide (0<=a)&&decide (a<(c.length:Int))) (
      j (W ((W ((b.getD (s0o+a.toNat) 0)+e))+(c.getD a.toNat 0))))
    else
     j (W ((b.getD (s0o+a.toNat) 0)+e))))
 else
  k0 s0o s0l c d g h e b
abbrev N2:Tm:=⟨[(0,.hs 1000),(1,.d hIs),(5,.d hI),(7,.d hI),(8,.d hI),(11,.d hI),(90,.d hI),(91,.d hI)],[(1000,.arr 3 hI false)],[],[]⟩
abbrev Alf:Tm:=⟨[(0,.hs 1000),(1,.d hIs),(5,.d hI),(7,.d hI),(8,.d hI),(11,.d hI)],[(1000,.arr 3 hI false)],[],[]⟩
abbrev Tk:List (Exit × Tm):=[(.exit 4,Alf)]
def Tj {α:Type} (n:Nat) (v:N2.den) (f:N2.den->Option α) (ks:KS α Tk):Option α:=Tl n v.1.1.1 v.1.1.2 v.1.2.1 v.1.2.2.1 v.1.2.2.2.1 v.1.2.2.2.2.1 v.1.2.2.2.2.2.1 v.1.2.2.2.2.2.2.1 v.1.2.2.2.2.2.2.2.1 v.2.1 (λs0o s0l a b c d e g h i=>f (((s0o,s0l),a,b,c,d,e,g,h,()),(i,()))) (λw0 w1 w2 w3 w4 w5 w6 w7=>ks.1 (((w0,w1),w2,w3,w4,w5,w6,()),(w7,())))
def Iv {α:Type} (n m:Nat) (s0o s0l:Nat) (a:LI) (b c d e f g:Int) (h:LI) (k0:Nat->Nat->LI->Int->Int->Int->Int->LI->Option α):Option α:=A5 (Tj n) m (((s0o,s0l),a,b,c,d,e,f,g,()),(h,())) (λw=>k0 w.1.1.1 w.1.1.2 w.1.2.1 w.1.2.2.1 w.1.2.2.2.1 w.1.2.2.2.2.1 w.1.2.2.2.2.2.1 w.2.1,())
theorem Ale {α n m s0o s0l a b c d e f g h k0}:Iv (α:=α) n (m+1) s0o s0l a b c d e f g h k0=Tl n s0o s0l a b c d e f g h (λs0o s0l a b c d e f g h=>Iv n m s0o s0l a b c d e f g h k0) k0:=rfl
def Tp {α:Type} (n:Nat) (s0o s0l:Nat) (d:LI) (e a b:Int) (c:LI) (f:Nat->Nat->LI->Int->Int->Int->LI->Option α) (k0:Int->LI->Option α):Option α :=
 bif (decide (b<0)) then
  Iv n n s0o s0l d e (W (a-1)) b 0 (s0l:Int) 0 c
   (λg h i j k l m o=>(
    f g h i j k (W (l+m)) o))
 else
  k0 a c
abbrev N3:Tm:=⟨[(0,.hs 1000),(1,.d hIs),(5,.d hI),(7,.d hI),(8,.d hI)],[(1000,.arr 3 hI false)],[],[]⟩
abbrev Ali:Tm:=⟨[(7,.d hI)],[(1000,.arr 3 hI false)],[],[]⟩
abbrev To:List (Exit × Tm):=[(.exit 2,Ali)]
def Tn {α:Type} (n:Nat) (v:N3.den) (f:N3.den->Option α) (ks:KS α To):Option α:=Tp n v.1.1.1 v.1.1.2 v.1.2.1 v.1.2.2.1 v.1.2.2.2.1 v.1.2.2.2.2.1 v.2.1 (λs0o s0l a b c d e=>f (((s0o,s0l),a,b,c,d,()),(e,()))) (λw0 w1=>ks.1 ((w0,()),(w1,())))
def Iw {α:Type} (n m:Nat) (s0o s0l:Nat) (a:LI) (b c d:Int) (e:LI) (k0:Int->LI->Option α):Option α:=A5 (Tn n) m (((s0o,s0l),a,b,c,d,()),(e,())) (λw=>k0 w.1.1 w.2.1,())
theorem Alg {α n m s0o s0l a b c d e k0}:Iw (α:=α) n (m+1) s0o s0l a b c d e k0=Tp n s0o s0l a b c d e (λs0o s0l a b c d e=>Iw n m s0o s0l a b c d e k0) k0:=rfl
abbrev Avy:Tm:=⟨[(0,.hs 1000),(1,.d hIs),(5,.d hI),(7,.d hI),(9,.d hI),(10,.d hI),(50,.d hI),(51,.d hI)],[(1000,.arr 3 hI false)],[],[]⟩
abbrev Avx:Tm:=⟨[(0,.hs 1000),(1,.d hIs),(5,.d hI),(7,.d hI),(8,.d hI),(9,.d hI),(10,.d hI),(50,.d hI),(51,.d hI)],[(1000,.arr 3 hI false)],[],[]⟩
abbrev Avw:Tm:=⟨[(0,.hs 1000),(1,.d hIs),(5,.d hI),(7,.d hI),(8,.d hI),(12,.d hI),(13,.d hI),(90,.d hI),(91,.d hI)],[(1000,.arr 3 hI false)],[],[]⟩
def Aee (n:Nat) (a0:LI × Nat × Nat) (a1:LI):Option (Int × LI) :=
 gd (decide (0<=(a1.length:Int))&&decide ((a1.length:Int)<(a0.2.2:Int))) (
  gd (decide ((a0.2.1+(a1.length:Int).toNat)<a0.1.length)) (
   gd (decide (0<=(W ((a1.length:Int)-1)))&&decide ((W ((a1.length:Int)-1))<(a0.2.2:Int))) (
    gd (decide ((a0.2.1+(W ((a1.length:Int)-1)).toNat)<a0.1.length)) (
     gd (decide (0<=(W ((a1.length:Int)-2)))&&decide ((W ((a1.length:Int)-2))<(a0.2.2:Int))) (
      gd (decide ((a0.2.1+(W ((a1.length:Int)-2)).toNat)<a0.1.length)) (
       gd (decide (0<=(W ((a1.length:Int)-1)))&&decide ((W ((a1.length:Int)-1))<(a1.length:Int))) (
        gd (decide (0<=(W ((a1.length:Int)-2)))&&decide ((W ((a1.length:Int)-2))<(a1.length:Int))) (
         gd (decide ((W ((W ((a1.getD ((W ((a1.length:Int)-1)).toNat) 0)*10000))+(a1.getD ((W ((a1.length:Int)-2)).toNat) 0))) ≠ 0)) (
          Gh n n a0.2.1 a0.2.2 a1 (a1.length:Int) (min (W (Int.tdiv (W ((W ((W ((W ((a0.1.getD (a0.2.1+(a1.length:Int).toNat) 0)*10000))+(a0.1.getD (a0.2.1+(W ((a1.length:Int)-1)).toNat) 0)))*10000))+(a0.1.getD (a0.2.1+(W ((a1.length:Int)-2)).toNat) 0))) (W ((W ((a1.getD ((W ((a1.length:Int)-1)).toNat) 0)*10000))+(a1.getD ((W ((a1.length:Int)-2)).toNat) 0))))) 9999) 0 (a0.2.2:Int) 0 a0.1
           (λa b c d e f g=>(
            Iw n n a b c d e f g
             (λh i=>(
              some (h,i))))))))))))))
def Ko (n:Nat):Ent3:=⟨219,[.one (.win 3 hI),.im hIs],[[.im hI]],λx=>Aee n x.1 x.2,[]⟩
def Ro (α:Type) (n:Nat):D3 α:={ reg:=[(2,⟨17,[],[]⟩),(3,⟨13,[],[]⟩)],join:=[(11,Avy),(14,Avx),(25,Avw)],loop:=[(6,⟨Q9,Xp,A5 (Xo n) n⟩),(20,⟨N2,Tk,A5 (Tj n) n⟩),(16,⟨N3,To,A5 (Tn n) n⟩)] }
theorem N1 (α:Type) (n:Nat):Al PP (Af (Ro α n).reg):=trivial
theorem Ald (α:Type) (n:Nat):LO.Sound (α:=α) PP ⟨121,[]⟩ ⟨Q9,Xp,A5 (Xo n) n⟩ (.loop ((A0 Tryz.f219).at [1,1,1,1,1,0,1,0,0])):=C1 (D:=Ro α n) (N1 α n) n
theorem Ah5 (α:Type) (n:Nat):LO.Sound (α:=α) PP ⟨121,[]⟩ ⟨N2,Tk,A5 (Tj n) n⟩ (.loop ((A0 Tryz.f219).at [1,1,1,1,1,1,0,0,0,1,0,1,1,0,1,0,0])):=C1 (D:=Ro α n) (N1 α n) n
theorem Alh (α:Type) (n:Nat):D3.OK PP TT ⟨121,[]⟩ (Ro α n) ((A0 Tryz.f219).at [1,1,1,1,1,1,0,0,0]) :=
 D3.OK.mk3 (N1 α n) (show Aa ((A0 Tryz.f219).at [1,1,1,1,1,1,0,0,0])=[(20,(.loop ((A0 Tryz.f219).at [1,1,1,1,1,1,0,0,0,1,0,1,1,0,1,0,0])))] by kernel_rfl) ⟨Ac rfl (Ah5 α n),trivial⟩
theorem Ah6 (α:Type) (n:Nat):LO.Sound (α:=α) PP ⟨121,[]⟩ ⟨N3,To,A5 (Tn n) n⟩ (.loop ((A0 Tryz.f219).at [1,1,1,1,1,1,0,0,0])):=lk (Alh α n) n
theorem B84 (α:Type) (n:Nat):D3.OK PP TT ⟨121,[]⟩ (Ro α n) (A0 Tryz.f219) :=
 D3.OK.mk3 (N1 α n) (show Aa (A0 Tryz.f219)=[(6,(.loop ((A0 Tryz.f219).at [1,1,1,1,1,0,1,0,0]))),(16,(.loop ((A0 Tryz.f219).at [1,1,1,1,1,1,0,0,0])))] by kernel_rfl) ⟨Ac rfl (Ald α n),Ac rfl (Ah6 α n),trivial⟩
theorem B37 (n:Nat):(Ko n).Sound PP:=Vt (fn:=Tryz.f219) (B84 _ n)

def A2v {α:Type} (n:Nat) (i:Nat) (z:Int) (d:LI) (a:LI) (c:Int) (b:LI) (f:LI->LI->Int->LI->Option α) (k0:Int->LI->Option α):Option α :=
 gd (decide (0<(a.length:Int))) (
  gd (decide ((a.getD 0 0) ≠ 0)) (
   gd (decide (0<(a.length:Int))) (
    gd (decide ((a.getD 0 0) ≠ 0)) (
     gd (decide (0<=(i:Int))&&decide ((i:Int)<(b.length:Int))) (
      gd (decide ((i:Int).toNat<b.length)) (
       f d a (Int.tmod (W ((W (c*10000))+z)) (a.getD 0 0)) (b.set ((i:Int).toNat) (W (Int.tdiv (W ((W (c*10000))+z)) (a.getD 0 0))))))))))
abbrev Ku:Tm:=⟨[(3,.k (.hp 3 0 0)),(7,.k (.hp 7 0 0)),(8,.k (.hp 8 0 0)),(29,.d (.clo 220 (.ref hIs)))],[(3,.var 52 true false [.d hIs]),(7,.var 52 false false [.k (.hw 27)]),(8,.var 3 true false [.d hI]),(27,.arr 3 hI false)],[],[]⟩
abbrev Awg:Tm:=⟨[(7,.k (.hp 7 0 0)),(8,.k (.hp 8 0 0))],[(7,.var 52 false false [.k (.hw 27)]),(8,.var 3 true false [.d hI]),(27,.arr 3 hI false)],[3],[]⟩
abbrev Tv:List (Exit × Tm):=[(.normal,Awg)]
def Oy (v:Ku.den):List Int:=(λa b c d=>a) v.1.2.2.2.1 v.2.1.1 v.2.2.2.1.1 v.2.2.2.2.1
def Oz {α:Type} (n:Nat) (i:Nat) (z:Int) (v:Ku.den) (f:Ku.den->Option α) (ks:KS α Tv):Option α:=A2v n i z v.1.2.2.2.1 v.2.1.1 v.2.2.2.1.1 v.2.2.2.2.1 (λa b c d=>f (((),(),(),a,()),((b,()),((),()),(c,()),d,()))) (λw0 w1=>ks.1 (((),(),()),(((),()),(w0,()),w1,())))
def P0 {α:Type} (v:Ku.den) (ks:KS α Tv):Option α:=(λc d a b=>ks.1 (((),(),()),(((),()),(a,()),b,()))) v.1.2.2.2.1 v.2.1.1 v.2.2.2.1.1 v.2.2.2.2.1
def Ank {α:Type} (n:Nat) (a:LI) (b:LI) (c:Int) (d:LI) (k0:Int->LI->Option α):Option α:=Oa Oy (Oz n) P0 (((),(),(),a,()),((b,()),((),()),(c,()),d,())) (λw=>k0 w.2.2.1.1 w.2.2.2.1,())
def Kt {α:Type} (n:Nat) (zs:List Int) (i:Nat) (a:LI) (b:LI) (c:Int) (d:LI) (k0:Int->LI->Option α):Option α:=Ob Oy (Oz n) zs i (((),(),(),a,()),((b,()),((),()),(c,()),d,())) (λv=>P0 v (λw=>k0 w.2.2.1.1 w.2.2.2.1,())) (λw=>k0 w.2.2.1.1 w.2.2.2.1,())
theorem Awe {α:Type} (n:Nat) (a:LI) (b:LI) (c:Int) (d:LI) (k0:Int->LI->Option α):Ank (α:=α) n a b c d k0=gd (decide (a.length<=4611686018427387904)) (Kt n a a.length a b c d k0):=rfl
theorem Awf {α:Type} (n:Nat) (zs:List Int) (c:LI) (d:LI) (a:Int) (b:LI) (k0:Int->LI->Option α):Kt (α:=α) n zs 0 c d a b k0=k0 a b:=rfl
theorem Awd {α:Type} (n:Nat) (zs:List Int) (i:Nat) (a:LI) (b:LI) (c:Int) (d:LI) (k0:Int->LI->Option α):Kt (α:=α) n zs (i+1) a b c d k0=A2v n i (zs.getD i 0) a b c d (λa b c d=>gd (decide (a=zs)) (Kt n zs i a b c d k0)) k0:=rfl
def Qi {α:Type} (n:Nat) (b a:Int) (g c d:LI) (f:Int->Int->LI->LI->LI->Option α) (k0:LI->LI->Option α):Option α :=
 bif (decide (a>=0)) then
  gd (decide (0<=a)&&decide (a<=(W ((W (a+b))+1)))&&decide ((W ((W (a+b))+1))<=(d.length:Int))) (
   ob (Aee n (d,a.toNat,((W ((W (a+b))+1)).toNat-a.toNat)) g) λe =>
   gd (Nat.beq e.2.length d.length&&true) (
    gd (decide (0<=a)&&decide (a<(c.length:Int))) (
     gd (decide (a.toNat<c.length)) (
      f b (W (a-1)) g (c.set a.toNat e.1) e.2))))
 else
  k0 c d
abbrev Qh:Tm:=⟨[(3,.k (.hp 3 0 0)),(6,.d hI),(11,.k (.hw 310)),(12,.k (.hw 62)),(13,.d hI)],[(3,.var 52 true false [.d hIs]),(62,.arr 3 hI false),(310,.arr 3 hI false)],[55],[]⟩
abbrev Ar2:Tm:=⟨[(11,.k (.hw 310)),(12,.k (.hw 62))],[(62,.arr 3 hI false),(310,.arr 3 hI false)],[3],[]⟩
abbrev Y5:List (Exit × Tm):=[(.exit 2,Ar2)]
def Y4 {α:Type} (n:Nat) (v:Qh.den) (f:Qh.den->Option α) (ks:KS α Y5):Option α:=Qi n v.1.2.1 v.1.2.2.2.2.1 v.2.1.1 v.2.2.1 v.2.2.2.1 (λa b c d e=>f (((),a,(),(),b,()),((c,()),d,e,()))) (λw0 w1=>ks.1 (((),(),()),(w0,w1,())))
def Tw {α:Type} (n m:Nat) (a b:Int) (c d e:LI) (k0:LI->LI->Option α):Option α:=A5 (Y4 n) m (((),a,(),(),b,()),((c,()),d,e,())) (λw=>k0 w.2.1 w.2.2.1,())
theorem A72 {α n m a b c d e k0}:Tw (α:=α) n (m+1) a b c d e k0=Qi n a b c d e (λa b c d e=>Tw n m a b c d e k0) k0:=rfl
abbrev Ahj:Tm:=⟨[(3,.k (.hp 3 0 0)),(7,.k (.hp 7 0 0)),(8,.k (.hp 8 0 0)),(9,.d hI),(10,.d hI),(29,.d (.clo 220 (.ref hIs))),(30,.d hI),(31,.d hI)],[(3,.var 52 true false [.d hIs]),(7,.var 52 false false [.k (.hw 27)]),(8,.var 3 true false [.d hI]),(27,.arr 3 hI false)],[],[]⟩
abbrev Ahi:Tm:=⟨[(7,.k (.hp 7 0 0)),(8,.k (.hp 8 0 0))],[(7,.var 52 false false [.k (.hw 27)]),(8,.var 3 true false [.d hI]),(27,.arr 3 hI false)],[],[]⟩
abbrev Ahh:Tm:=⟨[(0,.d hIs),(3,.k (.hp 3 0 0)),(6,.d hI)],[(3,.var 52 true false [.d hIs])],[],[]⟩
abbrev Ahg:Tm:=⟨[(3,.k (.hp 3 0 0)),(6,.d hI),(11,.k (.hw 310)),(12,.k (.hw 62)),(13,.d hI)],[(3,.var 52 true false [.d hIs]),(62,.arr 3 hI false),(310,.arr 3 hI false)],[],[]⟩
def f204 (n:Nat) (a0 a1:LI):Option (LI × LI) :=
 ob (f155 n a0 a1) λb =>
 bif (decide (b<0)) then
  ob (f123 n a0) λc =>
  some ([],c)
 else
  bif ((a1.length:Int)==1) then
   gd (decide (0<=(a0.length:Int))&&decide ((a0.length:Int)<=4611686018427387904)&&decide ((8:Int)*(a0.length:Int)<=281474976710656)) (
    ob (f205 n a0) λd =>
    Ank n d a1 0 (List.replicate ((a0.length:Int).toNat) 0)
     (λe f=>(
      ob (f202 n f) λg =>
      ob (f150 n e) λh =>
      some (g,h))))
  else
   ob (A7q n a0) λa =>
   gd (decide ((a.length+1)*8<=140737488355328)) (
    gd (decide (0<=(W ((W ((a0.length:Int)-(a1.length:Int)))+1)))&&decide ((W ((W ((a0.length:Int)-(a1.length:Int)))+1))<=4611686018427387904)&&decide ((8:Int)*(W ((W ((a0.length:Int)-(a1.length:Int)))+1))<=281474976710656)) (
     Tw n n (a1.length:Int) (W ((a0.length:Int)-(a1.length:Int))) a1 (List.replicate ((W ((W ((a0.length:Int)-(a1.length:Int)))+1)).toNat) 0) (a++[0])
      (λi j=>(
       ob (f202 n i) λk =>
       ob (f202 n j) λl =>
       some (k,l)))))
def A73 (n:Nat):Ent:=⟨204,[hIs,hIs],[hIs,hIs],λx=>f204 n x.1 x.2⟩
def Y6 (α:Type) (n:Nat):D3 α:={ reg:=[(1,⟨0,[],[(2,{ ent:=some (Yg n) })]⟩),(2,⟨0,[],[(0,{ sh:=some hI }),(2,{ ent:=some (M6 n) })]⟩),(6,⟨0,[],[(1,{ ent:=some (Ahf n) })]⟩),(11,⟨0,[],[(1,{ ent:=some (Hv n),fz:=[(49,hIs)] }),(3,{ ent:=some (M4 n) })]⟩),(12,⟨0,[],[(1,{ entB:=some (Iz n),hb:=310 }),(2,{ sh:=some hI })]⟩),(16,⟨0,[],[(10,{ entB:=some (Ko n),hb:=320 })]⟩),(17,⟨0,[],[(1,{ ent:=some (Hv n),fz:=[(83,hIs)] }),(3,{ ent:=some (Hv n),fz:=[(85,hIs)] })]⟩)],join:=[],loop:=[(7,⟨Ku,Tv,Oa Oy (Oz n) P0⟩),(14,⟨Qh,Y5,A5 (Y4 n) n⟩)],any:=[(10,Ahj),(11,Ahi),(12,Ahh),(16,Ahg)] }
set_option maxHeartbeats 8000000 in
theorem B3c (n:Nat):Ag TT ⟨87,[]⟩ [] Ahj (A4 ((A0 Tryz.f204).at [1,1,1,0,1,0,1,0,1,0,1,0,1])):=by
 refine ⟨by kernel_rfl,λw q hq=>?_⟩
 have e:WT [] (A7 (A4 ((A0 Tryz.f204).at [1,1,1,0,1,0,1,0,1,0,1,0,1])).toList) q=(q=[]):=by kernel_rfl
 rw [e] at hq;obtain rfl:=hq
 all_goals exact .inr ⟨14,by kernel_rfl,by kernel_rfl,by kernel_rfl⟩
set_option maxHeartbeats 8000000 in
theorem B3b (n:Nat):Ag TT ⟨87,[]⟩ [(1,{ ent:=some (Hv n),fz:=[(49,hIs)] }),(3,{ ent:=some (M4 n) })] Ahi (A4 ((A0 Tryz.f204).at [1,1,1,0,1,0,1,1,0])):=by
 refine ⟨by kernel_rfl,λw q hq=>?_⟩
 have e:WT [(1,{ ent:=some (Hv n),fz:=[(49,hIs)] }),(3,{ ent:=some (M4 n) })] (A7 (A4 ((A0 Tryz.f204).at [1,1,1,0,1,0,1,1,0])).toList) q=(∃ (y0:HL (Hv n).rs) (q0:List (Nat × RV)),q=(1,.sv (Ae (Hv n).rs y0))::q0 /\ ∃ (y1:HL (M4 n).rs) (q1:List (Nat × RV)),q0=(3,.sv (Ae (M4 n).rs y1))::q1/\q1=[]):=by kernel_rfl
 rw [e] at hq;obtain ⟨y0,q0,rfl,y1,q1,rfl,rfl⟩:=hq
 all_goals exact .inl (Ia.mk (by kernel_rfl))
set_option maxHeartbeats 8000000 in
theorem B3a (n:Nat):Ag TT ⟨87,[]⟩ [(1,{ entB:=some (Iz n),hb:=310 }),(2,{ sh:=some hI })] Ahh (A4 ((A0 Tryz.f204).at [1,1,1,1,0])):=by
 refine ⟨by kernel_rfl,λw q hq=>?_⟩
 have e:WT [(1,{ entB:=some (Iz n),hb:=310 }),(2,{ sh:=some hI })] (A7 (A4 ((A0 Tryz.f204).at [1,1,1,1,0])).toList) q=(∃ (y0:HF (Am 1000 (Iz n).ts) (Iz n).forms) (q0:List (Nat × RV)),q=(1,.bx (Iz n) y0)::q0/\q0=[]):=by kernel_rfl
 rw [e] at hq;obtain ⟨y0,q0,rfl,rfl⟩:=hq
 all_goals exact .inl (Ia.mk (by kernel_rfl))
set_option maxHeartbeats 8000000 in
theorem Ahk (n:Nat):Ag TT ⟨87,[]⟩ [(10,{ entB:=some (Ko n),hb:=320 })] Ahg (A4 ((A0 Tryz.f204).at [1,1,1,1,1,0,1,0,0,1,0,0])):=by
 refine ⟨by kernel_rfl,λw q hq=>?_⟩
 have e:WT [(10,{ entB:=some (Ko n),hb:=320 })] (A7 (A4 ((A0 Tryz.f204).at [1,1,1,1,1,0,1,0,0,1,0,0])).toList) q=(∃ (y0:HF (Am 1000 (Ko n).ts) (Ko n).forms) (q0:List (Nat × RV)),q=(10,.bx (Ko n) y0)::q0/\q0=[]):=by kernel_rfl
 rw [e] at hq;obtain ⟨y0,q0,rfl,rfl⟩:=hq
 all_goals exact .inr ⟨11,by kernel_rfl,by kernel_rfl,by kernel_rfl⟩
theorem Qg (α:Type) (n:Nat):Al PP (Af (Y6 α n).reg):=⟨A0a n,L3 n,Anj n,Ru n,Aag n,Ajb n,B37 n,Ru n,Ru n,trivial⟩
theorem Ar0 (α:Type) (n:Nat):D3.OK PP TT ⟨87,[]⟩ (Y6 α n) ((A0 Tryz.f204).at [1,1,1,0,1,0,1,0,1,0,0]) :=
 D3.OK.mk3a (Qg α n) (show Aa ((A0 Tryz.f204).at [1,1,1,0,1,0,1,0,1,0,0])=[] by kernel_rfl) trivial (show As ((A0 Tryz.f204).at [1,1,1,0,1,0,1,0,1,0,0])=[] by kernel_rfl) trivial
theorem Aqz (α:Type) (n:Nat):D3.OK PP TT ⟨87,[]⟩ (Y6 α n) ((A0 Tryz.f204).at [1,1,1,0,1,0,1,0,1,0,1]) :=
 D3.OK.mk3a (Qg α n) (show Aa ((A0 Tryz.f204).at [1,1,1,0,1,0,1,0,1,0,1])=[] by kernel_rfl) trivial (show As ((A0 Tryz.f204).at [1,1,1,0,1,0,1,0,1,0,1])=[(10,A4 ((A0 Tryz.f204).at [1,1,1,0,1,0,1,0,1,0,1,0,1]))] by kernel_rfl) ⟨⟨B3c n,trivial⟩,trivial⟩
theorem Aqy (α:Type) (n:Nat):LO.Sound (α:=α) PP ⟨87,[]⟩ ⟨Ku,Tv,Oa Oy (Oz n) P0⟩ (.rangeFunc (.tmp 29) #[30,31] ((A0 Tryz.f204).at [1,1,1,0,1,0,1,0,1,0,0]) ((A0 Tryz.f204).at [1,1,1,0,1,0,1,0,1,0,1])) :=
 Afl (Rb _) Oc Oy (Oz n) P0 Ap2 rfl rfl rfl rfl (Ar0 α n) (Aqz α n) (by intro v;rfl) (by intro i z v f ks;kernel_rfl) (by intro v ks;kernel_rfl)
theorem Ar1 (α:Type) (n:Nat):D3.OK PP TT ⟨87,[]⟩ (Y6 α n) ((A0 Tryz.f204).at [1,1,1,1,1,0,1,0,0]) :=
 D3.OK.mk3a (Qg α n) (show Aa ((A0 Tryz.f204).at [1,1,1,1,1,0,1,0,0])=[] by kernel_rfl) trivial (show As ((A0 Tryz.f204).at [1,1,1,1,1,0,1,0,0])=[(16,A4 ((A0 Tryz.f204).at [1,1,1,1,1,0,1,0,0,1,0,0]))] by kernel_rfl) ⟨⟨Ahk n,trivial⟩,trivial⟩
theorem Alk (α:Type) (n:Nat):LO.Sound (α:=α) PP ⟨87,[]⟩ ⟨Qh,Y5,A5 (Y4 n) n⟩ (.loop ((A0 Tryz.f204).at [1,1,1,1,1,0,1,0,0])):=lk (Ar1 α n) n
theorem Be9 (α:Type) (n:Nat):D3.OK PP TT ⟨87,[]⟩ (Y6 α n) (A0 Tryz.f204) :=
 D3.OK.mk3a (Qg α n) (show Aa (A0 Tryz.f204)=[(7,(.rangeFunc (.tmp 29) #[30,31] ((A0 Tryz.f204).at [1,1,1,0,1,0,1,0,1,0,0]) ((A0 Tryz.f204).at [1,1,1,0,1,0,1,0,1,0,1]))),(14,(.loop ((A0 Tryz.f204).at [1,1,1,1,1,0,1,0,0])))] by kernel_rfl) ⟨Ac rfl (Aqy α n),Ac rfl (Alk α n),trivial⟩ (show As (A0 Tryz.f204)=[(11,A4 ((A0 Tryz.f204).at [1,1,1,0,1,0,1,1,0])),(12,A4 ((A0 Tryz.f204).at [1,1,1,1,0])),(16,A4 ((A0 Tryz.f204).at [1,1,1,1,1,0,1,0,0,1,0,0]))] by kernel_rfl) ⟨⟨B3b n,trivial⟩,⟨B3a n,trivial⟩,⟨Ahk n,trivial⟩,trivial⟩
theorem Aa5 (n:Nat):(A73 n).Sound PP:=fk (fn:=Tryz.f204) (Be9 _ n)

def A2y {α:Type} (n:Nat) (b a:LI) (f:LI->LI->Option α) (k0:LI->Option α):Option α :=
 bif (decide ((a.length:Int)>0)) then
  ob (f204 n b a) λc =>
  f a c.2
 else
  k0 b
abbrev Tx:Tm:=⟨[(0,.d hIs),(1,.d hIs)],[],[],[]⟩
abbrev Awh:Tm:=⟨[(0,.d hIs)],[],[],[]⟩
abbrev A2x:List (Exit × Tm):=[(.exit 0,Awh)]
def A2w {α:Type} (n:Nat) (v:Tx.den) (f:Tx.den->Option α) (ks:KS α A2x):Option α:=A2y n v.1.1 v.1.2.1 (λa b=>f ((a,b,()),())) (λw0=>ks.1 ((w0,()),()))
def Kv {α:Type} (n m:Nat) (a b:LI) (k0:LI->Option α):Option α:=A5 (A2w n) m ((a,b,()),()) (λw=>k0 w.1.1,())
theorem Ac5 {α n m a b k0}:Kv (α:=α) n (m+1) a b k0=A2y n a b (λa b=>Kv n m a b k0) k0:=rfl
def f203 (n:Nat) (a0 a1:LI):Option LI :=
 Kv n n a0 a1
  (λa=>(
   some a))
def Ahl (n:Nat):Ent:=⟨203,[hIs,hIs],[hIs],λx=>f203 n x.1 x.2⟩
def Ahm (α:Type) (n:Nat):D3 α:={ reg:=[(2,⟨0,[],[(2,{ ent:=some (A73 n) })]⟩)],join:=[],loop:=[(1,⟨Tx,A2x,A5 (A2w n) n⟩)] }
theorem Ac4 (α:Type) (n:Nat):Al PP (Af (Ahm α n).reg):=⟨Aa5 n,trivial⟩
theorem Ar3 (α:Type) (n:Nat):LO.Sound (α:=α) PP ⟨19,[]⟩ ⟨Tx,A2x,A5 (A2w n) n⟩ (.loop ((A0 Tryz.f203).at [1,0,0,0])):=C1 (D:=Ahm α n) (Ac4 α n) n
theorem Bea (α:Type) (n:Nat):D3.OK PP TT ⟨19,[]⟩ (Ahm α n) (A0 Tryz.f203) :=
 D3.OK.mk3 (Ac4 α n) (show Aa (A0 Tryz.f203)=[(1,(.loop ((A0 Tryz.f203).at [1,0,0,0])))] by kernel_rfl) ⟨Ac rfl (Ar3 α n),trivial⟩
theorem Anl (n:Nat):(Ahl n).Sound PP:=fk (fn:=Tryz.f203) (Bea _ n)

def f151 (n:Nat)  : Option LI :=
 some [1]
def S6 (n:Nat):Ent:=⟨151,[],[hIs],λ_=>f151 n⟩
def Bfb (α:Type) (n:Nat):D3 α:={ reg:=[(1,⟨0,[],[(0,{ sh:=some hI })]⟩)],join:=[],loop:=[] }
theorem S5 (n:Nat):(S6 n).Sound PP:=B0 (fn:=Tryz.f151) (D:=Bfb _ n) trivial

abbrev B89:Tm:=⟨[(1,.k (.hp 1 0 0))],[(1,.var 54 true false [.d .bool,.d hIs,.d hIs])],[],[]⟩
def f215 (n:Nat) (a0:Rq):Option Bool :=
 let a:=λ(_:Unit)=>(
  ob (f203 n a0.2.1 a0.2.2) λb =>
  ob (f151 n) λc =>
  ob (f155 n b c) λd =>
  some (d==0))
 ob (f225 n a0.2.1) λe =>
 bif (!e) then
  some false
 else
  ob (f225 n a0.2.2) λf =>
  bif (!f) then
   some false
  else
   bif ((a0.2.2.length:Int)==0) then
    some false
   else
    bif a0.1 then
     ob (f168 n a0) λg =>
     bif g then
      some false
     else
      a ()
    else
     a ()
def Aw4 (n:Nat):Ent:=⟨215,[hR],[.bool],λx=>f215 n x⟩
def Bdz (α:Type) (n:Nat):D3 α:={ reg:=[(1,⟨0,[],[(2,{ ent:=some (Ah3 n) }),(7,{ ent:=some (Ah3 n) }),(21,{ ent:=some (Pb n) })]⟩),(3,⟨0,[],[(4,{ ent:=some (Ahl n) }),(5,{ ent:=some (S6 n) }),(6,{ ent:=some (Yg n) })]⟩)],join:=[(3,B89)],loop:=[] }
theorem B87 (n:Nat):(Aw4 n).Sound PP:=B0 (fn:=Tryz.f215) (D:=Bdz _ n) ⟨An7 n,An7 n,Nv n,Anl n,S5 n,A0a n,trivial⟩

def f214 (n:Nat) (a0:Rq):Option Bool :=
 ob (f215 n a0) λa =>
 some (!a)
def Aw5 (n:Nat):Ent:=⟨214,[hR],[.bool],λx=>f214 n x⟩
def Be0 (α:Type) (n:Nat):D3 α:={ reg:=[(1,⟨0,[],[(1,{ ent:=some (Aw4 n) })]⟩)],join:=[],loop:=[] }
theorem B8a (n:Nat):(Aw5 n).Sound PP:=B0 (fn:=Tryz.f214) (D:=Be0 _ n) ⟨B87 n,trivial⟩

def P7 {α:Type} (n:Nat) (b:LR) (c a:Int) (f:LR->Int->Int->Option α) (k0:Int->Option α) (k1:Unit->Option α):Option α :=
 bif (decide (a<c)) then
  gd (decide (0<=a)&&decide (a<(b.length:Int))) (
   let d:=b.getD a.toNat (false,[],[])
   ob (f214 n d) λe =>
   bif e then
    k0 a
   else
    f b c (W (a+1)))
 else
  k1 ()
abbrev Jm:Tm:=⟨[(0,.d hRs),(1,.d (.fn 214)),(7,.d hI),(8,.d hI)],[],[],[]⟩
abbrev Adv:Tm:=⟨[(4,.d hI)],[],[],[]⟩
abbrev Adu:Tm:=⟨[],[],[],[]⟩
abbrev P6:List (Exit × Tm):=[(.ret,Adv),(.exit 0,Adu)]
def P5 {α:Type} (n:Nat) (v:Jm.den) (f:Jm.den->Option α) (ks:KS α P6):Option α:=P7 n v.1.1 v.1.2.2.1 v.1.2.2.2.1 (λa b c=>f ((a,(),b,c,()),())) (λw0=>ks.1 ((w0,()),())) (λ_=>ks.2.1 ((),()))
def Hx {α:Type} (n m:Nat) (a:LR) (b c:Int) (k0:Int->Option α) (k1:Unit->Option α):Option α:=A5 (P5 n) m ((a,(),b,c,()),()) (λw=>k0 w.1.1,λw=>k1 (),())
theorem Adt {α n m a b c k0 k1}:Hx (α:=α) n (m+1) a b c k0 k1=P7 n a b c (λa b c=>Hx n m a b c k0 k1) k0 k1:=rfl
def A3q (n:Nat) (a0:LR) (a1:Unit):Option Int :=
 Hx n n a0 (a0.length:Int) 0
  (λa=>(
   some a))
  (λ(_:Unit)=>(
   some (-1)))
def A77 (n:Nat):Ent:=⟨172,[hRs,(.fn 214)],[hI],λx=>A3q n x.1 x.2⟩
def U9 (α:Type) (n:Nat):D3 α:={ reg:=[(4,⟨0,[],[(5,{ ent:=some (Aw5 n) })]⟩)],join:=[],loop:=[(2,⟨Jm,P6,A5 (P5 n) n⟩)] }
theorem W5 (α:Type) (n:Nat):Al PP (Af (U9 α n).reg):=⟨B8a n,trivial⟩
theorem Aa9 (α:Type) (n:Nat):LO.Sound (α:=α) PP ⟨19,[]⟩ ⟨Jm,P6,A5 (P5 n) n⟩ (.loop ((A0 Tryz.f172).at [1,0,1,0,0])):=C1 (D:=U9 α n) (W5 α n) n
theorem Ard (α:Type) (n:Nat):D3.OK PP TT ⟨19,[]⟩ (U9 α n) (A0 Tryz.f172) :=
 D3.OK.mk3 (W5 α n) (show Aa (A0 Tryz.f172)=[(2,(.loop ((A0 Tryz.f172).at [1,0,1,0,0])))] by kernel_rfl) ⟨Ac rfl (Aa9 α n),trivial⟩
theorem All (n:Nat):(A77 n).Sound PP:=fk (fn:=Tryz.f172) (Ard _ n)

def Uv (n:Nat) (a0:LR) (a1:Unit):Option Bool :=
 ob (A3q n a0 a1) λa =>
 some (decide (a>=0))
def A7s (n:Nat):Ent:=⟨104,[hRs,(.fn 214)],[.bool],λx=>Uv n x.1 x.2⟩
def Asj (α:Type) (n:Nat):D3 α:={ reg:=[(1,⟨0,[],[(2,{ ent:=some (A77 n) })]⟩)],join:=[],loop:=[] }
theorem Alr (n:Nat):(A7s n).Sound PP:=B0 (fn:=Tryz.f104) (D:=Asj _ n) ⟨All n,trivial⟩

def f185 (n:Nat) (a0:LR):Option Int :=
 ob (Uv n a0 ()) λa =>
 ob (f111 n (!a) 1) λb =>
 some b
def Ax4 (n:Nat):Ent:=⟨185,[hRs],[hI],λx=>f185 n x⟩
def Bek (α:Type) (n:Nat):D3 α:={ reg:=[(1,⟨0,[],[(1,{ ent:=some (A7s n) }),(3,{ ent:=some (Gk n) })]⟩)],join:=[],loop:=[] }
theorem B8t (n:Nat):(Ax4 n).Sound PP:=B0 (fn:=Tryz.f185) (D:=Bek _ n) ⟨Alr n,Nz n,trivial⟩

def f119 (n:Nat) (a0:LR):Option Bool :=
 bif (decide ((a0.length:Int)>=1)) then
  bif (decide ((a0.length:Int)<=4)) then
   ob (f185 n a0) λa =>
   some (a==0)
  else
   some false
 else
  some false
def M7 (n:Nat):Ent:=⟨119,[hRs],[.bool],λx=>f119 n x⟩
def Bfy (α:Type) (n:Nat):D3 α:={ reg:=[(1,⟨0,[],[(10,{ ent:=some (Ax4 n) })]⟩)],join:=[],loop:=[] }
theorem Aaj (n:Nat):(M7 n).Sound PP:=B0 (fn:=Tryz.f119) (D:=Bfy _ n) ⟨B8t n,trivial⟩

def A9j {α:Type} (n:Nat) (b:LI) (c a:Int) (f:LI->Int->Int->Option α) (k0:Int->Option α) (k1:Unit->Option α):Option α :=
 bif (decide (a<c)) then
  gd (decide (0<=a)&&decide (a<(b.length:Int))) (
   bif ((b.getD a.toNat 0) != 0) then
    k0 (b.getD a.toNat 0)
   else
    f b c (W (a+1)))
 else
  k1 ()
abbrev Zp:Tm:=⟨[(5,.d hIs),(6,.d hI),(7,.d hI)],[],[],[]⟩
abbrev B2q:Tm:=⟨[(2,.d hI)],[],[],[]⟩
abbrev B2p:Tm:=⟨[],[],[],[]⟩
abbrev A9i:List (Exit × Tm):=[(.ret,B2q),(.exit 0,B2p)]
def A9h {α:Type} (n:Nat) (v:Zp.den) (f:Zp.den->Option α) (ks:KS α A9i):Option α:=A9j n v.1.1 v.1.2.1 v.1.2.2.1 (λa b c=>f ((a,b,c,()),())) (λw0=>ks.1 ((w0,()),())) (λ_=>ks.2.1 ((),()))
def A6j {α:Type} (n m:Nat) (a:LI) (b c:Int) (k0:Int->Option α) (k1:Unit->Option α):Option α:=A5 (A9h n) m ((a,b,c,()),()) (λw=>k0 w.1.1,λw=>k1 (),())
theorem B2o {α n m a b c k0 k1}:A6j (α:=α) n (m+1) a b c k0 k1=A9j n a b c (λa b c=>A6j n m a b c k0 k1) k0 k1:=rfl
def f70 (n:Nat) (a0:LI):Option Int :=
 A6j n n a0 (a0.length:Int) 0
  (λa=>(
   some a))
  (λ(_:Unit)=>(
   some 0))
def Gx (n:Nat):Ent:=⟨70,[hIs],[hI],λx=>f70 n x⟩
def Aqb (α:Type) (n:Nat):D3 α:={ reg:=[],join:=[],loop:=[(2,⟨Zp,A9i,A5 (A9h n) n⟩)] }
theorem Agp (α:Type) (n:Nat):Al PP (Af (Aqb α n).reg):=trivial
theorem Ave (α:Type) (n:Nat):LO.Sound (α:=α) PP ⟨15,[]⟩ ⟨Zp,A9i,A5 (A9h n) n⟩ (.loop ((A0 Tryz.f70).at [1,0,1,0,0])):=C1 (D:=Aqb α n) (Agp α n) n
theorem Bhm (α:Type) (n:Nat):D3.OK PP TT ⟨15,[]⟩ (Aqb α n) (A0 Tryz.f70) :=
 D3.OK.mk3 (Agp α n) (show Aa (A0 Tryz.f70)=[(2,(.loop ((A0 Tryz.f70).at [1,0,1,0,0])))] by kernel_rfl) ⟨Ac rfl (Ave α n),trivial⟩
theorem A6i (n:Nat):(Gx n).Sound PP:=fk (fn:=Tryz.f70) (Bhm _ n)

def A4y {α:Type} (n:Nat) (c:Int) (b:LN) (d a:Int) (f:Int->LN->Int->Int->Option α) (k0:Int->Option α):Option α :=
 bif (decide (a<d)) then
  gd (decide (0<=a)&&decide (a<(b.length:Int))) (
   let e:=b.getD a.toNat (0,0,0,0)
   bif (e.1==2) then
    f (max c (W (e.2.2.2+1))) b d (W (a+1))
   else
    f c b d (W (a+1)))
 else
  k0 c
abbrev Uq:Tm:=⟨[(3,.d hI),(6,.d hNs),(7,.d hI),(8,.d hI)],[],[5],[]⟩
abbrev Az6:Tm:=⟨[(3,.d hI)],[],[],[]⟩
abbrev A4x:List (Exit × Tm):=[(.exit 0,Az6)]
def A4w {α:Type} (n:Nat) (v:Uq.den) (f:Uq.den->Option α) (ks:KS α A4x):Option α:=A4y n v.1.1 v.1.2.1 v.1.2.2.1 v.1.2.2.2.1 (λa b c d=>f ((a,b,c,d,()),())) (λw0=>ks.1 ((w0,()),()))
def A0h {α:Type} (n m:Nat) (a:Int) (b:LN) (c d:Int) (k0:Int->Option α):Option α:=A5 (A4w n) m ((a,b,c,d,()),()) (λw=>k0 w.1.1,())
theorem Az5 {α n m a b c d k0}:A0h (α:=α) n (m+1) a b c d k0=A4y n a b c d (λa b c d=>A0h n m a b c d k0) k0:=rfl
def f120 (n:Nat) (a0:LN):Option Int :=
 A0h n n 0 a0 (a0.length:Int) 0
  (λa=>(
   some a))
def Az7 (n:Nat):Ent:=⟨120,[hNs],[hI],λx=>f120 n x⟩
def Aje (α:Type) (n:Nat):D3 α:={ reg:=[],join:=[],loop:=[(3,⟨Uq,A4x,A5 (A4w n) n⟩)] }
theorem Acz (α:Type) (n:Nat):Al PP (Af (Aje α n).reg):=trivial
theorem Asd (α:Type) (n:Nat):LO.Sound (α:=α) PP ⟨22,[]⟩ ⟨Uq,A4x,A5 (A4w n) n⟩ (.loop ((A0 Tryz.f120).at [1,1,0,1,0,0])):=C1 (D:=Aje α n) (Acz α n) n
theorem Bfx (α:Type) (n:Nat):D3.OK PP TT ⟨22,[]⟩ (Aje α n) (A0 Tryz.f120) :=
 D3.OK.mk3 (Acz α n) (show Aa (A0 Tryz.f120)=[(3,(.loop ((A0 Tryz.f120).at [1,1,0,1,0,0])))] by kernel_rfl) ⟨Ac rfl (Asd α n),trivial⟩
theorem Bap (n:Nat):(Az7 n).Sound PP:=fk (fn:=Tryz.f120) (Bfx _ n)

abbrev Av3:Tm:=⟨[(1,.d hRs),(2,.k (.hp 2 0 0))],[(2,.var 33 true false [.d hNs,.d hI])],[],[]⟩
def f96 (n:Nat) (a0:LN × Int) (a1:LR):Option Int :=
 ob (f71 n [a1]) λb =>
 ob (f149 n a0) λc =>
 ob (f119 n a1) λd =>
 ob (f111 n d 1) λe =>
 ob (f70 n [b,c,e]) λa =>
 bif (a != 0) then
  ob (f111 n true 8) λf =>
  ob (f70 n [a,f]) λg =>
  some g
 else
  ob (f120 n a0.1) λh =>
  ob (f111 n (decide ((a1.length:Int)>=h)) 8) λi =>
  ob (f70 n [a,i]) λj =>
  some j
def Te (n:Nat):Ent:=⟨96,[(.st (.pair hNs hI)),hRs],[hI],λx=>f96 n x.1 x.2⟩
def B5x (α:Type) (n:Nat):D3 α:={ reg:=[(1,⟨0,[],[(1,{ sh:=some hRs }),(2,{ ent:=some (I6 n) }),(4,{ ent:=some (S8 n) }),(6,{ ent:=some (M7 n) }),(7,{ ent:=some (Gk n) }),(8,{ sh:=some hI }),(9,{ ent:=some (Gx n) })]⟩),(2,⟨0,[],[(8,{ ent:=some (Az7 n) }),(11,{ ent:=some (Gk n) }),(12,{ sh:=some hI }),(13,{ ent:=some (Gx n) })]⟩)],join:=[],loop:=[],any:=[(1,Av3)] }
set_option maxHeartbeats 8000000 in
theorem Bcv (n:Nat):Ag TT ⟨30,[]⟩ [(1,{ sh:=some hRs }),(2,{ ent:=some (I6 n) }),(4,{ ent:=some (S8 n) }),(6,{ ent:=some (M7 n) }),(7,{ ent:=some (Gk n) }),(8,{ sh:=some hI }),(9,{ ent:=some (Gx n) })] Av3 (A4 ((A0 Tryz.f96).at [1,0])):=by
 refine ⟨by kernel_rfl,λw q hq=>?_⟩
 have e:WT [(1,{ sh:=some hRs }),(2,{ ent:=some (I6 n) }),(4,{ ent:=some (S8 n) }),(6,{ ent:=some (M7 n) }),(7,{ ent:=some (Gk n) }),(8,{ sh:=some hI }),(9,{ ent:=some (Gx n) })] (A7 (A4 ((A0 Tryz.f96).at [1,0])).toList) q=(∃ (y0:HL (I6 n).rs) (q0:List (Nat × RV)),q=(2,.sv (Ae (I6 n).rs y0))::q0 /\ ∃ (y1:HL (S8 n).rs) (q1:List (Nat × RV)),q0=(4,.sv (Ae (S8 n).rs y1))::q1 /\ ∃ (y2:HL (M7 n).rs) (q2:List (Nat × RV)),q1=(6,.sv (Ae (M7 n).rs y2))::q2 /\ ∃ (y3:HL (Gk n).rs) (q3:List (Nat × RV)),q2=(7,.sv (Ae (Gk n).rs y3))::q3 /\ ∃ (y4:HL (Gx n).rs) (q4:List (Nat × RV)),q3=(9,.sv (Ae (Gx n).rs y4))::q4/\q4=[]):=by kernel_rfl
 rw [e] at hq;obtain ⟨y0,q0,rfl,y1,q1,rfl,y2,q2,rfl,y3,q3,rfl,y4,q4,rfl,rfl⟩:=hq
 all_goals exact .inr ⟨6,by kernel_rfl,by kernel_rfl,by kernel_rfl⟩
theorem B29 (α:Type) (n:Nat):Al PP (Af (B5x α n).reg):=⟨Agl n,Ba5 n,Aaj n,Nz n,A6i n,Bap n,Nz n,A6i n,trivial⟩
theorem Bha (α:Type) (n:Nat):D3.OK PP TT ⟨30,[]⟩ (B5x α n) (A0 Tryz.f96) :=
 D3.OK.mk3a (B29 α n) (show Aa (A0 Tryz.f96)=[] by kernel_rfl) trivial (show As (A0 Tryz.f96)=[(1,A4 ((A0 Tryz.f96).at [1,0]))] by kernel_rfl) ⟨⟨Bcv n,trivial⟩,trivial⟩
theorem Av2 (n:Nat):(Te n).Sound PP:=fk (fn:=Tryz.f96) (Bha _ n)

def f72 (n:Nat) (a0 a1:LR):Option Int :=
 ob (f119 n a1) λa =>
 ob (f111 n a 1) λb =>
 ob (f111 n ((a1.length:Int)==(a0.length:Int)) 8) λc =>
 ob (f70 n [b,c]) λd =>
 some d
def Zn (n:Nat):Ent:=⟨72,[hRs,hRs],[hI],λx=>f72 n x.1 x.2⟩
def Bhk (α:Type) (n:Nat):D3 α:={ reg:=[(1,⟨0,[],[(1,{ ent:=some (M7 n) }),(2,{ ent:=some (Gk n) }),(8,{ ent:=some (Gk n) }),(9,{ sh:=some hI }),(10,{ ent:=some (Gx n) })]⟩)],join:=[],loop:=[] }
theorem Bd5 (n:Nat):(Zn n).Sound PP:=B0 (fn:=Tryz.f72) (D:=Bhk _ n) ⟨Aaj n,Nz n,Nz n,A6i n,trivial⟩

def f97 (n:Nat) (a0:Int):Option Rq :=
 bif (decide (a0<0)) then
  ob (f150 n (W (0-a0))) λa =>
  ob (f151 n) λb =>
  some (true,a,b)
 else
  ob (f150 n a0) λc =>
  ob (f151 n) λd =>
  some (false,c,d)
def Au (n:Nat):Ent:=⟨97,[hI],[hR],λx=>f97 n x⟩
def Bh9 (α:Type) (n:Nat):D3 α:={ reg:=[(2,⟨0,[],[(2,{ ent:=some (M4 n) }),(3,{ ent:=some (S6 n) })]⟩),(3,⟨0,[],[(1,{ ent:=some (M4 n) }),(2,{ ent:=some (S6 n) })]⟩)],join:=[],loop:=[] }
theorem B4 (n:Nat):(Au n).Sound PP:=B0 (fn:=Tryz.f97) (D:=Bh9 _ n) ⟨Aag n,S5 n,Aag n,S5 n,trivial⟩

def A9m {α:Type} (n:Nat) (b c:Int) (a:LR) (f:Int->Int->LR->Option α) (k0:LR->Option α):Option α :=
 bif (decide (c<b)) then
  ob (f97 n 0) λd =>
  gd (decide ((a.length+1)*56<=140737488355328)) (
   f b (W (c+1)) (a++[d]))
 else
  k0 a
abbrev Zq:Tm:=⟨[(3,.k (.hw 4)),(5,.d hI),(6,.d hI)],[(4,.arr 54 hR false)],[10],[]⟩
abbrev B2s:Tm:=⟨[(3,.k (.hw 4))],[(4,.arr 54 hR false)],[],[]⟩
abbrev A9l:List (Exit × Tm):=[(.exit 0,B2s)]
def A9k {α:Type} (n:Nat) (v:Zq.den) (f:Zq.den->Option α) (ks:KS α A9l):Option α:=A9m n v.1.2.1 v.1.2.2.1 v.2.1 (λa b c=>f (((),a,b,()),(c,()))) (λw0=>ks.1 (((),()),(w0,())))
def A6l {α:Type} (n m:Nat) (a b:Int) (c:LR) (k0:LR->Option α):Option α:=A5 (A9k n) m (((),a,b,()),(c,())) (λw=>k0 w.2.1,())
theorem B2r {α n m a b c k0}:A6l (α:=α) n (m+1) a b c k0=A9m n a b c (λa b c=>A6l n m a b c k0) k0:=rfl
def f64 (n:Nat) (a0:Int):Option LR :=
 A6l n n a0 0 []
  (λa=>(
   some a))
def Gy (n:Nat):Ent:=⟨64,[hI],[hRs],λx=>f64 n x⟩
def Aqc (α:Type) (n:Nat):D3 α:={ reg:=[(1,⟨0,[],[(0,{ sh:=some hR })]⟩),(4,⟨0,[],[(1,{ ent:=some (Au n) }),(2,{ sh:=some hR })]⟩)],join:=[],loop:=[(3,⟨Zq,A9l,A5 (A9k n) n⟩)] }
theorem Agq (α:Type) (n:Nat):Al PP (Af (Aqc α n).reg):=⟨B4 n,trivial⟩
theorem Avf (α:Type) (n:Nat):LO.Sound (α:=α) PP ⟨14,[]⟩ ⟨Zq,A9l,A5 (A9k n) n⟩ (.loop ((A0 Tryz.f64).at [1,1,0,1,0,0])):=C1 (D:=Aqc α n) (Agq α n) n
theorem Bho (α:Type) (n:Nat):D3.OK PP TT ⟨14,[]⟩ (Aqc α n) (A0 Tryz.f64) :=
 D3.OK.mk3 (Agq α n) (show Aa (A0 Tryz.f64)=[(3,(.loop ((A0 Tryz.f64).at [1,1,0,1,0,0])))] by kernel_rfl) ⟨Ac rfl (Avf α n),trivial⟩
theorem A6k (n:Nat):(Gy n).Sound PP:=fk (fn:=Tryz.f64) (Bho _ n)

abbrev Ao7:Tm:=⟨[(2,.k (.hp 2 0 0)),(3,.k (.hp 3 0 0)),(4,.k (.hp 4 0 0))],[(2,.var 94 true false [.d hI,.d .nil]),(3,.var 54 true false [.d .bool,.d hIs,.d hIs]),(4,.var 91 true false [.d .bool,.d .nil,.d .nil,.d .nil,.d .nil,.d .bool,.d .nil,.d .nil])],[],[]⟩
def f163 (n:Nat) (a0:Int × Unit) (a1:Rq):Option (Rq × LR × Unit × Rq) :=
 ob (f64 n a0.1) λa =>
 ob (f97 n 0) λb =>
 some (a1,a,(),b)
def Axr (n:Nat):Ent:=⟨163,[(.st (.pair hI .nil)),hR],[(.st (.pair hR (.pair hRs (.pair .nil hR))))],λx=>f163 n x.1 x.2⟩
def Axs (α:Type) (n:Nat):D3 α:={ reg:=[(1,⟨0,[],[(3,{ ent:=some (Gy n) }),(4,{ ent:=some (Au n) })]⟩)],join:=[],loop:=[],any:=[(1,Ao7)] }
set_option maxHeartbeats 8000000 in
theorem B9n (n:Nat):Ag TT ⟨20,[]⟩ [(3,{ ent:=some (Gy n) }),(4,{ ent:=some (Au n) })] Ao7 (A4 ((A0 Tryz.f163).at [1,0])):=by
 refine ⟨by kernel_rfl,λw q hq=>?_⟩
 have e:WT [(3,{ ent:=some (Gy n) }),(4,{ ent:=some (Au n) })] (A7 (A4 ((A0 Tryz.f163).at [1,0])).toList) q=(∃ (y0:HL (Gy n).rs) (q0:List (Nat × RV)),q=(3,.sv (Ae (Gy n).rs y0))::q0 /\ ∃ (y1:HL (Au n).rs) (q1:List (Nat × RV)),q0=(4,.sv (Ae (Au n).rs y1))::q1/\q1=[]):=by kernel_rfl
 rw [e] at hq;obtain ⟨y0,q0,rfl,y1,q1,rfl,rfl⟩:=hq
 all_goals exact .inr ⟨7,by kernel_rfl,by kernel_rfl,by kernel_rfl⟩
theorem Axq (α:Type) (n:Nat):Al PP (Af (Axs α n).reg):=⟨A6k n,B4 n,trivial⟩
theorem Bf1 (α:Type) (n:Nat):D3.OK PP TT ⟨20,[]⟩ (Axs α n) (A0 Tryz.f163) :=
 D3.OK.mk3a (Axq α n) (show Aa (A0 Tryz.f163)=[] by kernel_rfl) trivial (show As (A0 Tryz.f163)=[(1,A4 ((A0 Tryz.f163).at [1,0]))] by kernel_rfl) ⟨⟨B9n n,trivial⟩,trivial⟩
theorem B9m (n:Nat):(Axr n).Sound PP:=fk (fn:=Tryz.f163) (Bf1 _ n)

def A2a {α:Type} (n:Nat) (b c:Int) (a:LR) (f:Int->Int->LR->Option α) (k0:LR->Option α):Option α :=
 bif (decide (c<b)) then
  ob (f97 n 0) λd =>
  gd (decide ((a.length+1)*56<=140737488355328)) (
   f b (W (c+1)) (a++[d]))
 else
  k0 a
abbrev Tf:Tm:=⟨[(3,.k (.hw 4)),(5,.d hI),(6,.d hI)],[(4,.arr 54 hR false)],[10],[]⟩
abbrev Avh:Tm:=⟨[(3,.k (.hw 4))],[(4,.arr 54 hR false)],[],[]⟩
abbrev A29:List (Exit × Tm):=[(.exit 0,Avh)]
def A28 {α:Type} (n:Nat) (v:Tf.den) (f:Tf.den->Option α) (ks:KS α A29):Option α:=A2a n v.1.2.1 v.1.2.2.1 v.2.1 (λa b c=>f (((),a,b,()),(c,()))) (λw0=>ks.1 (((),()),(w0,())))
def Zr {α:Type} (n m:Nat) (a b:Int) (c:LR) (k0:LR->Option α):Option α:=A5 (A28 n) m (((),a,b,()),(c,())) (λw=>k0 w.2.1,())
theorem Avg {α n m a b c k0}:Zr (α:=α) n (m+1) a b c k0=A2a n a b c (λa b c=>Zr n m a b c k0) k0:=rfl
def Mk (n:Nat) (a0:Int):Option LR :=
 Zr n n a0 0 []
  (λa=>(
   some a))
def Cr (n:Nat):Ent3:=⟨64,[.im hI],[[.one (.own 54 hR)]],λx=>Mk n x,[]⟩
def Agr (α:Type) (n:Nat):D3 α:={ reg:=[(1,⟨0,[],[(0,{ sh:=some hR })]⟩),(4,⟨0,[],[(1,{ ent:=some (Au n) }),(2,{ sh:=some hR })]⟩)],join:=[],loop:=[(3,⟨Tf,A29,A5 (A28 n) n⟩)] }
theorem Abu (α:Type) (n:Nat):Al PP (Af (Agr α n).reg):=⟨B4 n,trivial⟩
theorem Aqd (α:Type) (n:Nat):LO.Sound (α:=α) PP ⟨14,[]⟩ ⟨Tf,A29,A5 (A28 n) n⟩ (.loop ((A0 Tryz.f64).at [1,1,0,1,0,0])):=C1 (D:=Agr α n) (Abu α n) n
theorem Bd8 (α:Type) (n:Nat):D3.OK PP TT ⟨14,[]⟩ (Agr α n) (A0 Tryz.f64) :=
 D3.OK.mk3 (Abu α n) (show Aa (A0 Tryz.f64)=[(3,(.loop ((A0 Tryz.f64).at [1,1,0,1,0,0])))] by kernel_rfl) ⟨Ac rfl (Aqd α n),trivial⟩
theorem Km (n:Nat):(Cr n).Sound PP:=Vt (fn:=Tryz.f64) (Bd8 _ n)

abbrev Aij:Tm:=⟨[(2,.k (.hp 2 0 0)),(3,.k (.hp 3 0 0)),(4,.k (.hp 4 0 0))],[(2,.var 94 true false [.d hI,.d .nil]),(3,.var 54 true false [.d .bool,.d hIs,.d hIs]),(4,.var 91 true false [.d .bool,.d .nil,.d .nil,.d .nil,.d .nil,.d .bool,.d .nil,.d .nil])],[],[]⟩
def Arq (n:Nat) (a0:Int × Unit) (a1:Rq):Option (Bool × LI × LI × LR × Unit × Bool × LI × LI) :=
 ob (Mk n a0.1) λb =>
 ob (f97 n 0) λa =>
 some (a1.1,a1.2.1,a1.2.2,b,(),a.1,a.2.1,a.2.2)
def Ao8 (n:Nat):Ent3:=⟨163,[.im (.st (.pair hI .nil)),.im hR],[[.mix [.im .bool,.im hIs,.im hIs,.own 54 hR,.im .nil,.im .bool,.im hIs,.im hIs]]],λx=>Arq n x.1 x.2,[]⟩
def Ao9 (α:Type) (n:Nat):D3 α:={ reg:=[(1,⟨0,[],[(3,{ entB:=some (Cr n),hb:=310 }),(4,{ ent:=some (Au n) })]⟩)],join:=[],loop:=[],any:=[(1,Aij)] }
set_option maxHeartbeats 8000000 in
theorem B3w (n:Nat):Ag TT ⟨20,[]⟩ [(3,{ entB:=some (Cr n),hb:=310 }),(4,{ ent:=some (Au n) })] Aij (A4 ((A0 Tryz.f163).at [1,0])):=by
 refine ⟨by kernel_rfl,λw q hq=>?_⟩
 have e:WT [(3,{ entB:=some (Cr n),hb:=310 }),(4,{ ent:=some (Au n) })] (A7 (A4 ((A0 Tryz.f163).at [1,0])).toList) q=(∃ (y0:HF (Am 1000 (Cr n).ts) (Cr n).forms) (q0:List (Nat × RV)),q=(3,.bx (Cr n) y0)::q0 /\ ∃ (y1:HL (Au n).rs) (q1:List (Nat × RV)),q0=(4,.sv (Ae (Au n).rs y1))::q1/\q1=[]):=by kernel_rfl
 rw [e] at hq;obtain ⟨y0,q0,rfl,y1,q1,rfl,rfl⟩:=hq
 all_goals exact .inl (Ia.mk (by kernel_rfl))
theorem Arp (α:Type) (n:Nat):Al PP (Af (Ao9 α n).reg):=⟨Km n,B4 n,trivial⟩
theorem B9o (α:Type) (n:Nat):D3.OK PP TT ⟨20,[]⟩ (Ao9 α n) (A0 Tryz.f163) :=
 D3.OK.mk3a (Arp α n) (show Aa (A0 Tryz.f163)=[] by kernel_rfl) trivial (show As (A0 Tryz.f163)=[(1,A4 ((A0 Tryz.f163).at [1,0]))] by kernel_rfl) ⟨⟨B3w n,trivial⟩,trivial⟩
theorem B3v (n:Nat):(Ao8 n).Sound PP:=Vt (fn:=Tryz.f163) (B9o _ n)

abbrev B9k:Tm:=⟨[(2,.d hI),(3,.k (.hp 3 0 0)),(6,.k (.hp 6 0 0)),(7,.k (.hp 7 0 0))],[(3,.var 94 true false [.d hI,.d .nil]),(6,.var 91 true false [.d .bool,.d .nil,.d .nil,.d .nil,.d .nil,.d .bool,.d .nil,.d .nil]),(7,.var 91 false false [.d .bool,.d hIs,.d hIs,.k (.hw 313),.d .nil,.d .bool,.d hIs,.d hIs]),(313,.arr 54 hR false)],[4],[]⟩
def f164 (n:Nat) (a0:Int × Unit) (a1:Rq) (a2:Int):Option (Rq × LR × Unit × Rq) :=
 ob (Arq n a0 a1) λa =>
 let b:=λ(c:LR)=>(
  some ((a.1,a.2.1,a.2.2.1),c,(),a.2.2.2.2.2))
 bif (decide (a2<a0.1)) then
  ob (f97 n 1) λd =>
  gd (decide (0<=a2)&&decide (a2<(a.2.2.2.1.length:Int))) (
   gd (decide (a2.toNat<a.2.2.2.1.length)) (
    b (a.2.2.2.1.set a2.toNat d)))
 else
  b a.2.2.2.1
def Axp (n:Nat):Ent:=⟨164,[(.st (.pair hI .nil)),hR,hI],[(.st (.pair hR (.pair hRs (.pair .nil hR))))],λx=>f164 n x.1 x.2.1 x.2.2⟩
def Bf0 (α:Type) (n:Nat):D3 α:={ reg:=[(1,⟨0,[],[(2,{ alt:=[(Ao8 n)],hb:=310 })]⟩),(3,⟨4,[],[(3,{ ent:=some (Au n) })]⟩)],join:=[(4,B9k)],loop:=[] }
theorem B9j (n:Nat):(Axp n).Sound PP:=B0 (fn:=Tryz.f164) (D:=Bf0 _ n) ⟨B3v n,B4 n,trivial⟩

def A48 {α:Type} (n:Nat) (d:LI) (b g e a:Int) (h:LI) (i j:Int) (c:LI) (f:LI->Int->Int->Int->Int->LI->Int->Int->LI->Option α) (k0:LI->LI->Int->Int->LI->Option α):Option α :=
 let k:=λ(_:Unit)=>(
  let l:=λ(m:Int)=>(
   gd (decide (0<=(W (b+a)))&&decide ((W (b+a))<(c.length:Int))) (
    gd (decide ((W (b+a)).toNat<c.length)) (
     gd (decide (0<=(W (b+a)))&&decide ((W (b+a))<(c.length:Int))) (
      gd (decide ((W (b+a)).toNat<c.length)) (
       f d b g (W (Int.tdiv (W (m+(c.getD ((W (b+a)).toNat) 0))) 10000)) (W (a+1)) h i j (c.set ((W (b+a)).toNat) (Int.tmod (W (m+(c.getD ((W (b+a)).toNat) 0))) 10000)))))))
  bif (decide (a<(d.length:Int))) then
   gd (decide (0<=a)&&decide (a<(d.length:Int))) (
    l (W (e+(W (g*(d.getD a.toNat 0))))))
  else
   l e)
 bif (decide (a<(d.length:Int))) then
  k ()
 else
  bif (decide (e>0)) then
   k ()
  else
   k0 d h i j c
abbrev Uh:Tm:=⟨[(1,.d hIs),(5,.k (.hw 15)),(6,.d hI),(7,.d hI),(8,.d hI),(9,.d hI),(16,.d hIs),(17,.d hI),(18,.d hI)],[(15,.arr 3 hI false)],[],[]⟩
abbrev Ay9:Tm:=⟨[(1,.d hIs),(5,.k (.hw 15)),(16,.d hIs),(17,.d hI),(18,.d hI)],[(15,.arr 3 hI false)],[],[]⟩
abbrev A47:List (Exit × Tm):=[(.exit 2,Ay9)]
def A46 {α:Type} (n:Nat) (v:Uh.den) (f:Uh.den->Option α) (ks:KS α A47):Option α:=A48 n v.1.1 v.1.2.2.1 v.1.2.2.2.1 v.1.2.2.2.2.1 v.1.2.2.2.2.2.1 v.1.2.2.2.2.2.2.1 v.1.2.2.2.2.2.2.2.1 v.1.2.2.2.2.2.2.2.2.1 v.2.1 (λa b c d e g h i j=>f ((a,(),b,c,d,e,g,h,i,()),(j,()))) (λw0 w1 w2 w3 w4=>ks.1 ((w0,(),w1,w2,w3,()),(w4,())))
def Nx {α:Type} (n m:Nat) (a:LI) (b c d e:Int) (f:LI) (g h:Int) (i:LI) (k0:LI->LI->Int->Int->LI->Option α):Option α:=A5 (A46 n) m ((a,(),b,c,d,e,f,g,h,()),(i,())) (λw=>k0 w.1.1 w.1.2.2.1 w.1.2.2.2.1 w.1.2.2.2.2.1 w.2.1,())
theorem Ay8 {α n m a b c d e f g h i k0}:Nx (α:=α) n (m+1) a b c d e f g h i k0=A48 n a b c d e f g h i (λa b c d e f g h i=>Nx n m a b c d e f g h i k0) k0:=rfl
def A4b {α:Type} (n:Nat) (e b:LI) (c a:Int) (d:LI) (f:LI->LI->Int->Int->LI->Option α) (k0:LI->Option α):Option α :=
 bif (decide (a<c)) then
  gd (decide (0<=a)&&decide (a<(b.length:Int))) (
   Nx n n e a (b.getD a.toNat 0) 0 0 b c a d
    (λg h i j k=>(
     f g h i (W (j+1)) k)))
 else
  k0 d
abbrev Ui:Tm:=⟨[(1,.d hIs),(5,.k (.hw 15)),(16,.d hIs),(17,.d hI),(18,.d hI)],[(15,.arr 3 hI false)],[],[]⟩
abbrev Ayc:Tm:=⟨[(5,.k (.hw 15))],[(15,.arr 3 hI false)],[],[]⟩
abbrev A4a:List (Exit × Tm):=[(.exit 0,Ayc)]
def A49 {α:Type} (n:Nat) (v:Ui.den) (f:Ui.den->Option α) (ks:KS α A4a):Option α:=A4b n v.1.1 v.1.2.2.1 v.1.2.2.2.1 v.1.2.2.2.2.1 v.2.1 (λa b c d e=>f ((a,(),b,c,d,()),(e,()))) (λw0=>ks.1 (((),()),(w0,())))
def Ny {α:Type} (n m:Nat) (a b:LI) (c d:Int) (e:LI) (k0:LI->Option α):Option α:=A5 (A49 n) m ((a,(),b,c,d,()),(e,())) (λw=>k0 w.2.1,())
theorem Aya {α n m a b c d e k0}:Ny (α:=α) n (m+1) a b c d e k0=A4b n a b c d e (λa b c d e=>Ny n m a b c d e k0) k0:=rfl
abbrev Ba4:Tm:=⟨[(1,.d hIs),(5,.k (.hw 15)),(6,.d hI),(7,.d hI),(8,.d hI),(9,.d hI),(16,.d hIs),(17,.d hI),(18,.d hI)],[(15,.arr 3 hI false)],[],[]⟩
abbrev B47:Tm:=⟨[(1,.d hIs),(5,.k (.hw 15)),(6,.d hI),(7,.d hI),(8,.d hI),(9,.d hI),(16,.d hIs),(17,.d hI),(18,.d hI)],[(15,.arr 3 hI false)],[],[]⟩
def f152 (n:Nat) (a0 a1:LI):Option LI :=
 gd (decide (0<=(W ((a0.length:Int)+(a1.length:Int))))&&decide ((W ((a0.length:Int)+(a1.length:Int)))<=4611686018427387904)&&decide ((8:Int)*(W ((a0.length:Int)+(a1.length:Int)))<=281474976710656)) (
  Ny n n a1 a0 (a0.length:Int) 0 (List.replicate ((W ((a0.length:Int)+(a1.length:Int))).toNat) 0)
   (λa=>(
    ob (f202 n a) λb =>
    some b)))
def I0 (n:Nat):Ent:=⟨152,[hIs,hIs],[hIs],λx=>f152 n x.1 x.2⟩
def A7n (α:Type) (n:Nat):D3 α:={ reg:=[(14,⟨0,[],[(1,{ ent:=some (Hv n),fz:=[(63,hIs)] })]⟩)],join:=[(9,Ba4),(11,B47)],loop:=[(7,⟨Uh,A47,A5 (A46 n) n⟩),(3,⟨Ui,A4a,A5 (A49 n) n⟩)] }
theorem Yh (α:Type) (n:Nat):Al PP (Af (A7n α n).reg):=⟨Ru n,trivial⟩
theorem As0 (α:Type) (n:Nat):LO.Sound (α:=α) PP ⟨65,[]⟩ ⟨Uh,A47,A5 (A46 n) n⟩ (.loop ((A0 Tryz.f152).at [1,1,0,1,0,0,1,1,0,0,1,1,1,0,0])):=C1 (D:=A7n α n) (Yh α n) n
theorem Ayb (α:Type) (n:Nat):D3.OK PP TT ⟨65,[]⟩ (A7n α n) ((A0 Tryz.f152).at [1,1,0,1,0,0]) :=
 D3.OK.mk3 (Yh α n) (show Aa ((A0 Tryz.f152).at [1,1,0,1,0,0])=[(7,(.loop ((A0 Tryz.f152).at [1,1,0,1,0,0,1,1,0,0,1,1,1,0,0])))] by kernel_rfl) ⟨Ac rfl (As0 α n),trivial⟩
theorem As1 (α:Type) (n:Nat):LO.Sound (α:=α) PP ⟨65,[]⟩ ⟨Ui,A4a,A5 (A49 n) n⟩ (.loop ((A0 Tryz.f152).at [1,1,0,1,0,0])):=lk (Ayb α n) n
theorem Bfa (α:Type) (n:Nat):D3.OK PP TT ⟨65,[]⟩ (A7n α n) (A0 Tryz.f152) :=
 D3.OK.mk3 (Yh α n) (show Aa (A0 Tryz.f152)=[(3,(.loop ((A0 Tryz.f152).at [1,1,0,1,0,0])))] by kernel_rfl) ⟨Ac rfl (As1 α n),trivial⟩
theorem H3 (n:Nat):(I0 n).Sound PP:=fk (fn:=Tryz.f152) (Bfa _ n)

def A45 {α:Type} (n:Nat) (b c:LI) (d a:Int) (e:LI) (f:LI->LI->Int->Int->LI->Option α) (k0:LI->Option α):Option α :=
 let g:=λ(_:Unit)=>(
  let h:=λ(i:Int)=>(
   let j:=λ(k:Int)=>(
    gd (decide ((e.length+1)*8<=140737488355328)) (
     f b c (W (Int.tdiv k 10000)) (W (a+1)) (e++[(Int.tmod k 10000)])))
   bif (decide (a<(c.length:Int))) then
    gd (decide (0<=a)&&decide (a<(c.length:Int))) (
     j (W (i+(c.getD a.toNat 0))))
   else
    j i)
  bif (decide (a<(b.length:Int))) then
   gd (decide (0<=a)&&decide (a<(b.length:Int))) (
    h (W (d+(b.getD a.toNat 0))))
  else
   h d)
 bif (decide (a<(max (b.length:Int) (c.length:Int)))) then
  g ()
 else
  bif (decide (d>0)) then
   g ()
  else
   k0 e
abbrev Ug:Tm:=⟨[(0,.d hIs),(1,.d hIs),(5,.k (.hw 8)),(6,.d hI),(7,.d hI)],[(8,.arr 3 hI false)],[45],[]⟩
abbrev Ay6:Tm:=⟨[(5,.k (.hw 8))],[(8,.arr 3 hI false)],[],[]⟩
abbrev A44:List (Exit × Tm):=[(.exit 0,Ay6)]
def A43 {α:Type} (n:Nat) (v:Ug.den) (f:Ug.den->Option α) (ks:KS α A44):Option α:=A45 n v.1.1 v.1.2.1 v.1.2.2.2.1 v.1.2.2.2.2.1 v.2.1 (λa b c d e=>f ((a,b,(),c,d,()),(e,()))) (λw0=>ks.1 (((),()),(w0,())))
def Nw {α:Type} (n m:Nat) (a b:LI) (c d:Int) (e:LI) (k0:LI->Option α):Option α:=A5 (A43 n) m ((a,b,(),c,d,()),(e,())) (λw=>k0 w.2.1,())
theorem Ay5 {α n m a b c d e k0}:Nw (α:=α) n (m+1) a b c d e k0=A45 n a b c d e (λa b c d e=>Nw n m a b c d e k0) k0:=rfl
abbrev Ba1:Tm:=⟨[(0,.d hIs),(1,.d hIs),(5,.k (.hw 8)),(6,.d hI),(7,.d hI)],[(8,.arr 3 hI false)],[],[]⟩
abbrev Ba0:Tm:=⟨[(0,.d hIs),(1,.d hIs),(5,.k (.hw 8)),(6,.d hI),(7,.d hI)],[(8,.arr 3 hI false)],[],[]⟩
abbrev B9z:Tm:=⟨[(0,.d hIs),(1,.d hIs),(5,.k (.hw 8)),(6,.d hI),(7,.d hI)],[(8,.arr 3 hI false)],[],[]⟩
def f154 (n:Nat) (a0 a1:LI):Option LI :=
 Nw n n a0 a1 0 0 []
  (λa=>(
   some a))
def Ay7 (n:Nat):Ent:=⟨154,[hIs,hIs],[hIs],λx=>f154 n x.1 x.2⟩
def Ait (α:Type) (n:Nat):D3 α:={ reg:=[(1,⟨0,[],[(0,{ sh:=some hI })]⟩),(9,⟨0,[],[(3,{ sh:=some hI })]⟩)],join:=[(5,Ba1),(7,Ba0),(9,B9z)],loop:=[(3,⟨Ug,A44,A5 (A43 n) n⟩)] }
theorem Aco (α:Type) (n:Nat):Al PP (Af (Ait α n).reg):=trivial
theorem Arz (α:Type) (n:Nat):LO.Sound (α:=α) PP ⟨50,[]⟩ ⟨Ug,A44,A5 (A43 n) n⟩ (.loop ((A0 Tryz.f154).at [1,1,0,1,0,0])):=C1 (D:=Ait α n) (Aco α n) n
theorem Bf8 (α:Type) (n:Nat):D3.OK PP TT ⟨50,[]⟩ (Ait α n) (A0 Tryz.f154) :=
 D3.OK.mk3 (Aco α n) (show Aa (A0 Tryz.f154)=[(3,(.loop ((A0 Tryz.f154).at [1,1,0,1,0,0])))] by kernel_rfl) ⟨Ac rfl (Arz α n),trivial⟩
theorem B9y (n:Nat):(Ay7 n).Sound PP:=fk (fn:=Tryz.f154) (Bf8 _ n)

abbrev Ba2:Tm:=⟨[(0,.d .bool),(1,.d hIs),(2,.d hIs),(6,.k (.hp 6 0 0))],[(6,.var 54 true false [.d .bool,.d .nil,.d .nil])],[],[]⟩
def f153 (n:Nat) (a0:Bool) (a1 a2:LI):Option Rq :=
 let c:=λ(a:LI) (d:LI)=>(
  bif a0 then
   ob (f123 n a) λe =>
   ob (f123 n d) λf =>
   some ((decide ((a.length:Int)>0)),e,f)
  else
   ob (f123 n a) λg =>
   ob (f123 n d) λh =>
   some (false,g,h))
 ob (f203 n a1 a2) λb =>
 ob (f151 n) λi =>
 ob (f155 n b i) λj =>
 bif (j != 0) then
  ob (f204 n a1 b) λk =>
  ob (f204 n a2 b) λl =>
  c k.1 l.1
 else
  c a1 a2
def S4 (n:Nat):Ent:=⟨153,[.bool,hIs,hIs],[hR],λx=>f153 n x.1 x.2.1 x.2.2⟩
def Bf9 (α:Type) (n:Nat):D3 α:={ reg:=[(1,⟨0,[],[(2,{ ent:=some (Ahl n) })]⟩),(2,⟨0,[],[(1,{ ent:=some (S6 n) }),(2,{ ent:=some (Yg n) })]⟩),(3,⟨0,[],[(2,{ ent:=some (A73 n) })]⟩),(4,⟨0,[],[(2,{ ent:=some (A73 n) })]⟩),(5,⟨0,[],[(7,{ ent:=some (M6 n) }),(9,{ ent:=some (M6 n) })]⟩)],join:=[(5,Ba2)],loop:=[] }
theorem S2 (n:Nat):(S4 n).Sound PP:=B0 (fn:=Tryz.f153) (D:=Bf9 _ n) ⟨Anl n,S5 n,A0a n,Aa5 n,Aa5 n,L3 n,L3 n,trivial⟩

def A41 {α:Type} (n:Nat) (c:LI) (g d a:Int) (b:LI) (f:LI->Int->Int->Int->LI->Option α) (k0:LI->Option α):Option α :=
 bif (decide (a<d)) then
  gd (decide (0<=a)&&decide (a<(b.length:Int))) (
   gd (decide (a.toNat<b.length)) (
    let h:=λ(e:Int)=>(
     bif (decide (e<0)) then
      gd (decide (0<=a)&&decide (a<(b.length:Int))) (
       gd (decide (a.toNat<b.length)) (
        f c 1 d (W (a+1)) (b.set a.toNat (W (e+10000)))))
     else
      gd (decide (0<=a)&&decide (a<(b.length:Int))) (
       gd (decide (a.toNat<b.length)) (
        f c 0 d (W (a+1)) (b.set a.toNat e))))
    bif (decide (a<(c.length:Int))) then
     gd (decide (0<=a)&&decide (a<(c.length:Int))) (
      h (W ((W ((b.getD a.toNat 0)-g))-(c.getD a.toNat 0))))
    else
     h (W ((b.getD a.toNat 0)-g))))
 else
  k0 b
abbrev Ue:Tm:=⟨[(1,.d hIs),(5,.k (.hw 310)),(6,.d hI),(12,.d hI),(13,.d hI)],[(310,.arr 3 hI false)],[],[]⟩
abbrev Axz:Tm:=⟨[(5,.k (.hw 310))],[(310,.arr 3 hI false)],[],[]⟩
abbrev A40:List (Exit × Tm):=[(.exit 0,Axz)]
def A3z {α:Type} (n:Nat) (v:Ue.den) (f:Ue.den->Option α) (ks:KS α A40):Option α:=A41 n v.1.1 v.1.2.2.1 v.1.2.2.2.1 v.1.2.2.2.2.1 v.2.1 (λa b c d e=>f ((a,(),b,c,d,()),(e,()))) (λw0=>ks.1 (((),()),(w0,())))
def Iy {α:Type} (n m:Nat) (a:LI) (b c d:Int) (e:LI) (k0:LI->Option α):Option α:=A5 (A3z n) m ((a,(),b,c,d,()),(e,())) (λw=>k0 w.2.1,())
theorem Axy {α n m a b c d e k0}:Iy (α:=α) n (m+1) a b c d e k0=A41 n a b c d e (λa b c d e=>Iy n m a b c d e k0) k0:=rfl
abbrev B9w:Tm:=⟨[(1,.d hIs),(5,.k (.hw 310)),(7,.d hI),(8,.d hI),(12,.d hI),(13,.d hI)],[(310,.arr 3 hI false)],[],[]⟩
def f156 (n:Nat) (a0 a1:LI):Option LI :=
 ob (A7q n a0) λa =>
 Iy n n a1 0 (a.length:Int) 0 a
  (λb=>(
   ob (f202 n b) λc =>
   some c))
def Air (n:Nat):Ent:=⟨156,[hIs,hIs],[hIs],λx=>f156 n x.1 x.2⟩
def Ais (α:Type) (n:Nat):D3 α:={ reg:=[(1,⟨0,[],[(1,{ entB:=some (Iz n),hb:=310 })]⟩),(13,⟨0,[],[(1,{ ent:=some (Hv n),fz:=[(41,hIs)] })]⟩)],join:=[(8,B9w)],loop:=[(3,⟨Ue,A40,A5 (A3z n) n⟩)] }
theorem Acn (α:Type) (n:Nat):Al PP (Af (Ais α n).reg):=⟨Ajb n,Ru n,trivial⟩
theorem Arv (α:Type) (n:Nat):LO.Sound (α:=α) PP ⟨43,[]⟩ ⟨Ue,A40,A5 (A3z n) n⟩ (.loop ((A0 Tryz.f156).at [1,1,0,1,0,0])):=C1 (D:=Ais α n) (Acn α n) n
theorem Bf6 (α:Type) (n:Nat):D3.OK PP TT ⟨43,[]⟩ (Ais α n) (A0 Tryz.f156) :=
 D3.OK.mk3 (Acn α n) (show Aa (A0 Tryz.f156)=[(3,(.loop ((A0 Tryz.f156).at [1,1,0,1,0,0])))] by kernel_rfl) ⟨Ac rfl (Arv α n),trivial⟩
theorem Aoi (n:Nat):(Air n).Sound PP:=fk (fn:=Tryz.f156) (Bf6 _ n)

def f99 (n:Nat) (a0 a1:Rq):Option Rq :=
 ob (f152 n a0.2.1 a1.2.2) λa =>
 ob (f152 n a1.2.1 a0.2.2) λb =>
 ob (f152 n a0.2.2 a1.2.2) λc =>
 bif (a0.1==a1.1) then
  ob (f154 n a b) λd =>
  ob (f153 n a0.1 d c) λe =>
  some e
 else
  ob (f155 n a b) λf =>
  bif (decide (f>=0)) then
   ob (f156 n a b) λg =>
   ob (f153 n a0.1 g c) λh =>
   some h
  else
   ob (f156 n b a) λi =>
   ob (f153 n a1.1 i c) λj =>
   some j
def Ad (n:Nat):Ent:=⟨99,[hR,hR],[hR],λx=>f99 n x.1 x.2⟩
def Bh7 (α:Type) (n:Nat):D3 α:={ reg:=[(1,⟨9,[],[(4,{ ent:=some (I0 n) }),(9,{ ent:=some (I0 n) })]⟩),(2,⟨0,[],[(4,{ ent:=some (I0 n) })]⟩),(4,⟨6,[],[(4,{ ent:=some (Ay7 n) }),(6,{ ent:=some (S4 n) })]⟩),(5,⟨0,[],[(2,{ ent:=some (Yg n) })]⟩),(6,⟨6,[],[(4,{ ent:=some (Air n) }),(6,{ ent:=some (S4 n) })]⟩),(7,⟨6,[],[(4,{ ent:=some (Air n) }),(6,{ ent:=some (S4 n) })]⟩)],join:=[],loop:=[] }
theorem Cd (n:Nat):(Ad n).Sound PP:=B0 (fn:=Tryz.f99) (D:=Bh7 _ n) ⟨H3 n,H3 n,H3 n,B9y n,S2 n,A0a n,Aoi n,S2 n,Aoi n,S2 n,trivial⟩

def B3q {α:Type} (n:Nat) (b:LR) (e a:Int) (p:Bool) (q r:LI) (s:LR) (t:Bool) (u v:LI) (w:Bool) (x y:LI) (c:LR) (z:Bool) (d0 d1:LI) (g h i:Bool) (j k:LI) (l:Bool) (m o:LI) (d:LR) (f:LR->Int->Int->Bool->LI->LI->LR->Bool->LI->LI->Bool->LI->LI->LR->Bool->LI->LI->Bool->Bool->Bool->LI->LI->Bool->LI->LI->LR->Option α) (k0:Bool->Bool->Bool->LI->LI->Bool->LI->LI->LR->Option α):Option α :=
 bif (decide (a<e)) then
  gd (decide (0<=a)&&decide (a<(b.length:Int))) (
   let d2:=b.getD a.toNat (false,[],[])
   gd (decide (0<=a)&&decide (a<(c.length:Int))) (
    let d3:=c.getD a.toNat (false,[],[])
    ob (f99 n d2 d3) λd4 =>
    gd (decide ((d.length+1)*56<=140737488355328)) (
     f b e (W (a+1)) p q r s t u v w x y c z d0 d1 g h i j k l m o (d++[d4]))))
 else
  k0 g h i j k l m o d
abbrev Ud:Tm:=⟨[(2,.k (.hp 2 0 0)),(3,.k (.hp 3 0 0)),(4,.k (.hp 4 0 0)),(5,.k (.hp 5 0 0)),(20,.d hRs),(21,.d hI),(22,.d hI)],[(2,.var 91 true false [.d .bool,.d hIs,.d hIs,.d hRs,.d .nil,.d .bool,.d hIs,.d hIs]),(3,.var 91 true false [.d .bool,.d hIs,.d hIs,.d hRs,.d .nil,.d .bool,.d hIs,.d hIs]),(4,.var 91 true false [.d .bool,.d .nil,.d .nil,.d .nil,.d .nil,.d .bool,.d .nil,.d .nil]),(5,.var 91 false false [.d .bool,.d hIs,.d hIs,.k (.hw 37),.d .nil,.d .bool,.d hIs,.d hIs]),(37,.arr 54 hR false)],[7,36],[]⟩
abbrev Axo:Tm:=⟨[(4,.k (.hp 4 0 0)),(5,.k (.hp 5 0 0))],[(4,.var 91 true false [.d .bool,.d .nil,.d .nil,.d .nil,.d .nil,.d .bool,.d .nil,.d .nil]),(5,.var 91 false false [.d .bool,.d hIs,.d hIs,.k (.hw 37),.d .nil,.d .bool,.d hIs,.d hIs]),(37,.arr 54 hR false)],[2,3],[]⟩
abbrev A3y:List (Exit × Tm):=[(.exit 0,Axo)]
def A3x {α:Type} (n:Nat) (v:Ud.den) (f:Ud.den->Option α) (ks:KS α A3y):Option α:=B3q n v.1.2.2.2.2.1 v.1.2.2.2.2.2.1 v.1.2.2.2.2.2.2.1 v.2.1.1 v.2.1.2.1 v.2.1.2.2.1 v.2.1.2.2.2.1 v.2.1.2.2.2.2.2.1 v.2.1.2.2.2.2.2.2.1 v.2.1.2.2.2.2.2.2.2.1 v.2.2.1.1 v.2.2.1.2.1 v.2.2.1.2.2.1 v.2.2.1.2.2.2.1 v.2.2.1.2.2.2.2.2.1 v.2.2.1.2.2.2.2.2.2.1 v.2.2.1.2.2.2.2.2.2.2.1 v.2.2.2.1.1 v.2.2.2.1.2.2.2.2.2.1 v.2.2.2.2.1.1 v.2.2.2.2.1.2.1 v.2.2.2.2.1.2.2.1 v.2.2.2.2.1.2.2.2.2.2.1 v.2.2.2.2.1.2.2.2.2.2.2.1 v.2.2.2.2.1.2.2.2.2.2.2.2.1 v.2.2.2.2.2.1 (λa b c d e g h i j k l m o p q r s t u w x y z d0 d1 d2=>f (((),(),(),(),a,b,c,()),((d,e,g,h,(),i,j,k,()),(l,m,o,p,(),q,r,s,()),(t,(),(),(),(),u,(),(),()),(w,x,y,(),(),z,d0,d1,()),d2,()))) (λw0 w1 w2 w3 w4 w5 w6 w7 w8=>ks.1 (((),(),()),((w0,(),(),(),(),w1,(),(),()),(w2,w3,w4,(),(),w5,w6,w7,()),w8,())))
def B9g {α:Type} (n m:Nat) (a:LR) (b c:Int) (d:Bool) (e f:LI) (g:LR) (h:Bool) (i j:LI) (k:Bool) (l o:LI) (p:LR) (q:Bool) (r s:LI) (t u v:Bool) (x y:LI) (z:Bool) (d0 d1:LI) (d2:LR) (k0:Bool->Bool->Bool->LI->LI->Bool->LI->LI->LR->Option α):Option α:=A5 (A3x n) m (((),(),(),(),a,b,c,()),((d,e,f,g,(),h,i,j,()),(k,l,o,p,(),q,r,s,()),(t,(),(),(),(),u,(),(),()),(v,x,y,(),(),z,d0,d1,()),d2,())) (λw=>k0 w.2.1.1 w.2.1.2.2.2.2.2.1 w.2.2.1.1 w.2.2.1.2.1 w.2.2.1.2.2.1 w.2.2.1.2.2.2.2.2.1 w.2.2.1.2.2.2.2.2.2.1 w.2.2.1.2.2.2.2.2.2.2.1 w.2.2.2.1,())
abbrev Ao2:Tm:=⟨[(2,.k (.hp 2 0 0)),(3,.k (.hp 3 0 0)),(4,.k (.hp 4 0 0))],[(2,.var 91 true false [.d .bool,.d hIs,.d hIs,.d hRs,.d .nil,.d .bool,.d hIs,.d hIs]),(3,.var 91 true false [.d .bool,.d hIs,.d hIs,.d hRs,.d .nil,.d .bool,.d hIs,.d hIs]),(4,.var 91 true false [.d .bool,.d .nil,.d .nil,.d .nil,.d .nil,.d .bool,.d .nil,.d .nil])],[],[]⟩
abbrev Ao1:Tm:=⟨[(2,.k (.hp 2 0 0)),(3,.k (.hp 3 0 0)),(4,.k (.hp 4 0 0)),(5,.k (.hp 5 0 0)),(6,.d hI),(7,.k (.hp 7 0 0)),(20,.d hRs),(21,.d hI),(22,.d hI)],[(2,.var 91 true false [.d .bool,.d hIs,.d hIs,.d hRs,.d .nil,.d .bool,.d hIs,.d hIs]),(3,.var 91 true false [.d .bool,.d hIs,.d hIs,.d hRs,.d .nil,.d .bool,.d hIs,.d hIs]),(4,.var 91 true false [.d .bool,.d .nil,.d .nil,.d .nil,.d .nil,.d .bool,.d .nil,.d .nil]),(5,.var 91 true false [.d .bool,.d hIs,.d hIs,.d .nil,.d .nil,.d .bool,.d hIs,.d hIs]),(7,.var 54 true false [.d .bool,.d hIs,.d hIs])],[],[]⟩
abbrev Ack:Tm:=⟨[(2,.k (.hp 2 0 0)),(3,.k (.hp 3 0 0)),(4,.k (.hp 4 0 0)),(5,.k (.hp 5 0 0)),(6,.d hI),(7,.k (.hp 7 0 0)),(20,.d hRs),(21,.d hI),(22,.d hI)],[(2,.var 91 true false [.d .bool,.d hIs,.d hIs,.d hRs,.d .nil,.d .bool,.d hIs,.d hIs]),(3,.var 91 true false [.d .bool,.d hIs,.d hIs,.d hRs,.d .nil,.d .bool,.d hIs,.d hIs]),(4,.var 91 true false [.d .bool,.d .nil,.d .nil,.d .nil,.d .nil,.d .bool,.d .nil,.d .nil]),(5,.var 91 false false [.d .bool,.d hIs,.d hIs,.k (.hw 37),.d .nil,.d .bool,.d hIs,.d hIs]),(7,.var 54 true false [.d .bool,.d hIs,.d hIs]),(37,.arr 54 hR false)],[],[]⟩
def f165 (n:Nat) (a0 a1:Rq × LR × Unit × Rq):Option (Rq × LR × Unit × Rq) :=
 ob (f99 n a0.1 a1.1) λa =>
 ob (f99 n a0.2.2.2 a1.2.2.2) λb =>
 bif (decide (0<(a0.2.1.length:Int))) then
  gd (decide (0<(a0.2.1.length:Int))) (
   let c:=a0.2.1.getD 0 (false,[],[])
   gd (decide (0<(a1.2.1.length:Int))) (
    let d:=a1.2.1.getD 0 (false,[],[])
    ob (f99 n c d) λe =>
    B9g n n a0.2.1 (a0.2.1.length:Int) 1 a0.1.1 a0.1.2.1 a0.1.2.2 a0.2.1 a0.2.2.2.1 a0.2.2.2.2.1 a0.2.2.2.2.2 a1.1.1 a1.1.2.1 a1.1.2.2 a1.2.1 a1.2.2.2.1 a1.2.2.2.2.1 a1.2.2.2.2.2 false false a.1 a.2.1 a.2.2 b.1 b.2.1 b.2.2 [e]
     (λm o f g h i j k l=>(
      some ((f,g,h),l,(),i,j,k)))))
 else
  some (a,[],(),b)
def Aig (n:Nat):Ent:=⟨165,[(.st (.pair hR (.pair hRs (.pair .nil hR)))),(.st (.pair hR (.pair hRs (.pair .nil hR))))],[(.st (.pair hR (.pair hRs (.pair .nil hR))))],λx=>f165 n x.1 x.2⟩
def Aih (α:Type) (n:Nat):D3 α:={ reg:=[(1,⟨0,[],[(4,{ ent:=some (Ad n) }),(9,{ ent:=some (Ad n) })]⟩),(5,⟨0,[],[(8,{ ent:=some (Ad n) }),(9,{ sh:=some hR }),(10,{ sh:=some hR })]⟩)],join:=[],loop:=[(3,⟨Ud,A3y,A5 (A3x n) n⟩)],any:=[(1,Ao2),(5,Ao1),(5,Ack)] }
set_option maxHeartbeats 8000000 in
theorem B9h (n:Nat):Ag TT ⟨60,[]⟩ [(4,{ ent:=some (Ad n) }),(9,{ ent:=some (Ad n) })] Ao2 (A4 ((A0 Tryz.f165).at [1,0])):=by
 refine ⟨by kernel_rfl,λw q hq=>?_⟩
 have e:WT [(4,{ ent:=some (Ad n) }),(9,{ ent:=some (Ad n) })] (A7 (A4 ((A0 Tryz.f165).at [1,0])).toList) q=(∃ (y0:HL (Ad n).rs) (q0:List (Nat × RV)),q=(4,.sv (Ae (Ad n).rs y0))::q0 /\ ∃ (y1:HL (Ad n).rs) (q1:List (Nat × RV)),q0=(9,.sv (Ae (Ad n).rs y1))::q1/\q1=[]):=by kernel_rfl
 rw [e] at hq;obtain ⟨y0,q0,rfl,y1,q1,rfl,rfl⟩:=hq
 all_goals exact .inr ⟨12,by kernel_rfl,by kernel_rfl,by kernel_rfl⟩
set_option maxHeartbeats 8000000 in
theorem Ao3 (n:Nat):Ag TT ⟨60,[]⟩ [(8,{ ent:=some (Ad n) }),(9,{ sh:=some hR }),(10,{ sh:=some hR })] Ao1 (A4 ((A0 Tryz.f165).at [1,1,0,1,0,0,1,1,0,0,1,0])):=by
 refine ⟨by kernel_rfl,λw q hq=>?_⟩
 have e:WT [(8,{ ent:=some (Ad n) }),(9,{ sh:=some hR }),(10,{ sh:=some hR })] (A7 (A4 ((A0 Tryz.f165).at [1,1,0,1,0,0,1,1,0,0,1,0])).toList) q=(∃ (y0:HL (Ad n).rs) (q0:List (Nat × RV)),q=(8,.sv (Ae (Ad n).rs y0))::q0/\q0=[]):=by kernel_rfl
 rw [e] at hq;obtain ⟨y0,q0,rfl,rfl⟩:=hq
 all_goals exact .inr ⟨10,by kernel_rfl,by kernel_rfl,by kernel_rfl⟩
set_option maxHeartbeats 8000000 in
theorem Acl (n:Nat):Ag TT ⟨60,[]⟩ [(8,{ ent:=some (Ad n) }),(9,{ sh:=some hR }),(10,{ sh:=some hR })] Ack (A4 ((A0 Tryz.f165).at [1,1,0,1,0,0,1,1,0,0,1,0])):=by
 refine ⟨by kernel_rfl,λw q hq=>?_⟩
 have e:WT [(8,{ ent:=some (Ad n) }),(9,{ sh:=some hR }),(10,{ sh:=some hR })] (A7 (A4 ((A0 Tryz.f165).at [1,1,0,1,0,0,1,1,0,0,1,0])).toList) q=(∃ (y0:HL (Ad n).rs) (q0:List (Nat × RV)),q=(8,.sv (Ae (Ad n).rs y0))::q0/\q0=[]):=by kernel_rfl
 rw [e] at hq;obtain ⟨y0,q0,rfl,rfl⟩:=hq
 all_goals exact .inr ⟨10,by kernel_rfl,by kernel_rfl,by kernel_rfl⟩
theorem Acj (α:Type) (n:Nat):Al PP (Af (Aih α n).reg):=⟨Cd n,Cd n,Cd n,trivial⟩
theorem Axn (α:Type) (n:Nat):D3.OK PP TT ⟨60,[]⟩ (Aih α n) ((A0 Tryz.f165).at [1,1,0,1,0,0]) :=
 D3.OK.mk3a (Acj α n) (show Aa ((A0 Tryz.f165).at [1,1,0,1,0,0])=[] by kernel_rfl) trivial (show As ((A0 Tryz.f165).at [1,1,0,1,0,0])=[(5,A4 ((A0 Tryz.f165).at [1,1,0,1,0,0,1,1,0,0,1,0])),(7,A4 ((A0 Tryz.f165).at [1,1,0,1,0,0,1,1,0,0,1,1,1,0]))] by kernel_rfl) ⟨⟨Ao3 n,Acl n,trivial⟩,trivial,trivial⟩
theorem Arn (α:Type) (n:Nat):LO.Sound (α:=α) PP ⟨60,[]⟩ ⟨Ud,A3y,A5 (A3x n) n⟩ (.loop ((A0 Tryz.f165).at [1,1,0,1,0,0])):=lk (Axn α n) n
theorem Bez (α:Type) (n:Nat):D3.OK PP TT ⟨60,[]⟩ (Aih α n) (A0 Tryz.f165) :=
 D3.OK.mk3a (Acj α n) (show Aa (A0 Tryz.f165)=[(3,(.loop ((A0 Tryz.f165).at [1,1,0,1,0,0])))] by kernel_rfl) ⟨Ac rfl (Arn α n),trivial⟩ (show As (A0 Tryz.f165)=[(1,A4 ((A0 Tryz.f165).at [1,0])),(5,A4 ((A0 Tryz.f165).at [1,1,0,1,0,0,1,1,0,0,1,0])),(7,A4 ((A0 Tryz.f165).at [1,1,0,1,0,0,1,1,0,0,1,1,1,0]))] by kernel_rfl) ⟨⟨B9h n,trivial⟩,⟨Ao3 n,Acl n,trivial⟩,trivial,trivial⟩
theorem Ao0 (n:Nat):(Aig n).Sound PP:=fk (fn:=Tryz.f165) (Bez _ n)

end Go.Ev
