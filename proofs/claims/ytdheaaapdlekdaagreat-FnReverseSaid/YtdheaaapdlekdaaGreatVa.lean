/- DERIVED. What the functions compute, and that they do. -/
import Derived.Test.YtdheaaapdlekdaaGreatEe

set_option linter.all false
set_option linter.unusedVariables false
set_option linter.unusedSimpArgs false

namespace Go.Ev
open Go Go.Proofs Go.RowKit Go.Shelf
set_option maxHeartbeats 8000000
variable (α:Type) (n:Nat)
abbrev zq1:List TS:=[.d .bool,.d .nil,.d .nil,.d .nil,.d .nil,.d .bool,.d .nil,.d .nil]
abbrev zq2:List TS:=[.d .bool,.d hIs,.d hIs,.d hRs,.d hRs,.d .bool,.d hIs,.d hIs]
abbrev G7:List TS:=[.d .bool,.d hIs,.d hIs]
abbrev Bai:Sh:=.ref (.st (.pair .bool (.pair hIs (.pair hIs (.pair hRs (.pair hRs (.pair .bool (.pair hIs hIs))))))))
abbrev F6:Sh:=.ref hR
abbrev zq4:Sh:=.pair Bai F6
abbrev zq5:List TS:=[.d .bool,.d hIs,.d hIs,.d hRs,.d .nil,.d .bool,.d hIs,.d hIs]
abbrev Df:Sh:=.st (.pair hR (.pair hRs (.pair hRs hR)))
abbrev zq7:List TS:=[.d .bool,.d .nil,.d .nil]
abbrev Do:Sh:=.st (.pair hR (.pair hRs (.pair .nil hR)))
abbrev zq9:Sh:=.pair (.ref (.st (.pair .bool (.pair hIs (.pair hIs (.pair hRs (.pair .nil (.pair .bool (.pair hIs hIs))))))))) F6
abbrev Cs:Nat × TS:=(2,.k (.hp 2 0 0))
abbrev C4:Nat × TS:=(3,.k (.hp 3 0 0))
abbrev Bo:Nat × TS:=(4,.k (.hp 4 0 0))
abbrev Bt:Nat × TS:=(5,.k (.hp 5 0 0))
abbrev Ed:Nat × TS:=(6,.d hI)
abbrev Cu:Nat × TS:=(7,.k (.hp 7 0 0))
abbrev Dk:Nat × TS:=(8,.k (.hp 8 0 0))
abbrev Af8:List (Nat × TS):=[Cs,C4,Bo,Bt,Ed,Cu,Dk,(28,.d hRs),(29,.d hI),(30,.d hI)]
abbrev Ayr:Nat × TB:=(11,.var 91 false false [.d .bool,.d hIs,.d hIs,.k (.hw 31),.k (.hw 42),.d .bool,.d hIs,.d hIs])
abbrev Ayp:List TS:=[.d .bool,.d hIs,.d hIs,.d .nil,.d .nil,.d .bool,.d hIs,.d hIs]
abbrev Dg:Nat × TB:=(4,.var 91 true false zq1)
abbrev A7v:Nat × TB:=(11,.var 91 false false [.d .bool,.d hIs,.d hIs,.k (.hw 31),.d .nil,.d .bool,.d hIs,.d hIs])
abbrev D8:Type:=Rq × LR × LR × Rq
abbrev A7u:List TS:=[.d hI,.d hI,.d hI,.d hI]
abbrev Eh:Type:=Rq × LR × Unit × Rq
abbrev Da:Nat × TS:=(10,.k (.hp 10 0 0))
abbrev I3:Nat × TB:=(10,.var 91 true false zq1)
abbrev G8:Nat × TB:=(7,.var 54 true false G7)
abbrev Dt:Nat × TS:=(11,.k (.hp 11 0 0))
abbrev A7t:Nat × TB:=(1000,.var 114 false false [.d hRs,.d hRs,.k (.hw 1003),.k (.hw 1004)])
abbrev Amp:Nat × TB:=(5,.var 91 false false [.d .bool,.d hIs,.d hIs,.k (.hw 52),.k (.hw 88),.d .bool,.d hIs,.d hIs])
abbrev Xa:Type:=Bool × LI × LI × LR × Unit × Bool × LI × LI
abbrev Amo:Nat × TB:=(5,.var 91 false false [.d .bool,.d hIs,.d hIs,.k (.hw 52),.d .nil,.d .bool,.d hIs,.d hIs])
abbrev X9:Type:=Bool × LI × LI × LR × LR × Bool × LI × LI
abbrev F7:Nat × TS:=(6,.k (.hp 6 0 0))
abbrev Ft:Sh:=.st (.pair hNs hI)
abbrev Ka:Nat × TB:=(2,.var 91 true false zq2)
abbrev Ayi:Nat × TB:=(5,.var 91 false false [.d .bool,.d hIs,.d hIs,.k (.hw 37),.k (.hw 56),.d .bool,.d hIs,.d hIs])
abbrev A12:Sh:=.sl (.int .u8)
abbrev A19:Sh:=.st (.pair A12 (.pair hI hI))
abbrev Ayh:Nat × TB:=(5,.var 91 false false [.d .bool,.d hIs,.d hIs,.k (.hw 37),.d .nil,.d .bool,.d hIs,.d hIs])
abbrev Mi:Nat × TB:=(3,.var 91 true false zq2)
abbrev P3:Nat × TB:=(6,.var 54 true false zq7)
abbrev A7r:Nat × TB:=(5,.var 91 true false zq2)
abbrev R7:Nat × TB:=(31,.arr 54 hR false)
abbrev Al6:Nat × TB:=(42,.arr 54 hR false)
abbrev Ayg:List (Nat × TB):=[A7r,I3,Ayr,R7,Al6]
abbrev Rb:Nat × TB:=(13,.var 54 true false G7)
abbrev Ra:Nat × TB:=(9,.var 54 true false zq7)
abbrev R9:Nat × TB:=(8,.var 54 true false zq7)
abbrev R8:Nat × TB:=(7,.var 54 true false zq7)
abbrev K9:Nat × TS:=(9,.k (.hp 9 0 0))
abbrev Uy:Nat × TB:=(6,.var 54 true false G7)
abbrev F5:List (Nat × OA):=[(0,B4 hR)]
abbrev X8:Nat × TB:=(8,.var 54 true false G7)
abbrev X7:Nat × TB:=(2,.var 91 true false zq5)
abbrev Eg:Nat × TS:=(1,.d hIs)
abbrev R6:Nat × TS:=(13,.k (.hp 13 0 0))
abbrev Dr:Nat × TS:=(7,.d hI)
abbrev A18:Nat × TB:=(3,.var 85 true false A7u)
abbrev Ux:Nat × TB:=(52,.arr 54 hR false)
abbrev Ee:Nat × TS:=(8,.d hI)
abbrev A17:Nat × TB:=(4,.var 54 true false zq7)
abbrev F4:Nat × TS:=(1,.d hRs)
abbrev A7s:List TS:=[.d hNs,.d hI]
abbrev X6:Nat × TS:=(0,.k (.hp 1000 0 0))
abbrev A16:List (Nat × TB):=[(1000,.arr 3 hI false)]
abbrev Af3:Nat × TB:=(3,.var 52 true false [.d hIs])
abbrev A7q:Nat × TB:=(3,.var 91 true false zq5)
abbrev Gm:Nat × TS:=(2,.d hRs)
abbrev A15:Nat × TS:=(3,.d (.clo 221 F6))
abbrev A14:Nat × TS:=(3,.d (.clo 208 F6))
abbrev Ht:Nat × TS:=(20,.d hI)
abbrev Hs:Nat × TS:=(0,.d hIs)
abbrev J6:Nat × TS:=(18,.d hRs)
abbrev A13:Nat × TB:=(37,.arr 54 hR false)
abbrev Aml:Nat × TS:=(4,.d (.clo 222 (.pair F6 zq4)))
abbrev I2:Nat × TS:=(19,.d hI)
abbrev A7p:Nat × TB:=(1004,.arr 54 hR false)
abbrev A7o:Nat × TB:=(1003,.arr 54 hR false)
abbrev X5:Type:=LI × Int × Int
abbrev Af2:Nat × TB:=(8,.var 91 true false zq1)
abbrev Af1:Nat × TB:=(5,.var 91 true false zq5)
abbrev A7n:Nat × TB:=(340,.arr 54 hR false)
abbrev A7m:Nat × TB:=(330,.arr 54 hR false)
abbrev K8:Nat × TS:=(12,.d hI)
abbrev Gn:Nat × OA:=(0,B4 hI)
abbrev Bf9:List (Nat × TB):=[(3,.var 33 true false A7s),(10,.var 85 true false A7u),(11,.var 54 true false G7),(16,.arr 54 hR false)]
abbrev G0:Nat × TS:=(9,.d hI)
abbrev Alr:Nat × TB:=(7,.var 52 false false [.k (.hw 27)])
abbrev Il:Type:=LR × Int
abbrev Abu:Nat × TB:=(4,.var 85 true false A7u)
abbrev Abt:Nat × TB:=(10,.var 54 true false G7)
abbrev Abr:Nat × TB:=(5,.var 54 true false zq7)
abbrev Abq:Nat × TB:=(5,.var 54 true false G7)
abbrev Ayq:Nat × TB:=(1000,.var 126 true false [.d A12,.d hI,.d hI])
abbrev Xe:Nat × TS:=(1,.k (.hp 1 0 0))
abbrev A4n:Sh:=.st (.pair hI .nil)
abbrev A4m:Nat × TB:=(310,.arr 3 hI false)
abbrev A4l:Sh:=.st (.pair hI hRs)
abbrev A4k:Nat × TB:=(7,.arr 54 hR false)
abbrev A4j:Nat × TS:=(12,.k (.hp 12 0 0))
abbrev K0:Nat × TS:=(21,.d hI)
abbrev Ik:Nat × TS:=(5,.d hI)
abbrev Alo:Nat × TB:=(8,.var 3 true false [.d hI])
abbrev Ayl:List (Nat × TB):=[(11,.arr 3 hI false),(12,.arr 3 hI false)]
abbrev Xc:Nat × TS:=(5,.k (.hw 16))
abbrev Aln:Nat × TB:=(11,.var 91 true false Ayp)
abbrev Alm:Sh:=.clo 222 (.pair F6 zq9)
abbrev Abp:Nat × TB:=(88,.arr 54 hR false)
abbrev Abo:Nat × TS:=(4,.d (.clo 209 zq4))
abbrev All:Nat × TB:=(5,.var 91 true false Ayp)
abbrev Alk:Nat × TB:=(5,.var 85 true false A7u)
abbrev Alj:Nat × TB:=(4,.var 33 true false A7s)
abbrev Ali:Nat × TB:=(2,.var 33 true false A7s)
abbrev Alh:Nat × TB:=(15,.var 54 true false G7)
abbrev Alg:Nat × TB:=(14,.var 54 true false G7)
abbrev A4f:Nat × TS:=(14,.k (.hw 340))
abbrev A4e:Nat × TS:=(13,.k (.hw 330))
abbrev Alf:Nat × TB:=(12,.var 54 true false G7)
abbrev Ayk:Nat × TB:=(2,.var 33 true false [.d .nil,.d hI])
abbrev Ald:Nat × TB:=(9,.var 54 true false G7)
abbrev Alc:Nat × TB:=(3,.var 54 true false G7)
abbrev Px:Nat × TS:=(20,.d hRs)
abbrev Ayj:List (Nat × TS):=[(1,.d hI),Cs,Bo,Bt,F7,Cu]
abbrev Bf0:Nat × TB:=(12,.var 114 false false [.d hRs,.d hRs,.k (.hw 310),.k (.hw 320)])
abbrev Pw:Nat × TS:=(22,.d hI)
abbrev Pv:Nat × TS:=(15,.d hI)
abbrev Ns:Nat × TS:=(3,.d hI)
abbrev A4d:List TS:=[.d hI,.d hRs]
abbrev A4c:Nat × TS:=(5,.k (.hw 7))
abbrev Alb:Nat × TB:=(320,.arr 54 hR false)
abbrev Ala:Nat × TB:=(310,.arr 54 hR false)
abbrev Al9:Nat × TB:=(13,.arr 91 Df false)
abbrev Abl:Nat × TS:=(11,.k (.hw 310))
abbrev Xb:Nat × TS:=(0,.hs 1000)
abbrev Al8:Sh:=.clo 220 (.ref hIs)
abbrev Al7:Nat × TB:=(56,.arr 54 hR false)
abbrev Tu:Nat × TS:=(0,.d hRs)
def Agl (n:Nat) (a0:LI):Option X5 :=
 some (a0,0,(Int.tmod (a0.length:Int) 1000))
def Apk:Ent3:=⟨57,[.im A12],[[.one (.ptr 126 A19)]],λx=>Agl n x,[]⟩
def Bmy (α:Type) (n:Nat):D3 α:=⟨[],[],[],[]⟩
theorem Avz:(Apk n).Sound PP:=A89 (fn:=Tryz.f57) (D:=Bmy _ n) trivial

def Qa (n:Nat) (a0:LI × Int × Int):Option (Int × X5) :=
 bif (decide ((W (a0.2.1+1))<=(a0.1.length:Int))) then
  gd (decide (0<=(W ((W (a0.2.1+1))-1)))&&decide ((W ((W (a0.2.1+1))-1))<(a0.1.length:Int))) (
   gd (decide (0<=(W ((W (a0.2.1+1))-1)))&&decide ((W ((W (a0.2.1+1))-1))<(a0.1.length:Int))) (
    some ((W (a0.1.getD ((W ((W (a0.2.1+1))-1)).toNat) 0)),(a0.1,(W (a0.2.1+1)),(Int.tmod (W ((W ((W (a0.2.2*31))+(W (a0.1.getD ((W ((W (a0.2.1+1))-1)).toNat) 0))))+7)) 2147483648)))))
 else
  bif (decide ((W (a0.2.1+1))>3000)) then
   some (0,(a0.1,(W (a0.2.1+1)),a0.2.2))
  else
   some ((Int.tmod (W (Int.tdiv (Int.tmod (W ((W (a0.2.2*1103515245))+12345)) 2147483648) 65536)) 256),(a0.1,(W (a0.2.1+1)),(Int.tmod (W ((W (a0.2.2*1103515245))+12345)) 2147483648)))
def W0:Ent3:=⟨175,[.one (.ptr 126 A19)],[[.im hI]],λx=>Qa n x,[]⟩
def Bj2 (α:Type) (n:Nat):D3 α:=⟨[(2,⟨9,[],[]⟩),(3,⟨21,[],[]⟩),(4,⟨9,[],[]⟩)],[],[],[]⟩
theorem Yo:(W0 n).Sound PP:=A89 (fn:=Tryz.f175) (D:=Bj2 _ n) trivial

def F2 (a0:LI × Int × Int) (a1:Int):Option (Int × X5) :=
 bif (decide (a1<=1)) then
  some (0,a0)
 else
  bif (decide (a1<=256)) then
   ob (Qa n a0) λa =>
   gd (decide (a1 ≠ 0)) (
    some ((Int.tmod a.1 a1),a.2))
  else
   ob (Qa n a0) λb =>
   ob (Qa n b.2) λc =>
   ob (Qa n c.2) λd =>
   gd (decide (a1 ≠ 0)) (
    some ((Int.tmod (W ((W ((W (b.1*65536))+(W (c.1*256))))+d.1)) a1),d.2))
def Hp:Ent3:=⟨109,[.one (.ptr 126 A19),.im hI],[[.im hI]],λx=>F2 n x.1 x.2,[]⟩
def Bkn:D3 α:=⟨[(4,⟨0,[],[(1,Ce (W0 n) 310)]⟩),(5,⟨0,[],[(1,Ce (W0 n) 320)]⟩),(6,⟨0,[],[(1,Ce (W0 n) 330)]⟩),(7,⟨0,[],[(1,Ce (W0 n) 340)]⟩)],[],[],[]⟩
theorem Gx:(Hp n).Sound PP:=A89 (fn:=Tryz.f109) (D:=Bkn _ n) ⟨Yo n,Yo n,Yo n,Yo n,trivial⟩

def Adp (a0:LI × Int × Int) (a1:Int):Option (Bool × X5) :=
 ob (F2 n a0 a1) λa =>
 some ((a.1==(W (a1-1))),a.2)
def Awm:Ent3:=⟨173,[.one (.ptr 126 A19),.im hI],[[.im .bool]],λx=>Adp n x.1 x.2,[]⟩
def Bj4:D3 α:=⟨[(1,⟨0,[],[(2,Ce (Hp n) 310)]⟩)],[],[],[]⟩
theorem Bd6:(Awm n).Sound PP:=A89 (fn:=Tryz.f173) (D:=Bj4 _ n) ⟨Gx n,trivial⟩

def f174 (n:Nat) (a0:Bool):Option Int :=
 bif a0 then
  some 1
 else
  some 0
def Ss:Ent:=⟨174,[.bool],[hI],λx=>f174 n x⟩
def Bol (α:Type) (n:Nat):D3 α:=⟨[],[],[],[]⟩
theorem Qu:(Ss n).Sound PP:=B9 (fn:=Tryz.f174) (D:=Bol _ n) trivial

abbrev Be9:Tm:=⟨[X6,(1,.k (.hw 1001)),(2,.d hI),Ns,(4,.d .bool),(11,.d hI),(16,.d .bool)],[Ayq,(1001,.arr 85 hN false)],[],[]⟩
def Uk (n:Nat):Nat->X5->LN->Int->Int->Bool->Option (Unit × X5 × LN)
 | 0,_,_,_,_,_=>none
 | d+1,a0,a1,a2,a3,a4 =>
  ob (F2 n a0 9) λa =>
  let g:=λ(m:Bool)=>(
   bif m then
    ob (Adp n a.2 3) λh =>
    bif h.1 then
     ob (F2 n h.2 6) λj =>
     gd (decide ((a1.length+1)*32<=140737488355328)) (
      some ((),j.2,(a1++[(1,0,0,j.1)])))
    else
     ob (F2 n h.2 a3) λk =>
     gd (decide ((a1.length+1)*32<=140737488355328)) (
      some ((),k.2,(a1++[(2,0,0,k.1)])))
   else
    bif (a.1==3) then
     ob (Uk n d a.2 a1 (W (a2-1)) a3 a4) λc =>
     gd (decide ((c.2.2.length+1)*32<=140737488355328)) (
      some ((),c.2.1,(c.2.2++[(7,(W ((c.2.2.length:Int)-1)),0,0)])))
    else
     bif (a.1==4) then
      ob (Uk n d a.2 a1 (min (W (a2-1)) 2) a3 a4) λe =>
      ob (F2 n e.2.1 4) λl =>
      gd (decide ((e.2.2.length+1)*32<=140737488355328)) (
       some ((),l.2,(e.2.2++[(8,(W ((e.2.2.length:Int)-1)),0,l.1)])))
     else
      ob (f174 n a4) λo =>
      ob (F2 n a.2 (W (5+o))) λb =>
      gd (decide (0<=b.1)&&decide (b.1<6)) (
       gd (decide (b.1.toNat<6)) (
        ob (Uk n d b.2 a1 (W (a2-1)) a3 a4) λi =>
        ob (Uk n d i.2.1 i.2.2 (W (a2-1)) a3 a4) λf =>
        gd (decide ((f.2.2.length+1)*32<=140737488355328)) (
         some ((),f.2.1,(f.2.2++[(([3,3,4,5,5,6].getD b.1.toNat 0),(W ((i.2.2.length:Int)-1)),(W ((f.2.2.length:Int)-1)),0)]))))))
  bif (decide (a2<=1)) then
   g true
  else
   bif (decide ((a1.length:Int)>30)) then
    g true
   else
    g (decide (a.1<3))
def L3 (n d:Nat):Ent3:=⟨108,[.one (.ptr 126 A19),.one (.own 85 hN),.im hI,.im hI,.im .bool],[[.one (.back 1001)]],λx=>Uk n d x.1 x.2.1 x.2.2.1 x.2.2.2.1 x.2.2.2.2,[1001]⟩
def Axq (α:Type) (n d:Nat):D3 α:={ reg:=[(1,⟨0,[],[(1,Ce (Hp n) 310)]⟩),(3,⟨0,[],[(1,Ce (Awm n) 320)]⟩),(4,⟨0,[],[(2,Ce (Hp n) 330),(4,B4 hN)]⟩),(5,⟨0,[],[(3,Ce (Hp n) 340),(5,B4 hN)]⟩),(7,⟨0,[],[(6,{ entB:=some (L3 n d),hb:=350 })]⟩),(8,⟨0,[],[(5,B4 hN)]⟩),(10,⟨0,[],[(7,{ entB:=some (L3 n d),hb:=360 })]⟩),(11,⟨0,[],[(5,Ce (Hp n) 370),(7,B4 hN)]⟩),(12,⟨0,[],[Gn,(3,A3 (Ss n)),(5,Ce (Hp n) 380)]⟩),(13,⟨0,[],[(6,{ entB:=some (L3 n d),hb:=390 })]⟩),(15,⟨0,[],[(6,{ entB:=some (L3 n d),hb:=400 })]⟩),(16,⟨0,[],[(7,B4 hN)]⟩)],join:=[(3,Be9)],loop:=[] }
theorem B2d (α:Type) (n d:Nat) (hd:(L3 n d).Sound PP):Ap PP (Ae (Axq α n d).reg):=⟨Gx n,Bd6 n,Gx n,Gx n,hd,hd,Gx n,Qu n,Gx n,hd,hd,trivial⟩
theorem Bko (α:Type) (n d:Nat) (hd:(L3 n d).Sound PP):D3.OK PP TT ⟨114,[1001]⟩ (Axq α n d) (Af Tryz.f108) :=
 D3.OK.mk3 (B2d α n d hd) (by kernel_rfl:A9 _=[]) trivial
theorem As2 (n:Nat):∀ d,(L3 n d).Sound PP
 | 0=>λ_ _ _ h=>by cases h
 | d+1=>Vl (fn:=Tryz.f108) (Bko _ n d (As2 n d))

def Bcl (a0:LI × Int × Int) (a1:Int) (a2:Bool):Option (LN × X5) :=
 ob (F2 n a0 3) λb =>
 ob (Uk n n b.2 [] (W (2+b.1)) a1 a2) λa =>
 gd (decide ((0+a.2.2.length)*32<=140737488355328)) (
  some (a.2.2,a.2.1))
def B5z:Ent3:=⟨58,[.one (.ptr 126 A19),.im hI,.im .bool],[[.im hE]],λx=>Bcl n x.1 x.2.1 x.2.2,[]⟩
def Bmx:D3 α:=⟨[(1,⟨0,[],[(0,B4 hN),(2,B4 hN),(4,Ce (Hp n) 310),(8,{ entB:=some (L3 n n),hb:=320 })]⟩)],[],[],[]⟩
theorem Bhy:(B5z n).Sound PP:=A89 (fn:=Tryz.f58) (D:=Bmx _ n) ⟨Gx n,As2 n n,trivial⟩

def f20 (a0:LI) (a1:Int) (a2:Bool):Option LN :=
 ob (Agl n a0) λa =>
 ob (Bcl n a a1 a2) λb =>
 some b.1
def Bgb:Ent:=⟨20,[A12,hI,.bool],[hE],λx=>f20 n x.1 x.2.1 x.2.2⟩
def Brz:D3 α:=⟨[(1,⟨0,[],[(1,Ce (Apk n) 310),(4,Ce (B5z n) 320)]⟩)],[],[],[]⟩
theorem Bnu:(Bgb n).Sound PP:=B9 (fn:=Tryz.f20) (D:=Brz _ n) ⟨Avz n,Bhy n,trivial⟩

def f181 (n:Nat) (a0 a1 a2:Int):Option Bool :=
 bif (decide (a1<=a0)) then
  some (decide (a0<=a2))
 else
  some false
def E8:Ent:=⟨181,[hI,hI,hI],[.bool],λx=>f181 n x.1 x.2.1 x.2.2⟩
def Bof (α:Type) (n:Nat):D3 α:=⟨[],[],[],[]⟩
theorem De:(E8 n).Sound PP:=B9 (fn:=Tryz.f181) (D:=Bof _ n) trivial

def A9l {α:Type} (n:Nat) (a:Int) (b:LI) (f:Int->LI->Option α) (k0:LI->Option α):Option α :=
 bif (decide (a>0)) then
  gd (decide ((b.length+1)*8<=140737488355328)) (
   f (W (Int.tdiv a 10000)) (b++[(Int.tmod a 10000)]))
 else
  k0 b
abbrev Yj:Tm:=⟨[(0,.d hI),(3,.k (.hw 4))],[(4,.arr 3 hI false)],[10],[]⟩
abbrev Ajh:Tm:=⟨[(3,.k (.hw 4))],[(4,.arr 3 hI false)],[],[]⟩
abbrev A9k:List (Exit × Tm):=[(.exit 0,Ajh)]
def A9j {α:Type} (v:Yj.den) (f:Yj.den->Option α) (ks:KS α A9k):Option α:=A9l n v.1.1 v.2.1 (λa b=>f ((a,(),()),(b,()))) (λw0=>ks.1 (((),()),(w0,())))
def A5p {α:Type} (n m:Nat) (a:Int) (b:LI) (k0:LI->Option α):Option α:=A4 (A9j n) m ((a,(),()),(b,())) (λw=>k0 w.2.1,())
theorem B73 {α n m a b k0}:A5p (α:=α) n (m+1) a b k0=A9l n a b (λa b=>A5p n m a b k0) k0:=rfl
def f194 (a0:Int):Option LI :=
 A5p n n a0 []
  (λa=>(
   some a))
def A36:Ent:=⟨194,[hI],[hIs],λx=>f194 n x⟩
def Aqi:D3 α:=⟨[(1,⟨0,[],[Gn]⟩),(3,⟨0,[],[(3,B4 hI)]⟩)],[],[(2,⟨Yj,A9k,A4 (A9j n) n⟩)],[]⟩
theorem Ajg:Ap PP (Ae (Aqi α n).reg):=trivial
theorem B16:LO.Sound (α:=α) PP ⟨15,[]⟩ ⟨Yj,A9k,A4 (A9j n) n⟩ (.loop (Ai Tryz.f194 35)):=Cb (D:=Aqi α n) (Ajg α n) n
theorem Bo9:D3.OK PP TT ⟨15,[]⟩ (Aqi α n) (Af Tryz.f194) :=
 D3.OK.mk3 (Ajg α n) (by kernel_rfl:A9 _=[(2,.loop (Ai Tryz.f194 35))]) ⟨Aa rfl (B16 α n),trivial⟩
theorem A5o:(A36 n).Sound PP:=fk (fn:=Tryz.f194) (Bo9 _ n)

def f131 (a0:Int):Option Rq :=
 bif (decide (a0<0)) then
  ob (f194 n (W (0-a0))) λa =>
  some (true,a,[1])
 else
  ob (f194 n a0) λb =>
  some (false,b,[1])
def Hf:Ent:=⟨131,[hI],[hR],λx=>f131 n x⟩
def Bpk:D3 α:=⟨[(2,⟨0,[],[(2,A3 (A36 n)),(3,B4 hI)]⟩),(3,⟨0,[],[(1,A3 (A36 n)),(2,B4 hI)]⟩)],[],[],[]⟩
theorem Dl:(Hf n).Sound PP:=B9 (fn:=Tryz.f131) (D:=Bpk _ n) ⟨A5o n,A5o n,trivial⟩

def A8l {α:Type} (n:Nat) (b:LI) (a:Int) (f:LI->Int->Option α) (k0:LI->Int->Option α):Option α :=
 bif (decide (a>0)) then
  gd (decide (0<=(W (a-1)))&&decide ((W (a-1))<(b.length:Int))) (
   bif ((b.getD ((W (a-1)).toNat) 0)==0) then
    f b (W (a-1))
   else
    k0 b a)
 else
  k0 b a
abbrev Dd:Tm:=⟨[Hs,Ns],[],[],[]⟩
abbrev A8k:List (Exit × Tm):=[(.exit 0,Dd)]
def A8j {α:Type} (v:Dd.den) (f:Dd.den->Option α) (ks:KS α A8k):Option α:=A8l n v.1.1 v.1.2.1 (λa b=>f ((a,b,()),())) (λw0 w1=>ks.1 ((w0,w1,()),()))
def A5j {α:Type} (n m:Nat) (a:LI) (b:Int) (k0:LI->Int->Option α):Option α:=A4 (A8j n) m ((a,b,()),()) (λw=>k0 w.1.1 w.1.2.1,())
theorem B6g {α n m a b k0}:A5j (α:=α) n (m+1) a b k0=A8l n a b (λa b=>A5j n m a b k0) k0:=rfl
def f216 (a0:LI):Option LI :=
 A5j n n a0 (a0.length:Int)
  (λb a=>(
   gd (decide (0<=a)&&decide (a<=(b.length:Int))) (
    gd (decide ((0+((b.drop 0).take (a.toNat-0)).length)*8<=140737488355328)) (
     some ((b.drop 0).take (a.toNat-0))))))
def A2t:Ent:=⟨216,[hIs],[hIs],λx=>f216 n x⟩
def Apw:D3 α:=⟨[(4,⟨0,[],[Gn]⟩)],[],[(2,⟨Dd,A8k,A4 (A8j n) n⟩)],[]⟩
theorem Aj1:Ap PP (Ae (Apw α n).reg):=trivial
theorem B0p:LO.Sound (α:=α) PP ⟨23,[]⟩ ⟨Dd,A8k,A4 (A8j n) n⟩ (.loop (Ai Tryz.f216 35)):=Cb (D:=Apw α n) (Aj1 α n) n
theorem Bnn:D3.OK PP TT ⟨23,[]⟩ (Apw α n) (Af Tryz.f216) :=
 D3.OK.mk3 (Aj1 α n) (by kernel_rfl:A9 _=[(2,.loop (Ai Tryz.f216 35))]) ⟨Aa rfl (B0p α n),trivial⟩
theorem A5h:(A2t n).Sound PP:=fk (fn:=Tryz.f216) (Bnn _ n)

def A99 {α:Type} (b c:LI) (a:Int) (f:LI->LI->Int->Option α) (k0:Int->Option α) (k1:Unit->Option α):Option α :=
 bif (decide (a>=0)) then
  gd (decide (0<=a)&&decide (a<(b.length:Int))) (
   gd (decide (0<=a)&&decide (a<(c.length:Int))) (
    bif ((b.getD a.toNat 0) != (c.getD a.toNat 0)) then
     gd (decide (0<=a)&&decide (a<(b.length:Int))) (
      gd (decide (0<=a)&&decide (a<(c.length:Int))) (
       ob (f174 n (decide ((b.getD a.toNat 0)>(c.getD a.toNat 0)))) λd =>
       k0 (W ((W (2*d))-1))))
    else
     f b c (W (a-1))))
 else
  k1 ()
abbrev Ib:Tm:=⟨[Hs,Eg,Ik],[],[],[]⟩
abbrev Oo:Tm:=⟨[(4,.d hI)],[],[],[]⟩
abbrev Gl:Tm:=⟨[],[],[],[]⟩
abbrev A98:List (Exit × Tm):=[(.ret,Oo),(.exit 0,Gl)]
def A97 {α:Type} (v:Ib.den) (f:Ib.den->Option α) (ks:KS α A98):Option α:=A99 n v.1.1 v.1.2.1 v.1.2.2.1 (λa b c=>f ((a,b,c,()),())) (λw0=>ks.1 ((w0,()),())) (λ_=>ks.2.1 ((),()))
def A5n {α:Type} (n m:Nat) (a b:LI) (c:Int) (k0:Int->Option α) (k1:Unit->Option α):Option α:=A4 (A97 n) m ((a,b,c,()),()) (λw=>k0 w.1.1,λw=>k1 (),())
theorem B6w {α n m a b c k0 k1}:A5n (α:=α) n (m+1) a b c k0 k1=A99 n a b c (λa b c=>A5n n m a b c k0 k1) k0 k1:=rfl
def f199 (a0 a1:LI):Option Int :=
 bif ((a0.length:Int) != (a1.length:Int)) then
  ob (f174 n (decide ((a0.length:Int)>(a1.length:Int)))) λa =>
  some (W ((W (2*a))-1))
 else
  A5n n n a0 a1 (W ((a0.length:Int)-1))
   (λb=>(
    some b))
   (λ(_:Unit)=>(
    some 0))
def A34:Ent:=⟨199,[hIs,hIs],[hI],λx=>f199 n x.1 x.2⟩
def Aqg:D3 α:=⟨[(2,⟨0,[],[(5,A3 (Ss n))]⟩),(6,⟨8,[],[]⟩),(7,⟨8,[],[(9,A3 (Ss n))]⟩)],[],[(4,⟨Ib,A98,A4 (A97 n) n⟩)],[]⟩
theorem Aje:Ap PP (Ae (Aqg α n).reg):=⟨Qu n,Qu n,trivial⟩
theorem B12:LO.Sound (α:=α) PP ⟨47,[]⟩ ⟨Ib,A98,A4 (A97 n) n⟩ (.loop (Ai Tryz.f199 75)):=Cb (D:=Aqg α n) (Aje α n) n
theorem Bo5:D3.OK PP TT ⟨47,[]⟩ (Aqg α n) (Af Tryz.f199) :=
 D3.OK.mk3 (Aje α n) (by kernel_rfl:A9 _=[(4,.loop (Ai Tryz.f199 75))]) ⟨Aa rfl (B12 α n),trivial⟩
theorem A5m:(A34 n).Sound PP:=fk (fn:=Tryz.f199) (Bo5 _ n)

def A9f {α:Type} (n:Nat) (e d:LI) (b g a:Int) (c:LI) (f:LI->LI->Int->Int->Int->LI->Option α) (k0:LI->LI->Int->LI->Option α):Option α :=
 let h:=λ(_:Unit)=>(
  gd (decide (0<=(W (b+a)))&&decide ((W (b+a))<(c.length:Int))) (
   gd (decide ((W (b+a)).toNat<c.length)) (
    let i:=λ(j:Int)=>(
     gd (decide (0<=(W (b+a)))&&decide ((W (b+a))<(c.length:Int))) (
      gd (decide ((W (b+a)).toNat<c.length)) (
       f e d b (W (Int.tdiv j 10000)) (W (a+1)) (c.set ((W (b+a)).toNat) (Int.tmod j 10000)))))
    bif (decide (a<(d.length:Int))) then
     gd (decide (0<=b)&&decide (b<(e.length:Int))) (
      gd (decide (0<=a)&&decide (a<(d.length:Int))) (
       i (W ((W ((c.getD ((W (b+a)).toNat) 0)+g))+(W ((e.getD b.toNat 0)*(d.getD a.toNat 0)))))))
    else
     i (W ((c.getD ((W (b+a)).toNat) 0)+g)))))
 bif (decide (a<(d.length:Int))) then
  h ()
 else
  bif (decide (g>0)) then
   h ()
  else
   k0 e d b c
abbrev Sq:Tm:=⟨[Hs,Eg,Xc,Ed,Dr,Ee],[(16,.arr 3 hI false)],[],[]⟩
abbrev Oq:Tm:=⟨[Hs,Eg,Xc,Ed],[(16,.arr 3 hI false)],[],[]⟩
abbrev A9e:List (Exit × Tm):=[(.exit 2,Oq)]
def A9d {α:Type} (v:Sq.den) (f:Sq.den->Option α) (ks:KS α A9e):Option α:=A9f n v.1.1 v.1.2.1 v.1.2.2.2.1 v.1.2.2.2.2.1 v.1.2.2.2.2.2.1 v.2.1 (λa b c d e g=>f ((a,b,(),c,d,e,()),(g,()))) (λw0 w1 w2 w3=>ks.1 ((w0,w1,(),w2,()),(w3,())))
def Qr {α:Type} (n m:Nat) (a b:LI) (c d e:Int) (f:LI) (k0:LI->LI->Int->LI->Option α):Option α:=A4 (A9d n) m ((a,b,(),c,d,e,()),(f,())) (λw=>k0 w.1.1 w.1.2.1 w.1.2.2.2.1 w.2.1,())
theorem B6z {α n m a b c d e f k0}:Qr (α:=α) n (m+1) a b c d e f k0=A9f n a b c d e f (λa b c d e f=>Qr n m a b c d e f k0) k0:=rfl
def A9i {α:Type} (a d:LI) (b:Int) (c:LI) (f:LI->LI->Int->LI->Option α) (k0:LI->Option α):Option α :=
 bif (decide (b<(a.length:Int))) then
  Qr n n a d b 0 0 c
   (λe g h i=>(
    f e g (W (h+1)) i))
 else
  k0 c
abbrev B72:Tm:=⟨[Xc],[(16,.arr 3 hI false)],[],[]⟩
abbrev A9h:List (Exit × Tm):=[(.exit 0,B72)]
def A9g {α:Type} (v:Oq.den) (f:Oq.den->Option α) (ks:KS α A9h):Option α:=A9i n v.1.1 v.1.2.1 v.1.2.2.2.1 v.2.1 (λa b c d=>f ((a,b,(),c,()),(d,()))) (λw0=>ks.1 (((),()),(w0,())))
def Qs {α:Type} (n m:Nat) (a b:LI) (c:Int) (d:LI) (k0:LI->Option α):Option α:=A4 (A9g n) m ((a,b,(),c,()),(d,())) (λw=>k0 w.2.1,())
theorem B70 {α n m a b c d k0}:Qs (α:=α) n (m+1) a b c d k0=A9i n a b c d (λa b c d=>Qs n m a b c d k0) k0:=rfl
abbrev Bd2:Tm:=⟨[Hs,Eg,Xc,Ed,Ee,G0],[(16,.arr 3 hI false)],[],[]⟩
def f196 (a0 a1:LI):Option LI :=
 gd (decide (0<=(W ((W ((a0.length:Int)+(a1.length:Int)))+1)))&&decide ((W ((W ((a0.length:Int)+(a1.length:Int)))+1))<=4611686018427387904)&&decide ((8:Int)*(W ((W ((a0.length:Int)+(a1.length:Int)))+1))<=281474976710656)) (
  Qs n n a0 a1 0 (List.replicate ((W ((W ((a0.length:Int)+(a1.length:Int)))+1)).toNat) 0)
   (λa=>(
    ob (f216 n a) λb =>
    some b)))
def Or:Ent:=⟨196,[hIs,hIs],[hIs],λx=>f196 n x.1 x.2⟩
def Adn:D3 α:=⟨[(11,⟨10,[],[]⟩),(14,⟨0,[],[(1,{ ent:=some (A2t n),fz:=[(65,hIs)] })]⟩)],[(9,Sq),(12,Bd2)],[(7,⟨Sq,A9e,A4 (A9d n) n⟩),(3,⟨Oq,A9h,A4 (A9g n) n⟩)],[]⟩
theorem A35:Ap PP (Ae (Adn α n).reg):=⟨A5h n,trivial⟩
theorem B14:LO.Sound (α:=α) PP ⟨67,[]⟩ ⟨Sq,A9e,A4 (A9d n) n⟩ (.loop (Ai Tryz.f196 9803)):=Cb (D:=Adn α n) (A35 α n) n
theorem B71:D3.OK PP TT ⟨67,[]⟩ (Adn α n) (Ai Tryz.f196 75) :=
 D3.OK.mk3 (A35 α n) (by kernel_rfl:A9 _=[(7,.loop (Ai Tryz.f196 9803))]) ⟨Aa rfl (B14 α n),trivial⟩
theorem B15:LO.Sound (α:=α) PP ⟨67,[]⟩ ⟨Oq,A9h,A4 (A9g n) n⟩ (.loop (Ai Tryz.f196 75)):=lk (B71 α n) n
theorem Bo8:D3.OK PP TT ⟨67,[]⟩ (Adn α n) (Af Tryz.f196) :=
 D3.OK.mk3 (A35 α n) (by kernel_rfl:A9 _=[(3,.loop (Ai Tryz.f196 75))]) ⟨Aa rfl (B15 α n),trivial⟩
theorem It:(Or n).Sound PP:=fk (fn:=Tryz.f196) (Bo8 _ n)

def A96 {α:Type} (b c:LI) (e a:Int) (d:LI) (f:LI->LI->Int->Int->LI->Option α) (k0:LI->Option α):Option α :=
 bif (decide (a<(b.length:Int))) then
  gd (decide (0<=a)&&decide (a<(b.length:Int))) (
   let g:=λ(h:Int)=>(
    ob (f174 n (decide (h<0))) λi =>
    gd (decide ((d.length+1)*8<=140737488355328)) (
     f b c i (W (a+1)) (d++[(W (h+(W (i*10000))))])))
   bif (decide (a<(c.length:Int))) then
    gd (decide (0<=a)&&decide (a<(c.length:Int))) (
     g (W ((W ((b.getD a.toNat 0)-e))-(c.getD a.toNat 0))))
   else
    g (W ((b.getD a.toNat 0)-e)))
 else
  k0 d
abbrev Yh:Tm:=⟨[Hs,Eg,(5,.k (.hw 9)),Ed,Dr],[(9,.arr 3 hI false)],[40],[]⟩
abbrev B6v:Tm:=⟨[(5,.k (.hw 9))],[(9,.arr 3 hI false)],[],[]⟩
abbrev A95:List (Exit × Tm):=[(.exit 0,B6v)]
def A94 {α:Type} (v:Yh.den) (f:Yh.den->Option α) (ks:KS α A95):Option α:=A96 n v.1.1 v.1.2.1 v.1.2.2.2.1 v.1.2.2.2.2.1 v.2.1 (λa b c d e=>f ((a,b,(),c,d,()),(e,()))) (λw0=>ks.1 (((),()),(w0,())))
def Qp {α:Type} (n m:Nat) (a b:LI) (c d:Int) (e:LI) (k0:LI->Option α):Option α:=A4 (A94 n) m ((a,b,(),c,d,()),(e,())) (λw=>k0 w.2.1,())
theorem B6u {α n m a b c d e k0}:Qp (α:=α) n (m+1) a b c d e k0=A96 n a b c d e (λa b c d e=>Qp n m a b c d e k0) k0:=rfl
abbrev Bih:Tm:=⟨[Hs,Eg,(5,.k (.hw 9)),Dr,Ee],[(9,.arr 3 hI false)],[],[]⟩
def f200 (a0 a1:LI):Option LI :=
 Qp n n a0 a1 0 0 []
  (λa=>(
   ob (f216 n a) λb =>
   some b))
def Adm:Ent:=⟨200,[hIs,hIs],[hIs],λx=>f200 n x.1 x.2⟩
def Aqf:D3 α:=⟨[(1,⟨0,[],[Gn]⟩),(9,⟨0,[],[(2,A3 (Ss n))]⟩),(10,⟨0,[],[(5,B4 hI)]⟩),(11,⟨0,[],[(1,{ ent:=some (A2t n),fz:=[(42,hIs)] })]⟩)],[(9,Bih)],[(4,⟨Yh,A95,A4 (A94 n) n⟩)],[]⟩
theorem Ajd:Ap PP (Ae (Aqf α n).reg):=⟨Qu n,A5h n,trivial⟩
theorem B11:LO.Sound (α:=α) PP ⟨44,[]⟩ ⟨Yh,A95,A4 (A94 n) n⟩ (.loop (Ai Tryz.f200 151)):=Cb (D:=Aqf α n) (Ajd α n) n
theorem Bo4:D3.OK PP TT ⟨44,[]⟩ (Aqf α n) (Af Tryz.f200) :=
 D3.OK.mk3 (Ajd α n) (by kernel_rfl:A9 _=[(4,.loop (Ai Tryz.f200 151))]) ⟨Aa rfl (B11 α n),trivial⟩
theorem Ah3:(Adm n).Sound PP:=fk (fn:=Tryz.f200) (Bo4 _ n)

def A2s {α:Type} (e c d:LI) (g a b:Int) (h:LI) (f:LI->LI->LI->Int->Int->Int->LI->Option α) (k0:LI->LI->LI->Int->Int->LI->Option α):Option α :=
 bif (decide ((W (b-a))>1)) then
  ob (f194 n (W (Int.tdiv (W (a+b)) 2))) λi =>
  ob (f196 n c i) λj =>
  ob (f199 n j d) λk =>
  bif (decide (k<=0)) then
   f e c d g (W (Int.tdiv (W (a+b)) 2)) b h
  else
   f e c d g a (W (Int.tdiv (W (a+b)) 2)) h
 else
  k0 e c d g a h
abbrev U8:Tm:=⟨[Hs,Eg,(6,.k (.hw 14)),(7,.d hIs),Ee,G0,(10,.d hI)],[(14,.arr 3 hI false)],[27],[]⟩
abbrev B0o:Tm:=⟨[Hs,Eg,(6,.k (.hw 14)),(7,.d hIs),Ee,G0],[(14,.arr 3 hI false)],[],[]⟩
abbrev A2r:List (Exit × Tm):=[(.exit 2,B0o)]
def A2q {α:Type} (v:U8.den) (f:U8.den->Option α) (ks:KS α A2r):Option α:=A2s n v.1.1 v.1.2.1 v.1.2.2.2.1 v.1.2.2.2.2.1 v.1.2.2.2.2.2.1 v.1.2.2.2.2.2.2.1 v.2.1 (λa b c d e g h=>f ((a,b,(),c,d,e,g,()),(h,()))) (λw0 w1 w2 w3 w4 w5=>ks.1 ((w0,w1,(),w2,w3,w4,()),(w5,())))
def Sa {α:Type} (n m:Nat) (a b c:LI) (d e f:Int) (g:LI) (k0:LI->LI->LI->Int->Int->LI->Option α):Option α:=A4 (A2q n) m ((a,b,(),c,d,e,f,()),(g,())) (λw=>k0 w.1.1 w.1.2.1 w.1.2.2.2.1 w.1.2.2.2.2.1 w.1.2.2.2.2.2.1 w.2.1,())
theorem B0n {α n m a b c d e f g k0}:Sa (α:=α) n (m+1) a b c d e f g k0=A2s n a b c d e f g (λa b c d e f g=>Sa n m a b c d e f g k0) k0:=rfl
def Yd {α:Type} (c d e:LI) (a:Int) (g:LI) (f:LI->LI->LI->Int->LI->Option α) (k0:LI->LI->Option α):Option α :=
 bif (decide (a>=0)) then
  gd (decide (0<=a)&&decide (a<(c.length:Int))) (
   gd (decide ((1+e.length)*8<=140737488355328)) (
    ob (f216 n ([(c.getD a.toNat 0)]++e)) λh =>
    ob (f199 n h d) λl =>
    bif (decide (l<0)) then
     f c d h (W (a-1)) g
    else
     Sa n n c d h a 0 10000 g
      (λm j o b k i=>(
       gd (decide (0<=b)&&decide (b<(i.length:Int))) (
        gd (decide (b.toNat<i.length)) (
         ob (f194 n k) λp =>
         ob (f196 n j p) λq =>
         ob (f200 n o q) λr =>
         f m j r (W (b-1)) (i.set b.toNat k)))))))
 else
  k0 e g
abbrev Yc:Tm:=⟨[Hs,Eg,(6,.k (.hw 14)),(7,.d hIs),Ee],[(14,.arr 3 hI false)],[15,27],[(7,hIs)]⟩
abbrev B6f:Tm:=⟨[(6,.k (.hw 14)),(7,.d hIs)],[(14,.arr 3 hI false)],[],[]⟩
abbrev A8i:List (Exit × Tm):=[(.exit 0,B6f)]
def A8h {α:Type} (v:Yc.den) (f:Yc.den->Option α) (ks:KS α A8i):Option α:=Yd n v.1.1 v.1.2.1 v.1.2.2.2.1 v.1.2.2.2.2.1 v.2.1 (λa b c d e=>f ((a,b,(),c,d,()),(e,()))) (λw0 w1=>ks.1 (((),w0,()),(w1,())))
def Vs {α:Type} (n m:Nat) (a b c:LI) (d:Int) (e:LI) (k0:LI->LI->Option α):Option α:=A4 (A8h n) m ((a,b,(),c,d,()),(e,())) (λw=>k0 w.1.2.1 w.2.1,())
theorem Aj0 {α n m a b c d e k0}:Vs (α:=α) n (m+1) a b c d e k0=Yd n a b c d e (λa b c d e=>Vs n m a b c d e k0) k0:=rfl
def f217 (a0 a1:LI):Option (LI × LI) :=
 gd (decide (0<=(a0.length:Int))&&decide ((a0.length:Int)<=4611686018427387904)&&decide ((8:Int)*(a0.length:Int)<=281474976710656)) (
  Vs n n a0 a1 [] (W ((a0.length:Int)-1)) (List.replicate ((a0.length:Int).toNat) 0)
   (λa b=>(
    ob (f216 n b) λc =>
    some (c,a))))
def Add:Ent:=⟨217,[hIs,hIs],[hIs,hIs],λx=>f217 n x.1 x.2⟩
def Ade:D3 α:=⟨[(2,⟨0,[],[Gn]⟩),(6,⟨0,[],[(4,B4 hI),(7,{ ent:=some (A2t n),fz:=[(29,hIs)] })]⟩),(7,⟨0,[],[(2,A3 (A34 n))]⟩),(12,⟨0,[],[(2,A3 (A36 n)),(3,A3 (Or n)),(5,A3 (A34 n))]⟩),(16,⟨0,[],[(3,A3 (A36 n)),(4,A3 (Or n)),(5,A3 (Adm n))]⟩),(17,⟨0,[],[(1,{ ent:=some (A2t n),fz:=[(62,hIs)] })]⟩)],[],[(10,⟨U8,A2r,A4 (A2q n) n⟩),(4,⟨Yc,A8i,A4 (A8h n) n⟩)],[]⟩
theorem A2p:Ap PP (Ae (Ade α n).reg):=⟨A5h n,A5m n,A5o n,It n,A5m n,A5o n,It n,Ah3 n,A5h n,trivial⟩
theorem Au3:LO.Sound (α:=α) PP ⟨65,[]⟩ ⟨U8,A2r,A4 (A2q n) n⟩ (.loop (Ai Tryz.f217 146583)):=Cb (D:=Ade α n) (A2p α n) n
theorem B6e:D3.OK PP TT ⟨65,[]⟩ (Ade α n) (Ai Tryz.f217 151) :=
 D3.OK.mk3 (A2p α n) (by kernel_rfl:A9 _=[(10,.loop (Ai Tryz.f217 146583))]) ⟨Aa rfl (Au3 α n),trivial⟩
theorem B0m:LO.Sound (α:=α) PP ⟨65,[]⟩ ⟨Yc,A8i,A4 (A8h n) n⟩ (.loop (Ai Tryz.f217 151)):=lk (B6e α n) n
theorem Bnm:D3.OK PP TT ⟨65,[]⟩ (Ade α n) (Af Tryz.f217) :=
 D3.OK.mk3 (A2p α n) (by kernel_rfl:A9 _=[(4,.loop (Ai Tryz.f217 151))]) ⟨Aa rfl (B0m α n),trivial⟩
theorem Agx:(Add n).Sound PP:=fk (fn:=Tryz.f217) (Bnm _ n)

def A8o {α:Type} (b a:LI) (f:LI->LI->Option α) (k0:LI->Option α):Option α :=
 bif (decide ((a.length:Int)>0)) then
  ob (f217 n b a) λc =>
  f a c.2
 else
  k0 b
abbrev Ia:Tm:=⟨[Hs,Eg],[],[],[]⟩
abbrev A2u:Tm:=⟨[Hs],[],[],[]⟩
abbrev A8n:List (Exit × Tm):=[(.exit 0,A2u)]
def A8m {α:Type} (v:Ia.den) (f:Ia.den->Option α) (ks:KS α A8n):Option α:=A8o n v.1.1 v.1.2.1 (λa b=>f ((a,b,()),())) (λw0=>ks.1 ((w0,()),()))
def Mz {α:Type} (n m:Nat) (a b:LI) (k0:LI->Option α):Option α:=A4 (A8m n) m ((a,b,()),()) (λw=>k0 w.1.1,())
theorem Aj3 {α n m a b k0}:Mz (α:=α) n (m+1) a b k0=A8o n a b (λa b=>Mz n m a b k0) k0:=rfl
def f213 (a0 a1:LI):Option LI :=
 Mz n n a0 a1
  (λa=>(
   gd (decide ((0+a.length)*8<=140737488355328)) (
    some a)))
def Apx:Ent:=⟨213,[hIs,hIs],[hIs],λx=>f213 n x.1 x.2⟩
def Apy:D3 α:=⟨[(2,⟨0,[],[(2,A3 (Add n))]⟩),(5,⟨0,[],[Gn]⟩)],[],[(1,⟨Ia,A8n,A4 (A8m n) n⟩)],[]⟩
theorem Aj2:Ap PP (Ae (Apy α n).reg):=⟨Agx n,trivial⟩
theorem B0q:LO.Sound (α:=α) PP ⟨21,[]⟩ ⟨Ia,A8n,A4 (A8m n) n⟩ (.loop (Ai Tryz.f213 17)):=Cb (D:=Apy α n) (Aj2 α n) n
theorem Bnq:D3.OK PP TT ⟨21,[]⟩ (Apy α n) (Af Tryz.f213) :=
 D3.OK.mk3 (Aj2 α n) (by kernel_rfl:A9 _=[(1,.loop (Ai Tryz.f213 17))]) ⟨Aa rfl (B0q α n),trivial⟩
theorem Aw8:(Apx n).Sound PP:=fk (fn:=Tryz.f213) (Bnq _ n)

def f197 (a0:Bool) (a1 a2:LI):Option Rq :=
 ob (f213 n a1 a2) λb =>
 ob (f217 n a1 b) λa =>
 ob (f217 n a2 b) λc =>
 bif a0 then
  some ((decide ((a.1.length:Int)>0)),a.1,c.1)
 else
  some (false,a.1,c.1)
def Vy:Ent:=⟨197,[.bool,hIs,hIs],[hR],λx=>f197 n x.1 x.2.1 x.2.2⟩
def Bo7:D3 α:=⟨[(1,⟨0,[],[(2,A3 (Apx n))]⟩),(2,⟨0,[],[(2,A3 (Add n))]⟩),(3,⟨0,[],[(2,A3 (Add n))]⟩)],[],[],[]⟩
theorem Qq:(Vy n).Sound PP:=B9 (fn:=Tryz.f197) (D:=Bo7 _ n) ⟨Aw8 n,Agx n,Agx n,trivial⟩

def f176 (a0 a1:Int):Option (Rq × Int) :=
 ob (f181 n a0 (-1000000000) 1000000000) λc =>
 bif (!c) then
  some ((false,[],[]),4)
 else
  ob (f181 n a1 (-1000000000) 1000000000) λd =>
  bif (!d) then
   some ((false,[],[]),4)
  else
   bif (a1==0) then
    some ((false,[],[]),9)
   else
    ob (f131 n a0) λa =>
    ob (f131 n a1) λb =>
    ob (f197 n (!(a.1==b.1)) a.2.1 b.2.1) λe =>
    some (e,0)
def B7f:Ent:=⟨176,[hI,hI],[hR,hI],λx=>f176 n x.1 x.2⟩
abbrev A4g:Nat × OA:=(1,A3 (Hf n))
def Bok:D3 α:=⟨[(1,⟨0,[],[(1,A3 (E8 n)),(5,A3 (E8 n))]⟩),(5,⟨0,[],[(A4g n)]⟩),(6,⟨0,[],[(A4g n)]⟩),(7,⟨0,[],[(9,A3 (Vy n))]⟩)],[],[],[]⟩
theorem Bj1:(B7f n).Sound PP:=B9 (fn:=Tryz.f176) (D:=Bok _ n) ⟨De n,De n,Dl n,Dl n,Qq n,trivial⟩

def Uj (a0:LI × Int × Int):Option (Rq × X5) :=
 ob (F2 n a0 21) λa =>
 ob (F2 n a.2 6) λb =>
 ob (f176 n (W (a.1-10)) (W (1+b.1))) λc =>
 some (c.1,b.2)
def Axp:Ent3:=⟨110,[.one (.ptr 126 A19)],[[.im hR]],λx=>Uj n x,[]⟩
def Bkm:D3 α:=⟨[(1,⟨0,[],[(1,Ce (Hp n) 310),(4,Ce (Hp n) 320),(6,A3 (B7f n))]⟩)],[],[],[]⟩
theorem Be8:(Axp n).Sound PP:=A89 (fn:=Tryz.f110) (D:=Bkm _ n) ⟨Gx n,Gx n,Bj1 n,trivial⟩

def Y3 {α:Type} (c d:Int) (b:LR) (e:LI) (g h:Int) (f:Int->Int->LR->LI->Int->Int->Option α) (k0:LR->LI->Int->Int->Option α):Option α :=
 bif (decide (d<c)) then
  ob (Uj n (e,g,h)) λa =>
  gd (decide ((b.length+1)*56<=140737488355328)) (
   f c (W (d+1)) (b++[a.1]) a.2.1 a.2.2.1 a.2.2.2)
 else
  k0 b e g h
abbrev Y2:Tm:=⟨[X6,(1,.d hI),A4c,Ed],[A4k,Ayq],[16],[]⟩
abbrev B5x:Tm:=⟨[A4c],[A4k,Ayq],[],[]⟩
abbrev A8f:List (Exit × Tm):=[(.exit 0,B5x)]
def A8e {α:Type} (v:Y2.den) (f:Y2.den->Option α) (ks:KS α A8f):Option α:=Y3 n v.1.2.1 v.1.2.2.2.1 v.2.1 v.2.2.1.1 v.2.2.1.2.1 v.2.2.1.2.2.1 (λa b c d e g=>f (((),a,(),b,()),(c,(d,e,g,()),()))) (λw0 w1 w2 w3=>ks.1 (((),()),(w0,(w1,w2,w3,()),())))
def Mx {α:Type} (n m:Nat) (a b:Int) (c:LR) (d:LI) (e f:Int) (k0:LR->LI->Int->Int->Option α):Option α:=A4 (A8e n) m (((),a,(),b,()),(c,(d,e,f,()),())) (λw=>k0 w.2.1 w.2.2.1.1 w.2.2.1.2.1 w.2.2.1.2.2.1,())
theorem Aiz {α n m a b c d e f k0}:Mx (α:=α) n (m+1) a b c d e f k0=Y3 n a b c d e f (λa b c d e f=>Mx n m a b c d e f k0) k0:=rfl
def B0c (a0:LI × Int × Int) (a1:Int):Option (LR × X5) :=
 Mx n n a1 0 [] a0.1 a0.2.1 a0.2.2
  (λa b c d=>(
   some (a,(b,c,d))))
def B5y:Ent3:=⟨59,[.one (.ptr 126 A19),.im hI],[[.im hRs]],λx=>B0c n x.1 x.2,[]⟩
def Apj:D3 α:=⟨[(1,⟨0,[],F5⟩),(5,⟨0,[],[(2,Ce (Axp n) 310),(3,B4 hR)]⟩)],[],[(3,⟨Y2,A8f,A4 (A8e n) n⟩)],[]⟩
theorem Aiy:Ap PP (Ae (Apj α n).reg):=⟨Be8 n,trivial⟩
theorem B0b:LO.Sound (α:=α) PP ⟨19,[]⟩ ⟨Y2,A8f,A4 (A8e n) n⟩ (.loop (Ai Tryz.f59 75)):=Cb (D:=Apj α n) (Aiy α n) n
theorem Bmw:D3.OK PP TT ⟨19,[]⟩ (Apj α n) (Af Tryz.f59) :=
 D3.OK.mk3 (Aiy α n) (by kernel_rfl:A9 _=[(3,.loop (Ai Tryz.f59 75))]) ⟨Aa rfl (B0b α n),trivial⟩
theorem Bhx:(B5y n).Sound PP:=Vl (fn:=Tryz.f59) (Bmw _ n)

def f21 (a0:LI) (a1:Int):Option LR :=
 ob (Agl n a0) λa =>
 ob (B0c n a a1) λb =>
 some b.1
def B0k:Ent:=⟨21,[A12,hI],[hRs],λx=>f21 n x.1 x.2⟩
def Bry:D3 α:=⟨[(1,⟨0,[],[(1,Ce (Apk n) 310),(3,Ce (B5y n) 320)]⟩)],[],[],[]⟩
theorem B69:(B0k n).Sound PP:=B9 (fn:=Tryz.f21) (D:=Bry _ n) ⟨Avz n,Bhx n,trivial⟩

def f177 (n:Nat) (a0 a1 a2:Int):Option Bool :=
 bif (decide (a1<=a0)) then
  some (decide (a0<=a2))
 else
  some false
def Ot:Ent:=⟨177,[hI,hI,hI],[.bool],λx=>f177 n x.1 x.2.1 x.2.2⟩
def Boj (α:Type) (n:Nat):D3 α:=⟨[],[],[],[]⟩
theorem N7:(Ot n).Sound PP:=B9 (fn:=Tryz.f177) (D:=Boj _ n) trivial

def f223 (a0:Nq):Option Bool :=
 bif (a0.1==1) then
  ob (f177 n a0.2.2.2 0 999999999) λa =>
  some a
 else
  bif (a0.1==2) then
   ob (f177 n a0.2.2.2 0 3) λb =>
   some b
  else
   bif (a0.1==8) then
    ob (f177 n a0.2.2.2 0 8) λc =>
    some c
   else
    some (a0.2.2.2==0)
def B68:Ent:=⟨223,[hN],[.bool],λx=>f223 n x⟩
def Bnh:D3 α:=⟨[(3,⟨0,[],[(2,A3 (Ot n))]⟩),(5,⟨0,[],[(2,A3 (Ot n))]⟩),(7,⟨0,[],[(2,A3 (Ot n))]⟩)],[],[],[]⟩
theorem Bi1:(B68 n).Sound PP:=B9 (fn:=Tryz.f223) (D:=Bnh _ n) ⟨N7 n,N7 n,N7 n,trivial⟩

def f61 (n:Nat) (a0:Nq):Option Int :=
 bif (a0.1==3) then
  some 2
 else
  bif (a0.1==4) then
   some 2
  else
   bif (a0.1==5) then
    some 2
   else
    bif (a0.1==6) then
     some 2
    else
     bif (a0.1==7) then
      some 1
     else
      bif (a0.1==8) then
       some 1
      else
       some 0
def Am8:Ent:=⟨61,[hN],[hI],λx=>f61 n x⟩
def Brh (α:Type) (n:Nat):D3 α:=⟨[],[],[],[]⟩
theorem S4:(Am8 n).Sound PP:=B9 (fn:=Tryz.f61) (D:=Brh _ n) trivial

def f224 (a0:Bool) (a1 a2:Int):Option Bool :=
 bif a0 then
  ob (f177 n a1 0 (W (a2-1))) λa =>
  bif a then
   some true
  else
   bif (!a0) then
    some (a1==0)
   else
    some false
 else
  bif (!a0) then
   some (a1==0)
  else
   some false
def Apt:Ent:=⟨224,[.bool,hI,(.ref hI)],[.bool],λx=>f224 n x.1 x.2.1 x.2.2⟩
def Bng:D3 α:=⟨[(1,⟨0,[],[(5,A3 (Ot n))]⟩)],[],[],[]⟩
theorem Aw5:(Apt n).Sound PP:=B9 (fn:=Tryz.f224) (D:=Bng _ n) ⟨N7 n,trivial⟩

def f211 (a0:Nq) (a1:Int):Option Bool :=
 ob (f177 n a0.1 1 8) λa =>
 bif (!a) then
  some false
 else
  ob (f223 n a0) λb =>
  bif (!b) then
   some false
  else
   ob (f61 n a0) λc =>
   ob (f224 n (decide (c>0)) a0.2.1 a1) λd =>
   bif d then
    ob (f61 n a0) λe =>
    ob (f224 n (decide (e>1)) a0.2.2.1 a1) λf =>
    some f
   else
    some false
def Aq1:Ent:=⟨211,[hN,hI],[.bool],λx=>f211 n x.1 x.2⟩
def Bns:D3 α:=⟨[(1,⟨0,[],[(2,A3 (Ot n)),(6,A3 (B68 n))]⟩),(3,⟨0,[],[(0,B4 (.ref hI))]⟩),(4,⟨14,[],[(2,A3 (Am8 n)),(6,A3 (Apt n)),(10,A3 (Am8 n)),(14,A3 (Apt n))]⟩)],[],[],[]⟩
theorem Awb:(Aq1 n).Sound PP:=B9 (fn:=Tryz.f211) (D:=Bns _ n) ⟨N7 n,Bi1 n,S4 n,Aw5 n,S4 n,Aw5 n,trivial⟩

def Sr {α:Type} (e:LN) (h d:Int) (b c:LI) (f:LN->Int->Int->LI->LI->Option α) (k0:Bool->Option α) (k1:LI->LI->Option α):Option α :=
 bif (decide (d<h)) then
  gd (decide (0<=d)&&decide (d<(e.length:Int))) (
   let a:=e.getD d.toNat (0,0,0,0)
   ob (f211 n a d) λj =>
   bif (!j) then
    k0 false
   else
    let g:=λ(k:Int) (l:Int)=>(
     gd (decide ((b.length+1)*8<=140737488355328)) (
      gd (decide ((c.length+1)*8<=140737488355328)) (
       f e h (W (d+1)) (b++[k]) (c++[l]))))
    ob (f61 n a) λi =>
    bif (i==1) then
     bif (a.2.1 != (W (d-1))) then
      k0 false
     else
      gd (decide (0<=a.2.1)&&decide (a.2.1<(b.length:Int))) (
       gd (decide (a.2.1.toNat<b.length)) (
        gd (decide (0<=a.2.1)&&decide (a.2.1<(c.length:Int))) (
         gd (decide (a.2.1.toNat<c.length)) (
          g (b.getD a.2.1.toNat 0) (W ((c.getD a.2.1.toNat 0)+1))))))
    else
     bif (i==2) then
      bif (a.2.2.1 != (W (d-1))) then
       k0 false
      else
       gd (decide (0<=a.2.2.1)&&decide (a.2.2.1<(b.length:Int))) (
        gd (decide (a.2.2.1.toNat<b.length)) (
         bif (a.2.1 != (W ((b.getD a.2.2.1.toNat 0)-1))) then
          k0 false
         else
          gd (decide (0<=a.2.1)&&decide (a.2.1<(b.length:Int))) (
           gd (decide (a.2.1.toNat<b.length)) (
            gd (decide (0<=a.2.1)&&decide (a.2.1<(c.length:Int))) (
             gd (decide (a.2.1.toNat<c.length)) (
              gd (decide (0<=a.2.2.1)&&decide (a.2.2.1<(c.length:Int))) (
               gd (decide (a.2.2.1.toNat<c.length)) (
                g (b.getD a.2.1.toNat 0) (W ((max (c.getD a.2.1.toNat 0) (c.getD a.2.2.1.toNat 0))+1))))))))))
     else
      g d 1)
 else
  k1 b c
abbrev Yn:Tm:=⟨[(5,.k (.hw 11)),(6,.k (.hw 12)),(13,.d hNs),(14,.d hI),Pv],Ayl,[82,86],[]⟩
abbrev B7d:Tm:=⟨[(2,.d .nil),(3,.d .nil),(4,.d .bool)],[],[8,11,12],[]⟩
abbrev B7c:Tm:=⟨[(5,.k (.hw 11)),(6,.k (.hw 12))],Ayl,[],[]⟩
abbrev A9s:List (Exit × Tm):=[(.ret,B7d),(.exit 0,B7c)]
def A9r {α:Type} (v:Yn.den) (f:Yn.den->Option α) (ks:KS α A9s):Option α:=Sr n v.1.2.2.1 v.1.2.2.2.1 v.1.2.2.2.2.1 v.2.1 v.2.2.1 (λa b c d e=>f (((),(),a,b,c,()),(d,e,()))) (λw0=>ks.1 (((),(),w0,()),())) (λw0 w1=>ks.2.1 (((),(),()),(w0,w1,())))
def A5s {α:Type} (n m:Nat) (a:LN) (b c:Int) (d e:LI) (k0:Bool->Option α) (k1:LI->LI->Option α):Option α:=A4 (A9r n) m (((),(),a,b,c,()),(d,e,())) (λw=>k0 w.1.2.2.1,λw=>k1 w.2.1 w.2.2.1,())
theorem Ajo {α n m a b c d e k0 k1}:A5s (α:=α) n (m+1) a b c d e k0 k1=Sr n a b c d e (λa b c d e=>A5s n m a b c d e k0 k1) k0 k1:=rfl
abbrev Bd5:Tm:=⟨[(5,.k (.hw 11)),(6,.k (.hw 12)),G0,(10,.d hI),(13,.d hNs),(14,.d hI),Pv],Ayl,[8],[]⟩
def f178 (a0:LN):Option (LI × LI × Bool) :=
 A5s n n a0 (a0.length:Int) 0 [] []
  (λa=>(
   some ([],[],a)))
  (λb c=>(
   some (b,c,true)))
def B7e:Ent:=⟨178,[hNs],[hIs,hIs,.bool],λx=>f178 n x⟩
abbrev Abm:List (Nat × OA):=[(1,A3 (Am8 n))]
def Aql:D3 α:=⟨[(1,⟨0,[],[Gn,(1,B4 hI)]⟩),(5,⟨0,[],[(2,A3 (Aq1 n))]⟩),(8,⟨0,[],(Abm n)⟩),(12,⟨12,[],[]⟩),(14,⟨14,[],[]⟩),(16,⟨18,[],[]⟩),(17,⟨0,[],[(2,B4 hI),(6,B4 hI)]⟩)],[(17,Bd5)],[(3,⟨Yn,A9s,A4 (A9r n) n⟩)],[]⟩
theorem Ajn:Ap PP (Ae (Aql α n).reg):=⟨Awb n,S4 n,trivial⟩
theorem B19:LO.Sound (α:=α) PP ⟨91,[]⟩ ⟨Yn,A9s,A4 (A9r n) n⟩ (.loop (Ai Tryz.f178 75)):=Cb (D:=Aql α n) (Ajn α n) n
theorem Boi:D3.OK PP TT ⟨91,[]⟩ (Aql α n) (Af Tryz.f178) :=
 D3.OK.mk3 (Ajn α n) (by kernel_rfl:A9 _=[(3,.loop (Ai Tryz.f178 75))]) ⟨Aa rfl (B19 α n),trivial⟩
theorem Biz:(B7e n).Sound PP:=fk (fn:=Tryz.f178) (Boi _ n)

def Ym {α:Type} (n:Nat) (b:LI) (c a:Int) (f:LI->Int->Int->Option α) (k0:Int->Option α):Option α :=
 bif (decide (a<(b.length:Int))) then
  gd (decide (0<=a)&&decide (a<(b.length:Int))) (
   f b (max c (b.getD a.toNat 0)) (W (a+1)))
 else
  k0 c
abbrev Yl:Tm:=⟨[Hs,Ns,(4,.d hI)],[],[],[]⟩
abbrev Ajm:Tm:=⟨[Ns],[],[],[]⟩
abbrev A9q:List (Exit × Tm):=[(.exit 0,Ajm)]
def A9p {α:Type} (v:Yl.den) (f:Yl.den->Option α) (ks:KS α A9q):Option α:=Ym n v.1.1 v.1.2.1 v.1.2.2.1 (λa b c=>f ((a,b,c,()),())) (λw0=>ks.1 ((w0,()),()))
def A5r {α:Type} (n m:Nat) (a:LI) (b c:Int) (k0:Int->Option α):Option α:=A4 (A9p n) m ((a,b,c,()),()) (λw=>k0 w.1.1,())
theorem Ajl {α n m a b c k0}:A5r (α:=α) n (m+1) a b c k0=Ym n a b c (λa b c=>A5r n m a b c k0) k0:=rfl
def f179 (a0:LI):Option Int :=
 bif (decide ((a0.length:Int)<1)) then
  none
 else
  gd (decide (0<(a0.length:Int))) (
   A5r n n a0 (a0.getD 0 0) 1
    (λa=>(
     some a)))
def B7b:Ent:=⟨179,[hIs],[hI],λx=>f179 n x⟩
def Aqk:D3 α:=⟨[],[],[(5,⟨Yl,A9q,A4 (A9p n) n⟩)],[]⟩
theorem Ajk:Ap PP (Ae (Aqk α n).reg):=trivial
theorem B18:LO.Sound (α:=α) PP ⟨25,[]⟩ ⟨Yl,A9q,A4 (A9p n) n⟩ (.loop (Ai Tryz.f179 151)):=Cb (D:=Aqk α n) (Ajk α n) n
theorem Boh:D3.OK PP TT ⟨25,[]⟩ (Aqk α n) (Af Tryz.f179) :=
 D3.OK.mk3 (Ajk α n) (by kernel_rfl:A9 _=[(5,.loop (Ai Tryz.f179 151))]) ⟨Aa rfl (B18 α n),trivial⟩
theorem Bix:(B7b n).Sound PP:=fk (fn:=Tryz.f179) (Boh _ n)

def f112 (a0:LN):Option Bool :=
 ob (f177 n (a0.length:Int) 1 60) λb =>
 bif (!b) then
  some false
 else
  ob (f178 n a0) λa =>
  bif a.2.2 then
   gd (decide (0<=(W ((a0.length:Int)-1)))&&decide ((W ((a0.length:Int)-1))<(a.1.length:Int))) (
    bif ((a.1.getD ((W ((a0.length:Int)-1)).toNat) 0)==0) then
     ob (f179 n a.2.1) λc =>
     some (decide (c<=12))
    else
     some false)
  else
   some false
def B95:Ent:=⟨112,[hE],[.bool],λx=>f112 n x⟩
def Bpy:D3 α:=⟨[(2,⟨0,[],[(1,A3 (Ot n))]⟩),(4,⟨0,[],[(2,A3 (B7e n))]⟩),(5,⟨0,[],[(11,A3 (B7b n))]⟩)],[],[],[]⟩
theorem Bkk:(B95 n).Sound PP:=B9 (fn:=Tryz.f112) (D:=Bpy _ n) ⟨N7 n,Biz n,Bix n,trivial⟩

def f111 (n:Nat) (a0:Bool) (a1:Int):Option Int :=
 bif a0 then
  some 0
 else
  some a1
def Id:Ent:=⟨111,[.bool,hI],[hI],λx=>f111 n x.1 x.2⟩
def Bpz (α:Type) (n:Nat):D3 α:=⟨[],[],[],[]⟩
theorem Iy:(Id n).Sound PP:=B9 (fn:=Tryz.f111) (D:=Bpz _ n) trivial

def f60 (a0:LN):Option Int :=
 ob (f112 n a0) λa =>
 ob (f111 n a 1) λb =>
 some b
def Am9:Ent:=⟨60,[hE],[hI],λx=>f60 n x⟩
def Bri:D3 α:=⟨[(1,⟨0,[],[(1,A3 (B95 n)),(2,A3 (Id n))]⟩)],[],[],[]⟩
theorem B5w:(Am9 n).Sound PP:=B9 (fn:=Tryz.f60) (D:=Bri _ n) ⟨Bkk n,Iy n,trivial⟩

def Vn {α:Type} (n:Nat) (c:LN) (d a e g h i:Int) (f:LN->Int->Int->Int->Int->Int->Int->Option α) (k0:Int->Option α) (k1:Unit->Option α):Option α :=
 bif (decide (a<d)) then
  gd (decide (0<=a)&&decide (a<(c.length:Int))) (
   let b:=c.getD a.toNat (0,0,0,0)
   bif (e==b.1&&(g==b.2.1&&(h==b.2.2.1&&(i==b.2.2.2&&true)))) then
    k0 a
   else
    f c d (W (a+1)) e g h i)
 else
  k1 ()
abbrev A5b:Tm:=⟨[(0,.d hNs),C4,Dr,Ee],[A18],[],[]⟩
abbrev Aph:Tm:=⟨[(4,.d hI)],[],[3],[]⟩
abbrev Apg:Tm:=⟨[],[],[3],[]⟩
abbrev Agk:List (Exit × Tm):=[(.ret,Aph),(.exit 0,Apg)]
def Agj {α:Type} (v:A5b.den) (f:A5b.den->Option α) (ks:KS α Agk):Option α:=Vn n v.1.1 v.1.2.2.1 v.1.2.2.2.1 v.2.1.1 v.2.1.2.1 v.2.1.2.2.1 v.2.1.2.2.2.1 (λa b c d e g h=>f ((a,(),b,c,()),((d,e,g,h,()),()))) (λw0=>ks.1 ((w0,()),())) (λ_=>ks.2.1 ((),()))
def S2 {α:Type} (n m:Nat) (a:LN) (b c d e f g:Int) (k0:Int->Option α) (k1:Unit->Option α):Option α:=A4 (Agj n) m ((a,(),b,c,()),((d,e,f,g,()),())) (λw=>k0 w.1.1,λw=>k1 (),())
theorem A8d {α n m a b c d e f g k0 k1}:S2 (α:=α) n (m+1) a b c d e f g k0 k1=Vn n a b c d e f g (λa b c d e f g=>S2 n m a b c d e f g k0 k1) k0 k1:=rfl
def f62 (a0:LN) (a1:Nq):Option Int :=
 S2 n n a0 (a0.length:Int) 0 a1.1 a1.2.1 a1.2.2.1 a1.2.2.2
  (λa=>(
   some a))
  (λ(_:Unit)=>(
   some (-1)))
def B09:Ent:=⟨62,[hNs,hN],[hI],λx=>f62 n x.1 x.2⟩
def B0a:D3 α:=⟨[(4,⟨5,[],[]⟩)],[],[(2,⟨A5b,Agk,A4 (Agj n) n⟩)],[]⟩
theorem Apf:Ap PP (Ae (B0a α n).reg):=trivial
theorem B5v:LO.Sound (α:=α) PP ⟨19,[]⟩ ⟨A5b,Agk,A4 (Agj n) n⟩ (.loop (Ai Tryz.f62 37)):=Cb (D:=B0a α n) (Apf α n) n
theorem Brg:D3.OK PP TT ⟨19,[]⟩ (B0a α n) (Af Tryz.f62) :=
 D3.OK.mk3 (Apf α n) (by kernel_rfl:A9 _=[(2,.loop (Ai Tryz.f62 37))]) ⟨Aa rfl (B5v α n),trivial⟩
theorem B5u:(B09 n).Sound PP:=fk (fn:=Tryz.f62) (Brg _ n)

def Vp {α:Type} (e:LN) (g c h:Int) (d:LN) (b:LI) (f:LN->Int->Int->Int->LN->LI->Option α) (k0:Int->LN->Option α):Option α :=
 bif (decide (c<g)) then
  gd (decide (0<=c)&&decide (c<(e.length:Int))) (
   let a:=e.getD c.toNat (0,0,0,0)
   let j:=λ(i:Int)=>(
    let k:=λ(l:Int)=>(
     ob (f62 n d (a.1,i,l,a.2.2.2)) λm =>
     bif (decide (m<0)) then
      gd (decide ((d.length+1)*32<=140737488355328)) (
       gd (decide ((b.length+1)*8<=140737488355328)) (
        f e g (W (c+1)) h (d++[(a.1,i,l,a.2.2.2)]) (b++[(d.length:Int)])))
     else
      gd (decide ((b.length+1)*8<=140737488355328)) (
       f e g (W (c+1)) h d (b++[m])))
    ob (f61 n (a.1,i,a.2.2)) λo =>
    bif (decide (o>1)) then
     gd (decide (0<=a.2.2.1)&&decide (a.2.2.1<(b.length:Int))) (
      gd (decide (a.2.2.1.toNat<b.length)) (
       k (b.getD a.2.2.1.toNat 0)))
    else
     k a.2.2.1)
   ob (f61 n a) λp =>
   bif (decide (p>0)) then
    gd (decide (0<=a.2.1)&&decide (a.2.1<(b.length:Int))) (
     gd (decide (a.2.1.toNat<b.length)) (
      j (b.getD a.2.1.toNat 0)))
   else
    j a.2.1)
 else
  k0 h d
abbrev A5g:Tm:=⟨[Cs,Xc,(6,.k (.hw 17)),(19,.d hNs),Ht,K0],[Ayk,(16,.arr 85 hN false),(17,.arr 3 hI false)],[1,8,52,56],[]⟩
abbrev Bcv:Tm:=⟨[Cs,Xc],[Ayk,(16,.arr 85 hN false)],[17],[]⟩
abbrev Agv:List (Exit × Tm):=[(.exit 0,Bcv)]
def Agu {α:Type} (v:A5g.den) (f:A5g.den->Option α) (ks:KS α Agv):Option α:=Vp n v.1.2.2.2.1 v.1.2.2.2.2.1 v.1.2.2.2.2.2.1 v.2.1.2.1 v.2.2.1 v.2.2.2.1 (λa b c d e g=>f (((),(),(),a,b,c,()),(((),d,()),e,g,()))) (λw0 w1=>ks.1 (((),(),()),(((),w0,()),w1,())))
def Ad9 {α:Type} (n m:Nat) (a:LN) (b c d:Int) (e:LN) (f:LI) (k0:Int->LN->Option α):Option α:=A4 (Agu n) m (((),(),(),a,b,c,()),(((),d,()),e,f,())) (λw=>k0 w.2.1.2.1 w.2.2.1,())
theorem Apr {α n m a b c d e f k0}:Ad9 (α:=α) n (m+1) a b c d e f k0=Vp n a b c d e f (λa b c d e f=>Ad9 n m a b c d e f k0) k0:=rfl
abbrev Aw2:Tm:=⟨[Cs,Xc,(6,.k (.hw 17)),Dk,(19,.d hNs),Ht,K0],[Ayk,(8,.var 85 true false A7u),(16,.arr 85 hN false),(17,.arr 3 hI false)],[],[]⟩
def f22 (a0:LN):Option ((LN × Int) × Int) :=
 ob (f60 n a0) λa =>
 bif (a != 0) then
  some (([],0),a)
 else
  Ad9 n n a0 (a0.length:Int) 0 0 [] []
   (λc b=>(
    some ((b,(W ((b.length:Int)-1))),0)))
def Bga:Ent:=⟨22,[hE],[Ft,hI],λx=>f22 n x⟩
def B0h:D3 α:=⟨[(1,⟨0,[],[(1,A3 (Am9 n))]⟩),(4,⟨0,[],[(0,B4 hN),(1,B4 hI)]⟩),(8,⟨0,[],(Abm n)⟩),(10,⟨0,[],(Abm n)⟩),(12,⟨0,[],[(2,A3 (B09 n))]⟩),(14,⟨0,[],[(4,B4 hN)]⟩),(15,⟨0,[],[(2,B4 hI)]⟩)],[(10,Aw2),(12,Aw2)],[(6,⟨A5g,Agv,A4 (Agu n) n⟩)],[]⟩
theorem Apq:Ap PP (Ae (B0h α n).reg):=⟨B5w n,S4 n,S4 n,B5u n,trivial⟩
theorem B66:LO.Sound (α:=α) PP ⟨64,[]⟩ ⟨A5g,Agv,A4 (Agu n) n⟩ (.loop (Ai Tryz.f22 151)):=Cb (D:=B0h α n) (Apq α n) n
theorem Brx:D3.OK PP TT ⟨64,[]⟩ (B0h α n) (Af Tryz.f22) :=
 D3.OK.mk3 (Apq α n) (by kernel_rfl:A9 _=[(6,.loop (Ai Tryz.f22 151))]) ⟨Aa rfl (B66 α n),trivial⟩
theorem Bnc:(Bga n).Sound PP:=fk (fn:=Tryz.f22) (Brx _ n)

def Aat {α:Type} (n:Nat) (c:Int) (b:LI) (d a:Int) (f:Int->LI->Int->Int->Option α) (k0:Int->Option α) (k1:Unit->Option α):Option α :=
 bif (decide (a<d)) then
  gd (decide (0<=a)&&decide (a<(b.length:Int))) (
   bif (decide ((b.getD a.toNat 0)>c)) then
    k0 2
   else
    f c b d (W (a+1)))
 else
  k1 ()
abbrev Z5:Tm:=⟨[(0,.d hI),(7,.d hIs),Ee,G0],[],[],[]⟩
abbrev Aas:List (Exit × Tm):=[(.ret,Oo),(.exit 0,Gl)]
def Aar {α:Type} (v:Z5.den) (f:Z5.den->Option α) (ks:KS α Aas):Option α:=Aat n v.1.1 v.1.2.1 v.1.2.2.1 v.1.2.2.2.1 (λa b c d=>f ((a,b,c,d,()),())) (λw0=>ks.1 ((w0,()),())) (λ_=>ks.2.1 ((),()))
def We {α:Type} (n m:Nat) (a:Int) (b:LI) (c d:Int) (k0:Int->Option α) (k1:Unit->Option α):Option α:=A4 (Aar n) m ((a,b,c,d,()),()) (λw=>k0 w.1.1,λw=>k1 (),())
theorem B8r {α n m a b c d k0 k1}:We (α:=α) n (m+1) a b c d k0 k1=Aat n a b c d (λa b c d=>We n m a b c d k0 k1) k0 k1:=rfl
def f122 (a0:Int) (a1:LI):Option Int :=
 We n n a0 a1 (a1.length:Int) 0
  (λa=>(
   some a))
  (λ(_:Unit)=>(
   some 0))
def B8s:Ent:=⟨122,[hI,hIs],[hI],λx=>f122 n x.1 x.2⟩
def Art:D3 α:=⟨[],[],[(2,⟨Z5,Aas,A4 (Aar n) n⟩)],[]⟩
theorem Ak5:Ap PP (Ae (Art α n).reg):=trivial
theorem B24:LO.Sound (α:=α) PP ⟨17,[]⟩ ⟨Z5,Aas,A4 (Aar n) n⟩ (.loop (Ai Tryz.f122 37)):=Cb (D:=Art α n) (Ak5 α n) n
theorem Bpn:D3.OK PP TT ⟨17,[]⟩ (Art α n) (Af Tryz.f122) :=
 D3.OK.mk3 (Ak5 α n) (by kernel_rfl:A9 _=[(2,.loop (Ai Tryz.f122 37))]) ⟨Aa rfl (B24 α n),trivial⟩
theorem Bkb:(B8s n).Sound PP:=fk (fn:=Tryz.f122) (Bpn _ n)

def Agc {α:Type} (n:Nat) (b:List LR) (d a:Int) (c:LI) (f:(List LR)->Int->Int->LI->Option α) (k0:LI->Option α):Option α :=
 bif (decide (a<d)) then
  gd (decide (0<=a)&&decide (a<(b.length:Int))) (
   gd (decide ((c.length+1)*8<=140737488355328)) (
    f b d (W (a+1)) (c++[(((b.getD a.toNat []).length:Nat):Int)])))
 else
  k0 c
abbrev A57:Tm:=⟨[(3,.k (.hw 6)),(7,.d (.sl hRs)),Ee,G0],[(6,.arr 3 hI false)],[16],[]⟩
abbrev Bcg:Tm:=⟨[(3,.k (.hw 6))],[(6,.arr 3 hI false)],[],[]⟩
abbrev Agb:List (Exit × Tm):=[(.exit 0,Bcg)]
def Aga {α:Type} (v:A57.den) (f:A57.den->Option α) (ks:KS α Agb):Option α:=Agc n v.1.2.1 v.1.2.2.1 v.1.2.2.2.1 v.2.1 (λa b c d=>f (((),a,b,c,()),(d,()))) (λw0=>ks.1 (((),()),(w0,())))
def A2k {α:Type} (n m:Nat) (a:List LR) (b c:Int) (d:LI) (k0:LI->Option α):Option α:=A4 (Aga n) m (((),a,b,c,()),(d,())) (λw=>k0 w.2.1,())
theorem Bcf {α n m a b c d k0}:A2k (α:=α) n (m+1) a b c d k0=Agc n a b c d (λa b c d=>A2k n m a b c d k0) k0:=rfl
def f71 (a0:List LR):Option Int :=
 A2k n n a0 (a0.length:Int) 0 []
  (λa=>(
   ob (f122 n 4096 a) λb =>
   some b))
def Q7:Ent:=⟨71,[(.sl hRs)],[hI],λx=>f71 n x⟩
def B01:D3 α:=⟨[(1,⟨0,[],[Gn]⟩),(5,⟨0,[],[(3,B4 hI)]⟩),(7,⟨0,[],[(1,A3 (B8s n))]⟩)],[],[(3,⟨A57,Agb,A4 (Aga n) n⟩)],[]⟩
theorem Ap7:Ap PP (Ae (B01 α n).reg):=⟨Bkb n,trivial⟩
theorem B5j:LO.Sound (α:=α) PP ⟨21,[]⟩ ⟨A57,Agb,A4 (Aga n) n⟩ (.loop (Ai Tryz.f71 75)):=Cb (D:=B01 α n) (Ap7 α n) n
theorem Br7:D3.OK PP TT ⟨21,[]⟩ (B01 α n) (Af Tryz.f71) :=
 D3.OK.mk3 (Ap7 α n) (by kernel_rfl:A9 _=[(3,.loop (Ai Tryz.f71 75))]) ⟨Aa rfl (B5j α n),trivial⟩
theorem Ad1:(Q7 n).Sound PP:=fk (fn:=Tryz.f71) (Br7 _ n)

def f218 (a0:LN) (a1:Nq):Option Bool :=
 ob (f62 n a0 a1) λa =>
 some (decide (a>=0))
def B6d:Ent:=⟨218,[hNs,hN],[.bool],λx=>f218 n x.1 x.2⟩
def Bnl:D3 α:=⟨[(1,⟨0,[],[(2,A3 (B09 n))]⟩)],[],[],[]⟩
theorem Bi6:(B6d n).Sound PP:=B9 (fn:=Tryz.f218) (D:=Bnl _ n) ⟨B5u n,trivial⟩

def A93 {α:Type} (b:LN) (d a:Int) (c:LN) (g:Int) (f:LN->Int->Int->LN->Int->Option α) (k0:Bool->Option α) (k1:Unit->Option α):Option α :=
 bif (decide (a<d)) then
  gd (decide (0<=a)&&decide (a<(b.length:Int))) (
   let e:=b.getD a.toNat (0,0,0,0)
   ob (f211 n e a) λh =>
   bif (!h) then
    k0 false
   else
    gd (decide (0<=a)&&decide (a<=(c.length:Int))) (
     ob (f218 n ((c.drop 0).take (a.toNat-0)) e) λi =>
     bif i then
      k0 false
     else
      f b d (W (a+1)) c g))
 else
  k1 ()
abbrev Yg:Tm:=⟨[Xe,(20,.d hNs),K0,Pw],[(1,.var 33 true false A7s)],[4],[]⟩
abbrev B6s:Tm:=⟨[(2,.d .bool)],[],[1,4],[]⟩
abbrev Ajc:Tm:=⟨[],[],[1],[]⟩
abbrev A92:List (Exit × Tm):=[(.ret,B6s),(.exit 0,Ajc)]
def A91 {α:Type} (v:Yg.den) (f:Yg.den->Option α) (ks:KS α A92):Option α:=A93 n v.1.2.1 v.1.2.2.1 v.1.2.2.2.1 v.2.1.1 v.2.1.2.1 (λa b c d e=>f (((),a,b,c,()),((d,e,()),()))) (λw0=>ks.1 ((w0,()),())) (λ_=>ks.2.1 ((),()))
def A5l {α:Type} (n m:Nat) (a:LN) (b c:Int) (d:LN) (e:Int) (k0:Bool->Option α) (k1:Unit->Option α):Option α:=A4 (A91 n) m (((),a,b,c,()),((d,e,()),())) (λw=>k0 w.1.1,λw=>k1 (),())
theorem B6r {α n m a b c d e k0 k1}:A5l (α:=α) n (m+1) a b c d e k0 k1=A93 n a b c d e (λa b c d e=>A5l n m a b c d e k0 k1) k0 k1:=rfl
def f201 (a0:LN × Int):Option Bool :=
 ob (f177 n (a0.1.length:Int) 1 60) λa =>
 bif (!a) then
  some false
 else
  bif (a0.2 != (W ((a0.1.length:Int)-1))) then
   some false
  else
   A5l n n a0.1 (a0.1.length:Int) 0 a0.1 a0.2
    (λb=>(
     some b))
    (λ(_:Unit)=>(
     some true))
def B6t:Ent:=⟨201,[Ft],[.bool],λx=>f201 n x⟩
def Aqe:D3 α:=⟨[(1,⟨0,[],[(3,A3 (Ot n))]⟩),(6,⟨10,[],[(2,A3 (Aq1 n)),(10,A3 (B6d n))]⟩)],[],[(4,⟨Yg,A92,A4 (A91 n) n⟩)],[]⟩
theorem Ajb:Ap PP (Ae (Aqe α n).reg):=⟨N7 n,Awb n,Bi6 n,trivial⟩
theorem B10:LO.Sound (α:=α) PP ⟨40,[]⟩ ⟨Yg,A92,A4 (A91 n) n⟩ (.loop (Ai Tryz.f201 75)):=Cb (D:=Aqe α n) (Ajb α n) n
theorem Bo3:D3.OK PP TT ⟨40,[]⟩ (Aqe α n) (Af Tryz.f201) :=
 D3.OK.mk3 (Ajb α n) (by kernel_rfl:A9 _=[(4,.loop (Ai Tryz.f201 75))]) ⟨Aa rfl (B10 α n),trivial⟩
theorem Bie:(B6t n).Sound PP:=fk (fn:=Tryz.f201) (Bo3 _ n)

def f149 (a0:LN × Int):Option Int :=
 ob (f201 n a0) λa =>
 ob (f111 n a 1) λb =>
 some b
def Arf:Ent:=⟨149,[Ft],[hI],λx=>f149 n x⟩
def Bp8:D3 α:=⟨[(1,⟨0,[],[(1,A3 (B6t n)),(2,A3 (Id n))]⟩)],[],[],[]⟩
theorem Bjz:(Arf n).Sound PP:=B9 (fn:=Tryz.f149) (D:=Bp8 _ n) ⟨Bie n,Iy n,trivial⟩

def f227 (n:Nat) (a0:Int):Option Bool :=
 bif (decide (a0<0)) then
  some true
 else
  some (decide (a0>=10000))
def B67:Ent:=⟨227,[hI],[.bool],λx=>f227 n x⟩
def Bne (α:Type) (n:Nat):D3 α:=⟨[],[],[],[]⟩
theorem Bhz:(B67 n).Sound PP:=B9 (fn:=Tryz.f227) (D:=Bne _ n) trivial

def S8 {α:Type} (b:LI) (c a:Int) (f:LI->Int->Int->Option α) (k0:Int->Option α) (k1:Unit->Option α):Option α :=
 bif (decide (a<c)) then
  gd (decide (0<=a)&&decide (a<(b.length:Int))) (
   ob (f227 n (b.getD a.toNat 0)) λd =>
   bif d then
    k0 a
   else
    f b c (W (a+1)))
 else
  k1 ()
abbrev Lp:Tm:=⟨[Hs,(1,.d (.fn 227)),Dr,Ee],[],[],[]⟩
abbrev S7:List (Exit × Tm):=[(.ret,Oo),(.exit 0,Gl)]
def S6 {α:Type} (v:Lp.den) (f:Lp.den->Option α) (ks:KS α S7):Option α:=S8 n v.1.1 v.1.2.2.1 v.1.2.2.2.1 (λa b c=>f ((a,(),b,c,()),())) (λw0=>ks.1 ((w0,()),())) (λ_=>ks.2.1 ((),()))
def Jr {α:Type} (n m:Nat) (a:LI) (b c:Int) (k0:Int->Option α) (k1:Unit->Option α):Option α:=A4 (S6 n) m ((a,(),b,c,()),()) (λw=>k0 w.1.1,λw=>k1 (),())
theorem Akz {α n m a b c k0 k1}:Jr (α:=α) n (m+1) a b c k0 k1=S8 n a b c (λa b c=>Jr n m a b c k0 k1) k0 k1:=rfl
def A8g (a0:LI) (a1:Unit):Option Int :=
 Jr n n a0 (a0.length:Int) 0
  (λa=>(
   some a))
  (λ(_:Unit)=>(
   some (-1)))
def Ada:Ent:=⟨228,[hIs,(.fn 227)],[hI],λx=>A8g n x.1 x.2⟩
def Y5:D3 α:=⟨[(4,⟨0,[],[(5,A3 (B67 n))]⟩)],[],[(2,⟨Lp,S7,A4 (S6 n) n⟩)],[]⟩
theorem A0q:Ap PP (Ae (Y5 α n).reg):=⟨Bhz n,trivial⟩
theorem Agw:LO.Sound (α:=α) PP ⟨19,[]⟩ ⟨Lp,S7,A4 (S6 n) n⟩ (.loop (Ai Tryz.f228 37)):=Cb (D:=Y5 α n) (A0q α n) n
theorem B0i:D3.OK PP TT ⟨19,[]⟩ (Y5 α n) (Af Tryz.f228) :=
 D3.OK.mk3 (A0q α n) (by kernel_rfl:A9 _=[(2,.loop (Ai Tryz.f228 37))]) ⟨Aa rfl (Agw α n),trivial⟩
theorem Atv:(Ada n).Sound PP:=fk (fn:=Tryz.f228) (B0i _ n)

def S9 (a0:LI) (a1:Unit):Option Bool :=
 ob (A8g n a0 a1) λa =>
 some (decide (a>=0))
def Adb:Ent:=⟨226,[hIs,(.fn 227)],[.bool],λx=>S9 n x.1 x.2⟩
def B0j:D3 α:=⟨[(1,⟨0,[],[(2,A3 (Ada n))]⟩)],[],[],[]⟩
theorem Atw:(Adb n).Sound PP:=B9 (fn:=Tryz.f226) (D:=B0j _ n) ⟨Atv n,trivial⟩

def f225 (a0:LI):Option Bool :=
 bif (decide ((a0.length:Int)>40)) then
  some false
 else
  bif (decide ((a0.length:Int)>0)) then
   gd (decide (0<=(W ((a0.length:Int)-1)))&&decide ((W ((a0.length:Int)-1))<(a0.length:Int))) (
    bif ((a0.getD ((W ((a0.length:Int)-1)).toNat) 0)==0) then
     some false
    else
     ob (S9 n a0 ()) λa =>
     some (!a))
  else
   ob (S9 n a0 ()) λb =>
   some (!b)
def Aps:Ent:=⟨225,[hIs],[.bool],λx=>f225 n x⟩
def Bnf:D3 α:=⟨[(4,⟨0,[],[(1,A3 (Adb n))]⟩)],[],[],[]⟩
theorem Aw3:(Aps n).Sound PP:=B9 (fn:=Tryz.f225) (D:=Bnf _ n) ⟨Atw n,trivial⟩

def f168 (n:Nat) (a0:Rq):Option Bool :=
 some ((a0.2.1.length:Int)==0)
def T3:Ent:=⟨168,[hR],[.bool],λx=>f168 n x⟩
def Bop (α:Type) (n:Nat):D3 α:=⟨[],[],[],[]⟩
theorem Qv:(T3 n).Sound PP:=B9 (fn:=Tryz.f168) (D:=Bop _ n) trivial

def f205 (n:Nat) (a0:LI):Option LI :=
 some a0
def Aq5:Ent:=⟨205,[hIs],[Al8],λx=>f205 n x⟩
def Bnz (α:Type) (n:Nat):D3 α:=⟨[(1,⟨0,[],[(0,B4 (.ref hIs))]⟩)],[],[],[]⟩
theorem Awh:(Aq5 n).Sound PP:=B9 (fn:=Tryz.f205) (D:=Bnz _ n) trivial

def Aa8 {α:Type} (n:Nat) (i:Nat) (z:Int) (b:LI) (a:LI) (c:Int) (f:LI->LI->Int->Option α) (k0:Int->Option α) (k1:Int->Option α):Option α :=
 gd (decide (0<=(i:Int))&&decide ((i:Int)<(a.length:Int))) (
  bif (z != (a.getD ((i:Int).toNat) 0)) then
   gd (decide (0<=(i:Int))&&decide ((i:Int)<(a.length:Int))) (
    bif (decide (z<(a.getD ((i:Int).toNat) 0))) then
     k1 (-1)
    else
     k1 1)
  else
   f b a c)
abbrev N9:Tm:=⟨[C4,Bo,(18,.d Al8)],[Af3,(4,.var 3 true false [.d hI])],[],[]⟩
abbrev Ajy:Tm:=⟨[Bo],[(4,.var 3 true false [.d hI])],[3],[]⟩
abbrev Yz:List (Exit × Tm):=[(.normal,Ajy),(.ret,Ajy)]
def T4 (v:N9.den):List Int:=(λa b c=>a) v.1.2.2.1 v.2.1.1 v.2.2.1.1
def T5 {α:Type} (i:Nat) (z:Int) (v:N9.den) (f:N9.den->Option α) (ks:KS α Yz):Option α:=Aa8 n i z v.1.2.2.1 v.2.1.1 v.2.2.1.1 (λa b c=>f (((),(),a,()),((b,()),(c,()),()))) (λw0=>ks.1 (((),()),((w0,()),()))) (λw0=>ks.2.1 (((),()),((w0,()),())))
def T7 {α:Type} (v:N9.den) (ks:KS α Yz):Option α:=(λb c a=>ks.1 (((),()),((a,()),()))) v.1.2.2.1 v.2.1.1 v.2.2.1.1
def Axd {α:Type} (a:LI) (b:LI) (c:Int) (k0:Int->Option α) (k1:Int->Option α):Option α:=Rm T4 (T5 n) T7 (((),(),a,()),((b,()),(c,()),())) (λw=>k0 w.2.1.1,λw=>k1 w.2.1.1,())
def T6 {α:Type} (zs:List Int) (i:Nat) (a:LI) (b:LI) (c:Int) (k0:Int->Option α) (k1:Int->Option α):Option α:=Rn T4 (T5 n) zs i (((),(),a,()),((b,()),(c,()),())) (λv=>T7 v (λw=>k0 w.2.1.1,λw=>k1 w.2.1.1,())) (λw=>k0 w.2.1.1,λw=>k1 w.2.1.1,())
theorem B86 {α:Type} (n:Nat) (a:LI) (b:LI) (c:Int) (k0:Int->Option α) (k1:Int->Option α):Axd (α:=α) n a b c k0 k1=gd (decide (a.length<=4611686018427387904)) (T6 n a a.length a b c k0 k1):=rfl
theorem B87 {α:Type} (n:Nat) (zs:List Int) (b:LI) (c:LI) (a:Int) (k0:Int->Option α) (k1:Int->Option α):T6 (α:=α) n zs 0 b c a k0 k1=k0 a:=rfl
theorem B85 {α:Type} (n:Nat) (zs:List Int) (i:Nat) (a:LI) (b:LI) (c:Int) (k0:Int->Option α) (k1:Int->Option α):T6 (α:=α) n zs (i+1) a b c k0 k1=Aa8 n i (zs.getD i 0) a b c (λa b c=>gd (decide (a=zs)) (T6 n zs i a b c k0 k1)) k0 k1:=rfl
def f155 (a0 a1:LI):Option Int :=
 bif ((a0.length:Int) != (a1.length:Int)) then
  bif (decide ((a0.length:Int)<(a1.length:Int))) then
   some (-1)
  else
   some 1
 else
  ob (f205 n a0) λa =>
  Axd n a a1 0
   (λc=>(
    some 0))
   (λb=>(
    some b))
def A3e:Ent:=⟨155,[hIs,hIs],[hI],λx=>f155 n x.1 x.2⟩
def Ae7:D3 α:=⟨[(5,⟨0,[],[(1,A3 (Aq5 n))]⟩)],[],[(6,⟨N9,Yz,Rm T4 (T5 n) T7⟩)],[]⟩
theorem A3d:Ap PP (Ae (Ae7 α n).reg):=⟨Awh n,trivial⟩
theorem B1w:D3.OK PP TT ⟨33,[]⟩ (Ae7 α n) (Ai Tryz.f155 75) :=
 D3.OK.mk3 (A3d α n) (by kernel_rfl:A9 _=[]) trivial
theorem B1v:D3.OK PP TT ⟨33,[]⟩ (Ae7 α n) (Ai Tryz.f155 107) :=
 D3.OK.mk3 (A3d α n) (by kernel_rfl:A9 _=[]) trivial
theorem B1u:LO.Sound (α:=α) PP ⟨33,[]⟩ ⟨N9,Yz,Rm T4 (T5 n) T7⟩ (.rangeFunc (.tmp 18) #[19,20] (Ai Tryz.f155 75) (Ai Tryz.f155 107)) :=
 Anp (Va _) Ro T4 (T5 n) T7 Ay5 rfl rfl rfl rfl (B1w α n) (B1v α n) (by intro v;rfl) (by intro i z v f ks;kernel_rfl) (by intro v ks;kernel_rfl)
theorem Bp1:D3.OK PP TT ⟨33,[]⟩ (Ae7 α n) (Af Tryz.f155) :=
 D3.OK.mk3 (A3d α n) (by kernel_rfl:A9 _=[(6,(.rangeFunc (.tmp 18) #[19,20] (Ai Tryz.f155 75) (Ai Tryz.f155 107)))]) ⟨Aa rfl (B1u α n),trivial⟩
theorem A5z:(A3e n).Sound PP:=fk (fn:=Tryz.f155) (Bp1 _ n)

def B23 (n:Nat) (a0:LI):Option LI :=
 gd ((!a0.isEmpty)) (
  gd (decide ((0+a0.length)*8<=140737488355328)) (
   some a0))
def Bk8:Ent:=⟨123,[hIs],[hIs],λx=>B23 n x⟩
def Bk9 (α:Type) (n:Nat):D3 α:=⟨[(3,⟨0,[],[Gn]⟩)],[],[],[]⟩
theorem Be5:(Bk8 n).Sound PP:=B9 (fn:=Tryz.f123) (D:=Bk9 _ n) trivial

set_option maxRecDepth 100000 in
theorem B9s (ad:Option Addr) (cap:Nat) (hc:ad=none->cap=0) (w:World):Calls Tryz.prog 123 #[.slice ad 0 cap] w λe w'=>(∃ a c,e = .returned (.slice a 0 c)/\(a=none->c=0))/\w.grownBy w' none:=by
 refine (callsIn_wide (n:=3)).1 ?_;refine callsIn_of_wp Tryz.func123 rfl trivial ?_ rfl;simp only [Tryz.ntmps123,List.size_toArray,QY,ZM,Nat.reduceAdd,Nat.reduceSub,Array.replicate_succ,Array.replicate_zero,List.push_toArray,List.append_toArray,JR,YD];have hi:∃ i,Tryz.prog.info? 3=some i:=⟨_,rfl⟩;obtain ⟨i3,hi3⟩:=hi
 have hap:∀ (base:Option Addr) (sCap:Nat) (a:Option Addr) (cp:Nat) (w:World),(Builtin.append_ #[52,52] 52 #[.slice base 0 sCap,.slice a 0 cp]).run Tryz.prog w = .ok (.slice base 0 sCap) w:=λbase sCap a cp w =>
  Tz w 52 52 3 i3 Tryz.underlying52 hi3 base 0 sCap (KJ _) a cp
 cases ad with
 | none =>
  obtain rfl:=hc rfl
  have hb:∀ w,(binOp BinOp.eql 52 (.slice none 0 0) (.slice none 0 0)).run Tryz.prog w = .ok (.bool true) w:=λw=>by kernel_rfl
  gi_wp2
  refine bodyPost_ret (results_tmp rfl _ _ _) rfl ?_;exact ⟨⟨none,0,rfl,λ_=>rfl⟩,⟨rfl,rfl,rfl,ZF _,λ_ _ _=>rfl⟩⟩
 | some ad =>
  have hb:∀ w,(binOp BinOp.eql 52 (.slice (some ad) 0 cap) (.slice none 0 0)).run Tryz.prog w = .ok (.bool false) w:=λw=>by kernel_rfl
  gi_wp2
  refine bodyPost_ret (results_tmp rfl _ _ _) rfl ?_;exact ⟨⟨_,0,rfl,λ_=>rfl⟩,World.grownBy_alloc w _ none⟩
def f123 (a0:List Int):Option (List Int):=bif a0.isEmpty then some [] else B23 n a0
def Ox:Ent:=⟨123,[hIs],[hIs],λx=>f123 n x⟩
theorem Be4 (nt:Nat):Me Tryz.prog 123 nt [] [] [.one (.i (.sl 0 false 1 []))] (.v (.one (.i (.sl 0 false 1 [])))) nt []:=by
 refine ⟨⟨Tryz.f123,by kernel_rfl,by kernel_rfl,by kernel_rfl⟩,λw E vs hin hv=>?_⟩
 obtain ⟨hl,hget⟩:=hv
 match vs,hl with
 | [v],_ =>
  have h1:Rv w E v (.one (.i (.sl 0 false 1 []))):=hget 0 v _ rfl rfl
  cases h1 with
  | one h1 =>
   cases h1 with
   | i h1 =>
    cases h1 with
    | sl _ _ _ _ _ _ _ hne=>exact absurd rfl hne
    | nil _ _ cap a _ hn hc =>
     refine (B9s a cap hc w).mono ?_
     rintro e w' ⟨⟨a',c',rfl,hc'⟩,hg⟩
     exact ⟨_,E,rfl,.v (.one (.i (.nil 0 1 c' a' false (λe=>by cases e) hc'))),⟨hg.os,hg.tape,hg.output,hg.size,λb hb _=>hg.block b hb (by simp)⟩,
      ⟨λb hb=>XB (hin.wf.alt b hb) hg.size,hin.wf.tag,hin.wf.inj,λb h hb=>by cases hin.odom b h hb⟩,λ_ _=>Iff.rfl,ZF _,λ_ _=>rfl,λt g ht h=>absurd (hin.wf.tag t g h).1 (Nat.not_lt.2 ht),
      λh b hb=>(by cases hb),λh h' b b' g g' z z' hb=>(by cases hb),λh b g z hb=>(by cases hb),λh b hb=>(by cases hb),λg h hg=>(by cases hin.odom g h hg)⟩
theorem Nc:(Ox n).Sound Tryz.prog:=by
 intro nt x r h
 cases x with
 | cons z l=>exact Be5 n nt (z::l) r h
 | nil =>
  have h:some ([]:List Int)=some r:=h;obtain rfl:=QA h;exact Be4 nt

def A90 {α:Type} (n:Nat) (b:LI) (a:Int) (f:LI->Int->Option α) (k0:LI->Int->Option α):Option α :=
 bif (decide (a>0)) then
  gd (decide (0<=(W (a-1)))&&decide ((W (a-1))<(b.length:Int))) (
   bif ((b.getD ((W (a-1)).toNat) 0)==0) then
    f b (W (a-1))
   else
    k0 b a)
 else
  k0 b a
abbrev A8z:List (Exit × Tm):=[(.exit 0,Dd)]
def A8y {α:Type} (v:Dd.den) (f:Dd.den->Option α) (ks:KS α A8z):Option α:=A90 n v.1.1 v.1.2.1 (λa b=>f ((a,b,()),())) (λw0 w1=>ks.1 ((w0,w1,()),()))
def A5k {α:Type} (n m:Nat) (a:LI) (b:Int) (k0:LI->Int->Option α):Option α:=A4 (A8y n) m ((a,b,()),()) (λw=>k0 w.1.1 w.1.2.1,())
theorem B6q {α n m a b k0}:A5k (α:=α) n (m+1) a b k0=A90 n a b (λa b=>A5k n m a b k0) k0:=rfl
def f202 (a0:LI):Option LI :=
 A5k n n a0 (a0.length:Int)
  (λb a=>(
   gd (decide (0<=a)&&decide (a<=(b.length:Int))) (
    some ((b.drop 0).take (a.toNat-0)))))
def On:Ent:=⟨202,[hIs],[hIs],λx=>f202 n x⟩
def Aqd:D3 α:=⟨[],[],[(2,⟨Dd,A8z,A4 (A8y n) n⟩)],[]⟩
theorem Aj9:Ap PP (Ae (Aqd α n).reg):=trivial
theorem B0z:LO.Sound (α:=α) PP ⟨21,[]⟩ ⟨Dd,A8z,A4 (A8y n) n⟩ (.loop (Ai Tryz.f202 35)):=Cb (D:=Aqd α n) (Aj9 α n) n
theorem Bo2:D3.OK PP TT ⟨21,[]⟩ (Aqd α n) (Af Tryz.f202) :=
 D3.OK.mk3 (Aj9 α n) (by kernel_rfl:A9 _=[(2,.loop (Ai Tryz.f202 35))]) ⟨Aa rfl (B0z α n),trivial⟩
theorem Vv:(On n).Sound PP:=fk (fn:=Tryz.f202) (Bo2 _ n)

def Aak {α:Type} (n:Nat) (a:Int) (b:LI) (f:Int->LI->Option α) (k0:LI->Option α):Option α :=
 bif (decide (a>0)) then
  gd (decide ((b.length+1)*8<=140737488355328)) (
   f (W (Int.tdiv a 10000)) (b++[(Int.tmod a 10000)]))
 else
  k0 b
abbrev Z1:Tm:=⟨[(0,.d hI),(3,.k (.hw 4))],[(4,.arr 3 hI false)],[12],[]⟩
abbrev Aaj:List (Exit × Tm):=[(.exit 0,Ajh)]
def Aai {α:Type} (v:Z1.den) (f:Z1.den->Option α) (ks:KS α Aaj):Option α:=Aak n v.1.1 v.2.1 (λa b=>f ((a,(),()),(b,()))) (λw0=>ks.1 (((),()),(w0,())))
def A61 {α:Type} (n m:Nat) (a:Int) (b:LI) (k0:LI->Option α):Option α:=A4 (Aai n) m ((a,(),()),(b,())) (λw=>k0 w.2.1,())
theorem B8e {α n m a b k0}:A61 (α:=α) n (m+1) a b k0=Aak n a b (λa b=>A61 n m a b k0) k0:=rfl
def f150 (a0:Int):Option LI :=
 A61 n n a0 []
  (λa=>(
   some a))
def Wc:Ent:=⟨150,[hI],[hIs],λx=>f150 n x⟩
def Are:D3 α:=⟨[(1,⟨0,[],[Gn]⟩),(4,⟨0,[],[(3,B4 hI)]⟩)],[],[(2,⟨Z1,Aaj,A4 (Aai n) n⟩)],[]⟩
theorem Ak1:Ap PP (Ae (Are α n).reg):=trivial
theorem B20:LO.Sound (α:=α) PP ⟨15,[]⟩ ⟨Z1,Aaj,A4 (Aai n) n⟩ (.loop (Ai Tryz.f150 35)):=Cb (D:=Are α n) (Ak1 α n) n
theorem Bp6:D3.OK PP TT ⟨15,[]⟩ (Are α n) (Af Tryz.f150) :=
 D3.OK.mk3 (Ak1 α n) (by kernel_rfl:A9 _=[(2,.loop (Ai Tryz.f150 35))]) ⟨Aa rfl (B20 α n),trivial⟩
theorem Ahc:(Wc n).Sound PP:=fk (fn:=Tryz.f150) (Bp6 _ n)

def Ae9 (n:Nat) (a0:LI):Option LI :=
 gd ((!a0.isEmpty)) (
  gd (decide ((0+a0.length)*8<=140737488355328)) (
   some a0))
def Kz:Ent3:=⟨123,[.im hIs],[[.one (.own 3 hI)]],λx=>Ae9 n x,[]⟩
def Bka (α:Type) (n:Nat):D3 α:=⟨[(3,⟨0,[],[Gn]⟩)],[],[],[]⟩
theorem Arr:(Kz n).Sound PP:=A89 (fn:=Tryz.f123) (D:=Bka _ n) trivial

def A2o {α:Type} (n:Nat) (s0o s0l:Nat) (c:LI) (d e g i a:Int) (b:LI) (f:Nat->Nat->LI->Int->Int->Int->Int->Int->LI->Option α) (k0:Nat->Nat->LI->Int->Int->Int->LI->Option α):Option α :=
 bif (decide (a<i)) then
  gd (decide (0<=a)&&decide (a<(s0l:Int))) (
   gd (decide ((s0o+a.toNat)<b.length)) (
    let j:=λ(h:Int)=>(
     let k:=λ(l:Int)=>(
      gd (decide (0<=a)&&decide (a<(s0l:Int))) (
       gd (decide ((s0o+a.toNat)<b.length)) (
        f s0o s0l c d e l i (W (a+1)) (b.set (s0o+a.toNat) (W (h-(W (l*10000))))))))
     bif (decide (h<0)) then
      k (W (Int.tdiv (W ((W (h-10000))+1)) 10000))
     else
      k 0)
    bif (decide (a<d)) then
     gd (decide (0<=a)&&decide (a<(c.length:Int))) (
      j (W ((W ((b.getD (s0o+a.toNat) 0)+g))-(W (e*(c.getD a.toNat 0))))))
    else
     j (W ((b.getD (s0o+a.toNat) 0)+g))))
 else
  k0 s0o s0l c d e g b
abbrev U7:Tm:=⟨[Xb,Eg,Ik,Dr,Ee,(50,.d hI),(51,.d hI)],A16,[],[]⟩
abbrev Lq:Tm:=⟨[Xb,Eg,Ik,Dr,Ee],A16,[],[]⟩
abbrev A2n:List (Exit × Tm):=[(.exit 0,Lq)]
def A2m {α:Type} (v:U7.den) (f:U7.den->Option α) (ks:KS α A2n):Option α:=A2o n v.1.1.1 v.1.1.2 v.1.2.1 v.1.2.2.1 v.1.2.2.2.1 v.1.2.2.2.2.1 v.1.2.2.2.2.2.1 v.1.2.2.2.2.2.2.1 v.2.1 (λs0o s0l a b c d e g h=>f (((s0o,s0l),a,b,c,d,e,g,()),(h,()))) (λw0 w1 w2 w3 w4 w5 w6=>ks.1 (((w0,w1),w2,w3,w4,w5,()),(w6,())))
def I9 {α:Type} (n m:Nat) (s0o s0l:Nat) (a:LI) (b c d e f:Int) (g:LI) (k0:Nat->Nat->LI->Int->Int->Int->LI->Option α):Option α:=A4 (A2m n) m (((s0o,s0l),a,b,c,d,e,f,()),(g,())) (λw=>k0 w.1.1.1 w.1.1.2 w.1.2.1 w.1.2.2.1 w.1.2.2.2.1 w.1.2.2.2.2.1 w.2.1,())
theorem B0l {α n m s0o s0l a b c d e f g k0}:I9 (α:=α) n (m+1) s0o s0l a b c d e f g k0=A2o n s0o s0l a b c d e f g (λs0o s0l a b c d e f g=>I9 n m s0o s0l a b c d e f g k0) k0:=rfl
def Y8 {α:Type} (n:Nat) (s0o s0l:Nat) (c:LI) (d g h e i a:Int) (b:LI) (f:Nat->Nat->LI->Int->Int->Int->Int->Int->Int->LI->Option α) (k0:Nat->Nat->LI->Int->Int->Int->Int->LI->Option α):Option α :=
 bif (decide (a<i)) then
  gd (decide (0<=a)&&decide (a<(s0l:Int))) (
   gd (decide ((s0o+a.toNat)<b.length)) (
    let j:=λ(k:Int)=>(
     gd (decide (0<=a)&&decide (a<(s0l:Int))) (
      gd (decide ((s0o+a.toNat)<b.length)) (
       f s0o s0l c d g h (W (Int.tdiv k 10000)) i (W (a+1)) (b.set (s0o+a.toNat) (Int.tmod k 10000)))))
    bif (decide (a<d)) then
     gd (decide (0<=a)&&decide (a<(c.length:Int))) (
      j (W ((W ((b.getD (s0o+a.toNat) 0)+e))+(c.getD a.toNat 0))))
    else
     j (W ((b.getD (s0o+a.toNat) 0)+e))))
 else
  k0 s0o s0l c d g h e b
abbrev Q9:Tm:=⟨[Xb,Eg,Ik,Dr,Ee,(11,.d hI),(90,.d hI),(91,.d hI)],A16,[],[]⟩
abbrev Atz:Tm:=⟨[Xb,Eg,Ik,Dr,Ee,(11,.d hI)],A16,[],[]⟩
abbrev Y7:List (Exit × Tm):=[(.exit 4,Atz)]
def Y6 {α:Type} (v:Q9.den) (f:Q9.den->Option α) (ks:KS α Y7):Option α:=Y8 n v.1.1.1 v.1.1.2 v.1.2.1 v.1.2.2.1 v.1.2.2.2.1 v.1.2.2.2.2.1 v.1.2.2.2.2.2.1 v.1.2.2.2.2.2.2.1 v.1.2.2.2.2.2.2.2.1 v.2.1 (λs0o s0l a b c d e g h i=>f (((s0o,s0l),a,b,c,d,e,g,h,()),(i,()))) (λw0 w1 w2 w3 w4 w5 w6 w7=>ks.1 (((w0,w1),w2,w3,w4,w5,w6,()),(w7,())))
def Ku {α:Type} (n m:Nat) (s0o s0l:Nat) (a:LI) (b c d e f g:Int) (h:LI) (k0:Nat->Nat->LI->Int->Int->Int->Int->LI->Option α):Option α:=A4 (Y6 n) m (((s0o,s0l),a,b,c,d,e,f,g,()),(h,())) (λw=>k0 w.1.1.1 w.1.1.2 w.1.2.1 w.1.2.2.1 w.1.2.2.2.1 w.1.2.2.2.2.1 w.1.2.2.2.2.2.1 w.2.1,())
theorem Aty {α n m s0o s0l a b c d e f g h k0}:Ku (α:=α) n (m+1) s0o s0l a b c d e f g h k0=Y8 n s0o s0l a b c d e f g h (λs0o s0l a b c d e f g h=>Ku n m s0o s0l a b c d e f g h k0) k0:=rfl
def Yb {α:Type} (s0o s0l:Nat) (d:LI) (e a b:Int) (c:LI) (f:Nat->Nat->LI->Int->Int->Int->LI->Option α) (k0:Int->LI->Option α):Option α :=
 bif (decide (b<0)) then
  Ku n n s0o s0l d e (W (a-1)) b 0 (s0l:Int) 0 c
   (λg h i j k l m o=>(
    f g h i j k (W (l+m)) o))
 else
  k0 a c
abbrev Au2:Tm:=⟨[Dr],A16,[],[]⟩
abbrev Ya:List (Exit × Tm):=[(.exit 2,Au2)]
def Y9 {α:Type} (v:Lq.den) (f:Lq.den->Option α) (ks:KS α Ya):Option α:=Yb n v.1.1.1 v.1.1.2 v.1.2.1 v.1.2.2.1 v.1.2.2.2.1 v.1.2.2.2.2.1 v.2.1 (λs0o s0l a b c d e=>f (((s0o,s0l),a,b,c,d,()),(e,()))) (λw0 w1=>ks.1 ((w0,()),(w1,())))
def Kv {α:Type} (n m:Nat) (s0o s0l:Nat) (a:LI) (b c d:Int) (e:LI) (k0:Int->LI->Option α):Option α:=A4 (Y9 n) m (((s0o,s0l),a,b,c,d,()),(e,())) (λw=>k0 w.1.1 w.2.1,())
theorem Au0 {α n m s0o s0l a b c d e k0}:Kv (α:=α) n (m+1) s0o s0l a b c d e k0=Yb n s0o s0l a b c d e (λs0o s0l a b c d e=>Kv n m s0o s0l a b c d e k0) k0:=rfl
abbrev B6c:Tm:=⟨[Xb,Eg,Ik,Dr,G0,(10,.d hI),(50,.d hI),(51,.d hI)],A16,[],[]⟩
abbrev B6b:Tm:=⟨[Xb,Eg,Ik,Dr,Ee,G0,(10,.d hI),(50,.d hI),(51,.d hI)],A16,[],[]⟩
abbrev B6a:Tm:=⟨[Xb,Eg,Ik,Dr,Ee,K8,(13,.d hI),(90,.d hI),(91,.d hI)],A16,[],[]⟩
def Ama (a0:LI × Nat × Nat) (a1:LI):Option (Int × LI) :=
 gd (decide (0<=(a1.length:Int))&&decide ((a1.length:Int)<(a0.2.2:Int))) (
  gd (decide ((a0.2.1+(a1.length:Int).toNat)<a0.1.length)) (
   gd (decide (0<=(W ((a1.length:Int)-1)))&&decide ((W ((a1.length:Int)-1))<(a0.2.2:Int))) (
    gd (decide ((a0.2.1+(W ((a1.length:Int)-1)).toNat)<a0.1.length)) (
     gd (decide (0<=(W ((a1.length:Int)-2)))&&decide ((W ((a1.length:Int)-2))<(a0.2.2:Int))) (
      gd (decide ((a0.2.1+(W ((a1.length:Int)-2)).toNat)<a0.1.length)) (
       gd (decide (0<=(W ((a1.length:Int)-1)))&&decide ((W ((a1.length:Int)-1))<(a1.length:Int))) (
        gd (decide (0<=(W ((a1.length:Int)-2)))&&decide ((W ((a1.length:Int)-2))<(a1.length:Int))) (
         gd (decide ((W ((W ((a1.getD ((W ((a1.length:Int)-1)).toNat) 0)*10000))+(a1.getD ((W ((a1.length:Int)-2)).toNat) 0))) ≠ 0)) (
          I9 n n a0.2.1 a0.2.2 a1 (a1.length:Int) (min (W (Int.tdiv (W ((W ((W ((W ((a0.1.getD (a0.2.1+(a1.length:Int).toNat) 0)*10000))+(a0.1.getD (a0.2.1+(W ((a1.length:Int)-1)).toNat) 0)))*10000))+(a0.1.getD (a0.2.1+(W ((a1.length:Int)-2)).toNat) 0))) (W ((W ((a1.getD ((W ((a1.length:Int)-1)).toNat) 0)*10000))+(a1.getD ((W ((a1.length:Int)-2)).toNat) 0))))) 9999) 0 (a0.2.2:Int) 0 a0.1
           (λa b c d e f g=>(
            Kv n n a b c d e f g
             (λh i=>(
              some (h,i))))))))))))))
def My:Ent3:=⟨219,[.one (.win 3 hI),.im hIs],[[.im hI]],λx=>Ama n x.1 x.2,[]⟩
def Vr:D3 α:=⟨[(2,⟨17,[],[]⟩),(3,⟨13,[],[]⟩)],[(11,B6c),(14,B6b),(25,B6a)],[(6,⟨U7,A2n,A4 (A2m n) n⟩),(20,⟨Q9,Y7,A4 (Y6 n) n⟩),(16,⟨Lq,Ya,A4 (Y9 n) n⟩)],[]⟩
theorem Q8:Ap PP (Ae (Vr α n).reg):=trivial
theorem Atx:LO.Sound (α:=α) PP ⟨121,[]⟩ ⟨U7,A2n,A4 (A2m n) n⟩ (.loop (Ai Tryz.f219 607)):=Cb (D:=Vr α n) (Q8 α n) n
theorem Apu:LO.Sound (α:=α) PP ⟨121,[]⟩ ⟨Q9,Y7,A4 (Y6 n) n⟩ (.loop (Ai Tryz.f219 154175)):=Cb (D:=Vr α n) (Q8 α n) n
theorem Au1:D3.OK PP TT ⟨121,[]⟩ (Vr α n) (Ai Tryz.f219 575) :=
 D3.OK.mk3 (Q8 α n) (by kernel_rfl:A9 _=[(20,.loop (Ai Tryz.f219 154175))]) ⟨Aa rfl (Apu α n),trivial⟩
theorem Apv:LO.Sound (α:=α) PP ⟨121,[]⟩ ⟨Lq,Ya,A4 (Y9 n) n⟩ (.loop (Ai Tryz.f219 575)):=lk (Au1 α n) n
theorem Bi5:D3.OK PP TT ⟨121,[]⟩ (Vr α n) (Af Tryz.f219) :=
 D3.OK.mk3 (Q8 α n) (by kernel_rfl:A9 _=[(6,.loop (Ai Tryz.f219 607)),(16,.loop (Ai Tryz.f219 575))]) ⟨Aa rfl (Atx α n),Aa rfl (Apv α n),trivial⟩
theorem Bcw:(My n).Sound PP:=Vl (fn:=Tryz.f219) (Bi5 _ n)

def A8u {α:Type} (n:Nat) (i:Nat) (z:Int) (d:LI) (a:LI) (c:Int) (b:LI) (f:LI->LI->Int->LI->Option α) (k0:Int->LI->Option α):Option α :=
 gd (decide (0<(a.length:Int))) (
  gd (decide ((a.getD 0 0) ≠ 0)) (
   gd (decide (0<(a.length:Int))) (
    gd (decide ((a.getD 0 0) ≠ 0)) (
     gd (decide (0<=(i:Int))&&decide ((i:Int)<(b.length:Int))) (
      gd (decide ((i:Int).toNat<b.length)) (
       f d a (Int.tmod (W ((W (c*10000))+z)) (a.getD 0 0)) (b.set ((i:Int).toNat) (W (Int.tdiv (W ((W (c*10000))+z)) (a.getD 0 0))))))))))
abbrev N5:Tm:=⟨[C4,Cu,Dk,(29,.d Al8)],[Af3,Alr,Alo,(27,.arr 3 hI false)],[],[]⟩
abbrev B6p:Tm:=⟨[Cu,Dk],[Alr,Alo,(27,.arr 3 hI false)],[3],[]⟩
abbrev Ye:List (Exit × Tm):=[(.normal,B6p)]
def Sn (v:N5.den):List Int:=(λa b c d=>a) v.1.2.2.2.1 v.2.1.1 v.2.2.2.1.1 v.2.2.2.2.1
def So {α:Type} (i:Nat) (z:Int) (v:N5.den) (f:N5.den->Option α) (ks:KS α Ye):Option α:=A8u n i z v.1.2.2.2.1 v.2.1.1 v.2.2.2.1.1 v.2.2.2.2.1 (λa b c d=>f (((),(),(),a,()),((b,()),((),()),(c,()),d,()))) (λw0 w1=>ks.1 (((),(),()),(((),()),(w0,()),w1,())))
def Sp {α:Type} (v:N5.den) (ks:KS α Ye):Option α:=(λc d a b=>ks.1 (((),(),()),(((),()),(a,()),b,()))) v.1.2.2.2.1 v.2.1.1 v.2.2.2.1.1 v.2.2.2.2.1
def Awi {α:Type} (a:LI) (b:LI) (c:Int) (d:LI) (k0:Int->LI->Option α):Option α:=Rm Sn (So n) Sp (((),(),(),a,()),((b,()),((),()),(c,()),d,())) (λw=>k0 w.2.2.1.1 w.2.2.2.1,())
def N4 {α:Type} (zs:List Int) (i:Nat) (a:LI) (b:LI) (c:Int) (d:LI) (k0:Int->LI->Option α):Option α:=Rn Sn (So n) zs i (((),(),(),a,()),((b,()),((),()),(c,()),d,())) (λv=>Sp v (λw=>k0 w.2.2.1.1 w.2.2.2.1,())) (λw=>k0 w.2.2.1.1 w.2.2.2.1,())
theorem B6n {α:Type} (n:Nat) (a:LI) (b:LI) (c:Int) (d:LI) (k0:Int->LI->Option α):Awi (α:=α) n a b c d k0=gd (decide (a.length<=4611686018427387904)) (N4 n a a.length a b c d k0):=rfl
theorem B6o {α:Type} (n:Nat) (zs:List Int) (c:LI) (d:LI) (a:Int) (b:LI) (k0:Int->LI->Option α):N4 (α:=α) n zs 0 c d a b k0=k0 a b:=rfl
theorem B6m {α:Type} (n:Nat) (zs:List Int) (i:Nat) (a:LI) (b:LI) (c:Int) (d:LI) (k0:Int->LI->Option α):N4 (α:=α) n zs (i+1) a b c d k0=A8u n i (zs.getD i 0) a b c d (λa b c d=>gd (decide (a=zs)) (N4 n zs i a b c d k0)) k0:=rfl
def Uf {α:Type} (b a:Int) (g c d:LI) (f:Int->Int->LI->LI->LI->Option α) (k0:LI->LI->Option α):Option α :=
 bif (decide (a>=0)) then
  gd (decide (0<=a)&&decide (a<=(W ((W (a+b))+1)))&&decide ((W ((W (a+b))+1))<=(d.length:Int))) (
   ob (Ama n (d,a.toNat,((W ((W (a+b))+1)).toNat-a.toNat)) g) λe =>
   gd (Nat.beq e.2.length d.length&&true) (
    gd (decide (0<=a)&&decide (a<(c.length:Int))) (
     gd (decide (a.toNat<c.length)) (
      f b (W (a-1)) g (c.set a.toNat e.1) e.2))))
 else
  k0 c d
abbrev Ue:Tm:=⟨[C4,Ed,Abl,(12,.k (.hw 62)),(13,.d hI)],[Af3,(62,.arr 3 hI false),A4m],[55],[]⟩
abbrev B0x:Tm:=⟨[Abl,(12,.k (.hw 62))],[(62,.arr 3 hI false),A4m],[3],[]⟩
abbrev A32:List (Exit × Tm):=[(.exit 2,B0x)]
def A31 {α:Type} (v:Ue.den) (f:Ue.den->Option α) (ks:KS α A32):Option α:=Uf n v.1.2.1 v.1.2.2.2.2.1 v.2.1.1 v.2.2.1 v.2.2.2.1 (λa b c d e=>f (((),a,(),(),b,()),((c,()),d,e,()))) (λw0 w1=>ks.1 (((),(),()),(w0,w1,())))
def Yf {α:Type} (n m:Nat) (a b:Int) (c d e:LI) (k0:LI->LI->Option α):Option α:=A4 (A31 n) m (((),a,(),(),b,()),((c,()),d,e,())) (λw=>k0 w.2.1 w.2.2.1,())
theorem Adk {α n m a b c d e k0}:Yf (α:=α) n (m+1) a b c d e k0=Uf n a b c d e (λa b c d e=>Yf n m a b c d e k0) k0:=rfl
abbrev Aq9:Tm:=⟨[C4,Cu,Dk,G0,(10,.d hI),(29,.d Al8),(30,.d hI),(31,.d hI)],[Af3,Alr,Alo,(27,.arr 3 hI false)],[],[]⟩
abbrev Aq8:Tm:=⟨[Cu,Dk],[Alr,Alo,(27,.arr 3 hI false)],[],[]⟩
abbrev Aq7:Tm:=⟨[Hs,C4,Ed],[Af3],[],[]⟩
abbrev Aq6:Tm:=⟨[C4,Ed,Abl,(12,.k (.hw 62)),(13,.d hI)],[Af3,(62,.arr 3 hI false),A4m],[],[]⟩
def f204 (a0 a1:LI):Option (LI × LI) :=
 ob (f155 n a0 a1) λb =>
 bif (decide (b<0)) then
  ob (f123 n a0) λc =>
  some ([],c)
 else
  bif ((a1.length:Int)==1) then
   gd (decide (0<=(a0.length:Int))&&decide ((a0.length:Int)<=4611686018427387904)&&decide ((8:Int)*(a0.length:Int)<=281474976710656)) (
    ob (f205 n a0) λd =>
    Awi n d a1 0 (List.replicate ((a0.length:Int).toNat) 0)
     (λe f=>(
      ob (f202 n f) λg =>
      ob (f150 n e) λh =>
      some (g,h))))
  else
   ob (Ae9 n a0) λa =>
   gd (decide ((a.length+1)*8<=140737488355328)) (
    gd (decide (0<=(W ((W ((a0.length:Int)-(a1.length:Int)))+1)))&&decide ((W ((W ((a0.length:Int)-(a1.length:Int)))+1))<=4611686018427387904)&&decide ((8:Int)*(W ((W ((a0.length:Int)-(a1.length:Int)))+1))<=281474976710656)) (
     Yf n n (a1.length:Int) (W ((a0.length:Int)-(a1.length:Int))) a1 (List.replicate ((W ((W ((a0.length:Int)-(a1.length:Int)))+1)).toNat) 0) (a++[0])
      (λi j=>(
       ob (f202 n i) λk =>
       ob (f202 n j) λl =>
       some (k,l)))))
def Adl:Ent:=⟨204,[hIs,hIs],[hIs,hIs],λx=>f204 n x.1 x.2⟩
def A33:D3 α:=⟨[(1,⟨0,[],[(2,A3 (A3e n))]⟩),(2,⟨0,[],[Gn,(2,A3 (Ox n))]⟩),(6,⟨0,[],[(1,A3 (Aq5 n))]⟩),(11,⟨0,[],[(1,{ ent:=some (On n),fz:=[(49,hIs)] }),(3,A3 (Wc n))]⟩),(12,⟨0,[],[(1,Ce (Kz n) 310),(2,B4 hI)]⟩),(16,⟨0,[],[(10,Ce (My n) 320)]⟩),(17,⟨0,[],[(1,{ ent:=some (On n),fz:=[(83,hIs)] }),(3,{ ent:=some (On n),fz:=[(85,hIs)] })]⟩)],[],[(7,⟨N5,Ye,Rm Sn (So n) Sp⟩),(14,⟨Ue,A32,A4 (A31 n) n⟩)],[(10,Aq9),(11,Aq8),(12,Aq7),(16,Aq6)]⟩
theorem Bd1 (n:Nat):Ah TT ⟨87,[]⟩ [] Aq9 (Ag Tryz.f204 13655):=by
 refine ⟨by kernel_rfl,λw q hq=>?_⟩
 obtain rfl:=Be [] hq (by kernel_rfl)
 all_goals exact .inr ⟨14,by kernel_rfl,by kernel_rfl,by kernel_rfl⟩
theorem Bd0:Ah TT ⟨87,[]⟩ [(1,{ ent:=some (On n),fz:=[(49,hIs)] }),(3,A3 (Wc n))] Aq8 (Ag Tryz.f204 727):=by
 refine ⟨by kernel_rfl,λw q hq=>?_⟩
 obtain ⟨y0,q0,rfl,y1,q1,rfl,rfl⟩:=Be [(1,On n),(3,Wc n)] hq (by kernel_rfl)
 all_goals exact .inl (K7.mk (by kernel_rfl))
theorem Bcz:Ah TT ⟨87,[]⟩ [(1,Ce (Kz n) 310),(2,B4 hI)] Aq7 (Ag Tryz.f204 47):=by
 refine ⟨by kernel_rfl,λw q hq=>?_⟩
 have e:WT [(1,Ce (Kz n) 310),(2,B4 hI)] (Ad (Ag Tryz.f204 47).toList) q=(∃ (y0:HF (Ar 1000 (Kz n).ts) (Kz n).forms) (q0:List (Nat × RV)),q=(1,.bx (Kz n) y0)::q0/\q0=[]):=by kernel_rfl
 rw [e] at hq;obtain ⟨y0,q0,rfl,rfl⟩:=hq
 all_goals exact .inl (K7.mk (by kernel_rfl))
theorem Aqa:Ah TT ⟨87,[]⟩ [(10,Ce (My n) 320)] Aq6 (Ag Tryz.f204 4703):=by
 refine ⟨by kernel_rfl,λw q hq=>?_⟩
 have e:WT [(10,Ce (My n) 320)] (Ad (Ag Tryz.f204 4703).toList) q=(∃ (y0:HF (Ar 1000 (My n).ts) (My n).forms) (q0:List (Nat × RV)),q=(10,.bx (My n) y0)::q0/\q0=[]):=by kernel_rfl
 rw [e] at hq;obtain ⟨y0,q0,rfl,rfl⟩:=hq
 all_goals exact .inr ⟨11,by kernel_rfl,by kernel_rfl,by kernel_rfl⟩
theorem Ud:Ap PP (Ae (A33 α n).reg):=⟨A5z n,Nc n,Awh n,Vv n,Ahc n,Arr n,Bcw n,Vv n,Vv n,trivial⟩
theorem B0v:D3.OK PP TT ⟨87,[]⟩ (A33 α n) (Ai Tryz.f204 2391) :=
 D3.OK.mk3a (Ud α n) (by kernel_rfl:A9 _=[]) trivial (by kernel_rfl:Ax _=[]) trivial
theorem B0u:D3.OK PP TT ⟨87,[]⟩ (A33 α n) (Ai Tryz.f204 3415) :=
 D3.OK.mk3a (Ud α n) (by kernel_rfl:A9 _=[]) trivial (by kernel_rfl:Ax _=[(10,Ag Tryz.f204 13655)]) ⟨⟨Bd1 n,trivial⟩,trivial⟩
theorem B0t:LO.Sound (α:=α) PP ⟨87,[]⟩ ⟨N5,Ye,Rm Sn (So n) Sp⟩ (.rangeFunc (.tmp 29) #[30,31] (Ai Tryz.f204 2391) (Ai Tryz.f204 3415)) :=
 Anp (Va _) Ro Sn (So n) Sp Ay5 rfl rfl rfl rfl (B0v α n) (B0u α n) (by intro v;rfl) (by intro i z v f ks;kernel_rfl) (by intro v ks;kernel_rfl)
theorem B0w:D3.OK PP TT ⟨87,[]⟩ (A33 α n) (Ai Tryz.f204 607) :=
 D3.OK.mk3a (Ud α n) (by kernel_rfl:A9 _=[]) trivial (by kernel_rfl:Ax _=[(16,Ag Tryz.f204 4703)]) ⟨⟨Aqa n,trivial⟩,trivial⟩
theorem Au4:LO.Sound (α:=α) PP ⟨87,[]⟩ ⟨Ue,A32,A4 (A31 n) n⟩ (.loop (Ai Tryz.f204 607)):=lk (B0w α n) n
theorem Bo0:D3.OK PP TT ⟨87,[]⟩ (A33 α n) (Af Tryz.f204) :=
 D3.OK.mk3a (Ud α n) (by kernel_rfl:A9 _=[(7,(.rangeFunc (.tmp 29) #[30,31] (Ai Tryz.f204 2391) (Ai Tryz.f204 3415))),(14,.loop (Ai Tryz.f204 607))]) ⟨Aa rfl (B0t α n),Aa rfl (Au4 α n),trivial⟩ (by kernel_rfl:Ax _=[(11,Ag Tryz.f204 727),(12,Ag Tryz.f204 47),(16,Ag Tryz.f204 4703)]) ⟨⟨Bd0 n,trivial⟩,⟨Bcz n,trivial⟩,⟨Aqa n,trivial⟩,trivial⟩
theorem Ah2:(Adl n).Sound PP:=fk (fn:=Tryz.f204) (Bo0 _ n)

def A8x {α:Type} (b a:LI) (f:LI->LI->Option α) (k0:LI->Option α):Option α :=
 bif (decide ((a.length:Int)>0)) then
  ob (f204 n b a) λc =>
  f a c.2
 else
  k0 b
abbrev A8w:List (Exit × Tm):=[(.exit 0,A2u)]
def A8v {α:Type} (v:Ia.den) (f:Ia.den->Option α) (ks:KS α A8w):Option α:=A8x n v.1.1 v.1.2.1 (λa b=>f ((a,b,()),())) (λw0=>ks.1 ((w0,()),()))
def N6 {α:Type} (n m:Nat) (a b:LI) (k0:LI->Option α):Option α:=A4 (A8v n) m ((a,b,()),()) (λw=>k0 w.1.1,())
theorem Aj8 {α n m a b k0}:N6 (α:=α) n (m+1) a b k0=A8x n a b (λa b=>N6 n m a b k0) k0:=rfl
def f203 (a0 a1:LI):Option LI :=
 N6 n n a0 a1
  (λa=>(
   some a))
def Aqb:Ent:=⟨203,[hIs,hIs],[hIs],λx=>f203 n x.1 x.2⟩
def Aqc:D3 α:=⟨[(2,⟨0,[],[(2,A3 (Adl n))]⟩)],[],[(1,⟨Ia,A8w,A4 (A8v n) n⟩)],[]⟩
theorem Aj7:Ap PP (Ae (Aqc α n).reg):=⟨Ah2 n,trivial⟩
theorem B0y:LO.Sound (α:=α) PP ⟨19,[]⟩ ⟨Ia,A8w,A4 (A8v n) n⟩ (.loop (Ai Tryz.f203 17)):=Cb (D:=Aqc α n) (Aj7 α n) n
theorem Bo1:D3.OK PP TT ⟨19,[]⟩ (Aqc α n) (Af Tryz.f203) :=
 D3.OK.mk3 (Aj7 α n) (by kernel_rfl:A9 _=[(1,.loop (Ai Tryz.f203 17))]) ⟨Aa rfl (B0y α n),trivial⟩
theorem Awj:(Aqb n).Sound PP:=fk (fn:=Tryz.f203) (Bo1 _ n)

def f151 (n:Nat)  : Option LI :=
 some [1]
def W9:Ent:=⟨151,[],[hIs],λ_=>f151 n⟩
def Bp5 (α:Type) (n:Nat):D3 α:=⟨[(1,⟨0,[],[Gn]⟩)],[],[],[]⟩
theorem W8:(W9 n).Sound PP:=B9 (fn:=Tryz.f151) (D:=Bp5 _ n) trivial

abbrev Aw7:Tm:=⟨[Xe],[(1,.var 54 true false G7)],[],[]⟩
def f215 (a0:Rq):Option Bool :=
 let a:=λ(_:Unit)=>(
  ob (f203 n a0.2.1 a0.2.2) λb =>
  ob (f151 n) λc =>
  ob (f155 n b c) λd =>
  some (d==0))
 ob (f225 n a0.2.1) λe =>
 bif (!e) then
  some false
 else
  ob (f225 n a0.2.2) λf =>
  bif (!f) then
   some false
  else
   bif ((a0.2.2.length:Int)==0) then
    some false
   else
    bif a0.1 then
     ob (f168 n a0) λg =>
     bif g then
      some false
     else
      a ()
    else
     a ()
def B6h:Ent:=⟨215,[hR],[.bool],λx=>f215 n x⟩
def Bno:D3 α:=⟨[(1,⟨0,[],[(2,A3 (Aps n)),(7,A3 (Aps n)),(21,A3 (T3 n))]⟩),(3,⟨0,[],[(4,A3 (Aqb n)),(5,A3 (W9 n)),(6,A3 (A3e n))]⟩)],[(3,Aw7)],[],[]⟩
theorem Bi8:(B6h n).Sound PP:=B9 (fn:=Tryz.f215) (D:=Bno _ n) ⟨Aw3 n,Aw3 n,Qv n,Awj n,W8 n,A5z n,trivial⟩

def f214 (a0:Rq):Option Bool :=
 ob (f215 n a0) λa =>
 some (!a)
def B6i:Ent:=⟨214,[hR],[.bool],λx=>f214 n x⟩
def Bnp:D3 α:=⟨[(1,⟨0,[],[(1,A3 (B6h n))]⟩)],[],[],[]⟩
theorem Bia:(B6i n).Sound PP:=B9 (fn:=Tryz.f214) (D:=Bnp _ n) ⟨Bi8 n,trivial⟩

def Sy {α:Type} (b:LR) (c a:Int) (f:LR->Int->Int->Option α) (k0:Int->Option α) (k1:Unit->Option α):Option α :=
 bif (decide (a<c)) then
  gd (decide (0<=a)&&decide (a<(b.length:Int))) (
   let d:=b.getD a.toNat (false,[],[])
   ob (f214 n d) λe =>
   bif e then
    k0 a
   else
    f b c (W (a+1)))
 else
  k1 ()
abbrev Lv:Tm:=⟨[Tu,(1,.d (.fn 214)),Dr,Ee],[],[],[]⟩
abbrev Sx:List (Exit × Tm):=[(.ret,Oo),(.exit 0,Gl)]
def Su {α:Type} (v:Lv.den) (f:Lv.den->Option α) (ks:KS α Sx):Option α:=Sy n v.1.1 v.1.2.2.1 v.1.2.2.2.1 (λa b c=>f ((a,(),b,c,()),())) (λw0=>ks.1 ((w0,()),())) (λ_=>ks.2.1 ((),()))
def Jt {α:Type} (n m:Nat) (a:LR) (b c:Int) (k0:Int->Option α) (k1:Unit->Option α):Option α:=A4 (Su n) m ((a,(),b,c,()),()) (λw=>k0 w.1.1,λw=>k1 (),())
theorem Al0 {α n m a b c k0 k1}:Jt (α:=α) n (m+1) a b c k0 k1=Sy n a b c (λa b c=>Jt n m a b c k0 k1) k0 k1:=rfl
def A9u (a0:LR) (a1:Unit):Option Int :=
 Jt n n a0 (a0.length:Int) 0
  (λa=>(
   some a))
  (λ(_:Unit)=>(
   some (-1)))
def Adq:Ent:=⟨172,[hRs,(.fn 214)],[hI],λx=>A9u n x.1 x.2⟩
def Yp:D3 α:=⟨[(4,⟨0,[],[(5,A3 (B6i n))]⟩)],[],[(2,⟨Lv,Sx,A4 (Su n) n⟩)],[]⟩
theorem A0s:Ap PP (Ae (Yp α n).reg):=⟨Bia n,trivial⟩
theorem Ah5:LO.Sound (α:=α) PP ⟨19,[]⟩ ⟨Lv,Sx,A4 (Su n) n⟩ (.loop (Ai Tryz.f172 37)):=Cb (D:=Yp α n) (A0s α n) n
theorem B1a:D3.OK PP TT ⟨19,[]⟩ (Yp α n) (Af Tryz.f172) :=
 D3.OK.mk3 (A0s α n) (by kernel_rfl:A9 _=[(2,.loop (Ai Tryz.f172 37))]) ⟨Aa rfl (Ah5 α n),trivial⟩
theorem Au5:(Adq n).Sound PP:=fk (fn:=Tryz.f172) (B1a _ n)

def Zf (a0:LR) (a1:Unit):Option Bool :=
 ob (A9u n a0 a1) λa =>
 some (decide (a>=0))
def Aed:Ent:=⟨104,[hRs,(.fn 214)],[.bool],λx=>Zf n x.1 x.2⟩
def B2e:D3 α:=⟨[(1,⟨0,[],[(2,A3 (Adq n))]⟩)],[],[],[]⟩
theorem Auc:(Aed n).Sound PP:=B9 (fn:=Tryz.f104) (D:=B2e _ n) ⟨Au5 n,trivial⟩

def f185 (a0:LR):Option Int :=
 ob (Zf n a0 ()) λa =>
 ob (f111 n (!a) 1) λb =>
 some b
def B75:Ent:=⟨185,[hRs],[hI],λx=>f185 n x⟩
def Bob:D3 α:=⟨[(1,⟨0,[],[(1,A3 (Aed n)),(3,A3 (Id n))]⟩)],[],[],[]⟩
theorem Bio:(B75 n).Sound PP:=B9 (fn:=Tryz.f185) (D:=Bob _ n) ⟨Auc n,Iy n,trivial⟩

def f119 (a0:LR):Option Bool :=
 bif (decide ((a0.length:Int)>=1)) then
  bif (decide ((a0.length:Int)<=4)) then
   ob (f185 n a0) λa =>
   some (a==0)
  else
   some false
 else
  some false
def Wf:Ent:=⟨119,[hRs],[.bool],λx=>f119 n x⟩
def Bpr:D3 α:=⟨[(1,⟨0,[],[(10,A3 (B75 n))]⟩)],[],[],[]⟩
theorem Ahf:(Wf n).Sound PP:=B9 (fn:=Tryz.f119) (D:=Bpr _ n) ⟨Bio n,trivial⟩

def Agf {α:Type} (n:Nat) (b:LI) (c a:Int) (f:LI->Int->Int->Option α) (k0:Int->Option α) (k1:Unit->Option α):Option α :=
 bif (decide (a<c)) then
  gd (decide (0<=a)&&decide (a<(b.length:Int))) (
   bif ((b.getD a.toNat 0) != 0) then
    k0 (b.getD a.toNat 0)
   else
    f b c (W (a+1)))
 else
  k1 ()
abbrev A58:Tm:=⟨[(5,.d hIs),Ed,Dr],[],[],[]⟩
abbrev Bci:Tm:=⟨[(2,.d hI)],[],[],[]⟩
abbrev Age:List (Exit × Tm):=[(.ret,Bci),(.exit 0,Gl)]
def Agd {α:Type} (v:A58.den) (f:A58.den->Option α) (ks:KS α Age):Option α:=Agf n v.1.1 v.1.2.1 v.1.2.2.1 (λa b c=>f ((a,b,c,()),())) (λw0=>ks.1 ((w0,()),())) (λ_=>ks.2.1 ((),()))
def Ad2 {α:Type} (n m:Nat) (a:LI) (b c:Int) (k0:Int->Option α) (k1:Unit->Option α):Option α:=A4 (Agd n) m ((a,b,c,()),()) (λw=>k0 w.1.1,λw=>k1 (),())
theorem Bch {α n m a b c k0 k1}:Ad2 (α:=α) n (m+1) a b c k0 k1=Agf n a b c (λa b c=>Ad2 n m a b c k0 k1) k0 k1:=rfl
def f70 (a0:LI):Option Int :=
 Ad2 n n a0 (a0.length:Int) 0
  (λa=>(
   some a))
  (λ(_:Unit)=>(
   some 0))
def Lo:Ent:=⟨70,[hIs],[hI],λx=>f70 n x⟩
def B02:D3 α:=⟨[],[],[(2,⟨A58,Age,A4 (Agd n) n⟩)],[]⟩
theorem Ap9:Ap PP (Ae (B02 α n).reg):=trivial
theorem B5k:LO.Sound (α:=α) PP ⟨15,[]⟩ ⟨A58,Age,A4 (Agd n) n⟩ (.loop (Ai Tryz.f70 37)):=Cb (D:=B02 α n) (Ap9 α n) n
theorem Br8:D3.OK PP TT ⟨15,[]⟩ (B02 α n) (Af Tryz.f70) :=
 D3.OK.mk3 (Ap9 α n) (by kernel_rfl:A9 _=[(2,.loop (Ai Tryz.f70 37))]) ⟨Aa rfl (B5k α n),trivial⟩
theorem S1:(Lo n).Sound PP:=fk (fn:=Tryz.f70) (Br8 _ n)

def Aaw {α:Type} (n:Nat) (c:Int) (b:LN) (d a:Int) (f:Int->LN->Int->Int->Option α) (k0:Int->Option α):Option α :=
 bif (decide (a<d)) then
  gd (decide (0<=a)&&decide (a<(b.length:Int))) (
   let e:=b.getD a.toNat (0,0,0,0)
   bif (e.1==2) then
    f (max c (W (e.2.2.2+1))) b d (W (a+1))
   else
    f c b d (W (a+1)))
 else
  k0 c
abbrev Z6:Tm:=⟨[Ns,(6,.d hNs),Dr,Ee],[],[5],[]⟩
abbrev Aav:List (Exit × Tm):=[(.exit 0,Ajm)]
def Aau {α:Type} (v:Z6.den) (f:Z6.den->Option α) (ks:KS α Aav):Option α:=Aaw n v.1.1 v.1.2.1 v.1.2.2.1 v.1.2.2.2.1 (λa b c d=>f ((a,b,c,d,()),())) (λw0=>ks.1 ((w0,()),()))
def A67 {α:Type} (n m:Nat) (a:Int) (b:LN) (c d:Int) (k0:Int->Option α):Option α:=A4 (Aau n) m ((a,b,c,d,()),()) (λw=>k0 w.1.1,())
theorem B8u {α n m a b c d k0}:A67 (α:=α) n (m+1) a b c d k0=Aaw n a b c d (λa b c d=>A67 n m a b c d k0) k0:=rfl
def f120 (a0:LN):Option Int :=
 A67 n n 0 a0 (a0.length:Int) 0
  (λa=>(
   some a))
def B8v:Ent:=⟨120,[hNs],[hI],λx=>f120 n x⟩
def Aru:D3 α:=⟨[],[],[(3,⟨Z6,Aav,A4 (Aau n) n⟩)],[]⟩
theorem Ak6:Ap PP (Ae (Aru α n).reg):=trivial
theorem B25:LO.Sound (α:=α) PP ⟨22,[]⟩ ⟨Z6,Aav,A4 (Aau n) n⟩ (.loop (Ai Tryz.f120 75)):=Cb (D:=Aru α n) (Ak6 α n) n
theorem Bpp:D3.OK PP TT ⟨22,[]⟩ (Aru α n) (Af Tryz.f120) :=
 D3.OK.mk3 (Ak6 α n) (by kernel_rfl:A9 _=[(3,.loop (Ai Tryz.f120 75))]) ⟨Aa rfl (B25 α n),trivial⟩
theorem Axj:(B8v n).Sound PP:=fk (fn:=Tryz.f120) (Bpp _ n)

abbrev B57:Tm:=⟨[F4,Cs],[Ali],[],[]⟩
def f96 (a0:LN × Int) (a1:LR):Option Int :=
 ob (f71 n [a1]) λb =>
 ob (f149 n a0) λc =>
 ob (f119 n a1) λd =>
 ob (f111 n d 1) λe =>
 ob (f70 n [b,c,e]) λa =>
 bif (a != 0) then
  ob (f111 n true 8) λf =>
  ob (f70 n [a,f]) λg =>
  some g
 else
  ob (f120 n a0.1) λh =>
  ob (f111 n (decide ((a1.length:Int)>=h)) 8) λi =>
  ob (f70 n [a,i]) λj =>
  some j
def Am5:Ent:=⟨96,[Ft,hRs],[hI],λx=>f96 n x.1 x.2⟩
abbrev Bl8:List (Nat × OA):=[(1,B4 hRs),(2,A3 (Q7 n)),(4,A3 (Arf n)),(6,A3 (Wf n)),(7,A3 (Id n)),(8,B4 hI),(9,A3 (Lo n))]
abbrev Bf1:List (Nat × OA):=[(8,A3 (B8v n)),(11,A3 (Id n)),(12,B4 hI),(13,A3 (Lo n))]
def Bft:D3 α:=⟨[(1,⟨0,[],(Bl8 n)⟩),(2,⟨0,[],(Bf1 n)⟩)],[],[],[(1,B57)]⟩
theorem Bmk:Ah TT ⟨30,[]⟩ (Bl8 n) B57 (Ag Tryz.f96 5):=by
 refine ⟨by kernel_rfl,λw q hq=>?_⟩
 obtain ⟨y0,q0,rfl,y1,q1,rfl,y2,q2,rfl,y3,q3,rfl,y4,q4,rfl,rfl⟩:=Be [(2,Q7 n),(4,Arf n),(6,Wf n),(7,Id n),(9,Lo n)] hq (by kernel_rfl)
 all_goals exact .inr ⟨6,by kernel_rfl,by kernel_rfl,by kernel_rfl⟩
theorem Bc3:Ap PP (Ae (Bft α n).reg):=⟨Ad1 n,Bjz n,Ahf n,Iy n,S1 n,Axj n,Iy n,S1 n,trivial⟩
theorem Bqy:D3.OK PP TT ⟨30,[]⟩ (Bft α n) (Af Tryz.f96) :=
 D3.OK.mk3a (Bc3 α n) (by kernel_rfl:A9 _=[]) trivial (by kernel_rfl:Ax _=[(1,Ag Tryz.f96 5)]) ⟨⟨Bmk n,trivial⟩,trivial⟩
theorem B56:(Am5 n).Sound PP:=fk (fn:=Tryz.f96) (Bqy _ n)

def f97 (a0:Int):Option Rq :=
 bif (decide (a0<0)) then
  ob (f150 n (W (0-a0))) λa =>
  ob (f151 n) λb =>
  some (true,a,b)
 else
  ob (f150 n a0) λc =>
  ob (f151 n) λd =>
  some (false,c,d)
def Cg:Ent:=⟨97,[hI],[hR],λx=>f97 n x⟩
def Bqx:D3 α:=⟨[(2,⟨0,[],[(2,A3 (Wc n)),(3,A3 (W9 n))]⟩),(3,⟨0,[],[(1,A3 (Wc n)),(2,A3 (W9 n))]⟩)],[],[],[]⟩
theorem Bh:(Cg n).Sound PP:=B9 (fn:=Tryz.f97) (D:=Bqx _ n) ⟨Ahc n,W8 n,Ahc n,W8 n,trivial⟩

def Agi {α:Type} (b c:Int) (a:LR) (f:Int->Int->LR->Option α) (k0:LR->Option α):Option α :=
 bif (decide (c<b)) then
  ob (f97 n 0) λd =>
  gd (decide ((a.length+1)*56<=140737488355328)) (
   f b (W (c+1)) (a++[d]))
 else
  k0 a
abbrev Kt:Tm:=⟨[(3,.k (.hw 4)),Ik,Ed],[(4,.arr 54 hR false)],[10],[]⟩
abbrev Apb:Tm:=⟨[(3,.k (.hw 4))],[(4,.arr 54 hR false)],[],[]⟩
abbrev Agh:List (Exit × Tm):=[(.exit 0,Apb)]
def Agg {α:Type} (v:Kt.den) (f:Kt.den->Option α) (ks:KS α Agh):Option α:=Agi n v.1.2.1 v.1.2.2.1 v.2.1 (λa b c=>f (((),a,b,()),(c,()))) (λw0=>ks.1 (((),()),(w0,())))
def Ad4 {α:Type} (n m:Nat) (a b:Int) (c:LR) (k0:LR->Option α):Option α:=A4 (Agg n) m (((),a,b,()),(c,())) (λw=>k0 w.2.1,())
theorem Bck {α n m a b c k0}:Ad4 (α:=α) n (m+1) a b c k0=Agi n a b c (λa b c=>Ad4 n m a b c k0) k0:=rfl
def f64 (a0:Int):Option LR :=
 Ad4 n n a0 0 []
  (λa=>(
   some a))
def A59:Ent:=⟨64,[hI],[hRs],λx=>f64 n x⟩
abbrev Xd:Nat × OA:=(1,A3 (Cg n))
def B06:D3 α:=⟨[(1,⟨0,[],F5⟩),(4,⟨0,[],[(Xd n),(2,B4 hR)]⟩)],[],[(3,⟨Kt,Agh,A4 (Agg n) n⟩)],[]⟩
theorem Apa:Ap PP (Ae (B06 α n).reg):=⟨Bh n,trivial⟩
theorem B5r:LO.Sound (α:=α) PP ⟨14,[]⟩ ⟨Kt,Agh,A4 (Agg n) n⟩ (.loop (Ai Tryz.f64 75)):=Cb (D:=B06 α n) (Apa α n) n
theorem Bre:D3.OK PP TT ⟨14,[]⟩ (B06 α n) (Af Tryz.f64) :=
 D3.OK.mk3 (Apa α n) (by kernel_rfl:A9 _=[(3,.loop (Ai Tryz.f64 75))]) ⟨Aa rfl (B5r α n),trivial⟩
theorem Ad3:(A59 n).Sound PP:=fk (fn:=Tryz.f64) (Bre _ n)

abbrev A5y:Tm:=⟨[Cs,C4,Bo],[(2,.var 94 true false [.d hI,.d .nil]),Alc,Dg],[],[]⟩
def f163 (a0:Int × Unit) (a1:Rq):Option Eh :=
 ob (f64 n a0.1) λa =>
 ob (f97 n 0) λb =>
 some (a1,a,(),b)
def B7w:Ent:=⟨163,[A4n,hR],[Do],λx=>f163 n x.1 x.2⟩
abbrev Bah:Nat × OA:=(4,A3 (Cg n))
abbrev Ale:List (Nat × OA):=[(3,A3 (A59 n)),(Bah n)]
def B7x:D3 α:=⟨[(1,⟨0,[],(Ale n)⟩)],[],[],[(1,A5y)]⟩
theorem Bjl:Ah TT ⟨20,[]⟩ (Ale n) A5y (Ag Tryz.f163 5):=by
 refine ⟨by kernel_rfl,λw q hq=>?_⟩
 obtain ⟨y0,q0,rfl,y1,q1,rfl,rfl⟩:=Be [(3,A59 n),(4,Cg n)] hq (by kernel_rfl)
 all_goals exact .inr ⟨7,by kernel_rfl,by kernel_rfl,by kernel_rfl⟩
theorem B7v:Ap PP (Ae (B7x α n).reg):=⟨Ad3 n,Bh n,trivial⟩
theorem Bou:D3.OK PP TT ⟨20,[]⟩ (B7x α n) (Af Tryz.f163) :=
 D3.OK.mk3a (B7v α n) (by kernel_rfl:A9 _=[]) trivial (by kernel_rfl:Ax _=[(1,Ag Tryz.f163 5)]) ⟨⟨Bjl n,trivial⟩,trivial⟩
theorem Bjk:(B7w n).Sound PP:=fk (fn:=Tryz.f163) (Bou _ n)

def A8c {α:Type} (b c:Int) (a:LR) (f:Int->Int->LR->Option α) (k0:LR->Option α):Option α :=
 bif (decide (c<b)) then
  ob (f97 n 0) λd =>
  gd (decide ((a.length+1)*56<=140737488355328)) (
   f b (W (c+1)) (a++[d]))
 else
  k0 a
abbrev A8b:List (Exit × Tm):=[(.exit 0,Apb)]
def A8a {α:Type} (v:Kt.den) (f:Kt.den->Option α) (ks:KS α A8b):Option α:=A8c n v.1.2.1 v.1.2.2.1 v.2.1 (λa b c=>f (((),a,b,()),(c,()))) (λw0=>ks.1 (((),()),(w0,())))
def A5a {α:Type} (n m:Nat) (a b:Int) (c:LR) (k0:LR->Option α):Option α:=A4 (A8a n) m (((),a,b,()),(c,())) (λw=>k0 w.2.1,())
theorem B5s {α n m a b c k0}:A5a (α:=α) n (m+1) a b c k0=A8c n a b c (λa b c=>A5a n m a b c k0) k0:=rfl
def Pe (a0:Int):Option LR :=
 A5a n n a0 0 []
  (λa=>(
   some a))
def Ew:Ent3:=⟨64,[.im hI],[[.one (.own 54 hR)]],λx=>Pe n x,[]⟩
def Apc:D3 α:=⟨[(1,⟨0,[],F5⟩),(4,⟨0,[],[(Xd n),(2,B4 hR)]⟩)],[],[(3,⟨Kt,A8b,A4 (A8a n) n⟩)],[]⟩
theorem Aiw:Ap PP (Ae (Apc α n).reg):=⟨Bh n,trivial⟩
theorem B07:LO.Sound (α:=α) PP ⟨14,[]⟩ ⟨Kt,A8b,A4 (A8a n) n⟩ (.loop (Ai Tryz.f64 75)):=Cb (D:=Apc α n) (Aiw α n) n
theorem Bmv:D3.OK PP TT ⟨14,[]⟩ (Apc α n) (Af Tryz.f64) :=
 D3.OK.mk3 (Aiw α n) (by kernel_rfl:A9 _=[(3,.loop (Ai Tryz.f64 75))]) ⟨Aa rfl (B07 α n),trivial⟩
theorem Mw:(Ew n).Sound PP:=Vl (fn:=Tryz.f64) (Bmv _ n)

def Amb (a0:Int × Unit) (a1:Rq):Option Xa :=
 ob (Pe n a0.1) λb =>
 ob (f97 n 0) λa =>
 some (a1.1,a1.2.1,a1.2.2,b,(),a.1,a.2.1,a.2.2)
def Ax3:Ent3:=⟨163,[.im A4n,.im hR],[[.mix [.im .bool,.im hIs,.im hIs,.own 54 hR,.im .nil,.im .bool,.im hIs,.im hIs]]],λx=>Amb n x.1 x.2,[]⟩
abbrev Alp:List (Nat × OA):=[(3,Ce (Ew n) 310),(Bah n)]
def Ax4:D3 α:=⟨[(1,⟨0,[],(Alp n)⟩)],[],[],[(1,A5y)]⟩
theorem Bdi:Ah TT ⟨20,[]⟩ (Alp n) A5y (Ag Tryz.f163 5):=by
 refine ⟨by kernel_rfl,λw q hq=>?_⟩
 have e:WT [(3,Ce (Ew n) 310),(4,A3 (Cg n))] (Ad (Ag Tryz.f163 5).toList) q=(∃ (y0:HF (Ar 1000 (Ew n).ts) (Ew n).forms) (q0:List (Nat × RV)),q=(3,.bx (Ew n) y0)::q0 /\ ∃ (y1:HL (Cg n).rs) (q1:List (Nat × RV)),q0=(4,.sv (Nu (Cg n).rs y1))::q1/\q1=[]):=by kernel_rfl
 rw [e] at hq;obtain ⟨y0,q0,rfl,y1,q1,rfl,rfl⟩:=hq
 all_goals exact .inl (K7.mk (by kernel_rfl))
theorem B1o:Ap PP (Ae (Ax4 α n).reg):=⟨Mw n,Bh n,trivial⟩
theorem Bjm:D3.OK PP TT ⟨20,[]⟩ (Ax4 α n) (Af Tryz.f163) :=
 D3.OK.mk3a (B1o α n) (by kernel_rfl:A9 _=[]) trivial (by kernel_rfl:Ax _=[(1,Ag Tryz.f163 5)]) ⟨⟨Bdi n,trivial⟩,trivial⟩
theorem Bdh:(Ax3 n).Sound PP:=Vl (fn:=Tryz.f163) (Bjm _ n)

abbrev Bji:Tm:=⟨[(2,.d hI),C4,F7,Cu],[(3,.var 94 true false [.d hI,.d .nil]),(6,.var 91 true false zq1),(7,.var 91 false false [.d .bool,.d hIs,.d hIs,.k (.hw 313),.d .nil,.d .bool,.d hIs,.d hIs]),(313,.arr 54 hR false)],[4],[]⟩
def f164 (a0:Int × Unit) (a1:Rq) (a2:Int):Option Eh :=
 ob (Amb n a0 a1) λa =>
 let b:=λ(c:LR)=>(
  some ((a.1,a.2.1,a.2.2.1),c,(),a.2.2.2.2.2))
 bif (decide (a2<a0.1)) then
  ob (f97 n 1) λd =>
  gd (decide (0<=a2)&&decide (a2<(a.2.2.2.1.length:Int))) (
   gd (decide (a2.toNat<a.2.2.2.1.length)) (
    b (a.2.2.2.1.set a2.toNat d)))
 else
  b a.2.2.2.1
def B7u:Ent:=⟨164,[A4n,hR,hI],[Do],λx=>f164 n x.1 x.2.1 x.2.2⟩
def Bot:D3 α:=⟨[(1,⟨0,[],[(2,{ alt:=[(Ax3 n)],hb:=310 })]⟩),(3,⟨4,[],[(3,A3 (Cg n))]⟩)],[(4,Bji)],[],[]⟩
theorem Bjh:(B7u n).Sound PP:=B9 (fn:=Tryz.f164) (D:=Bot _ n) ⟨Bdh n,Bh n,trivial⟩

def Aae {α:Type} (n:Nat) (d:LI) (b g e a:Int) (h:LI) (i j:Int) (c:LI) (f:LI->Int->Int->Int->Int->LI->Int->Int->LI->Option α) (k0:LI->LI->Int->Int->LI->Option α):Option α :=
 let k:=λ(_:Unit)=>(
  let l:=λ(m:Int)=>(
   gd (decide (0<=(W (b+a)))&&decide ((W (b+a))<(c.length:Int))) (
    gd (decide ((W (b+a)).toNat<c.length)) (
     gd (decide (0<=(W (b+a)))&&decide ((W (b+a))<(c.length:Int))) (
      gd (decide ((W (b+a)).toNat<c.length)) (
       f d b g (W (Int.tdiv (W (m+(c.getD ((W (b+a)).toNat) 0))) 10000)) (W (a+1)) h i j (c.set ((W (b+a)).toNat) (Int.tmod (W (m+(c.getD ((W (b+a)).toNat) 0))) 10000)))))))
  bif (decide (a<(d.length:Int))) then
   gd (decide (0<=a)&&decide (a<(d.length:Int))) (
    l (W (e+(W (g*(d.getD a.toNat 0))))))
  else
   l e)
 bif (decide (a<(d.length:Int))) then
  k ()
 else
  bif (decide (e>0)) then
   k ()
  else
   k0 d h i j c
abbrev Na:Tm:=⟨[Eg,(5,.k (.hw 15)),Ed,Dr,Ee,G0,(16,.d hIs),(17,.d hI),(18,.d hI)],[(15,.arr 3 hI false)],[],[]⟩
abbrev Ou:Tm:=⟨[Eg,(5,.k (.hw 15)),(16,.d hIs),(17,.d hI),(18,.d hI)],[(15,.arr 3 hI false)],[],[]⟩
abbrev Aad:List (Exit × Tm):=[(.exit 2,Ou)]
def Aac {α:Type} (v:Na.den) (f:Na.den->Option α) (ks:KS α Aad):Option α:=Aae n v.1.1 v.1.2.2.1 v.1.2.2.2.1 v.1.2.2.2.2.1 v.1.2.2.2.2.2.1 v.1.2.2.2.2.2.2.1 v.1.2.2.2.2.2.2.2.1 v.1.2.2.2.2.2.2.2.2.1 v.2.1 (λa b c d e g h i j=>f ((a,(),b,c,d,e,g,h,i,()),(j,()))) (λw0 w1 w2 w3 w4=>ks.1 ((w0,(),w1,w2,w3,()),(w4,())))
def Qz {α:Type} (n m:Nat) (a:LI) (b c d e:Int) (f:LI) (g h:Int) (i:LI) (k0:LI->LI->Int->Int->LI->Option α):Option α:=A4 (Aac n) m ((a,(),b,c,d,e,f,g,h,()),(i,())) (λw=>k0 w.1.1 w.1.2.2.1 w.1.2.2.2.1 w.1.2.2.2.2.1 w.2.1,())
theorem B8a {α n m a b c d e f g h i k0}:Qz (α:=α) n (m+1) a b c d e f g h i k0=Aae n a b c d e f g h i (λa b c d e f g h i=>Qz n m a b c d e f g h i k0) k0:=rfl
def Aah {α:Type} (e b:LI) (c a:Int) (d:LI) (f:LI->LI->Int->Int->LI->Option α) (k0:LI->Option α):Option α :=
 bif (decide (a<c)) then
  gd (decide (0<=a)&&decide (a<(b.length:Int))) (
   Qz n n e a (b.getD a.toNat 0) 0 0 b c a d
    (λg h i j k=>(
     f g h i (W (j+1)) k)))
 else
  k0 d
abbrev B8d:Tm:=⟨[(5,.k (.hw 15))],[(15,.arr 3 hI false)],[],[]⟩
abbrev Aag:List (Exit × Tm):=[(.exit 0,B8d)]
def Aaf {α:Type} (v:Ou.den) (f:Ou.den->Option α) (ks:KS α Aag):Option α:=Aah n v.1.1 v.1.2.2.1 v.1.2.2.2.1 v.1.2.2.2.2.1 v.2.1 (λa b c d e=>f ((a,(),b,c,d,()),(e,()))) (λw0=>ks.1 (((),()),(w0,())))
def R0 {α:Type} (n m:Nat) (a b:LI) (c d:Int) (e:LI) (k0:LI->Option α):Option α:=A4 (Aaf n) m ((a,(),b,c,d,()),(e,())) (λw=>k0 w.2.1,())
theorem B8b {α n m a b c d e k0}:R0 (α:=α) n (m+1) a b c d e k0=Aah n a b c d e (λa b c d e=>R0 n m a b c d e k0) k0:=rfl
def f152 (a0 a1:LI):Option LI :=
 gd (decide (0<=(W ((a0.length:Int)+(a1.length:Int))))&&decide ((W ((a0.length:Int)+(a1.length:Int)))<=4611686018427387904)&&decide ((8:Int)*(W ((a0.length:Int)+(a1.length:Int)))<=281474976710656)) (
  R0 n n a1 a0 (a0.length:Int) 0 (List.replicate ((W ((a0.length:Int)+(a1.length:Int))).toNat) 0)
   (λa=>(
    ob (f202 n a) λb =>
    some b)))
def Ov:Ent:=⟨152,[hIs,hIs],[hIs],λx=>f152 n x.1 x.2⟩
def Ae8:D3 α:=⟨[(14,⟨0,[],[(1,{ ent:=some (On n),fz:=[(63,hIs)] })]⟩)],[(9,Na),(11,Na)],[(7,⟨Na,Aad,A4 (Aac n) n⟩),(3,⟨Ou,Aag,A4 (Aaf n) n⟩)],[]⟩
theorem A3g:Ap PP (Ae (Ae8 α n).reg):=⟨Vv n,trivial⟩
theorem B1y:LO.Sound (α:=α) PP ⟨65,[]⟩ ⟨Na,Aad,A4 (Aac n) n⟩ (.loop (Ai Tryz.f152 40139)):=Cb (D:=Ae8 α n) (A3g α n) n
theorem B8c:D3.OK PP TT ⟨65,[]⟩ (Ae8 α n) (Ai Tryz.f152 75) :=
 D3.OK.mk3 (A3g α n) (by kernel_rfl:A9 _=[(7,.loop (Ai Tryz.f152 40139))]) ⟨Aa rfl (B1y α n),trivial⟩
theorem B1z:LO.Sound (α:=α) PP ⟨65,[]⟩ ⟨Ou,Aag,A4 (Aaf n) n⟩ (.loop (Ai Tryz.f152 75)):=lk (B8c α n) n
theorem Bp4:D3.OK PP TT ⟨65,[]⟩ (Ae8 α n) (Af Tryz.f152) :=
 D3.OK.mk3 (A3g α n) (by kernel_rfl:A9 _=[(3,.loop (Ai Tryz.f152 75))]) ⟨Aa rfl (B1z α n),trivial⟩
theorem Iw:(Ov n).Sound PP:=fk (fn:=Tryz.f152) (Bp4 _ n)

def Aab {α:Type} (n:Nat) (b c:LI) (d a:Int) (e:LI) (f:LI->LI->Int->Int->LI->Option α) (k0:LI->Option α):Option α :=
 let g:=λ(_:Unit)=>(
  let h:=λ(i:Int)=>(
   let j:=λ(k:Int)=>(
    gd (decide ((e.length+1)*8<=140737488355328)) (
     f b c (W (Int.tdiv k 10000)) (W (a+1)) (e++[(Int.tmod k 10000)])))
   bif (decide (a<(c.length:Int))) then
    gd (decide (0<=a)&&decide (a<(c.length:Int))) (
     j (W (i+(c.getD a.toNat 0))))
   else
    j i)
  bif (decide (a<(b.length:Int))) then
   gd (decide (0<=a)&&decide (a<(b.length:Int))) (
    h (W (d+(b.getD a.toNat 0))))
  else
   h d)
 bif (decide (a<(max (b.length:Int) (c.length:Int)))) then
  g ()
 else
  bif (decide (d>0)) then
   g ()
  else
   k0 e
abbrev Z0:Tm:=⟨[Hs,Eg,(5,.k (.hw 8)),Ed,Dr],[(8,.arr 3 hI false)],[45],[]⟩
abbrev Ak0:Tm:=⟨[(5,.k (.hw 8))],[(8,.arr 3 hI false)],[],[]⟩
abbrev Aaa:List (Exit × Tm):=[(.exit 0,Ak0)]
def Aa9 {α:Type} (v:Z0.den) (f:Z0.den->Option α) (ks:KS α Aaa):Option α:=Aab n v.1.1 v.1.2.1 v.1.2.2.2.1 v.1.2.2.2.2.1 v.2.1 (λa b c d e=>f ((a,b,(),c,d,()),(e,()))) (λw0=>ks.1 (((),()),(w0,())))
def Qx {α:Type} (n m:Nat) (a b:LI) (c d:Int) (e:LI) (k0:LI->Option α):Option α:=A4 (Aa9 n) m ((a,b,(),c,d,()),(e,())) (λw=>k0 w.2.1,())
theorem B88 {α n m a b c d e k0}:Qx (α:=α) n (m+1) a b c d e k0=Aab n a b c d e (λa b c d e=>Qx n m a b c d e k0) k0:=rfl
abbrev Qy:Tm:=⟨[Hs,Eg,(5,.k (.hw 8)),Ed,Dr],[(8,.arr 3 hI false)],[],[]⟩
def f154 (a0 a1:LI):Option LI :=
 Qx n n a0 a1 0 0 []
  (λa=>(
   some a))
def B89:Ent:=⟨154,[hIs,hIs],[hIs],λx=>f154 n x.1 x.2⟩
def Ard:D3 α:=⟨[(1,⟨0,[],[Gn]⟩),(9,⟨0,[],[(3,B4 hI)]⟩)],[(5,Qy),(7,Qy),(9,Qy)],[(3,⟨Z0,Aaa,A4 (Aa9 n) n⟩)],[]⟩
theorem Ajz:Ap PP (Ae (Ard α n).reg):=trivial
theorem B1x:LO.Sound (α:=α) PP ⟨50,[]⟩ ⟨Z0,Aaa,A4 (Aa9 n) n⟩ (.loop (Ai Tryz.f154 75)):=Cb (D:=Ard α n) (Ajz α n) n
theorem Bp2:D3.OK PP TT ⟨50,[]⟩ (Ard α n) (Af Tryz.f154) :=
 D3.OK.mk3 (Ajz α n) (by kernel_rfl:A9 _=[(3,.loop (Ai Tryz.f154 75))]) ⟨Aa rfl (B1x α n),trivial⟩
theorem Bjw:(B89 n).Sound PP:=fk (fn:=Tryz.f154) (Bp2 _ n)

abbrev Bjx:Tm:=⟨[(0,.d .bool),Eg,(2,.d hIs),F7],[P3],[],[]⟩
def f153 (a0:Bool) (a1 a2:LI):Option Rq :=
 let c:=λ(a:LI) (d:LI)=>(
  bif a0 then
   ob (f123 n a) λe =>
   ob (f123 n d) λf =>
   some ((decide ((a.length:Int)>0)),e,f)
  else
   ob (f123 n a) λg =>
   ob (f123 n d) λh =>
   some (false,g,h))
 ob (f203 n a1 a2) λb =>
 ob (f151 n) λi =>
 ob (f155 n b i) λj =>
 bif (j != 0) then
  ob (f204 n a1 b) λk =>
  ob (f204 n a2 b) λl =>
  c k.1 l.1
 else
  c a1 a2
def A3f:Ent:=⟨153,[.bool,hIs,hIs],[hR],λx=>f153 n x.1 x.2.1 x.2.2⟩
def Bp3:D3 α:=⟨[(1,⟨0,[],[(2,A3 (Aqb n))]⟩),(2,⟨0,[],[(1,A3 (W9 n)),(2,A3 (A3e n))]⟩),(3,⟨0,[],[(2,A3 (Adl n))]⟩),(4,⟨0,[],[(2,A3 (Adl n))]⟩),(5,⟨0,[],[(7,A3 (Ox n)),(9,A3 (Ox n))]⟩)],[(5,Bjx)],[],[]⟩
theorem W7:(A3f n).Sound PP:=B9 (fn:=Tryz.f153) (D:=Bp3 _ n) ⟨Awj n,W8 n,A5z n,Ah2 n,Ah2 n,Nc n,Nc n,trivial⟩

def Aa7 {α:Type} (n:Nat) (c:LI) (g d a:Int) (b:LI) (f:LI->Int->Int->Int->LI->Option α) (k0:LI->Option α):Option α :=
 bif (decide (a<d)) then
  gd (decide (0<=a)&&decide (a<(b.length:Int))) (
   gd (decide (a.toNat<b.length)) (
    let h:=λ(e:Int)=>(
     bif (decide (e<0)) then
      gd (decide (0<=a)&&decide (a<(b.length:Int))) (
       gd (decide (a.toNat<b.length)) (
        f c 1 d (W (a+1)) (b.set a.toNat (W (e+10000)))))
     else
      gd (decide (0<=a)&&decide (a<(b.length:Int))) (
       gd (decide (a.toNat<b.length)) (
        f c 0 d (W (a+1)) (b.set a.toNat e))))
    bif (decide (a<(c.length:Int))) then
     gd (decide (0<=a)&&decide (a<(c.length:Int))) (
      h (W ((W ((b.getD a.toNat 0)-g))-(c.getD a.toNat 0))))
    else
     h (W ((b.getD a.toNat 0)-g))))
 else
  k0 b
abbrev Yy:Tm:=⟨[Eg,(5,.k (.hw 310)),Ed,K8,(13,.d hI)],[A4m],[],[]⟩
abbrev B84:Tm:=⟨[(5,.k (.hw 310))],[A4m],[],[]⟩
abbrev Aa6:List (Exit × Tm):=[(.exit 0,B84)]
def Aa5 {α:Type} (v:Yy.den) (f:Yy.den->Option α) (ks:KS α Aa6):Option α:=Aa7 n v.1.1 v.1.2.2.1 v.1.2.2.2.1 v.1.2.2.2.2.1 v.2.1 (λa b c d e=>f ((a,(),b,c,d,()),(e,()))) (λw0=>ks.1 (((),()),(w0,())))
def Kx {α:Type} (n m:Nat) (a:LI) (b c d:Int) (e:LI) (k0:LI->Option α):Option α:=A4 (Aa5 n) m ((a,(),b,c,d,()),(e,())) (λw=>k0 w.2.1,())
theorem B83 {α n m a b c d e k0}:Kx (α:=α) n (m+1) a b c d e k0=Aa7 n a b c d e (λa b c d e=>Kx n m a b c d e k0) k0:=rfl
abbrev Bju:Tm:=⟨[Eg,(5,.k (.hw 310)),Dr,Ee,K8,(13,.d hI)],[A4m],[],[]⟩
def f156 (a0 a1:LI):Option LI :=
 ob (Ae9 n a0) λa =>
 Kx n n a1 0 (a.length:Int) 0 a
  (λb=>(
   ob (f202 n b) λc =>
   some c))
def Arb:Ent:=⟨156,[hIs,hIs],[hIs],λx=>f156 n x.1 x.2⟩
def Arc:D3 α:=⟨[(1,⟨0,[],[(1,Ce (Kz n) 310)]⟩),(13,⟨0,[],[(1,{ ent:=some (On n),fz:=[(41,hIs)] })]⟩)],[(8,Bju)],[(3,⟨Yy,Aa6,A4 (Aa5 n) n⟩)],[]⟩
theorem Ajx:Ap PP (Ae (Arc α n).reg):=⟨Arr n,Vv n,trivial⟩
theorem B1t:LO.Sound (α:=α) PP ⟨43,[]⟩ ⟨Yy,Aa6,A4 (Aa5 n) n⟩ (.loop (Ai Tryz.f156 75)):=Cb (D:=Arc α n) (Ajx α n) n
theorem Bp0:D3.OK PP TT ⟨43,[]⟩ (Arc α n) (Af Tryz.f156) :=
 D3.OK.mk3 (Ajx α n) (by kernel_rfl:A9 _=[(3,.loop (Ai Tryz.f156 75))]) ⟨Aa rfl (B1t α n),trivial⟩
theorem Axc:(Arb n).Sound PP:=fk (fn:=Tryz.f156) (Bp0 _ n)

def f99 (a0 a1:Rq):Option Rq :=
 ob (f152 n a0.2.1 a1.2.2) λa =>
 ob (f152 n a1.2.1 a0.2.2) λb =>
 ob (f152 n a0.2.2 a1.2.2) λc =>
 bif (a0.1==a1.1) then
  ob (f154 n a b) λd =>
  ob (f153 n a0.1 d c) λe =>
  some e
 else
  ob (f155 n a b) λf =>
  bif (decide (f>=0)) then
   ob (f156 n a b) λg =>
   ob (f153 n a0.1 g c) λh =>
   some h
  else
   ob (f156 n b a) λi =>
   ob (f153 n a1.1 i c) λj =>
   some j
def Bc:Ent:=⟨99,[hR,hR],[hR],λx=>f99 n x.1 x.2⟩
def Bqv:D3 α:=⟨[(1,⟨9,[],[(4,A3 (Ov n)),(9,A3 (Ov n))]⟩),(2,⟨0,[],[(4,A3 (Ov n))]⟩),(4,⟨6,[],[(4,A3 (B89 n)),(6,A3 (A3f n))]⟩),(5,⟨0,[],[(2,A3 (A3e n))]⟩),(6,⟨6,[],[(4,A3 (Arb n)),(6,A3 (A3f n))]⟩),(7,⟨6,[],[(4,A3 (Arb n)),(6,A3 (A3f n))]⟩)],[],[],[]⟩
theorem D6:(Bc n).Sound PP:=B9 (fn:=Tryz.f99) (D:=Bqv _ n) ⟨Iw n,Iw n,Iw n,Bjw n,W7 n,A5z n,Axc n,W7 n,Axc n,W7 n,trivial⟩

def Aa4 {α:Type} (b:LR) (e a:Int) (p:Bool) (q r:LI) (s:LR) (t:Bool) (u v:LI) (w:Bool) (x y:LI) (c:LR) (z:Bool) (d0 d1:LI) (g h i:Bool) (j k:LI) (l:Bool) (m o:LI) (d:LR) (f:LR->Int->Int->Bool->LI->LI->LR->Bool->LI->LI->Bool->LI->LI->LR->Bool->LI->LI->Bool->Bool->Bool->LI->LI->Bool->LI->LI->LR->Option α) (k0:Bool->Bool->Bool->LI->LI->Bool->LI->LI->LR->Option α):Option α :=
 bif (decide (a<e)) then
  gd (decide (0<=a)&&decide (a<(b.length:Int))) (
   let d2:=b.getD a.toNat (false,[],[])
   gd (decide (0<=a)&&decide (a<(c.length:Int))) (
    let d3:=c.getD a.toNat (false,[],[])
    ob (f99 n d2 d3) λd4 =>
    gd (decide ((d.length+1)*56<=140737488355328)) (
     f b e (W (a+1)) p q r s t u v w x y c z d0 d1 g h i j k l m o (d++[d4]))))
 else
  k0 g h i j k l m o d
abbrev Yw:Tm:=⟨[Cs,C4,Bo,Bt,Px,K0,Pw],[X7,A7q,Dg,Ayh,A13],[7,36],[]⟩
abbrev B7t:Tm:=⟨[Bo,Bt],[Dg,Ayh,A13],[2,3],[]⟩
abbrev Aa3:List (Exit × Tm):=[(.exit 0,B7t)]
def Aa2 {α:Type} (v:Yw.den) (f:Yw.den->Option α) (ks:KS α Aa3):Option α:=Aa4 n v.1.2.2.2.2.1 v.1.2.2.2.2.2.1 v.1.2.2.2.2.2.2.1 v.2.1.1 v.2.1.2.1 v.2.1.2.2.1 v.2.1.2.2.2.1 v.2.1.2.2.2.2.2.1 v.2.1.2.2.2.2.2.2.1 v.2.1.2.2.2.2.2.2.2.1 v.2.2.1.1 v.2.2.1.2.1 v.2.2.1.2.2.1 v.2.2.1.2.2.2.1 v.2.2.1.2.2.2.2.2.1 v.2.2.1.2.2.2.2.2.2.1 v.2.2.1.2.2.2.2.2.2.2.1 v.2.2.2.1.1 v.2.2.2.1.2.2.2.2.2.1 v.2.2.2.2.1.1 v.2.2.2.2.1.2.1 v.2.2.2.2.1.2.2.1 v.2.2.2.2.1.2.2.2.2.2.1 v.2.2.2.2.1.2.2.2.2.2.2.1 v.2.2.2.2.1.2.2.2.2.2.2.2.1 v.2.2.2.2.2.1 (λa b c d e g h i j k l m o p q r s t u w x y z d0 d1 d2=>f (((),(),(),(),a,b,c,()),((d,e,g,h,(),i,j,k,()),(l,m,o,p,(),q,r,s,()),(t,(),(),(),(),u,(),(),()),(w,x,y,(),(),z,d0,d1,()),d2,()))) (λw0 w1 w2 w3 w4 w5 w6 w7 w8=>ks.1 (((),(),()),((w0,(),(),(),(),w1,(),(),()),(w2,w3,w4,(),(),w5,w6,w7,()),w8,())))
def A5u {α:Type} (n m:Nat) (a:LR) (b c:Int) (d:Bool) (e f:LI) (g:LR) (h:Bool) (i j:LI) (k:Bool) (l o:LI) (p:LR) (q:Bool) (r s:LI) (t u v:Bool) (x y:LI) (z:Bool) (d0 d1:LI) (d2:LR) (k0:Bool->Bool->Bool->LI->LI->Bool->LI->LI->LR->Option α):Option α:=A4 (Aa2 n) m (((),(),(),(),a,b,c,()),((d,e,f,g,(),h,i,j,()),(k,l,o,p,(),q,r,s,()),(t,(),(),(),(),u,(),(),()),(v,x,y,(),(),z,d0,d1,()),d2,())) (λw=>k0 w.2.1.1 w.2.1.2.2.2.2.2.1 w.2.2.1.1 w.2.2.1.2.1 w.2.2.1.2.2.1 w.2.2.1.2.2.2.2.2.1 w.2.2.1.2.2.2.2.2.2.1 w.2.2.1.2.2.2.2.2.2.2.1 w.2.2.2.1,())
theorem B7r {α n m a b c d e f g h i j k l o p q r s t u v w x y z d0 d1 k0}:A5u (α:=α) n (m+1) a b c d e f g h i j k l o p q r s t u v w x y z d0 d1 k0=Aa4 n a b c d e f g h i j k l o p q r s t u v w x y z d0 d1 (λa b c d e f g h i j k l o p q r s t u v w x y z d0 d1=>A5u n m a b c d e f g h i j k l o p q r s t u v w x y z d0 d1 k0) k0:=rfl
abbrev A5v:Tm:=⟨[Cs,C4,Bo],[X7,A7q,Dg],[],[]⟩
abbrev Awy:Tm:=⟨[Cs,C4,Bo,Bt,Ed,Cu,Px,K0,Pw],[X7,A7q,Dg,All,G8],[],[]⟩
abbrev Ajv:Tm:=⟨[Cs,C4,Bo,Bt,Ed,Cu,Px,K0,Pw],[X7,A7q,Dg,Ayh,G8,A13],[],[]⟩
def f165 (a0 a1:Rq × LR × Unit × Rq):Option Eh :=
 ob (f99 n a0.1 a1.1) λa =>
 ob (f99 n a0.2.2.2 a1.2.2.2) λb =>
 bif (decide (0<(a0.2.1.length:Int))) then
  gd (decide (0<(a0.2.1.length:Int))) (
   let c:=a0.2.1.getD 0 (false,[],[])
   gd (decide (0<(a1.2.1.length:Int))) (
    let d:=a1.2.1.getD 0 (false,[],[])
    ob (f99 n c d) λe =>
    A5u n n a0.2.1 (a0.2.1.length:Int) 1 a0.1.1 a0.1.2.1 a0.1.2.2 a0.2.1 a0.2.2.2.1 a0.2.2.2.2.1 a0.2.2.2.2.2 a1.1.1 a1.1.2.1 a1.1.2.2 a1.2.1 a1.2.2.2.1 a1.2.2.2.2.1 a1.2.2.2.2.2 false false a.1 a.2.1 a.2.2 b.1 b.2.1 b.2.2 [e]
     (λm o f g h i j k l=>(
      some ((f,g,h),l,(),i,j,k)))))
 else
  some (a,[],(),b)
def Ar5:Ent:=⟨165,[Do,Do],[Do],λx=>f165 n x.1 x.2⟩
abbrev Af6:List (Nat × OA):=[(8,A3 (Bc n)),(9,B4 hR),(10,B4 hR)]
abbrev Alq:List (Nat × OA):=[(4,A3 (Bc n)),(9,A3 (Bc n))]
def Ar6:D3 α:=⟨[(1,⟨0,[],(Alq n)⟩),(5,⟨0,[],(Af6 n)⟩)],[],[(3,⟨Yw,Aa3,A4 (Aa2 n) n⟩)],[(1,A5v),(5,Awy),(5,Ajv)]⟩
theorem Bjf:Ah TT ⟨60,[]⟩ (Alq n) A5v (Ag Tryz.f165 5):=by
 refine ⟨by kernel_rfl,λw q hq=>?_⟩
 obtain ⟨y0,q0,rfl,y1,q1,rfl,rfl⟩:=Be [(4,Bc n),(9,Bc n)] hq (by kernel_rfl)
 all_goals exact .inr ⟨12,by kernel_rfl,by kernel_rfl,by kernel_rfl⟩
theorem Awz:Ah TT ⟨60,[]⟩ (Af6 n) Awy (Ag Tryz.f165 5323):=by
 refine ⟨by kernel_rfl,λw q hq=>?_⟩
 obtain ⟨y0,q0,rfl,rfl⟩:=Be [(8,Bc n)] hq (by kernel_rfl)
 all_goals exact .inr ⟨10,by kernel_rfl,by kernel_rfl,by kernel_rfl⟩
theorem Ajw:Ah TT ⟨60,[]⟩ (Af6 n) Ajv (Ag Tryz.f165 5323):=by
 refine ⟨by kernel_rfl,λw q hq=>?_⟩
 obtain ⟨y0,q0,rfl,rfl⟩:=Be [(8,Bc n)] hq (by kernel_rfl)
 all_goals exact .inr ⟨10,by kernel_rfl,by kernel_rfl,by kernel_rfl⟩
theorem Aju:Ap PP (Ae (Ar6 α n).reg):=⟨D6 n,D6 n,D6 n,trivial⟩
theorem B7s:D3.OK PP TT ⟨60,[]⟩ (Ar6 α n) (Ai Tryz.f165 75) :=
 D3.OK.mk3a (Aju α n) (by kernel_rfl:A9 _=[]) trivial (by kernel_rfl:Ax _=[(5,Ag Tryz.f165 5323),(7,Ag Tryz.f165 23755)]) ⟨⟨Awz n,Ajw n,trivial⟩,trivial,trivial⟩
theorem B1m:LO.Sound (α:=α) PP ⟨60,[]⟩ ⟨Yw,Aa3,A4 (Aa2 n) n⟩ (.loop (Ai Tryz.f165 75)):=lk (B7s α n) n
theorem Bos:D3.OK PP TT ⟨60,[]⟩ (Ar6 α n) (Af Tryz.f165) :=
 D3.OK.mk3a (Aju α n) (by kernel_rfl:A9 _=[(3,.loop (Ai Tryz.f165 75))]) ⟨Aa rfl (B1m α n),trivial⟩ (by kernel_rfl:Ax _=[(1,Ag Tryz.f165 5),(5,Ag Tryz.f165 5323),(7,Ag Tryz.f165 23755)]) ⟨⟨Bjf n,trivial⟩,⟨Awz n,Ajw n,trivial⟩,trivial,trivial⟩
theorem Awx:(Ar5 n).Sound PP:=fk (fn:=Tryz.f165) (Bos _ n)

def f162 (a0 a1:Rq):Option Rq :=
 ob (f152 n a0.2.1 a1.2.1) λa =>
 ob (f152 n a0.2.2 a1.2.2) λb =>
 ob (f153 n (!(a0.1==a1.1)) a b) λc =>
 some c
def Av:Ent:=⟨162,[hR,hR],[hR],λx=>f162 n x.1 x.2⟩
abbrev Bey:List (Nat × OA):=[(9,A3 (Ov n)),(14,A3 (Ov n)),(15,A3 (A3f n))]
def Bov:D3 α:=⟨[(1,⟨15,[],(Bey n)⟩)],[],[],[]⟩
theorem Az:(Av n).Sound PP:=B9 (fn:=Tryz.f162) (D:=Bov _ n) ⟨Iw n,Iw n,W7 n,trivial⟩

def f208 (a0 a1:Rq):Option Rq :=
 ob (f162 n a0 a1) λa =>
 some a
def Vu:Ent:=⟨208,[hR,F6],[hR],λx=>f208 n x.1 x.2⟩
abbrev Abn:Nat × OA:=(2,A3 (Av n))
def Bnx:D3 α:=⟨[(1,⟨0,[],[(Abn n)]⟩)],[],[],[]⟩
theorem Awg:(Vu n).Sound PP:=B9 (fn:=Tryz.f208) (D:=Bnx _ n) ⟨Az n,trivial⟩

def Kj {α:Type} (d:Rq) (p:Xa × Rq) (b:LR) (e a:Int) (q:Bool) (r s:LI) (t:LR) (u:Bool) (v w:LI) (g h i:Bool) (j k:LI) (l:Bool) (m o:LI) (c:LR) (f:Rq->(Xa × Rq)->LR->Int->Int->Bool->LI->LI->LR->Bool->LI->LI->Bool->Bool->Bool->LI->LI->Bool->LI->LI->LR->Option α) (k0:Bool->Bool->Bool->LI->LI->Bool->LI->LI->LR->Option α):Option α :=
 bif (decide (a<e)) then
  gd (decide (0<=a)&&decide (a<(b.length:Int))) (
   let x:=b.getD a.toNat (false,[],[])
   ob (f208 n x d) λy =>
   gd (decide ((c.length+1)*56<=140737488355328)) (
    f d p b e (W (a+1)) q r s t u v w g h i j k l m o (c++[y])))
 else
  k0 g h i j k l m o c
abbrev Gw:Tm:=⟨[A14,(4,.d (.clo 209 zq9)),Bt,Da,Dt,J6,I2,Ht],[Af1,I3,A7v,R7],[13,30],[]⟩
abbrev Pr:Tm:=⟨[Da,Dt],[I3,A7v,R7],[5],[]⟩
abbrev Ki:List (Exit × Tm):=[(.exit 0,Pr)]
def Kh {α:Type} (v:Gw.den) (f:Gw.den->Option α) (ks:KS α Ki):Option α:=Kj n v.1.1 v.1.2.1 v.1.2.2.2.2.2.1 v.1.2.2.2.2.2.2.1 v.1.2.2.2.2.2.2.2.1 v.2.1.1 v.2.1.2.1 v.2.1.2.2.1 v.2.1.2.2.2.1 v.2.1.2.2.2.2.2.1 v.2.1.2.2.2.2.2.2.1 v.2.1.2.2.2.2.2.2.2.1 v.2.2.1.1 v.2.2.1.2.2.2.2.2.1 v.2.2.2.1.1 v.2.2.2.1.2.1 v.2.2.2.1.2.2.1 v.2.2.2.1.2.2.2.2.2.1 v.2.2.2.1.2.2.2.2.2.2.1 v.2.2.2.1.2.2.2.2.2.2.2.1 v.2.2.2.2.1 (λa b c d e g h i j k l m o p q r s t u w x=>f ((a,b,(),(),(),c,d,e,()),((g,h,i,j,(),k,l,m,()),(o,(),(),(),(),p,(),(),()),(q,r,s,(),(),t,u,w,()),x,()))) (λw0 w1 w2 w3 w4 w5 w6 w7 w8=>ks.1 (((),(),()),((w0,(),(),(),(),w1,(),(),()),(w2,w3,w4,(),(),w5,w6,w7,()),w8,())))
def Hy {α:Type} (n m:Nat) (a:Rq) (b:Xa × Rq) (c:LR) (d e:Int) (f:Bool) (g h:LI) (i:LR) (j:Bool) (k l:LI) (o p q:Bool) (r s:LI) (t:Bool) (u v:LI) (x:LR) (k0:Bool->Bool->Bool->LI->LI->Bool->LI->LI->LR->Option α):Option α:=A4 (Kh n) m ((a,b,(),(),(),c,d,e,()),((f,g,h,i,(),j,k,l,()),(o,(),(),(),(),p,(),(),()),(q,r,s,(),(),t,u,v,()),x,())) (λw=>k0 w.2.1.1 w.2.1.2.2.2.2.2.1 w.2.2.1.1 w.2.2.1.2.1 w.2.2.1.2.2.1 w.2.2.1.2.2.2.2.2.1 w.2.2.1.2.2.2.2.2.2.1 w.2.2.1.2.2.2.2.2.2.2.1 w.2.2.2.1,())
theorem A6t {α n m a b c d e f g h i j k l o p q r s t u v w k0}:Hy (α:=α) n (m+1) a b c d e f g h i j k l o p q r s t u v w k0=Kj n a b c d e f g h i j k l o p q r s t u v w (λa b c d e f g h i j k l o p q r s t u v w=>Hy n m a b c d e f g h i j k l o p q r s t u v w k0) k0:=rfl
abbrev Ub:Tm:=⟨[A14,(4,.d (.clo 209 zq9)),Bt,Da,Dt,K8,R6,J6,I2,Ht],[Af1,I3,Aln,Rb],[6,7],[]⟩
abbrev Ps:Tm:=⟨[A14,(4,.d (.clo 209 zq9)),Bt,Da,Dt,K8,R6,J6,I2,Ht],[Af1,I3,A7v,Rb,R7],[],[]⟩
def Sl (a0:Rq × LR × Unit × Rq) (a1 a2 a3:Rq) (a4:Xa × Rq):Option Eh :=
 bif (decide (0<(a0.2.1.length:Int))) then
  gd (decide (0<(a0.2.1.length:Int))) (
   let a:=a0.2.1.getD 0 (false,[],[])
   ob (f208 n a a3) λb =>
   Hy n n a3 a4 a0.2.1 (a0.2.1.length:Int) 1 a0.1.1 a0.1.2.1 a0.1.2.2 a0.2.1 a0.2.2.2.1 a0.2.2.2.2.1 a0.2.2.2.2.2 false false a1.1 a1.2.1 a1.2.2 a2.1 a2.2.1 a2.2.2 [b]
    (λj k c d e f g h i=>(
     some ((c,d,e),i,(),f,g,h))))
 else
  some (a1,[],(),a2)
def N2:Ent:=⟨207,[Do,hR,hR,(.clo 208 F6),(.clo 209 zq9)],[Do],λx=>Sl n x.1 x.2.1 x.2.2.1 x.2.2.2.1 x.2.2.2.2⟩
abbrev Af4:List (Nat × OA):=[(4,A3 (Vu n)),(5,B4 hR),(6,B4 hR)]
def N3:D3 α:=⟨[(5,⟨0,[],(Af4 n)⟩)],[],[(3,⟨Gw,Ki,A4 (Kh n) n⟩)],[(5,Ub),(5,Ps)]⟩
theorem Uc:Ah TT ⟨46,[]⟩ (Af4 n) Ub (Ag Tryz.f207 5323):=by
 refine ⟨by kernel_rfl,λw q hq=>?_⟩
 obtain ⟨y0,q0,rfl,rfl⟩:=Be [(4,Vu n)] hq (by kernel_rfl)
 all_goals exact .inr ⟨6,by kernel_rfl,by kernel_rfl,by kernel_rfl⟩
theorem Pu:Ah TT ⟨46,[]⟩ (Af4 n) Ps (Ag Tryz.f207 5323):=by
 refine ⟨by kernel_rfl,λw q hq=>?_⟩
 obtain ⟨y0,q0,rfl,rfl⟩:=Be [(4,Vu n)] hq (by kernel_rfl)
 all_goals exact .inr ⟨6,by kernel_rfl,by kernel_rfl,by kernel_rfl⟩
theorem Pq:Ap PP (Ae (N3 α n).reg):=⟨Awg n,trivial⟩
theorem A6u:D3.OK PP TT ⟨46,[]⟩ (N3 α n) (Ai Tryz.f207 75) :=
 D3.OK.mk3a (Pq α n) (by kernel_rfl:A9 _=[]) trivial (by kernel_rfl:Ax _=[(5,Ag Tryz.f207 5323),(7,Ag Tryz.f207 23755)]) ⟨⟨Uc n,Pu n,trivial⟩,trivial,trivial⟩
theorem A30:LO.Sound (α:=α) PP ⟨46,[]⟩ ⟨Gw,Ki,A4 (Kh n) n⟩ (.loop (Ai Tryz.f207 75)):=lk (A6u α n) n
theorem Ah0:D3.OK PP TT ⟨46,[]⟩ (N3 α n) (Af Tryz.f207) :=
 D3.OK.mk3a (Pq α n) (by kernel_rfl:A9 _=[(3,.loop (Ai Tryz.f207 75))]) ⟨Aa rfl (A30 α n),trivial⟩ (by kernel_rfl:Ax _=[(5,Ag Tryz.f207 5323),(7,Ag Tryz.f207 23755)]) ⟨⟨Uc n,Pu n,trivial⟩,trivial,trivial⟩
theorem Adj:(N2 n).Sound PP:=fk (fn:=Tryz.f207) (Ah0 _ n)

end Go.Ev
