/- DERIVED. What the functions compute, and that they do. -/
import Derived.Test.YtcpdoafoahaagaaGreatEe

set_option linter.all false
set_option linter.unusedVariables false
set_option linter.unusedSimpArgs false

namespace Go.Ev
open Go Go.Proofs Go.RowKit Go.Shelf
def A6r (n:Nat) (a0:LI):Option (LI × Int × Int) :=
 some (a0,0,(Int.tmod (a0.length:Int) 1000))
def Ad3 (n:Nat):Ent3:=⟨46,[.im (.sl (.int .u8))],[[.one (.ptr 125 (.st (.pair (.sl (.int .u8)) (.pair hI hI))))]],λx=>A6r n x⟩
def B3a (α:Type) (n:Nat):D3 α:={ reg:=[],join:=[],loop:=[] }
theorem Aid (n:Nat):(Ad3 n).Sound PP:=Ach (fn:=Tryz.f46) (D:=B3a _ n) trivial

def Lu (n:Nat) (a0:LI × Int × Int):Option (Int × (LI × Int × Int)) :=
 bif (decide ((W (a0.2.1+1))<=(a0.1.length:Int))) then
  gd (decide (0<=(W ((W (a0.2.1+1))-1)))&&decide ((W ((W (a0.2.1+1))-1))<(a0.1.length:Int))) (
   gd (decide (0<=(W ((W (a0.2.1+1))-1)))&&decide ((W ((W (a0.2.1+1))-1))<(a0.1.length:Int))) (
    some ((W (a0.1.getD ((W ((W (a0.2.1+1))-1)).toNat) 0)),(a0.1,(W (a0.2.1+1)),(Int.tmod (W ((W ((W (a0.2.2*31))+(W (a0.1.getD ((W ((W (a0.2.1+1))-1)).toNat) 0))))+7)) 2147483648)))))
 else
  bif (decide ((W (a0.2.1+1))>3000)) then
   some (0,(a0.1,(W (a0.2.1+1)),a0.2.2))
  else
   some ((Int.tmod (W (Int.tdiv (Int.tmod (W ((W (a0.2.2*1103515245))+12345)) 2147483648) 65536)) 256),(a0.1,(W (a0.2.1+1)),(Int.tmod (W ((W (a0.2.2*1103515245))+12345)) 2147483648)))
def Qc (n:Nat):Ent3:=⟨173,[.one (.ptr 125 (.st (.pair (.sl (.int .u8)) (.pair hI hI))))],[[.im hI]],λx=>Lu n x⟩
def B0v (α:Type) (n:Nat):D3 α:={ reg:=[(2,⟨9,[],[]⟩),(3,⟨21,[],[]⟩),(4,⟨9,[],[]⟩)],join:=[],loop:=[] }
theorem Sp (n:Nat):(Qc n).Sound PP:=Ach (fn:=Tryz.f173) (D:=B0v _ n) trivial

def K3 (n:Nat) (a0:LI × Int × Int) (a1:Int):Option (Int × (LI × Int × Int)) :=
 bif (decide (a1<=1)) then
  some (0,a0)
 else
  bif (decide (a1<=256)) then
   ob (Lu n a0) λa =>
   gd (decide (a1 ≠ 0)) (
    some ((Int.tmod a.1 a1),a.2))
  else
   ob (Lu n a0) λb =>
   ob (Lu n b.2) λc =>
   ob (Lu n c.2) λd =>
   gd (decide (a1 ≠ 0)) (
    some ((Int.tmod (W ((W ((W (b.1*65536))+(W (c.1*256))))+d.1)) a1),d.2))
def Qk (n:Nat):Ent3:=⟨107,[.one (.ptr 125 (.st (.pair (.sl (.int .u8)) (.pair hI hI)))),.im hI],[[.im hI]],λx=>K3 n x.1 x.2⟩
def B1o (α:Type) (n:Nat):D3 α:={ reg:=[(4,⟨0,[],[(1,{ entB:=some (Qc n),hb:=310 })]⟩),(5,⟨0,[],[(1,{ entB:=some (Qc n),hb:=320 })]⟩),(6,⟨0,[],[(1,{ entB:=some (Qc n),hb:=330 })]⟩),(7,⟨0,[],[(1,{ entB:=some (Qc n),hb:=340 })]⟩)],join:=[],loop:=[] }
theorem T7 (n:Nat):(Qk n).Sound PP:=Ach (fn:=Tryz.f107) (D:=B1o _ n) ⟨Sp n,Sp n,Sp n,Sp n,trivial⟩

def N2 {α:Type} (n:Nat) (g h b:Int) (c:LN) (i:LI) (j k:Int) (f:Int->Int->Int->LN->LI->Int->Int->Option α) (k0:LN->LI->Int->Int->Option α):Option α :=
 bif (decide (b<g)) then
  ob (K3 n (i,j,k) 3) λd =>
  ob (K3 n d.2 5) λa =>
  gd (decide ((c.length+3)*32<=140737488355328)) (
   gd (decide (((c++[(1,0,0,(W (1+d.1))),(2,0,0,b),(1,0,0,a.1)]).length+3)*32<=140737488355328)) (
    let e:=((c++[(1,0,0,(W (1+d.1))),(2,0,0,b),(1,0,0,a.1)])++[(4,(W ((((c++[(1,0,0,(W (1+d.1))),(2,0,0,b),(1,0,0,a.1)]).length:Nat):Int)-2)),(W ((((c++[(1,0,0,(W (1+d.1))),(2,0,0,b),(1,0,0,a.1)]).length:Nat):Int)-1)),0),(8,(((c++[(1,0,0,(W (1+d.1))),(2,0,0,b),(1,0,0,a.1)]).length:Nat):Int),0,2),(5,(W ((((c++[(1,0,0,(W (1+d.1))),(2,0,0,b),(1,0,0,a.1)]).length:Nat):Int)-3)),(W ((((c++[(1,0,0,(W (1+d.1))),(2,0,0,b),(1,0,0,a.1)]).length:Nat):Int)+1)),0)])
    bif (decide (h>=0)) then
     gd (decide ((e.length+1)*32<=140737488355328)) (
      f g (W ((((e++[(3,h,(W ((e.length:Int)-1)),0)]).length:Nat):Int)-1)) (W (b+1)) (e++[(3,h,(W ((e.length:Int)-1)),0)]) a.2.1 a.2.2.1 a.2.2.2)
    else
     f g (W ((e.length:Int)-1)) (W (b+1)) e a.2.1 a.2.2.1 a.2.2.2))
 else
  k0 c i j k
abbrev Rh:Tm:=⟨[(0,.k (.hp 1000 0 0)),(1,.d hI),(4,.k (.hp 4 0 0)),(5,.k (.hw 9)),(6,.d hI),(7,.d hI)],[(4,.var 54 true false [.d .nil]),(9,.arr 150 hN false),(1000,.var 125 true false [.d (.sl (.int .u8)),.d hI,.d hI])],[25,42,52],[]⟩
abbrev Apm:Tm:=⟨[(4,.k (.hp 4 0 0)),(5,.k (.hw 9))],[(4,.var 54 true false [.d .nil]),(9,.arr 150 hN false),(1000,.var 125 true false [.d (.sl (.int .u8)),.d hI,.d hI])],[],[]⟩
abbrev A0a:List (Exit × Tm):=[(.exit 0,Apm)]
def A09 {α:Type} (n:Nat) (v:Rh.den) (f:Rh.den->Option α) (ks:KS α A0a):Option α:=N2 n v.1.2.1 v.1.2.2.2.2.1 v.1.2.2.2.2.2.1 v.2.2.1 v.2.2.2.1.1 v.2.2.2.1.2.1 v.2.2.2.1.2.2.1 (λa b c d e g h=>f (((),a,(),(),b,c,()),(((),()),d,(e,g,h,()),()))) (λw0 w1 w2 w3=>ks.1 (((),(),()),(((),()),w0,(w1,w2,w3,()),())))
def J9 {α:Type} (n m:Nat) (a b c:Int) (d:LN) (e:LI) (f g:Int) (k0:LN->LI->Int->Int->Option α):Option α:=A6 (A09 n) m (((),a,(),(),b,c,()),(((),()),d,(e,f,g,()),())) (λw=>k0 w.2.2.1 w.2.2.2.1.1 w.2.2.2.1.2.1 w.2.2.2.1.2.2.1,())
theorem Vk {α n m a b c d e f g k0}:J9 (α:=α) n (m+1) a b c d e f g k0=N2 n a b c d e f g (λa b c d e f g=>J9 n m a b c d e f g k0) k0:=rfl
def Avi (n:Nat) (a0:LI × Int × Int) (a1:Int):Option (LN × (LI × Int × Int)) :=
 J9 n n a1 (-1) 0 [] a0.1 a0.2.1 a0.2.2
  (λa b c d=>(
   some (a,(b,c,d))))
def Apn (n:Nat):Ent3:=⟨91,[.one (.ptr 125 (.st (.pair (.sl (.int .u8)) (.pair hI hI)))),.im hI],[[.im hE]],λx=>Avi n x.1 x.2⟩
def Acp (α:Type) (n:Nat):D3 α:={ reg:=[(1,⟨0,[],[(0,{ sh:=some hN })]⟩),(6,⟨0,[],[(2,{ entB:=some (Qk n),hb:=310 }),(8,{ entB:=some (Qk n),hb:=320 }),(10,{ sh:=some hN })]⟩),(8,⟨0,[],[(13,{ sh:=some hN })]⟩),(10,⟨0,[],[(6,{ sh:=some hN })]⟩)],join:=[],loop:=[(4,⟨Rh,A0a,A6 (A09 n) n⟩)] }
theorem A8j (α:Type) (n:Nat):Aq PP (Af (Acp α n).reg):=⟨T7 n,T7 n,trivial⟩
theorem Akz (α:Type) (n:Nat):LO.Sound (α:=α) PP ⟨59,[]⟩ ⟨Rh,A0a,A6 (A09 n) n⟩ (.loop ((A0 Tryz.f91).at [1,1,1,0,1,0,0])):=Ca (D:=Acp α n) (A8j α n) n
theorem B35 (α:Type) (n:Nat):D3.OK PP TT ⟨59,[]⟩ (Acp α n) (A0 Tryz.f91) :=
 D3.OK.mk3 (A8j α n) (show Aa (A0 Tryz.f91)=[(4,(.loop ((A0 Tryz.f91).at [1,1,1,0,1,0,0])))] by kernel_rfl) ⟨Ad rfl (Akz α n),trivial⟩
theorem Aze (n:Nat):(Apn n).Sound PP:=fkB (fn:=Tryz.f91) (B35 _ n)

def f36 (n:Nat) (a0:LI) (a1:Int):Option LN :=
 ob (A6r n a0) λa =>
 ob (Avi n a a1) λb =>
 some b.1
def Aya (n:Nat):Ent:=⟨36,[(.sl (.int .u8)),hI],[hE],λx=>f36 n x.1 x.2⟩
def B76 (α:Type) (n:Nat):D3 α:={ reg:=[(1,⟨0,[],[(1,{ entB:=some (Ad3 n),hb:=310 }),(3,{ entB:=some (Apn n),hb:=320 })]⟩)],join:=[],loop:=[] }
theorem B3p (n:Nat):(Aya n).Sound PP:=B2 (fn:=Tryz.f36) (D:=B76 _ n) ⟨Aid n,Aze n,trivial⟩

def f65 (n:Nat) (a0 a1 a2:Int):Option Bool :=
 bif (decide (a1<=a0)) then
  some (decide (a0<=a2))
 else
  some false
def Al5 (n:Nat):Ent:=⟨65,[hI,hI,hI],[.bool],λx=>f65 n x.1 x.2.1 x.2.2⟩
def B6u (α:Type) (n:Nat):D3 α:={ reg:=[],join:=[],loop:=[] }
theorem Apu (n:Nat):(Al5 n).Sound PP:=B2 (fn:=Tryz.f65) (D:=B6u _ n) trivial

def A1t {α:Type} (n:Nat) (a:Int) (b:LI) (f:Int->LI->Option α) (k0:LI->Option α):Option α :=
 bif (decide (a>0)) then
  gd (decide ((b.length+1)*8<=140737488355328)) (
   f (W (Int.tdiv a 10000)) (b++[(Int.tmod a 10000)]))
 else
  k0 b
abbrev Sq:Tm:=⟨[(0,.d hI),(3,.k (.hw 4))],[(4,.arr 3 hI false)],[10],[]⟩
abbrev As0:Tm:=⟨[(3,.k (.hw 4))],[(4,.arr 3 hI false)],[],[]⟩
abbrev A1s:List (Exit × Tm):=[(.exit 0,As0)]
def A1r {α:Type} (n:Nat) (v:Sq.den) (f:Sq.den->Option α) (ks:KS α A1s):Option α:=A1t n v.1.1 v.2.1 (λa b=>f ((a,(),()),(b,()))) (λw0=>ks.1 (((),()),(w0,())))
def Ye {α:Type} (n m:Nat) (a:Int) (b:LI) (k0:LI->Option α):Option α:=A6 (A1r n) m ((a,(),()),(b,())) (λw=>k0 w.2.1,())
theorem Arz {α n m a b k0}:Ye (α:=α) n (m+1) a b k0=A1t n a b (λa b=>Ye n m a b k0) k0:=rfl
def f172 (n:Nat) (a0:Int):Option LI :=
 Ye n n a0 []
  (λa=>(
   some a))
def Wj (n:Nat):Ent:=⟨172,[hI],[hIs],λx=>f172 n x⟩
def Aeo (α:Type) (n:Nat):D3 α:={ reg:=[(1,⟨0,[],[(0,{ sh:=some hI })]⟩),(3,⟨0,[],[(3,{ sh:=some hI })]⟩)],join:=[],loop:=[(2,⟨Sq,A1s,A6 (A1r n) n⟩)] }
theorem A9a (α:Type) (n:Nat):Aq PP (Af (Aeo α n).reg):=trivial
theorem Amf (α:Type) (n:Nat):LO.Sound (α:=α) PP ⟨15,[]⟩ ⟨Sq,A1s,A6 (A1r n) n⟩ (.loop ((A0 Tryz.f172).at [1,1,0,0,0])):=Ca (D:=Aeo α n) (A9a α n) n
theorem B4r (α:Type) (n:Nat):D3.OK PP TT ⟨15,[]⟩ (Aeo α n) (A0 Tryz.f172) :=
 D3.OK.mk3 (A9a α n) (show Aa (A0 Tryz.f172)=[(2,(.loop ((A0 Tryz.f172).at [1,1,0,0,0])))] by kernel_rfl) ⟨Ad rfl (Amf α n),trivial⟩
theorem Yc (n:Nat):(Wj n).Sound PP:=fk (fn:=Tryz.f172) (B4r _ n)

def f106 (n:Nat) (a0:Int):Option Rq :=
 bif (decide (a0<0)) then
  ob (f172 n (W (0-a0))) λa =>
  some (true,a,[1])
 else
  ob (f172 n a0) λb =>
  some (false,b,[1])
def Aez (n:Nat):Ent:=⟨106,[hI],[hR],λx=>f106 n x⟩
def B5c (α:Type) (n:Nat):D3 α:={ reg:=[(2,⟨0,[],[(2,{ ent:=some (Wj n) }),(3,{ sh:=some hI })]⟩),(3,⟨0,[],[(1,{ ent:=some (Wj n) }),(2,{ sh:=some hI })]⟩)],join:=[],loop:=[] }
theorem Ajn (n:Nat):(Aez n).Sound PP:=B2 (fn:=Tryz.f106) (D:=B5c _ n) ⟨Yc n,Yc n,trivial⟩

def A0z {α:Type} (n:Nat) (b:LI) (a:Int) (f:LI->Int->Option α) (k0:LI->Int->Option α):Option α :=
 bif (decide (a>0)) then
  gd (decide (0<=(W (a-1)))&&decide ((W (a-1))<(b.length:Int))) (
   bif ((b.getD ((W (a-1)).toNat) 0)==0) then
    f b (W (a-1))
   else
    k0 b a)
 else
  k0 b a
abbrev S9:Tm:=⟨[(0,.d hIs),(3,.d hI)],[],[],[]⟩
abbrev Ar5:Tm:=⟨[(0,.d hIs),(3,.d hI)],[],[],[]⟩
abbrev A0y:List (Exit × Tm):=[(.exit 0,Ar5)]
def A0x {α:Type} (n:Nat) (v:S9.den) (f:S9.den->Option α) (ks:KS α A0y):Option α:=A0z n v.1.1 v.1.2.1 (λa b=>f ((a,b,()),())) (λw0 w1=>ks.1 ((w0,w1,()),()))
def Y9 {α:Type} (n m:Nat) (a:LI) (b:Int) (k0:LI->Int->Option α):Option α:=A6 (A0x n) m ((a,b,()),()) (λw=>k0 w.1.1 w.1.2.1,())
theorem Ar4 {α n m a b k0}:Y9 (α:=α) n (m+1) a b k0=A0z n a b (λa b=>Y9 n m a b k0) k0:=rfl
def f203 (n:Nat) (a0:LI):Option LI :=
 Y9 n n a0 (a0.length:Int)
  (λb a=>(
   gd (decide (0<=a)&&decide (a<=(b.length:Int))) (
    gd (decide ((0+((b.drop 0).take (a.toNat-0)).length)*8<=140737488355328)) (
     some ((b.drop 0).take (a.toNat-0))))))
def W8 (n:Nat):Ent:=⟨203,[hIs],[hIs],λx=>f203 n x⟩
def Ae5 (α:Type) (n:Nat):D3 α:={ reg:=[(4,⟨0,[],[(0,{ sh:=some hI })]⟩)],join:=[],loop:=[(2,⟨S9,A0y,A6 (A0x n) n⟩)] }
theorem A90 (α:Type) (n:Nat):Aq PP (Af (Ae5 α n).reg):=trivial
theorem Alw (α:Type) (n:Nat):LO.Sound (α:=α) PP ⟨23,[]⟩ ⟨S9,A0y,A6 (A0x n) n⟩ (.loop ((A0 Tryz.f203).at [1,1,0,0,0])):=Ca (D:=Ae5 α n) (A90 α n) n
theorem B4c (α:Type) (n:Nat):D3.OK PP TT ⟨23,[]⟩ (Ae5 α n) (A0 Tryz.f203) :=
 D3.OK.mk3 (A90 α n) (show Aa (A0 Tryz.f203)=[(2,(.loop ((A0 Tryz.f203).at [1,1,0,0,0])))] by kernel_rfl) ⟨Ad rfl (Alw α n),trivial⟩
theorem Y7 (n:Nat):(W8 n).Sound PP:=fk (fn:=Tryz.f203) (B4c _ n)

def f147 (n:Nat) (a0:Bool):Option Int :=
 bif a0 then
  some 1
 else
  some 0
def A51 (n:Nat):Ent:=⟨147,[.bool],[hI],λx=>f147 n x⟩
def B54 (α:Type) (n:Nat):D3 α:={ reg:=[],join:=[],loop:=[] }
theorem A78 (n:Nat):(A51 n).Sound PP:=B2 (fn:=Tryz.f147) (D:=B54 _ n) trivial

def A1a {α:Type} (n:Nat) (b c:LI) (a:Int) (f:LI->LI->Int->Option α) (k0:Int->Option α) (k1:Unit->Option α):Option α :=
 bif (decide (a>=0)) then
  gd (decide (0<=a)&&decide (a<(b.length:Int))) (
   gd (decide (0<=a)&&decide (a<(c.length:Int))) (
    bif ((b.getD a.toNat 0) != (c.getD a.toNat 0)) then
     gd (decide (0<=a)&&decide (a<(b.length:Int))) (
      gd (decide (0<=a)&&decide (a<(c.length:Int))) (
       ob (f147 n (decide ((b.getD a.toNat 0)>(c.getD a.toNat 0)))) λd =>
       k0 (W ((W (2*d))-1))))
    else
     f b c (W (a-1))))
 else
  k1 ()
abbrev Se:Tm:=⟨[(0,.d hIs),(1,.d hIs),(5,.d hI)],[],[],[]⟩
abbrev Ark:Tm:=⟨[(4,.d hI)],[],[],[]⟩
abbrev Arj:Tm:=⟨[],[],[],[]⟩
abbrev A19:List (Exit × Tm):=[(.ret,Ark),(.exit 0,Arj)]
def A18 {α:Type} (n:Nat) (v:Se.den) (f:Se.den->Option α) (ks:KS α A19):Option α:=A1a n v.1.1 v.1.2.1 v.1.2.2.1 (λa b c=>f ((a,b,c,()),())) (λw0=>ks.1 ((w0,()),())) (λ_=>ks.2.1 ((),()))
def Ya {α:Type} (n m:Nat) (a b:LI) (c:Int) (k0:Int->Option α) (k1:Unit->Option α):Option α:=A6 (A18 n) m ((a,b,c,()),()) (λw=>k0 w.1.1,λw=>k1 (),())
theorem Ari {α n m a b c k0 k1}:Ya (α:=α) n (m+1) a b c k0 k1=A1a n a b c (λa b c=>Ya n m a b c k0 k1) k0 k1:=rfl
def f187 (n:Nat) (a0 a1:LI):Option Int :=
 bif ((a0.length:Int) != (a1.length:Int)) then
  ob (f147 n (decide ((a0.length:Int)>(a1.length:Int)))) λa =>
  some (W ((W (2*a))-1))
 else
  Ya n n a0 a1 (W ((a0.length:Int)-1))
   (λb=>(
    some b))
   (λ(_:Unit)=>(
    some 0))
def Aed (n:Nat):Ent:=⟨187,[hIs,hIs],[hI],λx=>f187 n x.1 x.2⟩
def Aee (α:Type) (n:Nat):D3 α:={ reg:=[(2,⟨0,[],[(5,{ ent:=some (A51 n) })]⟩),(6,⟨8,[],[]⟩),(7,⟨8,[],[(9,{ ent:=some (A51 n) })]⟩)],join:=[],loop:=[(4,⟨Se,A19,A6 (A18 n) n⟩)] }
theorem A96 (α:Type) (n:Nat):Aq PP (Af (Aee α n).reg):=⟨A78 n,A78 n,trivial⟩
theorem Am3 (α:Type) (n:Nat):LO.Sound (α:=α) PP ⟨47,[]⟩ ⟨Se,A19,A6 (A18 n) n⟩ (.loop ((A0 Tryz.f187).at [1,1,0,1,0,0])):=Ca (D:=Aee α n) (A96 α n) n
theorem B4k (α:Type) (n:Nat):D3.OK PP TT ⟨47,[]⟩ (Aee α n) (A0 Tryz.f187) :=
 D3.OK.mk3 (A96 α n) (show Aa (A0 Tryz.f187)=[(4,(.loop ((A0 Tryz.f187).at [1,1,0,1,0,0])))] by kernel_rfl) ⟨Ad rfl (Am3 α n),trivial⟩
theorem Aje (n:Nat):(Aed n).Sound PP:=fk (fn:=Tryz.f187) (B4k _ n)

def A1k {α:Type} (n:Nat) (e d:LI) (b g a:Int) (c:LI) (f:LI->LI->Int->Int->Int->LI->Option α) (k0:LI->LI->Int->LI->Option α):Option α :=
 let h:=λ(_:Unit)=>(
  gd (decide (0<=(W (b+a)))&&decide ((W (b+a))<(c.length:Int))) (
   gd (decide ((W (b+a)).toNat<c.length)) (
    let i:=λ(j:Int)=>(
     gd (decide (0<=(W (b+a)))&&decide ((W (b+a))<(c.length:Int))) (
      gd (decide ((W (b+a)).toNat<c.length)) (
       f e d b (W (Int.tdiv j 10000)) (W (a+1)) (c.set ((W (b+a)).toNat) (Int.tmod j 10000)))))
    bif (decide (a<(d.length:Int))) then
     gd (decide (0<=b)&&decide (b<(e.length:Int))) (
      gd (decide (0<=a)&&decide (a<(d.length:Int))) (
       i (W ((W ((c.getD ((W (b+a)).toNat) 0)+g))+(W ((e.getD b.toNat 0)*(d.getD a.toNat 0)))))))
    else
     i (W ((c.getD ((W (b+a)).toNat) 0)+g)))))
 bif (decide (a<(d.length:Int))) then
  h ()
 else
  bif (decide (g>0)) then
   h ()
  else
   k0 e d b c
abbrev Sk:Tm:=⟨[(0,.d hIs),(1,.d hIs),(5,.k (.hw 16)),(6,.d hI),(7,.d hI),(8,.d hI)],[(16,.arr 3 hI false)],[],[]⟩
abbrev Art:Tm:=⟨[(0,.d hIs),(1,.d hIs),(5,.k (.hw 16)),(6,.d hI)],[(16,.arr 3 hI false)],[],[]⟩
abbrev A1j:List (Exit × Tm):=[(.exit 2,Art)]
def A1i {α:Type} (n:Nat) (v:Sk.den) (f:Sk.den->Option α) (ks:KS α A1j):Option α:=A1k n v.1.1 v.1.2.1 v.1.2.2.2.1 v.1.2.2.2.2.1 v.1.2.2.2.2.2.1 v.2.1 (λa b c d e g=>f ((a,b,(),c,d,e,()),(g,()))) (λw0 w1 w2 w3=>ks.1 ((w0,w1,(),w2,()),(w3,())))
def Mc {α:Type} (n m:Nat) (a b:LI) (c d e:Int) (f:LI) (k0:LI->LI->Int->LI->Option α):Option α:=A6 (A1i n) m ((a,b,(),c,d,e,()),(f,())) (λw=>k0 w.1.1 w.1.2.1 w.1.2.2.2.1 w.2.1,())
theorem Ars {α n m a b c d e f k0}:Mc (α:=α) n (m+1) a b c d e f k0=A1k n a b c d e f (λa b c d e f=>Mc n m a b c d e f k0) k0:=rfl
def A1n {α:Type} (n:Nat) (a d:LI) (b:Int) (c:LI) (f:LI->LI->Int->LI->Option α) (k0:LI->Option α):Option α :=
 bif (decide (b<(a.length:Int))) then
  Mc n n a d b 0 0 c
   (λe g h i=>(
    f e g (W (h+1)) i))
 else
  k0 c
abbrev Sl:Tm:=⟨[(0,.d hIs),(1,.d hIs),(5,.k (.hw 16)),(6,.d hI)],[(16,.arr 3 hI false)],[],[]⟩
abbrev Arw:Tm:=⟨[(5,.k (.hw 16))],[(16,.arr 3 hI false)],[],[]⟩
abbrev A1m:List (Exit × Tm):=[(.exit 0,Arw)]
def A1l {α:Type} (n:Nat) (v:Sl.den) (f:Sl.den->Option α) (ks:KS α A1m):Option α:=A1n n v.1.1 v.1.2.1 v.1.2.2.2.1 v.2.1 (λa b c d=>f ((a,b,(),c,()),(d,()))) (λw0=>ks.1 (((),()),(w0,())))
def Md {α:Type} (n m:Nat) (a b:LI) (c:Int) (d:LI) (k0:LI->Option α):Option α:=A6 (A1l n) m ((a,b,(),c,()),(d,())) (λw=>k0 w.2.1,())
theorem Aru {α n m a b c d k0}:Md (α:=α) n (m+1) a b c d k0=A1n n a b c d (λa b c d=>Md n m a b c d k0) k0:=rfl
abbrev B0s:Tm:=⟨[(0,.d hIs),(1,.d hIs),(5,.k (.hw 16)),(6,.d hI),(7,.d hI),(8,.d hI)],[(16,.arr 3 hI false)],[],[]⟩
abbrev Awo:Tm:=⟨[(0,.d hIs),(1,.d hIs),(5,.k (.hw 16)),(6,.d hI),(8,.d hI),(9,.d hI)],[(16,.arr 3 hI false)],[],[]⟩
def f178 (n:Nat) (a0 a1:LI):Option LI :=
 gd (decide (0<=(W ((W ((a0.length:Int)+(a1.length:Int)))+1)))&&decide ((W ((W ((a0.length:Int)+(a1.length:Int)))+1))<=4611686018427387904)&&decide ((8:Int)*(W ((W ((a0.length:Int)+(a1.length:Int)))+1))<=281474976710656)) (
  Md n n a0 a1 0 (List.replicate ((W ((W ((a0.length:Int)+(a1.length:Int)))+1)).toNat) 0)
   (λa=>(
    ob (f203 n a) λb =>
    some b)))
def Aen (n:Nat):Ent:=⟨178,[hIs,hIs],[hIs],λx=>f178 n x.1 x.2⟩
def A4w (α:Type) (n:Nat):D3 α:={ reg:=[(11,⟨10,[],[]⟩),(14,⟨0,[],[(1,{ ent:=some (W8 n),fz:=[(65,hIs)] })]⟩)],join:=[(9,B0s),(12,Awo)],loop:=[(7,⟨Sk,A1j,A6 (A1i n) n⟩),(3,⟨Sl,A1m,A6 (A1l n) n⟩)] }
theorem Wi (α:Type) (n:Nat):Aq PP (Af (A4w α n).reg):=⟨Y7 n,trivial⟩
theorem Amb (α:Type) (n:Nat):LO.Sound (α:=α) PP ⟨67,[]⟩ ⟨Sk,A1j,A6 (A1i n) n⟩ (.loop ((A0 Tryz.f178).at [1,1,0,1,0,0,1,0,0,1,1,0,0])):=Ca (D:=A4w α n) (Wi α n) n
theorem Arv (α:Type) (n:Nat):D3.OK PP TT ⟨67,[]⟩ (A4w α n) ((A0 Tryz.f178).at [1,1,0,1,0,0]) :=
 D3.OK.mk3 (Wi α n) (show Aa ((A0 Tryz.f178).at [1,1,0,1,0,0])=[(7,(.loop ((A0 Tryz.f178).at [1,1,0,1,0,0,1,0,0,1,1,0,0])))] by kernel_rfl) ⟨Ad rfl (Amb α n),trivial⟩
theorem Amc (α:Type) (n:Nat):LO.Sound (α:=α) PP ⟨67,[]⟩ ⟨Sl,A1m,A6 (A1l n) n⟩ (.loop ((A0 Tryz.f178).at [1,1,0,1,0,0])):=lk (Arv α n) n
theorem B4o (α:Type) (n:Nat):D3.OK PP TT ⟨67,[]⟩ (A4w α n) (A0 Tryz.f178) :=
 D3.OK.mk3 (Wi α n) (show Aa (A0 Tryz.f178)=[(3,(.loop ((A0 Tryz.f178).at [1,1,0,1,0,0])))] by kernel_rfl) ⟨Ad rfl (Amc α n),trivial⟩
theorem Ajh (n:Nat):(Aen n).Sound PP:=fk (fn:=Tryz.f178) (B4o _ n)

def A17 {α:Type} (n:Nat) (b c:LI) (e a:Int) (d:LI) (f:LI->LI->Int->Int->LI->Option α) (k0:LI->Option α):Option α :=
 bif (decide (a<(b.length:Int))) then
  gd (decide (0<=a)&&decide (a<(b.length:Int))) (
   let g:=λ(h:Int)=>(
    ob (f147 n (decide (h<0))) λi =>
    gd (decide ((d.length+1)*8<=140737488355328)) (
     f b c i (W (a+1)) (d++[(W (h+(W (i*10000))))])))
   bif (decide (a<(c.length:Int))) then
    gd (decide (0<=a)&&decide (a<(c.length:Int))) (
     g (W ((W ((b.getD a.toNat 0)-e))-(c.getD a.toNat 0))))
   else
    g (W ((b.getD a.toNat 0)-e)))
 else
  k0 d
abbrev Sd:Tm:=⟨[(0,.d hIs),(1,.d hIs),(5,.k (.hw 9)),(6,.d hI),(7,.d hI)],[(9,.arr 3 hI false)],[40],[]⟩
abbrev Arg:Tm:=⟨[(5,.k (.hw 9))],[(9,.arr 3 hI false)],[],[]⟩
abbrev A16:List (Exit × Tm):=[(.exit 0,Arg)]
def A15 {α:Type} (n:Nat) (v:Sd.den) (f:Sd.den->Option α) (ks:KS α A16):Option α:=A17 n v.1.1 v.1.2.1 v.1.2.2.2.1 v.1.2.2.2.2.1 v.2.1 (λa b c d e=>f ((a,b,(),c,d,()),(e,()))) (λw0=>ks.1 (((),()),(w0,())))
def Mb {α:Type} (n m:Nat) (a b:LI) (c d:Int) (e:LI) (k0:LI->Option α):Option α:=A6 (A15 n) m ((a,b,(),c,d,()),(e,())) (λw=>k0 w.2.1,())
theorem Arf {α n m a b c d e k0}:Mb (α:=α) n (m+1) a b c d e k0=A17 n a b c d e (λa b c d e=>Mb n m a b c d e k0) k0:=rfl
abbrev B0p:Tm:=⟨[(0,.d hIs),(1,.d hIs),(5,.k (.hw 9)),(7,.d hI),(8,.d hI)],[(9,.arr 3 hI false)],[],[]⟩
def f188 (n:Nat) (a0 a1:LI):Option LI :=
 Mb n n a0 a1 0 0 []
  (λa=>(
   ob (f203 n a) λb =>
   some b))
def Arh (n:Nat):Ent:=⟨188,[hIs,hIs],[hIs],λx=>f188 n x.1 x.2⟩
def Aec (α:Type) (n:Nat):D3 α:={ reg:=[(1,⟨0,[],[(0,{ sh:=some hI })]⟩),(9,⟨0,[],[(2,{ ent:=some (A51 n) })]⟩),(10,⟨0,[],[(5,{ sh:=some hI })]⟩),(11,⟨0,[],[(1,{ ent:=some (W8 n),fz:=[(42,hIs)] })]⟩)],join:=[(9,B0p)],loop:=[(4,⟨Sd,A16,A6 (A15 n) n⟩)] }
theorem A95 (α:Type) (n:Nat):Aq PP (Af (Aec α n).reg):=⟨A78 n,Y7 n,trivial⟩
theorem Am2 (α:Type) (n:Nat):LO.Sound (α:=α) PP ⟨44,[]⟩ ⟨Sd,A16,A6 (A15 n) n⟩ (.loop ((A0 Tryz.f188).at [1,1,1,0,1,0,0])):=Ca (D:=Aec α n) (A95 α n) n
theorem B4j (α:Type) (n:Nat):D3.OK PP TT ⟨44,[]⟩ (Aec α n) (A0 Tryz.f188) :=
 D3.OK.mk3 (A95 α n) (show Aa (A0 Tryz.f188)=[(4,(.loop ((A0 Tryz.f188).at [1,1,1,0,1,0,0])))] by kernel_rfl) ⟨Ad rfl (Am2 α n),trivial⟩
theorem B0n (n:Nat):(Arh n).Sound PP:=fk (fn:=Tryz.f188) (B4j _ n)

def We {α:Type} (n:Nat) (e c d:LI) (g a b:Int) (h:LI) (f:LI->LI->LI->Int->Int->Int->LI->Option α) (k0:LI->LI->LI->Int->Int->LI->Option α):Option α :=
 bif (decide ((W (b-a))>1)) then
  ob (f172 n (W (Int.tdiv (W (a+b)) 2))) λi =>
  ob (f178 n c i) λj =>
  ob (f187 n j d) λk =>
  bif (decide (k<=0)) then
   f e c d g (W (Int.tdiv (W (a+b)) 2)) b h
  else
   f e c d g a (W (Int.tdiv (W (a+b)) 2)) h
 else
  k0 e c d g a h
abbrev Ou:Tm:=⟨[(0,.d hIs),(1,.d hIs),(6,.k (.hw 14)),(7,.d hIs),(8,.d hI),(9,.d hI),(10,.d hI)],[(14,.arr 3 hI false)],[27],[]⟩
abbrev Alz:Tm:=⟨[(0,.d hIs),(1,.d hIs),(6,.k (.hw 14)),(7,.d hIs),(8,.d hI),(9,.d hI)],[(14,.arr 3 hI false)],[],[]⟩
abbrev Wd:List (Exit × Tm):=[(.exit 2,Alz)]
def Wc {α:Type} (n:Nat) (v:Ou.den) (f:Ou.den->Option α) (ks:KS α Wd):Option α:=We n v.1.1 v.1.2.1 v.1.2.2.2.1 v.1.2.2.2.2.1 v.1.2.2.2.2.2.1 v.1.2.2.2.2.2.2.1 v.2.1 (λa b c d e g h=>f ((a,b,(),c,d,e,g,()),(h,()))) (λw0 w1 w2 w3 w4 w5=>ks.1 ((w0,w1,(),w2,w3,w4,()),(w5,())))
def Nl {α:Type} (n m:Nat) (a b c:LI) (d e f:Int) (g:LI) (k0:LI->LI->LI->Int->Int->LI->Option α):Option α:=A6 (Wc n) m ((a,b,(),c,d,e,f,()),(g,())) (λw=>k0 w.1.1 w.1.2.1 w.1.2.2.2.1 w.1.2.2.2.2.1 w.1.2.2.2.2.2.1 w.2.1,())
theorem Aly {α n m a b c d e f g k0}:Nl (α:=α) n (m+1) a b c d e f g k0=We n a b c d e f g (λa b c d e f g=>Nl n m a b c d e f g k0) k0:=rfl
def Sb {α:Type} (n:Nat) (c d e:LI) (a:Int) (g:LI) (f:LI->LI->LI->Int->LI->Option α) (k0:LI->LI->Option α):Option α :=
 bif (decide (a>=0)) then
  gd (decide (0<=a)&&decide (a<(c.length:Int))) (
   gd (decide ((1+e.length)*8<=140737488355328)) (
    ob (f203 n ([(c.getD a.toNat 0)]++e)) λh =>
    ob (f187 n h d) λl =>
    bif (decide (l<0)) then
     f c d h (W (a-1)) g
    else
     Nl n n c d h a 0 10000 g
      (λm j o b k i=>(
       gd (decide (0<=b)&&decide (b<(i.length:Int))) (
        gd (decide (b.toNat<i.length)) (
         ob (f172 n k) λp =>
         ob (f178 n j p) λq =>
         ob (f188 n o q) λr =>
         f m j r (W (b-1)) (i.set b.toNat k)))))))
 else
  k0 e g
abbrev Sa:Tm:=⟨[(0,.d hIs),(1,.d hIs),(6,.k (.hw 14)),(7,.d hIs),(8,.d hI)],[(14,.arr 3 hI false)],[15,27],[(7,hIs)]⟩
abbrev Ar7:Tm:=⟨[(6,.k (.hw 14)),(7,.d hIs)],[(14,.arr 3 hI false)],[],[]⟩
abbrev A11:List (Exit × Tm):=[(.exit 0,Ar7)]
def A10 {α:Type} (n:Nat) (v:Sa.den) (f:Sa.den->Option α) (ks:KS α A11):Option α:=Sb n v.1.1 v.1.2.1 v.1.2.2.2.1 v.1.2.2.2.2.1 v.2.1 (λa b c d e=>f ((a,b,(),c,d,()),(e,()))) (λw0 w1=>ks.1 (((),w0,()),(w1,())))
def Q9 {α:Type} (n m:Nat) (a b c:LI) (d:Int) (e:LI) (k0:LI->LI->Option α):Option α:=A6 (A10 n) m ((a,b,(),c,d,()),(e,())) (λw=>k0 w.1.2.1 w.2.1,())
theorem A91 {α n m a b c d e k0}:Q9 (α:=α) n (m+1) a b c d e k0=Sb n a b c d e (λa b c d e=>Q9 n m a b c d e k0) k0:=rfl
def f202 (n:Nat) (a0 a1:LI):Option (LI × LI) :=
 gd (decide (0<=(a0.length:Int))&&decide ((a0.length:Int)<=4611686018427387904)&&decide ((8:Int)*(a0.length:Int)<=281474976710656)) (
  Q9 n n a0 a1 [] (W ((a0.length:Int)-1)) (List.replicate ((a0.length:Int).toNat) 0)
   (λa b=>(
    ob (f203 n b) λc =>
    some (c,a))))
def A4q (n:Nat):Ent:=⟨202,[hIs,hIs],[hIs,hIs],λx=>f202 n x.1 x.2⟩
def A4r (α:Type) (n:Nat):D3 α:={ reg:=[(2,⟨0,[],[(0,{ sh:=some hI })]⟩),(6,⟨0,[],[(4,{ sh:=some hI }),(7,{ ent:=some (W8 n),fz:=[(29,hIs)] })]⟩),(7,⟨0,[],[(2,{ ent:=some (Aed n) })]⟩),(12,⟨0,[],[(2,{ ent:=some (Wj n) }),(3,{ ent:=some (Aen n) }),(5,{ ent:=some (Aed n) })]⟩),(16,⟨0,[],[(3,{ ent:=some (Wj n) }),(4,{ ent:=some (Aen n) }),(5,{ ent:=some (Arh n) })]⟩),(17,⟨0,[],[(1,{ ent:=some (W8 n),fz:=[(62,hIs)] })]⟩)],join:=[],loop:=[(10,⟨Ou,Wd,A6 (Wc n) n⟩),(4,⟨Sa,A11,A6 (A10 n) n⟩)] }
theorem W9 (α:Type) (n:Nat):Aq PP (Af (A4r α n).reg):=⟨Y7 n,Aje n,Yc n,Ajh n,Aje n,Yc n,Ajh n,B0n n,Y7 n,trivial⟩
theorem Agx (α:Type) (n:Nat):LO.Sound (α:=α) PP ⟨65,[]⟩ ⟨Ou,Wd,A6 (Wc n) n⟩ (.loop ((A0 Tryz.f202).at [1,1,1,0,1,0,0,1,0,0,1,1,1,1,0,0,0])):=Ca (D:=A4r α n) (W9 α n) n
theorem Ar6 (α:Type) (n:Nat):D3.OK PP TT ⟨65,[]⟩ (A4r α n) ((A0 Tryz.f202).at [1,1,1,0,1,0,0]) :=
 D3.OK.mk3 (W9 α n) (show Aa ((A0 Tryz.f202).at [1,1,1,0,1,0,0])=[(10,(.loop ((A0 Tryz.f202).at [1,1,1,0,1,0,0,1,0,0,1,1,1,1,0,0,0])))] by kernel_rfl) ⟨Ad rfl (Agx α n),trivial⟩
theorem Alx (α:Type) (n:Nat):LO.Sound (α:=α) PP ⟨65,[]⟩ ⟨Sa,A11,A6 (A10 n) n⟩ (.loop ((A0 Tryz.f202).at [1,1,1,0,1,0,0])):=lk (Ar6 α n) n
theorem B4d (α:Type) (n:Nat):D3.OK PP TT ⟨65,[]⟩ (A4r α n) (A0 Tryz.f202) :=
 D3.OK.mk3 (W9 α n) (show Aa (A0 Tryz.f202)=[(4,(.loop ((A0 Tryz.f202).at [1,1,1,0,1,0,0])))] by kernel_rfl) ⟨Ad rfl (Alx α n),trivial⟩
theorem A71 (n:Nat):(A4q n).Sound PP:=fk (fn:=Tryz.f202) (B4d _ n)

def A14 {α:Type} (n:Nat) (b a:LI) (f:LI->LI->Option α) (k0:LI->Option α):Option α :=
 bif (decide ((a.length:Int)>0)) then
  ob (f202 n b a) λc =>
  f a c.2
 else
  k0 b
abbrev Sc:Tm:=⟨[(0,.d hIs),(1,.d hIs)],[],[],[]⟩
abbrev Ard:Tm:=⟨[(0,.d hIs)],[],[],[]⟩
abbrev A13:List (Exit × Tm):=[(.exit 0,Ard)]
def A12 {α:Type} (n:Nat) (v:Sc.den) (f:Sc.den->Option α) (ks:KS α A13):Option α:=A14 n v.1.1 v.1.2.1 (λa b=>f ((a,b,()),())) (λw0=>ks.1 ((w0,()),()))
def Jf {α:Type} (n m:Nat) (a b:LI) (k0:LI->Option α):Option α:=A6 (A12 n) m ((a,b,()),()) (λw=>k0 w.1.1,())
theorem A94 {α n m a b k0}:Jf (α:=α) n (m+1) a b k0=A14 n a b (λa b=>Jf n m a b k0) k0:=rfl
def f190 (n:Nat) (a0 a1:LI):Option LI :=
 Jf n n a0 a1
  (λa=>(
   gd (decide ((0+a.length)*8<=140737488355328)) (
    some a)))
def Are (n:Nat):Ent:=⟨190,[hIs,hIs],[hIs],λx=>f190 n x.1 x.2⟩
def Aeb (α:Type) (n:Nat):D3 α:={ reg:=[(2,⟨0,[],[(2,{ ent:=some (A4q n) })]⟩),(5,⟨0,[],[(0,{ sh:=some hI })]⟩)],join:=[],loop:=[(1,⟨Sc,A13,A6 (A12 n) n⟩)] }
theorem A93 (α:Type) (n:Nat):Aq PP (Af (Aeb α n).reg):=⟨A71 n,trivial⟩
theorem Am1 (α:Type) (n:Nat):LO.Sound (α:=α) PP ⟨21,[]⟩ ⟨Sc,A13,A6 (A12 n) n⟩ (.loop ((A0 Tryz.f190).at [1,0,0,0])):=Ca (D:=Aeb α n) (A93 α n) n
theorem B4i (α:Type) (n:Nat):D3.OK PP TT ⟨21,[]⟩ (Aeb α n) (A0 Tryz.f190) :=
 D3.OK.mk3 (A93 α n) (show Aa (A0 Tryz.f190)=[(1,(.loop ((A0 Tryz.f190).at [1,0,0,0])))] by kernel_rfl) ⟨Ad rfl (Am1 α n),trivial⟩
theorem B0m (n:Nat):(Are n).Sound PP:=fk (fn:=Tryz.f190) (B4i _ n)

def f177 (n:Nat) (a0:Bool) (a1 a2:LI):Option Rq :=
 ob (f190 n a1 a2) λb =>
 ob (f202 n a1 b) λa =>
 ob (f202 n a2 b) λc =>
 bif a0 then
  some ((decide ((a.1.length:Int)>0)),a.1,c.1)
 else
  some (false,a.1,c.1)
def Arx (n:Nat):Ent:=⟨177,[.bool,hIs,hIs],[hR],λx=>f177 n x.1 x.2.1 x.2.2⟩
def B4p (α:Type) (n:Nat):D3 α:={ reg:=[(1,⟨0,[],[(2,{ ent:=some (Are n) })]⟩),(2,⟨0,[],[(2,{ ent:=some (A4q n) })]⟩),(3,⟨0,[],[(2,{ ent:=some (A4q n) })]⟩)],join:=[],loop:=[] }
theorem B0t (n:Nat):(Arx n).Sound PP:=B2 (fn:=Tryz.f177) (D:=B4p _ n) ⟨B0m n,A71 n,A71 n,trivial⟩

def f174 (n:Nat) (a0 a1:Int):Option (Rq × Int) :=
 ob (f65 n a0 (-1000000000) 1000000000) λc =>
 bif (!c) then
  some ((false,[],[]),4)
 else
  ob (f65 n a1 (-1000000000) 1000000000) λd =>
  bif (!d) then
   some ((false,[],[]),4)
  else
   bif (a1==0) then
    some ((false,[],[]),9)
   else
    ob (f106 n a0) λa =>
    ob (f106 n a1) λb =>
    ob (f177 n (!(a.1==b.1)) a.2.1 b.2.1) λe =>
    some (e,0)
def Ary (n:Nat):Ent:=⟨174,[hI,hI],[hR,hI],λx=>f174 n x.1 x.2⟩
def B4q (α:Type) (n:Nat):D3 α:={ reg:=[(1,⟨0,[],[(1,{ ent:=some (Al5 n) }),(5,{ ent:=some (Al5 n) })]⟩),(5,⟨0,[],[(1,{ ent:=some (Aez n) })]⟩),(6,⟨0,[],[(1,{ ent:=some (Aez n) })]⟩),(7,⟨0,[],[(9,{ ent:=some (Arx n) })]⟩)],join:=[],loop:=[] }
theorem B0u (n:Nat):(Ary n).Sound PP:=B2 (fn:=Tryz.f174) (D:=B4q _ n) ⟨Apu n,Apu n,Ajn n,Ajn n,B0t n,trivial⟩

def Oz (n:Nat) (a0:LI × Int × Int):Option (Rq × (LI × Int × Int)) :=
 ob (K3 n a0 21) λa =>
 ob (K3 n a.2 6) λb =>
 ob (f174 n (W (a.1-10)) (W (1+b.1))) λc =>
 some (c.1,b.2)
def Ajm (n:Nat):Ent3:=⟨108,[.one (.ptr 125 (.st (.pair (.sl (.int .u8)) (.pair hI hI))))],[[.im hR]],λx=>Oz n x⟩
def B1n (α:Type) (n:Nat):D3 α:={ reg:=[(1,⟨0,[],[(1,{ entB:=some (Qk n),hb:=310 }),(4,{ entB:=some (Qk n),hb:=320 }),(6,{ ent:=some (Ary n) })]⟩)],join:=[],loop:=[] }
theorem Awu (n:Nat):(Ajm n).Sound PP:=Ach (fn:=Tryz.f108) (D:=B1n _ n) ⟨T7 n,T7 n,B0u n,trivial⟩

def Rn {α:Type} (n:Nat) (c d:Int) (b:LR) (e:LI) (g h:Int) (f:Int->Int->LR->LI->Int->Int->Option α) (k0:LR->LI->Int->Int->Option α):Option α :=
 bif (decide (d<c)) then
  ob (Oz n (e,g,h)) λa =>
  gd (decide ((b.length+1)*56<=140737488355328)) (
   f c (W (d+1)) (b++[a.1]) a.2.1 a.2.2.1 a.2.2.2)
 else
  k0 b e g h
abbrev Rm:Tm:=⟨[(0,.k (.hp 1000 0 0)),(1,.d hI),(5,.k (.hw 7)),(6,.d hI)],[(7,.arr 30 hR false),(1000,.var 125 true false [.d (.sl (.int .u8)),.d hI,.d hI])],[16],[]⟩
abbrev Apw:Tm:=⟨[(5,.k (.hw 7))],[(7,.arr 30 hR false),(1000,.var 125 true false [.d (.sl (.int .u8)),.d hI,.d hI])],[],[]⟩
abbrev A0g:List (Exit × Tm):=[(.exit 0,Apw)]
def A0f {α:Type} (n:Nat) (v:Rm.den) (f:Rm.den->Option α) (ks:KS α A0g):Option α:=Rn n v.1.2.1 v.1.2.2.2.1 v.2.1 v.2.2.1.1 v.2.2.1.2.1 v.2.2.1.2.2.1 (λa b c d e g=>f (((),a,(),b,()),(c,(d,e,g,()),()))) (λw0 w1 w2 w3=>ks.1 (((),()),(w0,(w1,w2,w3,()),())))
def Ja {α:Type} (n m:Nat) (a b:Int) (c:LR) (d:LI) (e f:Int) (k0:LR->LI->Int->Int->Option α):Option α:=A6 (A0f n) m (((),a,(),b,()),(c,(d,e,f,()),())) (λw=>k0 w.2.1 w.2.2.1.1 w.2.2.1.2.1 w.2.2.1.2.2.1,())
theorem A8n {α n m a b c d e f k0}:Ja (α:=α) n (m+1) a b c d e f k0=Rn n a b c d e f (λa b c d e f=>Ja n m a b c d e f k0) k0:=rfl
def Al7 (n:Nat) (a0:LI × Int × Int) (a1:Int):Option (LR × (LI × Int × Int)) :=
 Ja n n a1 0 [] a0.1 a0.2.1 a0.2.2
  (λa b c d=>(
   some (a,(b,c,d))))
def Apx (n:Nat):Ent3:=⟨48,[.one (.ptr 125 (.st (.pair (.sl (.int .u8)) (.pair hI hI)))),.im hI],[[.im hRs]],λx=>Al7 n x.1 x.2⟩
def Ad2 (α:Type) (n:Nat):D3 α:={ reg:=[(1,⟨0,[],[(0,{ sh:=some hR })]⟩),(5,⟨0,[],[(2,{ entB:=some (Ajm n),hb:=310 }),(3,{ sh:=some hR })]⟩)],join:=[],loop:=[(3,⟨Rm,A0g,A6 (A0f n) n⟩)] }
theorem A8m (α:Type) (n:Nat):Aq PP (Af (Ad2 α n).reg):=⟨Awu n,trivial⟩
theorem Al6 (α:Type) (n:Nat):LO.Sound (α:=α) PP ⟨19,[]⟩ ⟨Rm,A0g,A6 (A0f n) n⟩ (.loop ((A0 Tryz.f48).at [1,1,0,1,0,0])):=Ca (D:=Ad2 α n) (A8m α n) n
theorem B39 (α:Type) (n:Nat):D3.OK PP TT ⟨19,[]⟩ (Ad2 α n) (A0 Tryz.f48) :=
 D3.OK.mk3 (A8m α n) (show Aa (A0 Tryz.f48)=[(3,(.loop ((A0 Tryz.f48).at [1,1,0,1,0,0])))] by kernel_rfl) ⟨Ad rfl (Al6 α n),trivial⟩
theorem Azf (n:Nat):(Apx n).Sound PP:=fkB (fn:=Tryz.f48) (B39 _ n)

def f12 (n:Nat) (a0:LI) (a1:Int):Option LR :=
 ob (A6r n a0) λa =>
 ob (Al7 n a a1) λb =>
 some b.1
def Amv (n:Nat):Ent:=⟨12,[(.sl (.int .u8)),hI],[hRs],λx=>f12 n x.1 x.2⟩
def B77 (α:Type) (n:Nat):D3 α:={ reg:=[(1,⟨0,[],[(1,{ entB:=some (Ad3 n),hb:=310 }),(3,{ entB:=some (Apx n),hb:=320 })]⟩)],join:=[],loop:=[] }
theorem Asx (n:Nat):(Amv n).Sound PP:=B2 (fn:=Tryz.f12) (D:=B77 _ n) ⟨Aid n,Azf n,trivial⟩

def A2c {α:Type} (n:Nat) (a:Int) (b:LI) (f:Int->LI->Option α) (k0:LI->Option α):Option α :=
 bif (decide (a>0)) then
  gd (decide ((b.length+1)*8<=140737488355328)) (
   f (W (Int.tdiv a 10000)) (b++[(Int.tmod a 10000)]))
 else
  k0 b
abbrev T1:Tm:=⟨[(0,.d hI),(3,.k (.hw 4))],[(4,.arr 3 hI false)],[12],[]⟩
abbrev Asq:Tm:=⟨[(3,.k (.hw 4))],[(4,.arr 3 hI false)],[],[]⟩
abbrev A2b:List (Exit × Tm):=[(.exit 0,Asq)]
def A2a {α:Type} (n:Nat) (v:T1.den) (f:T1.den->Option α) (ks:KS α A2b):Option α:=A2c n v.1.1 v.2.1 (λa b=>f ((a,(),()),(b,()))) (λw0=>ks.1 (((),()),(w0,())))
def Yi {α:Type} (n m:Nat) (a:Int) (b:LI) (k0:LI->Option α):Option α:=A6 (A2a n) m ((a,(),()),(b,())) (λw=>k0 w.2.1,())
theorem Asp {α n m a b k0}:Yi (α:=α) n (m+1) a b k0=A2c n a b (λa b=>Yi n m a b k0) k0:=rfl
def f160 (n:Nat) (a0:Int):Option LI :=
 Yi n n a0 []
  (λa=>(
   some a))
def Km (n:Nat):Ent:=⟨160,[hI],[hIs],λx=>f160 n x⟩
def Aev (α:Type) (n:Nat):D3 α:={ reg:=[(1,⟨0,[],[(0,{ sh:=some hI })]⟩),(4,⟨0,[],[(3,{ sh:=some hI })]⟩)],join:=[],loop:=[(2,⟨T1,A2b,A6 (A2a n) n⟩)] }
theorem A9h (α:Type) (n:Nat):Aq PP (Af (Aev α n).reg):=trivial
theorem Amr (α:Type) (n:Nat):LO.Sound (α:=α) PP ⟨15,[]⟩ ⟨T1,A2b,A6 (A2a n) n⟩ (.loop ((A0 Tryz.f160).at [1,1,0,0,0])):=Ca (D:=Aev α n) (A9h α n) n
theorem B53 (α:Type) (n:Nat):D3.OK PP TT ⟨15,[]⟩ (Aev α n) (A0 Tryz.f160) :=
 D3.OK.mk3 (A9h α n) (show Aa (A0 Tryz.f160)=[(2,(.loop ((A0 Tryz.f160).at [1,1,0,0,0])))] by kernel_rfl) ⟨Ad rfl (Amr α n),trivial⟩
theorem A77 (n:Nat):(Km n).Sound PP:=fk (fn:=Tryz.f160) (B53 _ n)

def f161 (n:Nat)  : Option LI :=
 some [1]
def Qg (n:Nat):Ent:=⟨161,[],[hIs],λ_=>f161 n⟩
def B52 (α:Type) (n:Nat):D3 α:={ reg:=[(1,⟨0,[],[(0,{ sh:=some hI })]⟩)],join:=[],loop:=[] }
theorem Qf (n:Nat):(Qg n).Sound PP:=B2 (fn:=Tryz.f161) (D:=B52 _ n) trivial

def f92 (n:Nat) (a0:Int):Option Rq :=
 bif (decide (a0<0)) then
  ob (f160 n (W (0-a0))) λa =>
  ob (f161 n) λb =>
  some (true,a,b)
 else
  ob (f160 n a0) λc =>
  ob (f161 n) λd =>
  some (false,c,d)
def As (n:Nat):Ent:=⟨92,[hI],[hR],λx=>f92 n x⟩
def B6k (α:Type) (n:Nat):D3 α:={ reg:=[(2,⟨0,[],[(2,{ ent:=some (Km n) }),(3,{ ent:=some (Qg n) })]⟩),(3,⟨0,[],[(1,{ ent:=some (Km n) }),(2,{ ent:=some (Qg n) })]⟩)],join:=[],loop:=[] }
theorem B8 (n:Nat):(As n).Sound PP:=B2 (fn:=Tryz.f92) (D:=B6k _ n) ⟨A77 n,Qf n,A77 n,Qf n,trivial⟩

def A1d {α:Type} (n:Nat) (b:LI) (a:Int) (f:LI->Int->Option α) (k0:LI->Int->Option α):Option α :=
 bif (decide (a>0)) then
  gd (decide (0<=(W (a-1)))&&decide ((W (a-1))<(b.length:Int))) (
   bif ((b.getD ((W (a-1)).toNat) 0)==0) then
    f b (W (a-1))
   else
    k0 b a)
 else
  k0 b a
abbrev Sf:Tm:=⟨[(0,.d hIs),(3,.d hI)],[],[],[]⟩
abbrev Arm:Tm:=⟨[(0,.d hIs),(3,.d hI)],[],[],[]⟩
abbrev A1c:List (Exit × Tm):=[(.exit 0,Arm)]
def A1b {α:Type} (n:Nat) (v:Sf.den) (f:Sf.den->Option α) (ks:KS α A1c):Option α:=A1d n v.1.1 v.1.2.1 (λa b=>f ((a,b,()),())) (λw0 w1=>ks.1 ((w0,w1,()),()))
def Yb {α:Type} (n m:Nat) (a:LI) (b:Int) (k0:LI->Int->Option α):Option α:=A6 (A1b n) m ((a,b,()),()) (λw=>k0 w.1.1 w.1.2.1,())
theorem Arl {α n m a b k0}:Yb (α:=α) n (m+1) a b k0=A1d n a b (λa b=>Yb n m a b k0) k0:=rfl
def f185 (n:Nat) (a0:LI):Option LI :=
 Yb n n a0 (a0.length:Int)
  (λb a=>(
   gd (decide (0<=a)&&decide (a<=(b.length:Int))) (
    some ((b.drop 0).take (a.toNat-0)))))
def Gj (n:Nat):Ent:=⟨185,[hIs],[hIs],λx=>f185 n x⟩
def Aef (α:Type) (n:Nat):D3 α:={ reg:=[],join:=[],loop:=[(2,⟨Sf,A1c,A6 (A1b n) n⟩)] }
theorem A97 (α:Type) (n:Nat):Aq PP (Af (Aef α n).reg):=trivial
theorem Am4 (α:Type) (n:Nat):LO.Sound (α:=α) PP ⟨21,[]⟩ ⟨Sf,A1c,A6 (A1b n) n⟩ (.loop ((A0 Tryz.f185).at [1,1,0,0,0])):=Ca (D:=Aef α n) (A97 α n) n
theorem B4l (α:Type) (n:Nat):D3.OK PP TT ⟨21,[]⟩ (Aef α n) (A0 Tryz.f185) :=
 D3.OK.mk3 (A97 α n) (show Aa (A0 Tryz.f185)=[(2,(.loop ((A0 Tryz.f185).at [1,1,0,0,0])))] by kernel_rfl) ⟨Ad rfl (Am4 α n),trivial⟩
theorem Qa (n:Nat):(Gj n).Sound PP:=fk (fn:=Tryz.f185) (B4l _ n)

def A2f {α:Type} (n:Nat) (d:LI) (b g e a:Int) (h:LI) (i j:Int) (c:LI) (f:LI->Int->Int->Int->Int->LI->Int->Int->LI->Option α) (k0:LI->LI->Int->Int->LI->Option α):Option α :=
 let k:=λ(_:Unit)=>(
  let l:=λ(m:Int)=>(
   gd (decide (0<=(W (b+a)))&&decide ((W (b+a))<(c.length:Int))) (
    gd (decide ((W (b+a)).toNat<c.length)) (
     gd (decide (0<=(W (b+a)))&&decide ((W (b+a))<(c.length:Int))) (
      gd (decide ((W (b+a)).toNat<c.length)) (
       f d b g (W (Int.tdiv (W (m+(c.getD ((W (b+a)).toNat) 0))) 10000)) (W (a+1)) h i j (c.set ((W (b+a)).toNat) (Int.tmod (W (m+(c.getD ((W (b+a)).toNat) 0))) 10000)))))))
  bif (decide (a<(d.length:Int))) then
   gd (decide (0<=a)&&decide (a<(d.length:Int))) (
    l (W (e+(W (g*(d.getD a.toNat 0))))))
  else
   l e)
 bif (decide (a<(d.length:Int))) then
  k ()
 else
  bif (decide (e>0)) then
   k ()
  else
   k0 d h i j c
abbrev T2:Tm:=⟨[(1,.d hIs),(5,.k (.hw 15)),(6,.d hI),(7,.d hI),(8,.d hI),(9,.d hI),(16,.d hIs),(17,.d hI),(18,.d hI)],[(15,.arr 3 hI false)],[],[]⟩
abbrev Ast:Tm:=⟨[(1,.d hIs),(5,.k (.hw 15)),(16,.d hIs),(17,.d hI),(18,.d hI)],[(15,.arr 3 hI false)],[],[]⟩
abbrev A2e:List (Exit × Tm):=[(.exit 2,Ast)]
def A2d {α:Type} (n:Nat) (v:T2.den) (f:T2.den->Option α) (ks:KS α A2e):Option α:=A2f n v.1.1 v.1.2.2.1 v.1.2.2.2.1 v.1.2.2.2.2.1 v.1.2.2.2.2.2.1 v.1.2.2.2.2.2.2.1 v.1.2.2.2.2.2.2.2.1 v.1.2.2.2.2.2.2.2.2.1 v.2.1 (λa b c d e g h i j=>f ((a,(),b,c,d,e,g,h,i,()),(j,()))) (λw0 w1 w2 w3 w4=>ks.1 ((w0,(),w1,w2,w3,()),(w4,())))
def Mf {α:Type} (n m:Nat) (a:LI) (b c d e:Int) (f:LI) (g h:Int) (i:LI) (k0:LI->LI->Int->Int->LI->Option α):Option α:=A6 (A2d n) m ((a,(),b,c,d,e,f,g,h,()),(i,())) (λw=>k0 w.1.1 w.1.2.2.1 w.1.2.2.2.1 w.1.2.2.2.2.1 w.2.1,())
theorem Ass {α n m a b c d e f g h i k0}:Mf (α:=α) n (m+1) a b c d e f g h i k0=A2f n a b c d e f g h i (λa b c d e f g h i=>Mf n m a b c d e f g h i k0) k0:=rfl
def A2i {α:Type} (n:Nat) (e b:LI) (c a:Int) (d:LI) (f:LI->LI->Int->Int->LI->Option α) (k0:LI->Option α):Option α :=
 bif (decide (a<c)) then
  gd (decide (0<=a)&&decide (a<(b.length:Int))) (
   Mf n n e a (b.getD a.toNat 0) 0 0 b c a d
    (λg h i j k=>(
     f g h i (W (j+1)) k)))
 else
  k0 d
abbrev T3:Tm:=⟨[(1,.d hIs),(5,.k (.hw 15)),(16,.d hIs),(17,.d hI),(18,.d hI)],[(15,.arr 3 hI false)],[],[]⟩
abbrev Asw:Tm:=⟨[(5,.k (.hw 15))],[(15,.arr 3 hI false)],[],[]⟩
abbrev A2h:List (Exit × Tm):=[(.exit 0,Asw)]
def A2g {α:Type} (n:Nat) (v:T3.den) (f:T3.den->Option α) (ks:KS α A2h):Option α:=A2i n v.1.1 v.1.2.2.1 v.1.2.2.2.1 v.1.2.2.2.2.1 v.2.1 (λa b c d e=>f ((a,(),b,c,d,()),(e,()))) (λw0=>ks.1 (((),()),(w0,())))
def Mg {α:Type} (n m:Nat) (a b:LI) (c d:Int) (e:LI) (k0:LI->Option α):Option α:=A6 (A2g n) m ((a,(),b,c,d,()),(e,())) (λw=>k0 w.2.1,())
theorem Asu {α n m a b c d e k0}:Mg (α:=α) n (m+1) a b c d e k0=A2i n a b c d e (λa b c d e=>Mg n m a b c d e k0) k0:=rfl
abbrev B1i:Tm:=⟨[(1,.d hIs),(5,.k (.hw 15)),(6,.d hI),(7,.d hI),(8,.d hI),(9,.d hI),(16,.d hIs),(17,.d hI),(18,.d hI)],[(15,.arr 3 hI false)],[],[]⟩
abbrev Aws:Tm:=⟨[(1,.d hIs),(5,.k (.hw 15)),(6,.d hI),(7,.d hI),(8,.d hI),(9,.d hI),(16,.d hIs),(17,.d hI),(18,.d hI)],[(15,.arr 3 hI false)],[],[]⟩
def f143 (n:Nat) (a0 a1:LI):Option LI :=
 gd (decide (0<=(W ((a0.length:Int)+(a1.length:Int))))&&decide ((W ((a0.length:Int)+(a1.length:Int)))<=4611686018427387904)&&decide ((8:Int)*(W ((a0.length:Int)+(a1.length:Int)))<=281474976710656)) (
  Mg n n a1 a0 (a0.length:Int) 0 (List.replicate ((W ((a0.length:Int)+(a1.length:Int))).toNat) 0)
   (λa=>(
    ob (f185 n a) λb =>
    some b)))
def Gm (n:Nat):Ent:=⟨143,[hIs,hIs],[hIs],λx=>f143 n x.1 x.2⟩
def A53 (α:Type) (n:Nat):D3 α:={ reg:=[(14,⟨0,[],[(1,{ ent:=some (Gj n),fz:=[(63,hIs)] })]⟩)],join:=[(9,B1i),(11,Aws)],loop:=[(7,⟨T2,A2e,A6 (A2d n) n⟩),(3,⟨T3,A2h,A6 (A2g n) n⟩)] }
theorem Wq (α:Type) (n:Nat):Aq PP (Af (A53 α n).reg):=⟨Qa n,trivial⟩
theorem Amt (α:Type) (n:Nat):LO.Sound (α:=α) PP ⟨65,[]⟩ ⟨T2,A2e,A6 (A2d n) n⟩ (.loop ((A0 Tryz.f143).at [1,1,0,1,0,0,1,1,0,0,1,1,1,0,0])):=Ca (D:=A53 α n) (Wq α n) n
theorem Asv (α:Type) (n:Nat):D3.OK PP TT ⟨65,[]⟩ (A53 α n) ((A0 Tryz.f143).at [1,1,0,1,0,0]) :=
 D3.OK.mk3 (Wq α n) (show Aa ((A0 Tryz.f143).at [1,1,0,1,0,0])=[(7,(.loop ((A0 Tryz.f143).at [1,1,0,1,0,0,1,1,0,0,1,1,1,0,0])))] by kernel_rfl) ⟨Ad rfl (Amt α n),trivial⟩
theorem Amu (α:Type) (n:Nat):LO.Sound (α:=α) PP ⟨65,[]⟩ ⟨T3,A2h,A6 (A2g n) n⟩ (.loop ((A0 Tryz.f143).at [1,1,0,1,0,0])):=lk (Asv α n) n
theorem B56 (α:Type) (n:Nat):D3.OK PP TT ⟨65,[]⟩ (A53 α n) (A0 Tryz.f143) :=
 D3.OK.mk3 (Wq α n) (show Aa (A0 Tryz.f143)=[(3,(.loop ((A0 Tryz.f143).at [1,1,0,1,0,0])))] by kernel_rfl) ⟨Ad rfl (Amu α n),trivial⟩
theorem Fx (n:Nat):(Gm n).Sound PP:=fk (fn:=Tryz.f143) (B56 _ n)

def f201 (n:Nat) (a0:LI):Option LI :=
 some a0
def Ae6 (n:Nat):Ent:=⟨201,[hIs],[(.clo 223 (.ref hIs))],λx=>f201 n x⟩
def B4e (α:Type) (n:Nat):D3 α:={ reg:=[(1,⟨0,[],[(0,{ sh:=some (.ref hIs) })]⟩)],join:=[],loop:=[] }
theorem Aj8 (n:Nat):(Ae6 n).Sound PP:=B2 (fn:=Tryz.f201) (D:=B4e _ n) trivial

def A1x {α:Type} (n:Nat) (i:Nat) (z:Int) (b:LI) (a:LI) (c:Int) (f:LI->LI->Int->Option α) (k0:Int->Option α) (k1:Int->Option α):Option α :=
 gd (decide (0<=(i:Int))&&decide ((i:Int)<(a.length:Int))) (
  bif (z != (a.getD ((i:Int).toNat) 0)) then
   gd (decide (0<=(i:Int))&&decide ((i:Int)<(a.length:Int))) (
    bif (decide (z<(a.getD ((i:Int).toNat) 0))) then
     k1 (-1)
    else
     k1 1)
  else
   f b a c)
abbrev Jj:Tm:=⟨[(3,.k (.hp 3 0 0)),(4,.k (.hp 4 0 0)),(18,.d (.clo 223 (.ref hIs)))],[(3,.var 28 true false [.d hIs]),(4,.var 3 true false [.d hI])],[],[]⟩
abbrev As7:Tm:=⟨[(4,.k (.hp 4 0 0))],[(4,.var 3 true false [.d hI])],[3],[]⟩
abbrev As6:Tm:=⟨[(4,.k (.hp 4 0 0))],[(4,.var 3 true false [.d hI])],[3],[]⟩
abbrev Ss:List (Exit × Tm):=[(.normal,As7),(.ret,As6)]
def Nw (v:Jj.den):List Int:=(λa b c=>a) v.1.2.2.1 v.2.1.1 v.2.2.1.1
def Nx {α:Type} (n:Nat) (i:Nat) (z:Int) (v:Jj.den) (f:Jj.den->Option α) (ks:KS α Ss):Option α:=A1x n i z v.1.2.2.1 v.2.1.1 v.2.2.1.1 (λa b c=>f (((),(),a,()),((b,()),(c,()),()))) (λw0=>ks.1 (((),()),((w0,()),()))) (λw0=>ks.2.1 (((),()),((w0,()),())))
def Nz {α:Type} (v:Jj.den) (ks:KS α Ss):Option α:=(λb c a=>ks.1 (((),()),((a,()),()))) v.1.2.2.1 v.2.1.1 v.2.2.1.1
def Ajk {α:Type} (n:Nat) (a:LI) (b:LI) (c:Int) (k0:Int->Option α) (k1:Int->Option α):Option α:=Mr Nw (Nx n) Nz (((),(),a,()),((b,()),(c,()),())) (λw=>k0 w.2.1.1,λw=>k1 w.2.1.1,())
def Ny {α:Type} (n:Nat) (zs:List Int) (i:Nat) (a:LI) (b:LI) (c:Int) (k0:Int->Option α) (k1:Int->Option α):Option α:=Ms Nw (Nx n) zs i (((),(),a,()),((b,()),(c,()),())) (λv=>Nz v (λw=>k0 w.2.1.1,λw=>k1 w.2.1.1,())) (λw=>k0 w.2.1.1,λw=>k1 w.2.1.1,())
theorem As4 {α:Type} (n:Nat) (a:LI) (b:LI) (c:Int) (k0:Int->Option α) (k1:Int->Option α):Ajk (α:=α) n a b c k0 k1=gd (decide (a.length<=4611686018427387904)) (Ny n a a.length a b c k0 k1):=rfl
theorem As5 {α:Type} (n:Nat) (zs:List Int) (b:LI) (c:LI) (a:Int) (k0:Int->Option α) (k1:Int->Option α):Ny (α:=α) n zs 0 b c a k0 k1=k0 a:=rfl
theorem As3 {α:Type} (n:Nat) (zs:List Int) (i:Nat) (a:LI) (b:LI) (c:Int) (k0:Int->Option α) (k1:Int->Option α):Ny (α:=α) n zs (i+1) a b c k0 k1=A1x n i (zs.getD i 0) a b c (λa b c=>gd (decide (a=zs)) (Ny n zs i a b c k0 k1)) k0 k1:=rfl
def f170 (n:Nat) (a0 a1:LI):Option Int :=
 bif ((a0.length:Int) != (a1.length:Int)) then
  bif (decide ((a0.length:Int)<(a1.length:Int))) then
   some (-1)
  else
   some 1
 else
  ob (f201 n a0) λa =>
  Ajk n a a1 0
   (λc=>(
    some 0))
   (λb=>(
    some b))
def Wl (n:Nat):Ent:=⟨170,[hIs,hIs],[hI],λx=>f170 n x.1 x.2⟩
def A4z (α:Type) (n:Nat):D3 α:={ reg:=[(5,⟨0,[],[(1,{ ent:=some (Ae6 n) })]⟩)],join:=[],loop:=[(6,⟨Jj,Ss,Mr Nw (Nx n) Nz⟩)] }
theorem Wk (α:Type) (n:Nat):Aq PP (Af (A4z α n).reg):=⟨Aj8 n,trivial⟩
theorem Amj (α:Type) (n:Nat):D3.OK PP TT ⟨33,[]⟩ (A4z α n) ((A0 Tryz.f170).at [1,1,0,1,0,0]) :=
 D3.OK.mk3 (Wk α n) (show Aa ((A0 Tryz.f170).at [1,1,0,1,0,0])=[] by kernel_rfl) trivial
theorem Ami (α:Type) (n:Nat):D3.OK PP TT ⟨33,[]⟩ (A4z α n) ((A0 Tryz.f170).at [1,1,0,1,0,1]) :=
 D3.OK.mk3 (Wk α n) (show Aa ((A0 Tryz.f170).at [1,1,0,1,0,1])=[] by kernel_rfl) trivial
theorem Amh (α:Type) (n:Nat):LO.Sound (α:=α) PP ⟨33,[]⟩ ⟨Jj,Ss,Mr Nw (Nx n) Nz⟩ (.rangeFunc (.tmp 18) #[19,20] ((A0 Tryz.f170).at [1,1,0,1,0,0]) ((A0 Tryz.f170).at [1,1,0,1,0,1])) :=
 Abk (Po _) Mt Nw (Nx n) Nz Ajy rfl rfl rfl rfl (Amj α n) (Ami α n) (by intro v;rfl) (by intro i z v f ks;kernel_rfl) (by intro v ks;kernel_rfl)
theorem B4t (α:Type) (n:Nat):D3.OK PP TT ⟨33,[]⟩ (A4z α n) (A0 Tryz.f170) :=
 D3.OK.mk3 (Wk α n) (show Aa (A0 Tryz.f170)=[(6,(.rangeFunc (.tmp 18) #[19,20] ((A0 Tryz.f170).at [1,1,0,1,0,0]) ((A0 Tryz.f170).at [1,1,0,1,0,1])))] by kernel_rfl) ⟨Ad rfl (Amh α n),trivial⟩
theorem Yf (n:Nat):(Wl n).Sound PP:=fk (fn:=Tryz.f170) (B4t _ n)

def Ams (n:Nat) (a0:LI):Option LI :=
 gd ((!a0.isEmpty)) (
  gd (decide ((0+a0.length)*8<=140737488355328)) (
   some a0))
def B1d (n:Nat):Ent:=⟨145,[hIs],[hIs],λx=>Ams n x⟩
def B1e (α:Type) (n:Nat):D3 α:={ reg:=[(3,⟨0,[],[(0,{ sh:=some hI })]⟩)],join:=[],loop:=[] }
theorem Awr (n:Nat):(B1d n).Sound PP:=B2 (fn:=Tryz.f145) (D:=B1e _ n) trivial

set_option maxRecDepth 100000 in
set_option maxHeartbeats 2000000 in
theorem Atk (ad:Option Addr) (cap:Nat) (hc:ad=none->cap=0) (w:World):Calls Tryz.prog 145 #[.slice ad 0 cap] w λe w'=>(∃ a c,e = .returned (.slice a 0 c)/\(a=none->c=0))/\w.grownBy w' none:=by
 refine (callsIn_wide (n:=3)).1 ?_;refine callsIn_of_wp Tryz.func145 rfl trivial ?_ rfl;simp only [Tryz.ntmps145,List.size_toArray,ZE,XZ,Nat.reduceAdd,Nat.reduceSub,Array.replicate_succ,Array.replicate_zero,List.push_toArray,List.append_toArray,JQ,YB];have hi:∃ i,Tryz.prog.info? 3=some i:=⟨_,rfl⟩;obtain ⟨i3,hi3⟩:=hi
 have hap:∀ (base:Option Addr) (sCap:Nat) (a:Option Addr) (cp:Nat) (w:World),(Builtin.append_ #[28,28] 28 #[.slice base 0 sCap,.slice a 0 cp]).run Tryz.prog w = .ok (.slice base 0 sCap) w:=λbase sCap a cp w =>
  Of w 28 28 3 i3 Tryz.underlying28 hi3 base 0 sCap (KI _) a cp
 cases ad with
 | none =>
  obtain rfl:=hc rfl
  have hb:∀ w,(binOp BinOp.eql 28 (.slice none 0 0) (.slice none 0 0)).run Tryz.prog w = .ok (.bool true) w:=λw=>by kernel_rfl
  gi_wp2
  refine bodyPost_ret (results_tmp rfl _ _ _) rfl ?_;exact ⟨⟨none,0,rfl,λ_=>rfl⟩,⟨rfl,rfl,rfl,QZ _,λ_ _ _=>rfl⟩⟩
 | some ad =>
  have hb:∀ w,(binOp BinOp.eql 28 (.slice (some ad) 0 cap) (.slice none 0 0)).run Tryz.prog w = .ok (.bool false) w:=λw=>by kernel_rfl
  gi_wp2
  refine bodyPost_ret (results_tmp rfl _ _ _) rfl ?_;exact ⟨⟨_,0,rfl,λ_=>rfl⟩,World.grownBy_alloc w _ none⟩
def f145 (n:Nat) (a0:List Int):Option (List Int):=bif a0.isEmpty then some [] else Ams n a0
def Kn (n:Nat):Ent:=⟨145,[hIs],[hIs],λx=>f145 n x⟩
theorem Awq (nt:Nat):Iv Tryz.prog 145 nt [] [] [.one (.i (.sl 0 false 1 []))] (.v (.one (.i (.sl 0 false 1 [])))) nt []:=by
 refine ⟨⟨Tryz.f145,by kernel_rfl,by kernel_rfl,by kernel_rfl⟩,λw E vs hin hv=>?_⟩
 obtain ⟨hl,hget⟩:=hv
 match vs,hl with
 | [v],_ =>
  have h1:Rv w E v (.one (.i (.sl 0 false 1 []))):=hget 0 v _ rfl rfl
  cases h1 with
  | one h1 =>
   cases h1 with
   | i h1 =>
    cases h1 with
    | sl _ _ _ _ _ _ _ hne=>exact absurd rfl hne
    | nil _ _ cap a _ hn hc =>
     refine (Atk a cap hc w).mono ?_
     rintro e w' ⟨⟨a',c',rfl,hc'⟩,hg⟩
     exact ⟨_,E,rfl,.v (.one (.i (.nil 0 1 c' a' false (λe=>by cases e) hc'))),⟨hg.os,hg.tape,hg.output,hg.size,λb hb _=>hg.block b hb (by simp)⟩,
      ⟨λb hb=>ZO (hin.wf.alt b hb) hg.size,hin.wf.tag,hin.wf.inj,λb h hb=>by cases hin.odom b h hb⟩,λ_ _=>Iff.rfl,QZ _,λ_ _=>rfl,λt g ht h=>absurd (hin.wf.tag t g h).1 (Nat.not_lt.2 ht),
      λh b hb=>(by cases hb),λh h' b b' g g' z z' hb=>(by cases hb),λh b g z hb=>(by cases hb),λh b hb=>(by cases hb),λg h hg=>(by cases hin.odom g h hg)⟩
theorem Jk (n:Nat):(Kn n).Sound Tryz.prog:=by
 intro nt x r h
 cases x with
 | cons z l=>exact Awr n nt (z::l) r h
 | nil =>
  have h:some ([]:List Int)=some r:=h;obtain rfl:=QA h;exact Awq nt

def A52 (n:Nat) (a0:LI):Option LI :=
 gd ((!a0.isEmpty)) (
  gd (decide ((0+a0.length)*8<=140737488355328)) (
   some a0))
def Hm (n:Nat):Ent3:=⟨145,[.im hIs],[[.one (.own 3 hI)]],λx=>A52 n x⟩
def B1f (α:Type) (n:Nat):D3 α:={ reg:=[(3,⟨0,[],[(0,{ sh:=some hI })]⟩)],join:=[],loop:=[] }
theorem Aew (n:Nat):(Hm n).Sound PP:=Ach (fn:=Tryz.f145) (D:=B1f _ n) trivial

def W7 {α:Type} (n:Nat) (s0o s0l:Nat) (c:LI) (d e g i a:Int) (b:LI) (f:Nat->Nat->LI->Int->Int->Int->Int->Int->LI->Option α) (k0:Nat->Nat->LI->Int->Int->Int->LI->Option α):Option α :=
 bif (decide (a<i)) then
  gd (decide (0<=a)&&decide (a<(s0l:Int))) (
   gd (decide ((s0o+a.toNat)<b.length)) (
    let j:=λ(h:Int)=>(
     let k:=λ(l:Int)=>(
      gd (decide (0<=a)&&decide (a<(s0l:Int))) (
       gd (decide ((s0o+a.toNat)<b.length)) (
        f s0o s0l c d e l i (W (a+1)) (b.set (s0o+a.toNat) (W (h-(W (l*10000))))))))
     bif (decide (h<0)) then
      k (W (Int.tdiv (W ((W (h-10000))+1)) 10000))
     else
      k 0)
    bif (decide (a<d)) then
     gd (decide (0<=a)&&decide (a<(c.length:Int))) (
      j (W ((W ((b.getD (s0o+a.toNat) 0)+g))-(W (e*(c.getD a.toNat 0))))))
    else
     j (W ((b.getD (s0o+a.toNat) 0)+g))))
 else
  k0 s0o s0l c d e g b
abbrev Ot:Tm:=⟨[(0,.hs 1000),(1,.d hIs),(5,.d hI),(7,.d hI),(8,.d hI),(50,.d hI),(51,.d hI)],[(1000,.arr 3 hI false)],[],[]⟩
abbrev Alv:Tm:=⟨[(0,.hs 1000),(1,.d hIs),(5,.d hI),(7,.d hI),(8,.d hI)],[(1000,.arr 3 hI false)],[],[]⟩
abbrev W6:List (Exit × Tm):=[(.exit 0,Alv)]
def W5 {α:Type} (n:Nat) (v:Ot.den) (f:Ot.den->Option α) (ks:KS α W6):Option α:=W7 n v.1.1.1 v.1.1.2 v.1.2.1 v.1.2.2.1 v.1.2.2.2.1 v.1.2.2.2.2.1 v.1.2.2.2.2.2.1 v.1.2.2.2.2.2.2.1 v.2.1 (λs0o s0l a b c d e g h=>f (((s0o,s0l),a,b,c,d,e,g,()),(h,()))) (λw0 w1 w2 w3 w4 w5 w6=>ks.1 (((w0,w1),w2,w3,w4,w5,()),(w6,())))
def Fm {α:Type} (n m:Nat) (s0o s0l:Nat) (a:LI) (b c d e f:Int) (g:LI) (k0:Nat->Nat->LI->Int->Int->Int->LI->Option α):Option α:=A6 (W5 n) m (((s0o,s0l),a,b,c,d,e,f,()),(g,())) (λw=>k0 w.1.1.1 w.1.1.2 w.1.2.1 w.1.2.2.1 w.1.2.2.2.1 w.1.2.2.2.2.1 w.2.1,())
theorem Alu {α n m s0o s0l a b c d e f g k0}:Fm (α:=α) n (m+1) s0o s0l a b c d e f g k0=W7 n s0o s0l a b c d e f g (λs0o s0l a b c d e f g=>Fm n m s0o s0l a b c d e f g k0) k0:=rfl
def S5 {α:Type} (n:Nat) (s0o s0l:Nat) (c:LI) (d g h e i a:Int) (b:LI) (f:Nat->Nat->LI->Int->Int->Int->Int->Int->Int->LI->Option α) (k0:Nat->Nat->LI->Int->Int->Int->Int->LI->Option α):Option α :=
 bif (decide (a<i)) then
  gd (decide (0<=a)&&decide (a<(s0l:Int))) (
   gd (decide ((s0o+a.toNat)<b.length)) (
    let j:=λ(k:Int)=>(
     gd (decide (0<=a)&&decide (a<(s0l:Int))) (
      gd (decide ((s0o+a.toNat)<b.length)) (
       f s0o s0l c d g h (W (Int.tdiv k 10000)) i (W (a+1)) (b.set (s0o+a.toNat) (Int.tmod k 10000)))))
    bif (decide (a<d)) then
     gd (decide (0<=a)&&decide (a<(c.length:Int))) (
      j (W ((W ((b.getD (s0o+a.toNat) 0)+e))+(c.getD a.toNat 0))))
    else
     j (W ((b.getD (s0o+a.toNat) 0)+e))))
 else
  k0 s0o s0l c d g h e b
abbrev Ls:Tm:=⟨[(0,.hs 1000),(1,.d hIs),(5,.d hI),(7,.d hI),(8,.d hI),(11,.d hI),(90,.d hI),(91,.d hI)],[(1000,.arr 3 hI false)],[],[]⟩
abbrev Agt:Tm:=⟨[(0,.hs 1000),(1,.d hIs),(5,.d hI),(7,.d hI),(8,.d hI),(11,.d hI)],[(1000,.arr 3 hI false)],[],[]⟩
abbrev S4:List (Exit × Tm):=[(.exit 4,Agt)]
def S2 {α:Type} (n:Nat) (v:Ls.den) (f:Ls.den->Option α) (ks:KS α S4):Option α:=S5 n v.1.1.1 v.1.1.2 v.1.2.1 v.1.2.2.1 v.1.2.2.2.1 v.1.2.2.2.2.1 v.1.2.2.2.2.2.1 v.1.2.2.2.2.2.2.1 v.1.2.2.2.2.2.2.2.1 v.2.1 (λs0o s0l a b c d e g h i=>f (((s0o,s0l),a,b,c,d,e,g,h,()),(i,()))) (λw0 w1 w2 w3 w4 w5 w6 w7=>ks.1 (((w0,w1),w2,w3,w4,w5,w6,()),(w7,())))
def Hj {α:Type} (n m:Nat) (s0o s0l:Nat) (a:LI) (b c d e f g:Int) (h:LI) (k0:Nat->Nat->LI->Int->Int->Int->Int->LI->Option α):Option α:=A6 (S2 n) m (((s0o,s0l),a,b,c,d,e,f,g,()),(h,())) (λw=>k0 w.1.1.1 w.1.1.2 w.1.2.1 w.1.2.2.1 w.1.2.2.2.1 w.1.2.2.2.2.1 w.1.2.2.2.2.2.1 w.2.1,())
theorem Ags {α n m s0o s0l a b c d e f g h k0}:Hj (α:=α) n (m+1) s0o s0l a b c d e f g h k0=S5 n s0o s0l a b c d e f g h (λs0o s0l a b c d e f g h=>Hj n m s0o s0l a b c d e f g h k0) k0:=rfl
def S8 {α:Type} (n:Nat) (s0o s0l:Nat) (d:LI) (e a b:Int) (c:LI) (f:Nat->Nat->LI->Int->Int->Int->LI->Option α) (k0:Int->LI->Option α):Option α :=
 bif (decide (b<0)) then
  Hj n n s0o s0l d e (W (a-1)) b 0 (s0l:Int) 0 c
   (λg h i j k l m o=>(
    f g h i j k (W (l+m)) o))
 else
  k0 a c
abbrev Lt:Tm:=⟨[(0,.hs 1000),(1,.d hIs),(5,.d hI),(7,.d hI),(8,.d hI)],[(1000,.arr 3 hI false)],[],[]⟩
abbrev Agw:Tm:=⟨[(7,.d hI)],[(1000,.arr 3 hI false)],[],[]⟩
abbrev S7:List (Exit × Tm):=[(.exit 2,Agw)]
def S6 {α:Type} (n:Nat) (v:Lt.den) (f:Lt.den->Option α) (ks:KS α S7):Option α:=S8 n v.1.1.1 v.1.1.2 v.1.2.1 v.1.2.2.1 v.1.2.2.2.1 v.1.2.2.2.2.1 v.2.1 (λs0o s0l a b c d e=>f (((s0o,s0l),a,b,c,d,()),(e,()))) (λw0 w1=>ks.1 ((w0,()),(w1,())))
def Hk {α:Type} (n m:Nat) (s0o s0l:Nat) (a:LI) (b c d:Int) (e:LI) (k0:Int->LI->Option α):Option α:=A6 (S6 n) m (((s0o,s0l),a,b,c,d,()),(e,())) (λw=>k0 w.1.1 w.2.1,())
theorem Agu {α n m s0o s0l a b c d e k0}:Hk (α:=α) n (m+1) s0o s0l a b c d e k0=S8 n s0o s0l a b c d e (λs0o s0l a b c d e=>Hk n m s0o s0l a b c d e k0) k0:=rfl
abbrev Ar3:Tm:=⟨[(0,.hs 1000),(1,.d hIs),(5,.d hI),(7,.d hI),(9,.d hI),(10,.d hI),(50,.d hI),(51,.d hI)],[(1000,.arr 3 hI false)],[],[]⟩
abbrev Ar2:Tm:=⟨[(0,.hs 1000),(1,.d hIs),(5,.d hI),(7,.d hI),(8,.d hI),(9,.d hI),(10,.d hI),(50,.d hI),(51,.d hI)],[(1000,.arr 3 hI false)],[],[]⟩
abbrev Ar1:Tm:=⟨[(0,.hs 1000),(1,.d hIs),(5,.d hI),(7,.d hI),(8,.d hI),(12,.d hI),(13,.d hI),(90,.d hI),(91,.d hI)],[(1000,.arr 3 hI false)],[],[]⟩
def Aaq (n:Nat) (a0:LI × Nat × Nat) (a1:LI):Option (Int × LI) :=
 gd (decide (0<=(a1.length:Int))&&decide ((a1.length:Int)<(a0.2.2:Int))) (
  gd (decide ((a0.2.1+(a1.length:Int).toNat)<a0.1.length)) (
   gd (decide (0<=(W ((a1.length:Int)-1)))&&decide ((W ((a1.length:Int)-1))<(a0.2.2:Int))) (
    gd (decide ((a0.2.1+(W ((a1.length:Int)-1)).toNat)<a0.1.length)) (
     gd (decide (0<=(W ((a1.length:Int)-2)))&&decide ((W ((a1.length:Int)-2))<(a0.2.2:Int))) (
      gd (decide ((a0.2.1+(W ((a1.length:Int)-2)).toNat)<a0.1.length)) (
       gd (decide (0<=(W ((a1.length:Int)-1)))&&decide ((W ((a1.length:Int)-1))<(a1.length:Int))) (
        gd (decide (0<=(W ((a1.length:Int)-2)))&&decide ((W ((a1.length:Int)-2))<(a1.length:Int))) (
         gd (decide ((W ((W ((a1.getD ((W ((a1.length:Int)-1)).toNat) 0)*10000))+(a1.getD ((W ((a1.length:Int)-2)).toNat) 0))) ≠ 0)) (
          Fm n n a0.2.1 a0.2.2 a1 (a1.length:Int) (min (W (Int.tdiv (W ((W ((W ((W ((a0.1.getD (a0.2.1+(a1.length:Int).toNat) 0)*10000))+(a0.1.getD (a0.2.1+(W ((a1.length:Int)-1)).toNat) 0)))*10000))+(a0.1.getD (a0.2.1+(W ((a1.length:Int)-2)).toNat) 0))) (W ((W ((a1.getD ((W ((a1.length:Int)-1)).toNat) 0)*10000))+(a1.getD ((W ((a1.length:Int)-2)).toNat) 0))))) 9999) 0 (a0.2.2:Int) 0 a0.1
           (λa b c d e f g=>(
            Hk n n a b c d e f g
             (λh i=>(
              some (h,i))))))))))))))
def Je (n:Nat):Ent3:=⟨204,[.one (.win 3 hI),.im hIs],[[.im hI]],λx=>Aaq n x.1 x.2⟩
def Q8 (α:Type) (n:Nat):D3 α:={ reg:=[(2,⟨17,[],[]⟩),(3,⟨13,[],[]⟩)],join:=[(11,Ar3),(14,Ar2),(25,Ar1)],loop:=[(6,⟨Ot,W6,A6 (W5 n) n⟩),(20,⟨Ls,S4,A6 (S2 n) n⟩),(16,⟨Lt,S7,A6 (S6 n) n⟩)] }
theorem Lr (α:Type) (n:Nat):Aq PP (Af (Q8 α n).reg):=trivial
theorem Agr (α:Type) (n:Nat):LO.Sound (α:=α) PP ⟨121,[]⟩ ⟨Ot,W6,A6 (W5 n) n⟩ (.loop ((A0 Tryz.f204).at [1,1,1,1,1,0,1,0,0])):=Ca (D:=Q8 α n) (Lr α n) n
theorem Ae3 (α:Type) (n:Nat):LO.Sound (α:=α) PP ⟨121,[]⟩ ⟨Ls,S4,A6 (S2 n) n⟩ (.loop ((A0 Tryz.f204).at [1,1,1,1,1,1,0,0,0,1,0,1,1,0,1,0,0])):=Ca (D:=Q8 α n) (Lr α n) n
theorem Agv (α:Type) (n:Nat):D3.OK PP TT ⟨121,[]⟩ (Q8 α n) ((A0 Tryz.f204).at [1,1,1,1,1,1,0,0,0]) :=
 D3.OK.mk3 (Lr α n) (show Aa ((A0 Tryz.f204).at [1,1,1,1,1,1,0,0,0])=[(20,(.loop ((A0 Tryz.f204).at [1,1,1,1,1,1,0,0,0,1,0,1,1,0,1,0,0])))] by kernel_rfl) ⟨Ad rfl (Ae3 α n),trivial⟩
theorem Ae4 (α:Type) (n:Nat):LO.Sound (α:=α) PP ⟨121,[]⟩ ⟨Lt,S7,A6 (S6 n) n⟩ (.loop ((A0 Tryz.f204).at [1,1,1,1,1,1,0,0,0])):=lk (Agv α n) n
theorem B0g (α:Type) (n:Nat):D3.OK PP TT ⟨121,[]⟩ (Q8 α n) (A0 Tryz.f204) :=
 D3.OK.mk3 (Lr α n) (show Aa (A0 Tryz.f204)=[(6,(.loop ((A0 Tryz.f204).at [1,1,1,1,1,0,1,0,0]))),(16,(.loop ((A0 Tryz.f204).at [1,1,1,1,1,1,0,0,0])))] by kernel_rfl) ⟨Ad rfl (Agr α n),Ad rfl (Ae4 α n),trivial⟩
theorem Awe (n:Nat):(Je n).Sound PP:=fkB (fn:=Tryz.f204) (B0g _ n)

def A1e {α:Type} (n:Nat) (i:Nat) (z:Int) (d:LI) (a:LI) (c:Int) (b:LI) (f:LI->LI->Int->LI->Option α) (k0:Int->LI->Option α):Option α :=
 gd (decide (0<(a.length:Int))) (
  gd (decide ((a.getD 0 0) ≠ 0)) (
   gd (decide (0<(a.length:Int))) (
    gd (decide ((a.getD 0 0) ≠ 0)) (
     gd (decide (0<=(i:Int))&&decide ((i:Int)<(b.length:Int))) (
      gd (decide ((i:Int).toNat<b.length)) (
       f d a (Int.tmod (W ((W (c*10000))+z)) (a.getD 0 0)) (b.set ((i:Int).toNat) (W (Int.tdiv (W ((W (c*10000))+z)) (a.getD 0 0))))))))))
abbrev Jh:Tm:=⟨[(3,.k (.hp 3 0 0)),(7,.k (.hp 7 0 0)),(8,.k (.hp 8 0 0)),(29,.d (.clo 223 (.ref hIs)))],[(3,.var 28 true false [.d hIs]),(7,.var 28 false false [.k (.hw 27)]),(8,.var 3 true false [.d hI]),(27,.arr 3 hI false)],[],[]⟩
abbrev Arq:Tm:=⟨[(7,.k (.hp 7 0 0)),(8,.k (.hp 8 0 0))],[(7,.var 28 false false [.k (.hw 27)]),(8,.var 3 true false [.d hI]),(27,.arr 3 hI false)],[3],[]⟩
abbrev Sg:List (Exit × Tm):=[(.normal,Arq)]
def Nm (v:Jh.den):List Int:=(λa b c d=>a) v.1.2.2.2.1 v.2.1.1 v.2.2.2.1.1 v.2.2.2.2.1
def Nn {α:Type} (n:Nat) (i:Nat) (z:Int) (v:Jh.den) (f:Jh.den->Option α) (ks:KS α Sg):Option α:=A1e n i z v.1.2.2.2.1 v.2.1.1 v.2.2.2.1.1 v.2.2.2.2.1 (λa b c d=>f (((),(),(),a,()),((b,()),((),()),(c,()),d,()))) (λw0 w1=>ks.1 (((),(),()),(((),()),(w0,()),w1,())))
def No {α:Type} (v:Jh.den) (ks:KS α Sg):Option α:=(λc d a b=>ks.1 (((),(),()),(((),()),(a,()),b,()))) v.1.2.2.2.1 v.2.1.1 v.2.2.2.1.1 v.2.2.2.2.1
def Ajf {α:Type} (n:Nat) (a:LI) (b:LI) (c:Int) (d:LI) (k0:Int->LI->Option α):Option α:=Mr Nm (Nn n) No (((),(),(),a,()),((b,()),((),()),(c,()),d,())) (λw=>k0 w.2.2.1.1 w.2.2.2.1,())
def Jg {α:Type} (n:Nat) (zs:List Int) (i:Nat) (a:LI) (b:LI) (c:Int) (d:LI) (k0:Int->LI->Option α):Option α:=Ms Nm (Nn n) zs i (((),(),(),a,()),((b,()),((),()),(c,()),d,())) (λv=>No v (λw=>k0 w.2.2.1.1 w.2.2.2.1,())) (λw=>k0 w.2.2.1.1 w.2.2.2.1,())
theorem Aro {α:Type} (n:Nat) (a:LI) (b:LI) (c:Int) (d:LI) (k0:Int->LI->Option α):Ajf (α:=α) n a b c d k0=gd (decide (a.length<=4611686018427387904)) (Jg n a a.length a b c d k0):=rfl
theorem Arp {α:Type} (n:Nat) (zs:List Int) (c:LI) (d:LI) (a:Int) (b:LI) (k0:Int->LI->Option α):Jg (α:=α) n zs 0 c d a b k0=k0 a b:=rfl
theorem Arn {α:Type} (n:Nat) (zs:List Int) (i:Nat) (a:LI) (b:LI) (c:Int) (d:LI) (k0:Int->LI->Option α):Jg (α:=α) n zs (i+1) a b c d k0=A1e n i (zs.getD i 0) a b c d (λa b c d=>gd (decide (a=zs)) (Jg n zs i a b c d k0)) k0:=rfl
def Ox {α:Type} (n:Nat) (b a:Int) (g c d:LI) (f:Int->Int->LI->LI->LI->Option α) (k0:LI->LI->Option α):Option α :=
 bif (decide (a>=0)) then
  gd (decide (0<=a)&&decide (a<=(W ((W (a+b))+1)))&&decide ((W ((W (a+b))+1))<=(d.length:Int))) (
   ob (Aaq n (d,a.toNat,((W ((W (a+b))+1)).toNat-a.toNat)) g) λe =>
   gd (Nat.beq e.2.length d.length&&true) (
    gd (decide (0<=a)&&decide (a<(c.length:Int))) (
     gd (decide (a.toNat<c.length)) (
      f b (W (a-1)) g (c.set a.toNat e.1) e.2))))
 else
  k0 c d
abbrev Ow:Tm:=⟨[(3,.k (.hp 3 0 0)),(6,.d hI),(11,.k (.hw 310)),(12,.k (.hw 62)),(13,.d hI)],[(3,.var 28 true false [.d hIs]),(62,.arr 3 hI false),(310,.arr 3 hI false)],[55],[]⟩
abbrev Am9:Tm:=⟨[(11,.k (.hw 310)),(12,.k (.hw 62))],[(62,.arr 3 hI false),(310,.arr 3 hI false)],[3],[]⟩
abbrev Wg:List (Exit × Tm):=[(.exit 2,Am9)]
def Wf {α:Type} (n:Nat) (v:Ow.den) (f:Ow.den->Option α) (ks:KS α Wg):Option α:=Ox n v.1.2.1 v.1.2.2.2.2.1 v.2.1.1 v.2.2.1 v.2.2.2.1 (λa b c d e=>f (((),a,(),(),b,()),((c,()),d,e,()))) (λw0 w1=>ks.1 (((),(),()),(w0,w1,())))
def Si {α:Type} (n m:Nat) (a b:Int) (c d e:LI) (k0:LI->LI->Option α):Option α:=A6 (Wf n) m (((),a,(),(),b,()),((c,()),d,e,())) (λw=>k0 w.2.1 w.2.2.1,())
theorem A4u {α n m a b c d e k0}:Si (α:=α) n (m+1) a b c d e k0=Ox n a b c d e (λa b c d e=>Si n m a b c d e k0) k0:=rfl
abbrev Aej:Tm:=⟨[(3,.k (.hp 3 0 0)),(7,.k (.hp 7 0 0)),(8,.k (.hp 8 0 0)),(9,.d hI),(10,.d hI),(29,.d (.clo 223 (.ref hIs))),(30,.d hI),(31,.d hI)],[(3,.var 28 true false [.d hIs]),(7,.var 28 false false [.k (.hw 27)]),(8,.var 3 true false [.d hI]),(27,.arr 3 hI false)],[],[]⟩
abbrev Aei:Tm:=⟨[(7,.k (.hp 7 0 0)),(8,.k (.hp 8 0 0))],[(7,.var 28 false false [.k (.hw 27)]),(8,.var 3 true false [.d hI]),(27,.arr 3 hI false)],[],[]⟩
abbrev Aeh:Tm:=⟨[(0,.d hIs),(3,.k (.hp 3 0 0)),(6,.d hI)],[(3,.var 28 true false [.d hIs])],[],[]⟩
abbrev Aeg:Tm:=⟨[(3,.k (.hp 3 0 0)),(6,.d hI),(11,.k (.hw 310)),(12,.k (.hw 62)),(13,.d hI)],[(3,.var 28 true false [.d hIs]),(62,.arr 3 hI false),(310,.arr 3 hI false)],[],[]⟩
def f184 (n:Nat) (a0 a1:LI):Option (LI × LI) :=
 ob (f170 n a0 a1) λb =>
 bif (decide (b<0)) then
  ob (f145 n a0) λc =>
  some ([],c)
 else
  bif ((a1.length:Int)==1) then
   gd (decide (0<=(a0.length:Int))&&decide ((a0.length:Int)<=4611686018427387904)&&decide ((8:Int)*(a0.length:Int)<=281474976710656)) (
    ob (f201 n a0) λd =>
    Ajf n d a1 0 (List.replicate ((a0.length:Int).toNat) 0)
     (λe f=>(
      ob (f185 n f) λg =>
      ob (f160 n e) λh =>
      some (g,h))))
  else
   ob (A52 n a0) λa =>
   gd (decide ((a.length+1)*8<=140737488355328)) (
    gd (decide (0<=(W ((W ((a0.length:Int)-(a1.length:Int)))+1)))&&decide ((W ((W ((a0.length:Int)-(a1.length:Int)))+1))<=4611686018427387904)&&decide ((8:Int)*(W ((W ((a0.length:Int)-(a1.length:Int)))+1))<=281474976710656)) (
     Si n n (a1.length:Int) (W ((a0.length:Int)-(a1.length:Int))) a1 (List.replicate ((W ((W ((a0.length:Int)-(a1.length:Int)))+1)).toNat) 0) (a++[0])
      (λi j=>(
       ob (f185 n i) λk =>
       ob (f185 n j) λl =>
       some (k,l)))))
def A4v (n:Nat):Ent:=⟨184,[hIs,hIs],[hIs,hIs],λx=>f184 n x.1 x.2⟩
def Wh (α:Type) (n:Nat):D3 α:={ reg:=[(1,⟨0,[],[(2,{ ent:=some (Wl n) })]⟩),(2,⟨0,[],[(0,{ sh:=some hI }),(2,{ ent:=some (Kn n) })]⟩),(6,⟨0,[],[(1,{ ent:=some (Ae6 n) })]⟩),(11,⟨0,[],[(1,{ ent:=some (Gj n),fz:=[(49,hIs)] }),(3,{ ent:=some (Km n) })]⟩),(12,⟨0,[],[(1,{ entB:=some (Hm n),hb:=310 }),(2,{ sh:=some hI })]⟩),(16,⟨0,[],[(10,{ entB:=some (Je n),hb:=320 })]⟩),(17,⟨0,[],[(1,{ ent:=some (Gj n),fz:=[(83,hIs)] }),(3,{ ent:=some (Gj n),fz:=[(85,hIs)] })]⟩)],join:=[],loop:=[(7,⟨Jh,Sg,Mr Nm (Nn n) No⟩),(14,⟨Ow,Wg,A6 (Wf n) n⟩)],any:=[(10,Aej),(11,Aei),(12,Aeh),(16,Aeg)] }
set_option maxHeartbeats 8000000 in
theorem Awn (n:Nat):Am TT ⟨87,[]⟩ [] Aej (A4 ((A0 Tryz.f184).at [1,1,1,0,1,0,1,0,1,0,1,0,1])):=by
 refine ⟨by kernel_rfl,λw q hq=>?_⟩
 have e:WT [] (A7 (A4 ((A0 Tryz.f184).at [1,1,1,0,1,0,1,0,1,0,1,0,1])).toList) q=(q=[]):=by kernel_rfl
 rw [e] at hq;obtain rfl:=hq
 all_goals exact .inr ⟨14,by kernel_rfl,by kernel_rfl,by kernel_rfl⟩
set_option maxHeartbeats 8000000 in
theorem Awm (n:Nat):Am TT ⟨87,[]⟩ [(1,{ ent:=some (Gj n),fz:=[(49,hIs)] }),(3,{ ent:=some (Km n) })] Aei (A4 ((A0 Tryz.f184).at [1,1,1,0,1,0,1,1,0])):=by
 refine ⟨by kernel_rfl,λw q hq=>?_⟩
 have e:WT [(1,{ ent:=some (Gj n),fz:=[(49,hIs)] }),(3,{ ent:=some (Km n) })] (A7 (A4 ((A0 Tryz.f184).at [1,1,1,0,1,0,1,1,0])).toList) q=(∃ (y0:HL (Gj n).rs) (q0:List (Nat × RV)),q=(1,.sv (Ae (Gj n).rs y0))::q0 /\ ∃ (y1:HL (Km n).rs) (q1:List (Nat × RV)),q0=(3,.sv (Ae (Km n).rs y1))::q1/\q1=[]):=by kernel_rfl
 rw [e] at hq;obtain ⟨y0,q0,rfl,y1,q1,rfl,rfl⟩:=hq
 all_goals exact .inl (Iu.mk (by kernel_rfl))
set_option maxHeartbeats 8000000 in
theorem Awl (n:Nat):Am TT ⟨87,[]⟩ [(1,{ entB:=some (Hm n),hb:=310 }),(2,{ sh:=some hI })] Aeh (A4 ((A0 Tryz.f184).at [1,1,1,1,0])):=by
 refine ⟨by kernel_rfl,λw q hq=>?_⟩
 have e:WT [(1,{ entB:=some (Hm n),hb:=310 }),(2,{ sh:=some hI })] (A7 (A4 ((A0 Tryz.f184).at [1,1,1,1,0])).toList) q=(∃ (y0:HF (Ao 1000 (Hm n).ts) (Hm n).forms) (q0:List (Nat × RV)),q=(1,.bx (Hm n) y0)::q0/\q0=[]):=by kernel_rfl
 rw [e] at hq;obtain ⟨y0,q0,rfl,rfl⟩:=hq
 all_goals exact .inl (Iu.mk (by kernel_rfl))
set_option maxHeartbeats 8000000 in
theorem Aek (n:Nat):Am TT ⟨87,[]⟩ [(10,{ entB:=some (Je n),hb:=320 })] Aeg (A4 ((A0 Tryz.f184).at [1,1,1,1,1,0,1,0,0,1,0,0])):=by
 refine ⟨by kernel_rfl,λw q hq=>?_⟩
 have e:WT [(10,{ entB:=some (Je n),hb:=320 })] (A7 (A4 ((A0 Tryz.f184).at [1,1,1,1,1,0,1,0,0,1,0,0])).toList) q=(∃ (y0:HF (Ao 1000 (Je n).ts) (Je n).forms) (q0:List (Nat × RV)),q=(10,.bx (Je n) y0)::q0/\q0=[]):=by kernel_rfl
 rw [e] at hq;obtain ⟨y0,q0,rfl,rfl⟩:=hq
 all_goals exact .inr ⟨11,by kernel_rfl,by kernel_rfl,by kernel_rfl⟩
theorem Ov (α:Type) (n:Nat):Aq PP (Af (Wh α n).reg):=⟨Yf n,Jk n,Aj8 n,Qa n,A77 n,Aew n,Awe n,Qa n,Qa n,trivial⟩
theorem Am7 (α:Type) (n:Nat):D3.OK PP TT ⟨87,[]⟩ (Wh α n) ((A0 Tryz.f184).at [1,1,1,0,1,0,1,0,1,0,0]) :=
 D3.OK.mk3a (Ov α n) (show Aa ((A0 Tryz.f184).at [1,1,1,0,1,0,1,0,1,0,0])=[] by kernel_rfl) trivial (show Ar ((A0 Tryz.f184).at [1,1,1,0,1,0,1,0,1,0,0])=[] by kernel_rfl) trivial
theorem Am6 (α:Type) (n:Nat):D3.OK PP TT ⟨87,[]⟩ (Wh α n) ((A0 Tryz.f184).at [1,1,1,0,1,0,1,0,1,0,1]) :=
 D3.OK.mk3a (Ov α n) (show Aa ((A0 Tryz.f184).at [1,1,1,0,1,0,1,0,1,0,1])=[] by kernel_rfl) trivial (show Ar ((A0 Tryz.f184).at [1,1,1,0,1,0,1,0,1,0,1])=[(10,A4 ((A0 Tryz.f184).at [1,1,1,0,1,0,1,0,1,0,1,0,1]))] by kernel_rfl) ⟨⟨Awn n,trivial⟩,trivial⟩
theorem Am5 (α:Type) (n:Nat):LO.Sound (α:=α) PP ⟨87,[]⟩ ⟨Jh,Sg,Mr Nm (Nn n) No⟩ (.rangeFunc (.tmp 29) #[30,31] ((A0 Tryz.f184).at [1,1,1,0,1,0,1,0,1,0,0]) ((A0 Tryz.f184).at [1,1,1,0,1,0,1,0,1,0,1])) :=
 Abk (Po _) Mt Nm (Nn n) No Ajy rfl rfl rfl rfl (Am7 α n) (Am6 α n) (by intro v;rfl) (by intro i z v f ks;kernel_rfl) (by intro v ks;kernel_rfl)
theorem Am8 (α:Type) (n:Nat):D3.OK PP TT ⟨87,[]⟩ (Wh α n) ((A0 Tryz.f184).at [1,1,1,1,1,0,1,0,0]) :=
 D3.OK.mk3a (Ov α n) (show Aa ((A0 Tryz.f184).at [1,1,1,1,1,0,1,0,0])=[] by kernel_rfl) trivial (show Ar ((A0 Tryz.f184).at [1,1,1,1,1,0,1,0,0])=[(16,A4 ((A0 Tryz.f184).at [1,1,1,1,1,0,1,0,0,1,0,0]))] by kernel_rfl) ⟨⟨Aek n,trivial⟩,trivial⟩
theorem Agz (α:Type) (n:Nat):LO.Sound (α:=α) PP ⟨87,[]⟩ ⟨Ow,Wg,A6 (Wf n) n⟩ (.loop ((A0 Tryz.f184).at [1,1,1,1,1,0,1,0,0])):=lk (Am8 α n) n
theorem B4m (α:Type) (n:Nat):D3.OK PP TT ⟨87,[]⟩ (Wh α n) (A0 Tryz.f184) :=
 D3.OK.mk3a (Ov α n) (show Aa (A0 Tryz.f184)=[(7,(.rangeFunc (.tmp 29) #[30,31] ((A0 Tryz.f184).at [1,1,1,0,1,0,1,0,1,0,0]) ((A0 Tryz.f184).at [1,1,1,0,1,0,1,0,1,0,1]))),(14,(.loop ((A0 Tryz.f184).at [1,1,1,1,1,0,1,0,0])))] by kernel_rfl) ⟨Ad rfl (Am5 α n),Ad rfl (Agz α n),trivial⟩ (show Ar (A0 Tryz.f184)=[(11,A4 ((A0 Tryz.f184).at [1,1,1,0,1,0,1,1,0])),(12,A4 ((A0 Tryz.f184).at [1,1,1,1,0])),(16,A4 ((A0 Tryz.f184).at [1,1,1,1,1,0,1,0,0,1,0,0]))] by kernel_rfl) ⟨⟨Awm n,trivial⟩,⟨Awl n,trivial⟩,⟨Aek n,trivial⟩,trivial⟩
theorem A72 (n:Nat):(A4v n).Sound PP:=fk (fn:=Tryz.f184) (B4m _ n)

def A1h {α:Type} (n:Nat) (b a:LI) (f:LI->LI->Option α) (k0:LI->Option α):Option α :=
 bif (decide ((a.length:Int)>0)) then
  ob (f184 n b a) λc =>
  f a c.2
 else
  k0 b
abbrev Sj:Tm:=⟨[(0,.d hIs),(1,.d hIs)],[],[],[]⟩
abbrev Arr:Tm:=⟨[(0,.d hIs)],[],[],[]⟩
abbrev A1g:List (Exit × Tm):=[(.exit 0,Arr)]
def A1f {α:Type} (n:Nat) (v:Sj.den) (f:Sj.den->Option α) (ks:KS α A1g):Option α:=A1h n v.1.1 v.1.2.1 (λa b=>f ((a,b,()),())) (λw0=>ks.1 ((w0,()),()))
def Ji {α:Type} (n m:Nat) (a b:LI) (k0:LI->Option α):Option α:=A6 (A1f n) m ((a,b,()),()) (λw=>k0 w.1.1,())
theorem A99 {α n m a b k0}:Ji (α:=α) n (m+1) a b k0=A1h n a b (λa b=>Ji n m a b k0) k0:=rfl
def f183 (n:Nat) (a0 a1:LI):Option LI :=
 Ji n n a0 a1
  (λa=>(
   some a))
def Ael (n:Nat):Ent:=⟨183,[hIs,hIs],[hIs],λx=>f183 n x.1 x.2⟩
def Aem (α:Type) (n:Nat):D3 α:={ reg:=[(2,⟨0,[],[(2,{ ent:=some (A4v n) })]⟩)],join:=[],loop:=[(1,⟨Sj,A1g,A6 (A1f n) n⟩)] }
theorem A98 (α:Type) (n:Nat):Aq PP (Af (Aem α n).reg):=⟨A72 n,trivial⟩
theorem Ama (α:Type) (n:Nat):LO.Sound (α:=α) PP ⟨19,[]⟩ ⟨Sj,A1g,A6 (A1f n) n⟩ (.loop ((A0 Tryz.f183).at [1,0,0,0])):=Ca (D:=Aem α n) (A98 α n) n
theorem B4n (α:Type) (n:Nat):D3.OK PP TT ⟨19,[]⟩ (Aem α n) (A0 Tryz.f183) :=
 D3.OK.mk3 (A98 α n) (show Aa (A0 Tryz.f183)=[(1,(.loop ((A0 Tryz.f183).at [1,0,0,0])))] by kernel_rfl) ⟨Ad rfl (Ama α n),trivial⟩
theorem Ajg (n:Nat):(Ael n).Sound PP:=fk (fn:=Tryz.f183) (B4n _ n)

abbrev B1j:Tm:=⟨[(0,.d .bool),(1,.d hIs),(2,.d hIs),(6,.k (.hp 6 0 0))],[(6,.var 30 true false [.d .bool,.d .nil,.d .nil])],[],[]⟩
def f142 (n:Nat) (a0:Bool) (a1 a2:LI):Option Rq :=
 let c:=λ(a:LI) (d:LI)=>(
  bif a0 then
   ob (f145 n a) λe =>
   ob (f145 n d) λf =>
   some ((decide ((a.length:Int)>0)),e,f)
  else
   ob (f145 n a) λg =>
   ob (f145 n d) λh =>
   some (false,g,h))
 ob (f183 n a1 a2) λb =>
 ob (f161 n) λi =>
 ob (f170 n b i) λj =>
 bif (j != 0) then
  ob (f184 n a1 b) λk =>
  ob (f184 n a2 b) λl =>
  c k.1 l.1
 else
  c a1 a2
def Qj (n:Nat):Ent:=⟨142,[.bool,hIs,hIs],[hR],λx=>f142 n x.1 x.2.1 x.2.2⟩
def B57 (α:Type) (n:Nat):D3 α:={ reg:=[(1,⟨0,[],[(2,{ ent:=some (Ael n) })]⟩),(2,⟨0,[],[(1,{ ent:=some (Qg n) }),(2,{ ent:=some (Wl n) })]⟩),(3,⟨0,[],[(2,{ ent:=some (A4v n) })]⟩),(4,⟨0,[],[(2,{ ent:=some (A4v n) })]⟩),(5,⟨0,[],[(7,{ ent:=some (Kn n) }),(9,{ ent:=some (Kn n) })]⟩)],join:=[(5,B1j)],loop:=[] }
theorem Qi (n:Nat):(Qj n).Sound PP:=B2 (fn:=Tryz.f142) (D:=B57 _ n) ⟨Ajg n,Qf n,Yf n,A72 n,A72 n,Jk n,Jk n,trivial⟩

def f75 (n:Nat) (a0 a1:Rq):Option Rq :=
 ob (f143 n a0.2.1 a1.2.2) λa =>
 ob (f143 n a0.2.2 a1.2.1) λb =>
 ob (f142 n (!(a0.1==a1.1)) a b) λc =>
 some c
def Gv (n:Nat):Ent:=⟨75,[hR,hR],[hR],λx=>f75 n x.1 x.2⟩
def B6n (α:Type) (n:Nat):D3 α:={ reg:=[(1,⟨15,[],[(9,{ ent:=some (Gm n) }),(14,{ ent:=some (Gm n) }),(15,{ ent:=some (Qj n) })]⟩)],join:=[],loop:=[] }
theorem Acq (n:Nat):(Gv n).Sound PP:=B2 (fn:=Tryz.f75) (D:=B6n _ n) ⟨Fx n,Fx n,Qi n,trivial⟩

def f37 (n:Nat) (a0 a1:Int):Option (Rq × Int) :=
 bif (decide (a0<(-1000000000))) then
  some ((false,[],[]),4)
 else
  bif (decide (a0>1000000000)) then
   some ((false,[],[]),4)
  else
   bif (decide (a1<(-1000000000))) then
    some ((false,[],[]),4)
   else
    bif (decide (a1>1000000000)) then
     some ((false,[],[]),4)
    else
     bif (a1==0) then
      some ((false,[],[]),9)
     else
      ob (f92 n a0) λa =>
      ob (f92 n a1) λb =>
      ob (f75 n a b) λc =>
      some (c,0)
def Al9 (n:Nat):Ent:=⟨37,[hI,hI],[hR,hI],λx=>f37 n x.1 x.2⟩
def B75 (α:Type) (n:Nat):D3 α:={ reg:=[(5,⟨0,[],[(1,{ ent:=some (As n) }),(3,{ ent:=some (As n) }),(4,{ ent:=some (Gv n) })]⟩)],join:=[],loop:=[] }
theorem Aq3 (n:Nat):(Al9 n).Sound PP:=B2 (fn:=Tryz.f37) (D:=B75 _ n) ⟨B8 n,B8 n,Acq n,trivial⟩

def A23 {α:Type} (n:Nat) (c:Int) (b:LI) (d a:Int) (f:Int->LI->Int->Int->Option α) (k0:Int->Option α) (k1:Unit->Option α):Option α :=
 bif (decide (a<d)) then
  gd (decide (0<=a)&&decide (a<(b.length:Int))) (
   bif (decide ((b.getD a.toNat 0)>c)) then
    k0 2
   else
    f c b d (W (a+1)))
 else
  k1 ()
abbrev Sw:Tm:=⟨[(0,.d hI),(7,.d hIs),(8,.d hI),(9,.d hI)],[],[],[]⟩
abbrev Ase:Tm:=⟨[(4,.d hI)],[],[],[]⟩
abbrev Asd:Tm:=⟨[],[],[],[]⟩
abbrev A22:List (Exit × Tm):=[(.ret,Ase),(.exit 0,Asd)]
def A21 {α:Type} (n:Nat) (v:Sw.den) (f:Sw.den->Option α) (ks:KS α A22):Option α:=A23 n v.1.1 v.1.2.1 v.1.2.2.1 v.1.2.2.2.1 (λa b c d=>f ((a,b,c,d,()),())) (λw0=>ks.1 ((w0,()),())) (λ_=>ks.2.1 ((),()))
def Qd {α:Type} (n m:Nat) (a:Int) (b:LI) (c d:Int) (k0:Int->Option α) (k1:Unit->Option α):Option α:=A6 (A21 n) m ((a,b,c,d,()),()) (λw=>k0 w.1.1,λw=>k1 (),())
theorem Asc {α n m a b c d k0 k1}:Qd (α:=α) n (m+1) a b c d k0 k1=A23 n a b c d (λa b c d=>Qd n m a b c d k0 k1) k0 k1:=rfl
def f167 (n:Nat) (a0:Int) (a1:LI):Option Int :=
 Qd n n a0 a1 (a1.length:Int) 0
  (λa=>(
   some a))
  (λ(_:Unit)=>(
   some 0))
def Asf (n:Nat):Ent:=⟨167,[hI,hIs],[hI],λx=>f167 n x.1 x.2⟩
def Aes (α:Type) (n:Nat):D3 α:={ reg:=[],join:=[],loop:=[(2,⟨Sw,A22,A6 (A21 n) n⟩)] }
theorem A9e (α:Type) (n:Nat):Aq PP (Af (Aes α n).reg):=trivial
theorem Aml (α:Type) (n:Nat):LO.Sound (α:=α) PP ⟨17,[]⟩ ⟨Sw,A22,A6 (A21 n) n⟩ (.loop ((A0 Tryz.f167).at [1,0,1,0,0])):=Ca (D:=Aes α n) (A9e α n) n
theorem B4w (α:Type) (n:Nat):D3.OK PP TT ⟨17,[]⟩ (Aes α n) (A0 Tryz.f167) :=
 D3.OK.mk3 (A9e α n) (show Aa (A0 Tryz.f167)=[(2,(.loop ((A0 Tryz.f167).at [1,0,1,0,0])))] by kernel_rfl) ⟨Ad rfl (Aml α n),trivial⟩
theorem B13 (n:Nat):(Asf n).Sound PP:=fk (fn:=Tryz.f167) (B4w _ n)

def A6e {α:Type} (n:Nat) (b:List LR) (d a:Int) (c:LI) (f:(List LR)->Int->Int->LI->Option α) (k0:LI->Option α):Option α :=
 bif (decide (a<d)) then
  gd (decide (0<=a)&&decide (a<(b.length:Int))) (
   gd (decide ((c.length+1)*8<=140737488355328)) (
    f b d (W (a+1)) (c++[(((b.getD a.toNat []).length:Nat):Int)])))
 else
  k0 c
abbrev Xr:Tm:=⟨[(3,.k (.hw 6)),(7,.d (.sl hRs)),(8,.d hI),(9,.d hI)],[(6,.arr 3 hI false)],[16],[]⟩
abbrev Avd:Tm:=⟨[(3,.k (.hw 6))],[(6,.arr 3 hI false)],[],[]⟩
abbrev A6d:List (Exit × Tm):=[(.exit 0,Avd)]
def A6c {α:Type} (n:Nat) (v:Xr.den) (f:Xr.den->Option α) (ks:KS α A6d):Option α:=A6e n v.1.2.1 v.1.2.2.1 v.1.2.2.2.1 v.2.1 (λa b c d=>f (((),a,b,c,()),(d,()))) (λw0=>ks.1 (((),()),(w0,())))
def Vf {α:Type} (n m:Nat) (a:List LR) (b c:Int) (d:LI) (k0:LI->Option α):Option α:=A6 (A6c n) m (((),a,b,c,()),(d,())) (λw=>k0 w.2.1,())
theorem Avc {α n m a b c d k0}:Vf (α:=α) n (m+1) a b c d k0=A6e n a b c d (λa b c d=>Vf n m a b c d k0) k0:=rfl
def f98 (n:Nat) (a0:List LR):Option Int :=
 Vf n n a0 (a0.length:Int) 0 []
  (λa=>(
   ob (f167 n 4096 a) λb =>
   some b))
def Dh (n:Nat):Ent:=⟨98,[(.sl hRs)],[hI],λx=>f98 n x⟩
def Akx (α:Type) (n:Nat):D3 α:={ reg:=[(1,⟨0,[],[(0,{ sh:=some hI })]⟩),(5,⟨0,[],[(3,{ sh:=some hI })]⟩),(7,⟨0,[],[(1,{ ent:=some (Asf n) })]⟩)],join:=[],loop:=[(3,⟨Xr,A6d,A6 (A6c n) n⟩)] }
theorem Acm (α:Type) (n:Nat):Aq PP (Af (Akx α n).reg):=⟨B13 n,trivial⟩
theorem Apf (α:Type) (n:Nat):LO.Sound (α:=α) PP ⟨21,[]⟩ ⟨Xr,A6d,A6 (A6c n) n⟩ (.loop ((A0 Tryz.f98).at [1,1,0,1,0,0])):=Ca (D:=Akx α n) (Acm α n) n
theorem B6e (α:Type) (n:Nat):D3.OK PP TT ⟨21,[]⟩ (Akx α n) (A0 Tryz.f98) :=
 D3.OK.mk3 (Acm α n) (show Aa (A0 Tryz.f98)=[(3,(.loop ((A0 Tryz.f98).at [1,1,0,1,0,0])))] by kernel_rfl) ⟨Ad rfl (Apf α n),trivial⟩
theorem A40 (n:Nat):(Dh n).Sound PP:=fk (fn:=Tryz.f98) (B6e _ n)

def f211 (n:Nat) (a0:Int):Option Bool :=
 bif (decide (a0<0)) then
  some true
 else
  some (decide (a0>=10000))
def Ar0 (n:Nat):Ent:=⟨211,[hI],[.bool],λx=>f211 n x⟩
def B4b (α:Type) (n:Nat):D3 α:={ reg:=[],join:=[],loop:=[] }
theorem B0f (n:Nat):(Ar0 n).Sound PP:=B2 (fn:=Tryz.f211) (D:=B4b _ n) trivial

def Ni {α:Type} (n:Nat) (b:LI) (c a:Int) (f:LI->Int->Int->Option α) (k0:Int->Option α) (k1:Unit->Option α):Option α :=
 bif (decide (a<c)) then
  gd (decide (0<=a)&&decide (a<(b.length:Int))) (
   ob (f211 n (b.getD a.toNat 0)) λd =>
   bif d then
    k0 a
   else
    f b c (W (a+1)))
 else
  k1 ()
abbrev Ia:Tm:=⟨[(0,.d hIs),(1,.d (.fn 211)),(7,.d hI),(8,.d hI)],[],[],[]⟩
abbrev Aa2:Tm:=⟨[(4,.d hI)],[],[],[]⟩
abbrev Aa1:Tm:=⟨[],[],[],[]⟩
abbrev Nh:List (Exit × Tm):=[(.ret,Aa2),(.exit 0,Aa1)]
def Ng {α:Type} (n:Nat) (v:Ia.den) (f:Ia.den->Option α) (ks:KS α Nh):Option α:=Ni n v.1.1 v.1.2.2.1 v.1.2.2.2.1 (λa b c=>f ((a,(),b,c,()),())) (λw0=>ks.1 ((w0,()),())) (λ_=>ks.2.1 ((),()))
def Gi {α:Type} (n m:Nat) (a:LI) (b c:Int) (k0:Int->Option α) (k1:Unit->Option α):Option α:=A6 (Ng n) m ((a,(),b,c,()),()) (λw=>k0 w.1.1,λw=>k1 (),())
theorem Aa0 {α n m a b c k0 k1}:Gi (α:=α) n (m+1) a b c k0 k1=Ni n a b c (λa b c=>Gi n m a b c k0 k1) k0 k1:=rfl
def A0j (n:Nat) (a0:LI) (a1:Unit):Option Int :=
 Gi n n a0 (a0.length:Int) 0
  (λa=>(
   some a))
  (λ(_:Unit)=>(
   some (-1)))
def A4c (n:Nat):Ent:=⟨224,[hIs,(.fn 211)],[hI],λx=>A0j n x.1 x.2⟩
def Rp (α:Type) (n:Nat):D3 α:={ reg:=[(4,⟨0,[],[(5,{ ent:=some (Ar0 n) })]⟩)],join:=[],loop:=[(2,⟨Ia,Nh,A6 (Ng n) n⟩)] }
theorem U9 (α:Type) (n:Nat):Aq PP (Af (Rp α n).reg):=⟨B0f n,trivial⟩
theorem A6v (α:Type) (n:Nat):LO.Sound (α:=α) PP ⟨19,[]⟩ ⟨Ia,Nh,A6 (Ng n) n⟩ (.loop ((A0 Tryz.f224).at [1,0,1,0,0])):=Ca (D:=Rp α n) (U9 α n) n
theorem Alc (α:Type) (n:Nat):D3.OK PP TT ⟨19,[]⟩ (Rp α n) (A0 Tryz.f224) :=
 D3.OK.mk3 (U9 α n) (show Aa (A0 Tryz.f224)=[(2,(.loop ((A0 Tryz.f224).at [1,0,1,0,0])))] by kernel_rfl) ⟨Ad rfl (A6v α n),trivial⟩
theorem Agm (n:Nat):(A4c n).Sound PP:=fk (fn:=Tryz.f224) (Alc _ n)

def Nk (n:Nat) (a0:LI) (a1:Unit):Option Bool :=
 ob (A0j n a0 a1) λa =>
 some (decide (a>=0))
def A4p (n:Nat):Ent:=⟨210,[hIs,(.fn 211)],[.bool],λx=>Nk n x.1 x.2⟩
def Alt (α:Type) (n:Nat):D3 α:={ reg:=[(1,⟨0,[],[(2,{ ent:=some (A4c n) })]⟩)],join:=[],loop:=[] }
theorem Agq (n:Nat):(A4p n).Sound PP:=B2 (fn:=Tryz.f210) (D:=Alt _ n) ⟨Agm n,trivial⟩

def f197 (n:Nat) (a0:LI):Option Bool :=
 bif (decide ((a0.length:Int)>40)) then
  some false
 else
  bif (decide ((a0.length:Int)>0)) then
   gd (decide (0<=(W ((a0.length:Int)-1)))&&decide ((W ((a0.length:Int)-1))<(a0.length:Int))) (
    bif ((a0.getD ((W ((a0.length:Int)-1)).toNat) 0)==0) then
     some false
    else
     ob (Nk n a0 ()) λa =>
     some (!a))
  else
   ob (Nk n a0 ()) λb =>
   some (!b)
def Aea (n:Nat):Ent:=⟨197,[hIs],[.bool],λx=>f197 n x⟩
def B4h (α:Type) (n:Nat):D3 α:={ reg:=[(4,⟨0,[],[(1,{ ent:=some (A4p n) })]⟩)],join:=[],loop:=[] }
theorem Ajc (n:Nat):(Aea n).Sound PP:=B2 (fn:=Tryz.f197) (D:=B4h _ n) ⟨Agq n,trivial⟩

def f74 (n:Nat) (a0:Rq):Option Bool :=
 some ((a0.2.1.length:Int)==0)
def Rj (n:Nat):Ent:=⟨74,[hR],[.bool],λx=>f74 n x⟩
def B6o (α:Type) (n:Nat):D3 α:={ reg:=[],join:=[],loop:=[] }
theorem Q0 (n:Nat):(Rj n).Sound PP:=B2 (fn:=Tryz.f74) (D:=B6o _ n) trivial

abbrev B1b:Tm:=⟨[(1,.k (.hp 1 0 0))],[(1,.var 30 true false [.d .bool,.d hIs,.d hIs])],[],[]⟩
def f163 (n:Nat) (a0:Rq):Option Bool :=
 let a:=λ(_:Unit)=>(
  ob (f183 n a0.2.1 a0.2.2) λb =>
  ob (f161 n) λc =>
  ob (f170 n b c) λd =>
  some (d==0))
 ob (f197 n a0.2.1) λe =>
 bif (!e) then
  some false
 else
  ob (f197 n a0.2.2) λf =>
  bif (!f) then
   some false
  else
   bif ((a0.2.2.length:Int)==0) then
    some false
   else
    bif a0.1 then
     ob (f74 n a0) λg =>
     bif g then
      some false
     else
      a ()
    else
     a ()
def Asn (n:Nat):Ent:=⟨163,[hR],[.bool],λx=>f163 n x⟩
def B50 (α:Type) (n:Nat):D3 α:={ reg:=[(1,⟨0,[],[(2,{ ent:=some (Aea n) }),(7,{ ent:=some (Aea n) }),(21,{ ent:=some (Rj n) })]⟩),(3,⟨0,[],[(4,{ ent:=some (Ael n) }),(5,{ ent:=some (Qg n) }),(6,{ ent:=some (Wl n) })]⟩)],join:=[(3,B1b)],loop:=[] }
theorem B19 (n:Nat):(Asn n).Sound PP:=B2 (fn:=Tryz.f163) (D:=B50 _ n) ⟨Ajc n,Ajc n,Q0 n,Ajg n,Qf n,Yf n,trivial⟩

def f162 (n:Nat) (a0:Rq):Option Bool :=
 ob (f163 n a0) λa =>
 some (!a)
def Aso (n:Nat):Ent:=⟨162,[hR],[.bool],λx=>f162 n x⟩
def B51 (α:Type) (n:Nat):D3 α:={ reg:=[(1,⟨0,[],[(1,{ ent:=some (Asn n) })]⟩)],join:=[],loop:=[] }
theorem B1c (n:Nat):(Aso n).Sound PP:=B2 (fn:=Tryz.f162) (D:=B51 _ n) ⟨B19 n,trivial⟩

def Ns {α:Type} (n:Nat) (b:LR) (c a:Int) (f:LR->Int->Int->Option α) (k0:Int->Option α) (k1:Unit->Option α):Option α :=
 bif (decide (a<c)) then
  gd (decide (0<=a)&&decide (a<(b.length:Int))) (
   let d:=b.getD a.toNat (false,[],[])
   ob (f162 n d) λe =>
   bif e then
    k0 a
   else
    f b c (W (a+1)))
 else
  k1 ()
abbrev Ic:Tm:=⟨[(0,.d hRs),(1,.d (.fn 162)),(7,.d hI),(8,.d hI)],[],[],[]⟩
abbrev Aa5:Tm:=⟨[(4,.d hI)],[],[],[]⟩
abbrev Aa4:Tm:=⟨[],[],[],[]⟩
abbrev Nr:List (Exit × Tm):=[(.ret,Aa5),(.exit 0,Aa4)]
def Np {α:Type} (n:Nat) (v:Ic.den) (f:Ic.den->Option α) (ks:KS α Nr):Option α:=Ns n v.1.1 v.1.2.2.1 v.1.2.2.2.1 (λa b c=>f ((a,(),b,c,()),())) (λw0=>ks.1 ((w0,()),())) (λ_=>ks.2.1 ((),()))
def Gk {α:Type} (n m:Nat) (a:LR) (b c:Int) (k0:Int->Option α) (k1:Unit->Option α):Option α:=A6 (Np n) m ((a,(),b,c,()),()) (λw=>k0 w.1.1,λw=>k1 (),())
theorem Aa3 {α n m a b c k0 k1}:Gk (α:=α) n (m+1) a b c k0 k1=Ns n a b c (λa b c=>Gk n m a b c k0 k1) k0 k1:=rfl
def A1o (n:Nat) (a0:LR) (a1:Unit):Option Int :=
 Gk n n a0 (a0.length:Int) 0
  (λa=>(
   some a))
  (λ(_:Unit)=>(
   some (-1)))
def A4x (n:Nat):Ent:=⟨175,[hRs,(.fn 162)],[hI],λx=>A1o n x.1 x.2⟩
def Sn (α:Type) (n:Nat):D3 α:={ reg:=[(4,⟨0,[],[(5,{ ent:=some (Aso n) })]⟩)],join:=[],loop:=[(2,⟨Ic,Nr,A6 (Np n) n⟩)] }
theorem Ub (α:Type) (n:Nat):Aq PP (Af (Sn α n).reg):=⟨B1c n,trivial⟩
theorem A73 (α:Type) (n:Nat):LO.Sound (α:=α) PP ⟨19,[]⟩ ⟨Ic,Nr,A6 (Np n) n⟩ (.loop ((A0 Tryz.f175).at [1,0,1,0,0])):=Ca (D:=Sn α n) (Ub α n) n
theorem Amd (α:Type) (n:Nat):D3.OK PP TT ⟨19,[]⟩ (Sn α n) (A0 Tryz.f175) :=
 D3.OK.mk3 (Ub α n) (show Aa (A0 Tryz.f175)=[(2,(.loop ((A0 Tryz.f175).at [1,0,1,0,0])))] by kernel_rfl) ⟨Ad rfl (A73 α n),trivial⟩
theorem Ah0 (n:Nat):(A4x n).Sound PP:=fk (fn:=Tryz.f175) (Amd _ n)

def T6 (n:Nat) (a0:LR) (a1:Unit):Option Bool :=
 ob (A1o n a0 a1) λa =>
 some (decide (a>=0))
def A56 (n:Nat):Ent:=⟨111,[hRs,(.fn 162)],[.bool],λx=>T6 n x.1 x.2⟩
def Amy (α:Type) (n:Nat):D3 α:={ reg:=[(1,⟨0,[],[(2,{ ent:=some (A4x n) })]⟩)],join:=[],loop:=[] }
theorem Ah5 (n:Nat):(A56 n).Sound PP:=B2 (fn:=Tryz.f111) (D:=Amy _ n) ⟨Ah0 n,trivial⟩

def f69 (n:Nat) (a0:Bool) (a1:Int):Option Int :=
 bif a0 then
  some 0
 else
  some a1
def I7 (n:Nat):Ent:=⟨69,[.bool,hI],[hI],λx=>f69 n x.1 x.2⟩
def B6s (α:Type) (n:Nat):D3 α:={ reg:=[],join:=[],loop:=[] }
theorem Q2 (n:Nat):(I7 n).Sound PP:=B2 (fn:=Tryz.f69) (D:=B6s _ n) trivial

def f94 (n:Nat) (a0:LR):Option Int :=
 ob (T6 n a0 ()) λa =>
 ob (f69 n (!a) 1) λb =>
 some b
def Lq (n:Nat):Ent:=⟨94,[hRs],[hI],λx=>f94 n x⟩
def B6i (α:Type) (n:Nat):D3 α:={ reg:=[(1,⟨0,[],[(1,{ ent:=some (A56 n) }),(3,{ ent:=some (I7 n) })]⟩)],join:=[],loop:=[] }
theorem A41 (n:Nat):(Lq n).Sound PP:=B2 (fn:=Tryz.f94) (D:=B6i _ n) ⟨Ah5 n,Q2 n,trivial⟩

def f109 (n:Nat) (a0:LR):Option Bool :=
 bif (decide ((a0.length:Int)>=1)) then
  bif (decide ((a0.length:Int)<=4)) then
   ob (f94 n a0) λa =>
   some (a==0)
  else
   some false
 else
  some false
def Ko (n:Nat):Ent:=⟨109,[hRs],[.bool],λx=>f109 n x⟩
def B5b (α:Type) (n:Nat):D3 α:={ reg:=[(1,⟨0,[],[(10,{ ent:=some (Lq n) })]⟩)],join:=[],loop:=[] }
theorem A7b (n:Nat):(Ko n).Sound PP:=B2 (fn:=Tryz.f109) (D:=B5b _ n) ⟨A41 n,trivial⟩

def A6h {α:Type} (n:Nat) (c b:List LR) (d a:Int) (f:(List LR)->(List LR)->Int->Int->Option α) (k0:Int->Option α) (k1:(List LR)->Option α):Option α :=
 bif (decide (a<d)) then
  gd (decide (0<=a)&&decide (a<(b.length:Int))) (
   ob (f109 n (b.getD a.toNat [])) λe =>
   bif (!e) then
    k0 1
   else
    f c b d (W (a+1)))
 else
  k1 c
abbrev Xt:Tm:=⟨[(0,.d (.sl hRs)),(13,.d (.sl hRs)),(14,.d hI),(15,.d hI)],[],[],[]⟩
abbrev Avh:Tm:=⟨[(2,.d hI)],[],[],[]⟩
abbrev Avg:Tm:=⟨[(0,.d (.sl hRs))],[],[],[]⟩
abbrev A6g:List (Exit × Tm):=[(.ret,Avh),(.exit 0,Avg)]
def A6f {α:Type} (n:Nat) (v:Xt.den) (f:Xt.den->Option α) (ks:KS α A6g):Option α:=A6h n v.1.1 v.1.2.1 v.1.2.2.1 v.1.2.2.2.1 (λa b c d=>f ((a,b,c,d,()),())) (λw0=>ks.1 ((w0,()),())) (λw0=>ks.2.1 ((w0,()),()))
def Vi {α:Type} (n m:Nat) (a b:List LR) (c d:Int) (k0:Int->Option α) (k1:(List LR)->Option α):Option α:=A6 (A6f n) m ((a,b,c,d,()),()) (λw=>k0 w.1.1,λw=>k1 w.1.1,())
theorem Avf {α n m a b c d k0 k1}:Vi (α:=α) n (m+1) a b c d k0 k1=A6h n a b c d (λa b c d=>Vi n m a b c d k0 k1) k0 k1:=rfl
def A08 {α:Type} (n:Nat) (b c:List LR) (d a:Int) (f:(List LR)->(List LR)->Int->Int->Option α) (k0:Int->Option α) (k1:Unit->Option α):Option α :=
 bif (decide (a<d)) then
  gd (decide (0<=a)&&decide (a<(c.length:Int))) (
   gd (decide (0<(b.length:Int))) (
    bif ((((c.getD a.toNat []).length:Nat):Int) != (((b.getD 0 []).length:Nat):Int)) then
     k0 8
    else
     f b c d (W (a+1))))
 else
  k1 ()
abbrev Rf:Tm:=⟨[(0,.d (.sl hRs)),(23,.d (.sl hRs)),(24,.d hI),(25,.d hI)],[],[],[]⟩
abbrev Apl:Tm:=⟨[(2,.d hI)],[],[],[]⟩
abbrev Apk:Tm:=⟨[],[],[],[]⟩
abbrev A07:List (Exit × Tm):=[(.ret,Apl),(.exit 2,Apk)]
def A06 {α:Type} (n:Nat) (v:Rf.den) (f:Rf.den->Option α) (ks:KS α A07):Option α:=A08 n v.1.1 v.1.2.1 v.1.2.2.1 v.1.2.2.2.1 (λa b c d=>f ((a,b,c,d,()),())) (λw0=>ks.1 ((w0,()),())) (λ_=>ks.2.1 ((),()))
def Ma {α:Type} (n m:Nat) (a b:List LR) (c d:Int) (k0:Int->Option α) (k1:Unit->Option α):Option α:=A6 (A06 n) m ((a,b,c,d,()),()) (λw=>k0 w.1.1,λw=>k1 (),())
theorem Apj {α n m a b c d k0 k1}:Ma (α:=α) n (m+1) a b c d k0 k1=A08 n a b c d (λa b c d=>Ma n m a b c d k0 k1) k0 k1:=rfl
def f93 (n:Nat) (a0:List LR):Option Int :=
 ob (f98 n a0) λb =>
 bif (b != 0) then
  some b
 else
  Vi n n a0 a0 (a0.length:Int) 0
   (λc=>(
    some c))
   (λa=>(
    Ma n n a a (a.length:Int) 0
     (λd=>(
      some d))
     (λ(_:Unit)=>(
      some 0))))
def Rg (n:Nat):Ent:=⟨93,[(.sl hRs)],[hI],λx=>f93 n x⟩
def Aam (α:Type) (n:Nat):D3 α:={ reg:=[(1,⟨0,[],[(1,{ ent:=some (Dh n) })]⟩),(7,⟨0,[],[(1,{ ent:=some (Ko n) })]⟩)],join:=[],loop:=[(5,⟨Xt,A6g,A6 (A6f n) n⟩),(11,⟨Rf,A07,A6 (A06 n) n⟩)] }
theorem A05 (α:Type) (n:Nat):Aq PP (Af (Aam α n).reg):=⟨A40 n,A7b n,trivial⟩
theorem Api (α:Type) (n:Nat):LO.Sound (α:=α) PP ⟨37,[]⟩ ⟨Xt,A6g,A6 (A6f n) n⟩ (.loop ((A0 Tryz.f93).at [1,1,0,1,0,0])):=Ca (D:=Aam α n) (A05 α n) n
theorem Aky (α:Type) (n:Nat):LO.Sound (α:=α) PP ⟨37,[]⟩ ⟨Rf,A07,A6 (A06 n) n⟩ (.loop ((A0 Tryz.f93).at [1,1,1,0,1,0,0])):=Ca (D:=Aam α n) (A05 α n) n
theorem B6j (α:Type) (n:Nat):D3.OK PP TT ⟨37,[]⟩ (Aam α n) (A0 Tryz.f93) :=
 D3.OK.mk3 (A05 α n) (show Aa (A0 Tryz.f93)=[(5,(.loop ((A0 Tryz.f93).at [1,1,0,1,0,0]))),(11,(.loop ((A0 Tryz.f93).at [1,1,1,0,1,0,0])))] by kernel_rfl) ⟨Ad rfl (Api α n),Ad rfl (Aky α n),trivial⟩
theorem Aph (n:Nat):(Rg n).Sound PP:=fk (fn:=Tryz.f93) (B6j _ n)

def Xy {α:Type} (n:Nat) (b:LI) (c a:Int) (f:LI->Int->Int->Option α) (k0:Int->Option α) (k1:Unit->Option α):Option α :=
 bif (decide (a<c)) then
  gd (decide (0<=a)&&decide (a<(b.length:Int))) (
   bif ((b.getD a.toNat 0) != 0) then
    k0 (b.getD a.toNat 0)
   else
    f b c (W (a+1)))
 else
  k1 ()
abbrev Xx:Tm:=⟨[(5,.d hIs),(6,.d hI),(7,.d hI)],[],[],[]⟩
abbrev Avo:Tm:=⟨[(2,.d hI)],[],[],[]⟩
abbrev Avn:Tm:=⟨[],[],[],[]⟩
abbrev A6q:List (Exit × Tm):=[(.ret,Avo),(.exit 0,Avn)]
def A6p {α:Type} (n:Nat) (v:Xx.den) (f:Xx.den->Option α) (ks:KS α A6q):Option α:=Xy n v.1.1 v.1.2.1 v.1.2.2.1 (λa b c=>f ((a,b,c,()),())) (λw0=>ks.1 ((w0,()),())) (λ_=>ks.2.1 ((),()))
def A46 {α:Type} (n m:Nat) (a:LI) (b c:Int) (k0:Int->Option α) (k1:Unit->Option α):Option α:=A6 (A6p n) m ((a,b,c,()),()) (λw=>k0 w.1.1,λw=>k1 (),())
theorem Acz {α n m a b c k0 k1}:A46 (α:=α) n (m+1) a b c k0 k1=Xy n a b c (λa b c=>A46 n m a b c k0 k1) k0 k1:=rfl
def f68 (n:Nat) (a0:LI):Option Int :=
 A46 n n a0 (a0.length:Int) 0
  (λa=>(
   some a))
  (λ(_:Unit)=>(
   some 0))
def C7 (n:Nat):Ent:=⟨68,[hIs],[hI],λx=>f68 n x⟩
def Al4 (α:Type) (n:Nat):D3 α:={ reg:=[],join:=[],loop:=[(2,⟨Xx,A6q,A6 (A6p n) n⟩)] }
theorem Acy (α:Type) (n:Nat):Aq PP (Af (Al4 α n).reg):=trivial
theorem Apt (α:Type) (n:Nat):LO.Sound (α:=α) PP ⟨15,[]⟩ ⟨Xx,A6q,A6 (A6p n) n⟩ (.loop ((A0 Tryz.f68).at [1,0,1,0,0])):=Ca (D:=Al4 α n) (Acy α n) n
theorem B6t (α:Type) (n:Nat):D3.OK PP TT ⟨15,[]⟩ (Al4 α n) (A0 Tryz.f68) :=
 D3.OK.mk3 (Acy α n) (show Aa (A0 Tryz.f68)=[(2,(.loop ((A0 Tryz.f68).at [1,0,1,0,0])))] by kernel_rfl) ⟨Ad rfl (Apt α n),trivial⟩
theorem Q3 (n:Nat):(C7 n).Sound PP:=fk (fn:=Tryz.f68) (B6t _ n)

def f103 (n:Nat) (a0 a1:Rq):Option Rq :=
 ob (f143 n a0.2.1 a1.2.1) λa =>
 ob (f143 n a0.2.2 a1.2.2) λb =>
 ob (f142 n (!(a0.1==a1.1)) a b) λc =>
 some c
def A9 (n:Nat):Ent:=⟨103,[hR,hR],[hR],λx=>f103 n x.1 x.2⟩
def B5f (α:Type) (n:Nat):D3 α:={ reg:=[(1,⟨15,[],[(9,{ ent:=some (Gm n) }),(14,{ ent:=some (Gm n) }),(15,{ ent:=some (Qj n) })]⟩)],join:=[],loop:=[] }
theorem At (n:Nat):(A9 n).Sound PP:=B2 (fn:=Tryz.f103) (D:=B5f _ n) ⟨Fx n,Fx n,Qi n,trivial⟩

def A20 {α:Type} (n:Nat) (b c:LI) (d a:Int) (e:LI) (f:LI->LI->Int->Int->LI->Option α) (k0:LI->Option α):Option α :=
 let g:=λ(_:Unit)=>(
  let h:=λ(i:Int)=>(
   let j:=λ(k:Int)=>(
    gd (decide ((e.length+1)*8<=140737488355328)) (
     f b c (W (Int.tdiv k 10000)) (W (a+1)) (e++[(Int.tmod k 10000)])))
   bif (decide (a<(c.length:Int))) then
    gd (decide (0<=a)&&decide (a<(c.length:Int))) (
     j (W (i+(c.getD a.toNat 0))))
   else
    j i)
  bif (decide (a<(b.length:Int))) then
   gd (decide (0<=a)&&decide (a<(b.length:Int))) (
    h (W (d+(b.getD a.toNat 0))))
  else
   h d)
 bif (decide (a<(max (b.length:Int) (c.length:Int)))) then
  g ()
 else
  bif (decide (d>0)) then
   g ()
  else
   k0 e
abbrev Su:Tm:=⟨[(0,.d hIs),(1,.d hIs),(5,.k (.hw 8)),(6,.d hI),(7,.d hI)],[(8,.arr 3 hI false)],[45],[]⟩
abbrev As9:Tm:=⟨[(5,.k (.hw 8))],[(8,.arr 3 hI false)],[],[]⟩
abbrev A1z:List (Exit × Tm):=[(.exit 0,As9)]
def A1y {α:Type} (n:Nat) (v:Su.den) (f:Su.den->Option α) (ks:KS α A1z):Option α:=A20 n v.1.1 v.1.2.1 v.1.2.2.2.1 v.1.2.2.2.2.1 v.2.1 (λa b c d e=>f ((a,b,(),c,d,()),(e,()))) (λw0=>ks.1 (((),()),(w0,())))
def Me {α:Type} (n m:Nat) (a b:LI) (c d:Int) (e:LI) (k0:LI->Option α):Option α:=A6 (A1y n) m ((a,b,(),c,d,()),(e,())) (λw=>k0 w.2.1,())
theorem As8 {α n m a b c d e k0}:Me (α:=α) n (m+1) a b c d e k0=A20 n a b c d e (λa b c d e=>Me n m a b c d e k0) k0:=rfl
abbrev B11:Tm:=⟨[(0,.d hIs),(1,.d hIs),(5,.k (.hw 8)),(6,.d hI),(7,.d hI)],[(8,.arr 3 hI false)],[],[]⟩
abbrev B10:Tm:=⟨[(0,.d hIs),(1,.d hIs),(5,.k (.hw 8)),(6,.d hI),(7,.d hI)],[(8,.arr 3 hI false)],[],[]⟩
abbrev B0z:Tm:=⟨[(0,.d hIs),(1,.d hIs),(5,.k (.hw 8)),(6,.d hI),(7,.d hI)],[(8,.arr 3 hI false)],[],[]⟩
def f169 (n:Nat) (a0 a1:LI):Option LI :=
 Me n n a0 a1 0 0 []
  (λa=>(
   some a))
def Asa (n:Nat):Ent:=⟨169,[hIs,hIs],[hIs],λx=>f169 n x.1 x.2⟩
def Aer (α:Type) (n:Nat):D3 α:={ reg:=[(1,⟨0,[],[(0,{ sh:=some hI })]⟩),(9,⟨0,[],[(3,{ sh:=some hI })]⟩)],join:=[(5,B11),(7,B10),(9,B0z)],loop:=[(3,⟨Su,A1z,A6 (A1y n) n⟩)] }
theorem A9c (α:Type) (n:Nat):Aq PP (Af (Aer α n).reg):=trivial
theorem Amk (α:Type) (n:Nat):LO.Sound (α:=α) PP ⟨50,[]⟩ ⟨Su,A1z,A6 (A1y n) n⟩ (.loop ((A0 Tryz.f169).at [1,1,0,1,0,0])):=Ca (D:=Aer α n) (A9c α n) n
theorem B4u (α:Type) (n:Nat):D3.OK PP TT ⟨50,[]⟩ (Aer α n) (A0 Tryz.f169) :=
 D3.OK.mk3 (A9c α n) (show Aa (A0 Tryz.f169)=[(3,(.loop ((A0 Tryz.f169).at [1,1,0,1,0,0])))] by kernel_rfl) ⟨Ad rfl (Amk α n),trivial⟩
theorem B0y (n:Nat):(Asa n).Sound PP:=fk (fn:=Tryz.f169) (B4u _ n)

def A1w {α:Type} (n:Nat) (c:LI) (g d a:Int) (b:LI) (f:LI->Int->Int->Int->LI->Option α) (k0:LI->Option α):Option α :=
 bif (decide (a<d)) then
  gd (decide (0<=a)&&decide (a<(b.length:Int))) (
   gd (decide (a.toNat<b.length)) (
    let h:=λ(e:Int)=>(
     bif (decide (e<0)) then
      gd (decide (0<=a)&&decide (a<(b.length:Int))) (
       gd (decide (a.toNat<b.length)) (
        f c 1 d (W (a+1)) (b.set a.toNat (W (e+10000)))))
     else
      gd (decide (0<=a)&&decide (a<(b.length:Int))) (
       gd (decide (a.toNat<b.length)) (
        f c 0 d (W (a+1)) (b.set a.toNat e))))
    bif (decide (a<(c.length:Int))) then
     gd (decide (0<=a)&&decide (a<(c.length:Int))) (
      h (W ((W ((b.getD a.toNat 0)-g))-(c.getD a.toNat 0))))
    else
     h (W ((b.getD a.toNat 0)-g))))
 else
  k0 b
abbrev Sr:Tm:=⟨[(1,.d hIs),(5,.k (.hw 310)),(6,.d hI),(12,.d hI),(13,.d hI)],[(310,.arr 3 hI false)],[],[]⟩
abbrev As2:Tm:=⟨[(5,.k (.hw 310))],[(310,.arr 3 hI false)],[],[]⟩
abbrev A1v:List (Exit × Tm):=[(.exit 0,As2)]
def A1u {α:Type} (n:Nat) (v:Sr.den) (f:Sr.den->Option α) (ks:KS α A1v):Option α:=A1w n v.1.1 v.1.2.2.1 v.1.2.2.2.1 v.1.2.2.2.2.1 v.2.1 (λa b c d e=>f ((a,(),b,c,d,()),(e,()))) (λw0=>ks.1 (((),()),(w0,())))
def Hl {α:Type} (n m:Nat) (a:LI) (b c d:Int) (e:LI) (k0:LI->Option α):Option α:=A6 (A1u n) m ((a,(),b,c,d,()),(e,())) (λw=>k0 w.2.1,())
theorem As1 {α n m a b c d e k0}:Hl (α:=α) n (m+1) a b c d e k0=A1w n a b c d e (λa b c d e=>Hl n m a b c d e k0) k0:=rfl
abbrev B0w:Tm:=⟨[(1,.d hIs),(5,.k (.hw 310)),(7,.d hI),(8,.d hI),(12,.d hI),(13,.d hI)],[(310,.arr 3 hI false)],[],[]⟩
def f171 (n:Nat) (a0 a1:LI):Option LI :=
 ob (A52 n a0) λa =>
 Hl n n a1 0 (a.length:Int) 0 a
  (λb=>(
   ob (f185 n b) λc =>
   some c))
def Aep (n:Nat):Ent:=⟨171,[hIs,hIs],[hIs],λx=>f171 n x.1 x.2⟩
def Aeq (α:Type) (n:Nat):D3 α:={ reg:=[(1,⟨0,[],[(1,{ entB:=some (Hm n),hb:=310 })]⟩),(13,⟨0,[],[(1,{ ent:=some (Gj n),fz:=[(41,hIs)] })]⟩)],join:=[(8,B0w)],loop:=[(3,⟨Sr,A1v,A6 (A1u n) n⟩)] }
theorem A9b (α:Type) (n:Nat):Aq PP (Af (Aeq α n).reg):=⟨Aew n,Qa n,trivial⟩
theorem Amg (α:Type) (n:Nat):LO.Sound (α:=α) PP ⟨43,[]⟩ ⟨Sr,A1v,A6 (A1u n) n⟩ (.loop ((A0 Tryz.f171).at [1,1,0,1,0,0])):=Ca (D:=Aeq α n) (A9b α n) n
theorem B4s (α:Type) (n:Nat):D3.OK PP TT ⟨43,[]⟩ (Aeq α n) (A0 Tryz.f171) :=
 D3.OK.mk3 (A9b α n) (show Aa (A0 Tryz.f171)=[(3,(.loop ((A0 Tryz.f171).at [1,1,0,1,0,0])))] by kernel_rfl) ⟨Ad rfl (Amg α n),trivial⟩
theorem Ajj (n:Nat):(Aep n).Sound PP:=fk (fn:=Tryz.f171) (B4s _ n)

end Go.Ev
