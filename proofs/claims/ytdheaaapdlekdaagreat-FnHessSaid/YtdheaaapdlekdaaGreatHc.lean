/- DERIVED. What the functions compute, and that they do. -/
import Derived.Test.YtdheaaapdlekdaaGreatHb

set_option linter.all false
set_option linter.unusedVariables false
set_option linter.unusedSimpArgs false

namespace Go.Ev
open Go Go.Proofs Go.RowKit Go.Shelf
def f105 (n:Nat) (a0:Rq):Option Bool :=
 ob (f98 n a0) λa =>
 some (!a)
def Awq (n:Nat):Ent:=⟨105,[hR],[.bool],λx=>f105 n x⟩
def Bai (α:Type) (n:Nat):D3 α:={ reg:=[(1,⟨0,[],[(1,{ ent:=some (A5y n) })]⟩)],join:=[],loop:=[] }
theorem B5x (n:Nat):(Awq n).Sound PP:=Au (fn:=Tryz.f105) (D:=Bai _ n) ⟨A5x n,trivial⟩

def Of {α:Type} (n:Nat) (b:LR) (c a:Int) (f:LR->Int->Int->Option α) (k0:Int->Option α) (k1:Unit->Option α):Option α :=
 bif (decide (a<c)) then
  gd (decide (0<=a)&&decide (a<(b.length:Int))) (
   let d:=b.getD a.toNat (false,[],[])
   ob (f105 n d) λe =>
   bif e then
    k0 a
   else
    f b c (W (a+1)))
 else
  k1 ()
abbrev Iz:Tm:=⟨[(0,.d hRs),(1,.d (.fn 105)),(7,.d hI),(8,.d hI)],[],[],[]⟩
abbrev Ad3:Tm:=⟨[(4,.d hI)],[],[],[]⟩
abbrev Ad2:Tm:=⟨[],[],[],[]⟩
abbrev Oe:List (Exit × Tm):=[(.ret,Ad3),(.exit 0,Ad2)]
def Od {α:Type} (n:Nat) (v:Iz.den) (f:Iz.den->Option α) (ks:KS α Oe):Option α:=Of n v.1.1 v.1.2.2.1 v.1.2.2.2.1 (λa b c=>f ((a,(),b,c,()),())) (λw0=>ks.1 ((w0,()),())) (λ_=>ks.2.1 ((),()))
def Hg {α:Type} (n m:Nat) (a:LR) (b c:Int) (k0:Int->Option α) (k1:Unit->Option α):Option α:=A5 (Od n) m ((a,(),b,c,()),()) (λw=>k0 w.1.1,λw=>k1 (),())
theorem Ad1 {α n m a b c k0 k1}:Hg (α:=α) n (m+1) a b c k0 k1=Of n a b c (λa b c=>Hg n m a b c k0 k1) k0 k1:=rfl
def A3j (n:Nat) (a0:LR) (a1:Unit):Option Int :=
 Hg n n a0 (a0.length:Int) 0
  (λa=>(
   some a))
  (λ(_:Unit)=>(
   some (-1)))
def A6p (n:Nat):Ent:=⟨172,[hRs,(.fn 105)],[hI],λx=>A3j n x.1 x.2⟩
def Tu (α:Type) (n:Nat):D3 α:={ reg:=[(4,⟨0,[],[(5,{ ent:=some (Awq n) })]⟩)],join:=[],loop:=[(2,⟨Iz,Oe,A5 (Od n) n⟩)] }
theorem Vp (α:Type) (n:Nat):Ao PP (Af (Tu α n).reg):=⟨B5x n,trivial⟩
theorem A9j (α:Type) (n:Nat):LO.Sound (α:=α) PP ⟨19,[]⟩ ⟨Iz,Oe,A5 (Od n) n⟩ (.loop ((A1 Tryz.f172).at [1,0,1,0,0])):=C0 (D:=Tu α n) (Vp α n) n
theorem Apn (α:Type) (n:Nat):D3.OK PP TT ⟨19,[]⟩ (Tu α n) (A1 Tryz.f172) :=
 D3.OK.mk3 (Vp α n) (show Aa (A1 Tryz.f172)=[(2,(.loop ((A1 Tryz.f172).at [1,0,1,0,0])))] by kernel_rfl) ⟨Ab rfl (A9j α n),trivial⟩
theorem Ak6 (n:Nat):(A6p n).Sound PP:=fk (fn:=Tryz.f172) (Apn _ n)

def A4m (n:Nat) (a0:LR) (a1:Unit):Option Bool :=
 ob (A3j n a0 a1) λa =>
 some (decide (a>=0))
def A7e (n:Nat):Ent:=⟨104,[hRs,(.fn 105)],[.bool],λx=>A4m n x.1 x.2⟩
def Aqp (α:Type) (n:Nat):D3 α:={ reg:=[(1,⟨0,[],[(2,{ ent:=some (A6p n) })]⟩)],join:=[],loop:=[] }
theorem Akh (n:Nat):(A7e n).Sound PP:=Au (fn:=Tryz.f104) (D:=Aqp _ n) ⟨Ak6 n,trivial⟩

def f51 (n:Nat) (a0:LR):Option (LR × Int) :=
 ob (A4m n a0 ()) λa =>
 bif a then
  some ([],7)
 else
  some (a0,0)
def Adn (n:Nat):Ent:=⟨51,[hRs],[hRs,hI],λx=>f51 n x⟩
def Bc5 (α:Type) (n:Nat):D3 α:={ reg:=[(1,⟨0,[],[(1,{ ent:=some (A7e n) })]⟩)],join:=[],loop:=[] }
theorem Ag0 (n:Nat):(Adn n).Sound PP:=Au (fn:=Tryz.f51) (D:=Bc5 _ n) ⟨Akh n,trivial⟩

def A6m (n:Nat) (a0:Rq × LR × LR × Rq):Option Bool :=
 ob (f51 n a0.2.1) λa =>
 ob (f51 n a0.2.2.1) λb =>
 ob (f98 n a0.1) λc =>
 bif c then
  ob (f98 n a0.2.2.2) λd =>
  bif d then
   bif (a.2==0) then
    some (b.2==0)
   else
    some false
  else
   some false
 else
  some false
def Ama (n:Nat):Ent:=⟨180,[(.st (.pair hR (.pair hRs (.pair hRs hR))))],[.bool],λx=>A6m n x⟩
def B49 (α:Type) (n:Nat):D3 α:={ reg:=[(1,⟨0,[],[(2,{ ent:=some (Adn n) })]⟩),(2,⟨0,[],[(2,{ ent:=some (Adn n) })]⟩),(3,⟨0,[],[(2,{ ent:=some (A5y n) }),(6,{ ent:=some (A5y n) })]⟩)],join:=[],loop:=[] }
theorem Azw (n:Nat):(Ama n).Sound PP:=Au (fn:=Tryz.f180) (D:=B49 _ n) ⟨Ag0 n,Ag0 n,A5x n,A5x n,trivial⟩

def Yp {α:Type} (n:Nat) (e:LR) (c:LN) (g b h:Int) (i:LR) (d:List (Rq × LR × LR × Rq)) (f:LR->LN->Int->Int->Int->LR->(List (Rq × LR × LR × Rq))->Option α) (k0:Int->Option α) (k1:(List (Rq × LR × LR × Rq))->Option α):Option α :=
 bif (decide (b<g)) then
  gd (decide (0<=b)&&decide (b<(c.length:Int))) (
   let j:=c.getD b.toNat (0,0,0,0)
   ob (A7i n (h,i) j e d) λa =>
   gd (Nat.beq a.2.length d.length&&true) (
    bif (a.1.2 != 0) then
     k0 a.1.2
    else
     ob (A6m n a.1.1) λk =>
     bif (!k) then
      k0 7
     else
      gd (decide ((a.2.length+1)*160<=140737488355328)) (
       f e c g (W (b+1)) h i (a.2++[a.1.1]))))
 else
  k1 d
abbrev Pr:Tm:=⟨[(2,.d hRs),(3,.k (.hp 3 0 0)),(8,.k (.hw 13)),(14,.d hNs),(15,.d hI),(16,.d hI)],[(3,.var 94 true false [.d hI,.d hRs]),(13,.arr 91 (.st (.pair hR (.pair hRs (.pair hRs hR)))) false)],[10,11,36],[]⟩
abbrev Aqm:Tm:=⟨[(6,.d .nil),(7,.d hI)],[],[3,10,11,13],[]⟩
abbrev Aql:Tm:=⟨[(8,.k (.hw 13))],[(13,.arr 91 (.st (.pair hR (.pair hRs (.pair hRs hR)))) false)],[3],[]⟩
abbrev Yo:List (Exit × Tm):=[(.ret,Aqm),(.exit 0,Aql)]
def Yn {α:Type} (n:Nat) (v:Pr.den) (f:Pr.den->Option α) (ks:KS α Yo):Option α:=Yp n v.1.1 v.1.2.2.2.1 v.1.2.2.2.2.1 v.1.2.2.2.2.2.1 v.2.1.1 v.2.1.2.1 v.2.2.1 (λa b c d e g h=>f ((a,(),(),b,c,d,()),((e,g,()),h,()))) (λw0=>ks.1 (((),w0,()),())) (λw0=>ks.2.1 (((),()),(w0,())))
def Uf {α:Type} (n m:Nat) (a:LR) (b:LN) (c d e:Int) (f:LR) (g:List (Rq × LR × LR × Rq)) (k0:Int->Option α) (k1:(List (Rq × LR × LR × Rq))->Option α):Option α:=A5 (Yn n) m ((a,(),(),b,c,d,()),((e,f,()),g,())) (λw=>k0 w.1.2.1,λw=>k1 w.2.1,())
theorem Aqk {α n m a b c d e f g k0 k1}:Uf (α:=α) n (m+1) a b c d e f g k0 k1=Yp n a b c d e f g (λa b c d e f g=>Uf n m a b c d e f g k0 k1) k0 k1:=rfl
def Ads (n:Nat) (a0:Int × LR) (a1:LN) (a2:LR):Option ((List (Rq × LR × LR × Rq)) × Int) :=
 Uf n n a2 a1 (a1.length:Int) 0 a0.1 a0.2 []
  (λa=>(
   some ([],a)))
  (λb=>(
   some (b,0)))
def Amq (n:Nat):Ent:=⟨113,[(.st (.pair hI hRs)),hNs,hRs],[(.sl (.st (.pair hR (.pair hRs (.pair hRs hR))))),hI],λx=>Ads n x.1 x.2.1 x.2.2⟩
def Aa0 (α:Type) (n:Nat):D3 α:={ reg:=[(1,⟨0,[],[(0,{ sh:=some (.st (.pair hR (.pair hRs (.pair hRs hR)))) })]⟩),(5,⟨0,[],[(4,{ alt:=[(Ai5 n)],hb:=310 })]⟩),(8,⟨0,[],[(1,{ ent:=some (Ama n) })]⟩),(10,⟨0,[],[(2,{ sh:=some (.st (.pair hR (.pair hRs (.pair hRs hR)))) })]⟩)],join:=[],loop:=[(3,⟨Pr,Yo,A5 (Yn n) n⟩)] }
theorem A7c (α:Type) (n:Nat):Ao PP (Af (Aa0 α n).reg):=⟨Awr n,Azw n,trivial⟩
theorem Ake (α:Type) (n:Nat):LO.Sound (α:=α) PP ⟨40,[]⟩ ⟨Pr,Yo,A5 (Yn n) n⟩ (.loop ((A1 Tryz.f113).at [1,1,0,1,0,0])):=C0 (D:=Aa0 α n) (A7c α n) n
theorem B5q (α:Type) (n:Nat):D3.OK PP TT ⟨40,[]⟩ (Aa0 α n) (A1 Tryz.f113) :=
 D3.OK.mk3 (A7c α n) (show Aa (A1 Tryz.f113)=[(3,(.loop ((A1 Tryz.f113).at [1,1,0,1,0,0])))] by kernel_rfl) ⟨Ab rfl (Ake α n),trivial⟩
theorem B0k (n:Nat):(Amq n).Sound PP:=fk (fn:=Tryz.f113) (B5q _ n)

def Aok (n:Nat) (a0:Int × LR) (a1:LN) (a2:LR):Option ((Rq × LR × LR × Rq) × Int) :=
 ob (Ads n a0 a1 a2) λa =>
 bif (a.2 != 0) then
  some (((false,[],[]),[],[],false,[],[]),a.2)
 else
  gd (decide (0<=(W ((a.1.length:Int)-1)))&&decide ((W ((a.1.length:Int)-1))<(a.1.length:Int))) (
   let b:=a.1.getD ((W ((a.1.length:Int)-1)).toNat) ((false,[],[]),[],[],(false,[],[]))
   some (b,0))
def At9 (n:Nat):Ent:=⟨68,[(.st (.pair hI hRs)),hE,hRs],[(.st (.pair hR (.pair hRs (.pair hRs hR)))),hI],λx=>Aok n x.1 x.2.1 x.2.2⟩
def B7t (α:Type) (n:Nat):D3 α:={ reg:=[(1,⟨0,[],[(4,{ ent:=some (Amq n) })]⟩)],join:=[],loop:=[] }
theorem B35 (n:Nat):(At9 n).Sound PP:=Au (fn:=Tryz.f68) (D:=B7t _ n) ⟨B0k n,trivial⟩

def f121 (n:Nat) (a0:Int) (a1:LR):Option Rq :=
 gd (decide (0<=a0)&&decide (a0<(a1.length:Int))) (
  let a:=a1.getD a0.toNat (false,[],[])
  some a)
def Awi (n:Nat):Ent:=⟨121,[hI,(.ref hRs)],[hR],λx=>f121 n x.1 x.2⟩
def Bac (α:Type) (n:Nat):D3 α:={ reg:=[],join:=[],loop:=[] }
theorem B5m (n:Nat):(Awi n).Sound PP:=Au (fn:=Tryz.f121) (D:=Bac _ n) trivial

def f73 (n:Nat) (a0:Rq):Option Rq :=
 ob (f123 n a0.2.1) λa =>
 ob (f123 n a0.2.2) λb =>
 some (a0.1,a,b)
def Adm (n:Nat):Ent:=⟨73,[hR],[hR],λx=>f73 n x⟩
def Bbu (α:Type) (n:Nat):D3 α:={ reg:=[(1,⟨8,[],[(4,{ ent:=some (Li n) }),(7,{ ent:=some (Li n) })]⟩)],join:=[],loop:=[] }
theorem Afp (n:Nat):(Adm n).Sound PP:=Au (fn:=Tryz.f73) (D:=Bbu _ n) ⟨K6 n,K6 n,trivial⟩

def Ow {α:Type} (n:Nat) (c:LR) (d a:Int) (b:LR) (f:LR->Int->Int->LR->Option α) (k0:LR->Option α):Option α :=
 bif (decide (a<d)) then
  ob (f121 n a c) λe =>
  ob (f73 n e) λg =>
  gd (decide ((b.length+1)*56<=140737488355328)) (
   f c d (W (a+1)) (b++[g]))
 else
  k0 b
abbrev J2:Tm:=⟨[(1,.d (.clo 121 (.ref hRs))),(5,.k (.hw 7)),(8,.d hI),(9,.d hI)],[(7,.arr 54 hR false)],[17],[]⟩
abbrev Ad9:Tm:=⟨[(5,.k (.hw 7))],[(7,.arr 54 hR false)],[],[]⟩
abbrev Ov:List (Exit × Tm):=[(.exit 0,Ad9)]
def Ou {α:Type} (n:Nat) (v:J2.den) (f:J2.den->Option α) (ks:KS α Ov):Option α:=Ow n v.1.1 v.1.2.2.1 v.1.2.2.2.1 v.2.1 (λa b c d=>f ((a,(),b,c,()),(d,()))) (λw0=>ks.1 (((),()),(w0,())))
def Kp {α:Type} (n m:Nat) (a:LR) (b c:Int) (d:LR) (k0:LR->Option α):Option α:=A5 (Ou n) m ((a,(),b,c,()),(d,())) (λw=>k0 w.2.1,())
theorem Ad8 {α n m a b c d k0}:Kp (α:=α) n (m+1) a b c d k0=Ow n a b c d (λa b c d=>Kp n m a b c d k0) k0:=rfl
def A4n (n:Nat) (a0:Int) (a1:LR):Option LR :=
 Kp n n a1 a0 0 []
  (λa=>(
   some a))
def A7h (n:Nat):Ent:=⟨102,[hI,(.clo 121 (.ref hRs))],[hRs],λx=>A4n n x.1 x.2⟩
def Ul (α:Type) (n:Nat):D3 α:={ reg:=[(1,⟨0,[],[(0,{ sh:=some hR })]⟩),(5,⟨0,[],[(3,{ ent:=some (Awi n) }),(4,{ ent:=some (Adm n) }),(5,{ sh:=some hR })]⟩)],join:=[],loop:=[(3,⟨J2,Ov,A5 (Ou n) n⟩)] }
theorem Vs (α:Type) (n:Nat):Ao PP (Af (Ul α n).reg):=⟨B5m n,Afp n,trivial⟩
theorem Aa3 (α:Type) (n:Nat):LO.Sound (α:=α) PP ⟨21,[]⟩ ⟨J2,Ov,A5 (Ou n) n⟩ (.loop ((A1 Tryz.f102).at [1,1,0,1,0,0])):=C0 (D:=Ul α n) (Vs α n) n
theorem Aqs (α:Type) (n:Nat):D3.OK PP TT ⟨21,[]⟩ (Ul α n) (A1 Tryz.f102) :=
 D3.OK.mk3 (Vs α n) (show Aa (A1 Tryz.f102)=[(3,(.loop ((A1 Tryz.f102).at [1,1,0,1,0,0])))] by kernel_rfl) ⟨Ab rfl (Aa3 α n),trivial⟩
theorem Akk (n:Nat):(A7h n).Sound PP:=fk (fn:=Tryz.f102) (Aqs _ n)

def f69 (n:Nat) (a0:LR):Option LR :=
 ob (A4n n (a0.length:Int) a0) λa =>
 some a
def B1r (n:Nat):Ent:=⟨69,[hRs],[hRs],λx=>f69 n x⟩
def Bc0 (α:Type) (n:Nat):D3 α:={ reg:=[(1,⟨0,[],[(2,{ sh:=some (.ref hRs) }),(3,{ ent:=some (A7h n) })]⟩)],join:=[],loop:=[] }
theorem B7s (n:Nat):(B1r n).Sound PP:=Au (fn:=Tryz.f69) (D:=Bc0 _ n) ⟨Akk n,trivial⟩

abbrev Atm:Tm:=⟨[(1,.d hRs),(2,.d hRs),(3,.k (.hp 3 0 0))],[(3,.var 43 true false [.d hNs])],[],[]⟩
def f27 (n:Nat) (a0:LN) (a1 a2:LR):Option (LR × Int) :=
 ob (f71 n [a1,a2]) λc =>
 ob (f67 n a0 a1) λd =>
 ob (f72 n a1 a2) λe =>
 ob (f70 n [c,d,e]) λb =>
 bif (b != 0) then
  some ([],b)
 else
  ob (Aok n ((a1.length:Int),a2) a0 a1) λa =>
  bif (a.2 != 0) then
   some ([],a.2)
  else
   ob (f69 n a.1.2.2.1) λf =>
   some (f,0)
def Aor (n:Nat):Ent:=⟨27,[hE,hRs,hRs],[hRs,hI],λx=>f27 n x.1 x.2.1 x.2.2⟩
def B1z (α:Type) (n:Nat):D3 α:={ reg:=[(1,⟨0,[],[(2,{ sh:=some hRs }),(3,{ ent:=some (Gg n) }),(6,{ ent:=some (Sr n) }),(9,{ ent:=some (Zl n) }),(10,{ sh:=some hI }),(11,{ ent:=some (Ex n) })]⟩),(4,⟨0,[],[(6,{ ent:=some (At9 n) })]⟩),(7,⟨0,[],[(2,{ ent:=some (B1r n) })]⟩)],join:=[],loop:=[],any:=[(1,Atm)] }
set_option maxHeartbeats 8000000 in
theorem B87 (n:Nat):As TT ⟨42,[]⟩ [(2,{ sh:=some hRs }),(3,{ ent:=some (Gg n) }),(6,{ ent:=some (Sr n) }),(9,{ ent:=some (Zl n) }),(10,{ sh:=some hI }),(11,{ ent:=some (Ex n) })] Atm (A9 ((A1 Tryz.f27).at [1,0,0])):=by
 refine ⟨by kernel_rfl,λw q hq=>?_⟩
 have e:WT [(2,{ sh:=some hRs }),(3,{ ent:=some (Gg n) }),(6,{ ent:=some (Sr n) }),(9,{ ent:=some (Zl n) }),(10,{ sh:=some hI }),(11,{ ent:=some (Ex n) })] (A7 (A9 ((A1 Tryz.f27).at [1,0,0])).toList) q=(∃ (y0:HL (Gg n).rs) (q0:List (Nat × RV)),q=(3,.sv (Aj (Gg n).rs y0))::q0 /\ ∃ (y1:HL (Sr n).rs) (q1:List (Nat × RV)),q0=(6,.sv (Aj (Sr n).rs y1))::q1 /\ ∃ (y2:HL (Zl n).rs) (q2:List (Nat × RV)),q1=(9,.sv (Aj (Zl n).rs y2))::q2 /\ ∃ (y3:HL (Ex n).rs) (q3:List (Nat × RV)),q2=(11,.sv (Aj (Ex n).rs y3))::q3/\q3=[]):=by kernel_rfl
 rw [e] at hq;obtain ⟨y0,q0,rfl,y1,q1,rfl,y2,q2,rfl,y3,q3,rfl,rfl⟩:=hq
 all_goals exact .inr ⟨9,by kernel_rfl,by kernel_rfl,by kernel_rfl⟩
theorem Azk (α:Type) (n:Nat):Ao PP (Af (B1z α n).reg):=⟨A60 n,Ata n,B7p n,Qr n,B35 n,B7s n,trivial⟩
theorem Bcc (α:Type) (n:Nat):D3.OK PP TT ⟨42,[]⟩ (B1z α n) (A1 Tryz.f27) :=
 D3.OK.mk3a (Azk α n) (show Aa (A1 Tryz.f27)=[] by kernel_rfl) trivial (show B1 (A1 Tryz.f27)=[(1,A9 ((A1 Tryz.f27).at [1,0,0]))] by kernel_rfl) ⟨⟨B87 n,trivial⟩,trivial⟩
theorem Atl (n:Nat):(Aor n).Sound PP:=fk (fn:=Tryz.f27) (Bcc _ n)

def Zv {α:Type} (n:Nat) (b:LR) (e c:Int) (g:LN) (d:LR) (f:LR->Int->Int->LN->LR->Option α) (k0:Int->Option α) (k1:LR->Option α):Option α :=
 bif (decide (c<e)) then
  ob (f79 n (b.length:Int) c) λh =>
  ob (f27 n g b h) λa =>
  bif (a.2 != 0) then
   k0 a.2
  else
   gd (decide ((d.length+a.1.length)*56<=140737488355328)) (
    f b e (W (c+1)) g (d++a.1))
 else
  k1 d
abbrev Zu:Tm:=⟨[(1,.d hRs),(2,.k (.hp 2 0 0)),(7,.k (.hw 17)),(19,.d hI),(20,.d hI)],[(2,.var 43 true false [.d hNs]),(17,.arr 54 hR false)],[],[]⟩
abbrev Azj:Tm:=⟨[(4,.d .nil),(5,.d hI)],[],[2,17],[]⟩
abbrev Azi:Tm:=⟨[(7,.k (.hw 17))],[(17,.arr 54 hR false)],[2],[]⟩
abbrev A95:List (Exit × Tm):=[(.ret,Azj),(.exit 0,Azi)]
def A94 {α:Type} (n:Nat) (v:Zu.den) (f:Zu.den->Option α) (ks:KS α A95):Option α:=Zv n v.1.1 v.1.2.2.2.1 v.1.2.2.2.2.1 v.2.1.1 v.2.2.1 (λa b c d e=>f ((a,(),(),b,c,()),((d,()),e,()))) (λw0=>ks.1 (((),w0,()),())) (λw0=>ks.2.1 (((),()),(w0,())))
def A66 {α:Type} (n m:Nat) (a:LR) (b c:Int) (d:LN) (e:LR) (k0:Int->Option α) (k1:LR->Option α):Option α:=A5 (A94 n) m ((a,(),(),b,c,()),((d,()),e,())) (λw=>k0 w.1.2.1,λw=>k1 w.2.1,())
theorem Ag4 {α n m a b c d e k0 k1}:A66 (α:=α) n (m+1) a b c d e k0 k1=Zv n a b c d e (λa b c d e=>A66 n m a b c d e k0 k1) k0 k1:=rfl
def f34 (n:Nat) (a0:LN) (a1:LR):Option (LR × Int) :=
 ob (f67 n a0 a1) λa =>
 bif (a != 0) then
  some ([],a)
 else
  A66 n n a1 (a1.length:Int) 0 a0 []
   (λb=>(
    some ([],b)))
   (λc=>(
    some (c,0)))
def B1x (n:Nat):Ent:=⟨34,[hE,hRs],[hRs,hI],λx=>f34 n x.1 x.2⟩
def Aoq (α:Type) (n:Nat):D3 α:={ reg:=[(1,⟨0,[],[(2,{ ent:=some (Sr n) })]⟩),(4,⟨0,[],[(0,{ sh:=some hR })]⟩),(8,⟨11,[],[(5,{ ent:=some (B1q n) }),(6,{ ent:=some (Aor n) })]⟩)],join:=[],loop:=[(6,⟨Zu,A95,A5 (A94 n) n⟩)] }
theorem Ag3 (α:Type) (n:Nat):Ao PP (Af (Aoq α n).reg):=⟨Ata n,B7n n,Atl n,trivial⟩
theorem Atk (α:Type) (n:Nat):LO.Sound (α:=α) PP ⟨41,[]⟩ ⟨Zu,A95,A5 (A94 n) n⟩ (.loop ((A1 Tryz.f34).at [1,1,1,0,1,0,0])):=C0 (D:=Aoq α n) (Ag3 α n) n
theorem Bca (α:Type) (n:Nat):D3.OK PP TT ⟨41,[]⟩ (Aoq α n) (A1 Tryz.f34) :=
 D3.OK.mk3 (Ag3 α n) (show Aa (A1 Tryz.f34)=[(6,(.loop ((A1 Tryz.f34).at [1,1,1,0,1,0,0])))] by kernel_rfl) ⟨Ab rfl (Atk α n),trivial⟩
theorem B84 (n:Nat):(B1x n).Sound PP:=fk (fn:=Tryz.f34) (Bca _ n)

def f146 (n:Nat) (a0:Int):Option Bool :=
 ob (f181 n a0 3 6) λa =>
 some a
def A76 (n:Nat):Ent:=⟨146,[hI],[.bool],λx=>f146 n x⟩
def B9t (α:Type) (n:Nat):D3 α:={ reg:=[(1,⟨0,[],[(1,{ ent:=some (El n) })]⟩)],join:=[],loop:=[] }
theorem A9s (n:Nat):(A76 n).Sound PP:=Au (fn:=Tryz.f146) (D:=B9t _ n) ⟨Dk n,trivial⟩

def f147 (n:Nat) (a0:Int):Option Bool :=
 bif (a0==7) then
  some true
 else
  some (a0==8)
def A75 (n:Nat):Ent:=⟨147,[hI],[.bool],λx=>f147 n x⟩
def B9s (α:Type) (n:Nat):D3 α:={ reg:=[],join:=[],loop:=[] }
theorem A9q (n:Nat):(A75 n).Sound PP:=Au (fn:=Tryz.f147) (D:=B9s _ n) trivial

def f186 (n:Nat) (a0:Nq) (a1:Int):Option Bool :=
 ob (f181 n a0.1 1 8) λa =>
 bif (!a) then
  some false
 else
  ob (f146 n a0.1) λb =>
  bif b then
   ob (f181 n a0.2.1 0 (W (a1-1))) λc =>
   bif c then
    ob (f181 n a0.2.2.1 (W (a0.2.1+1)) (W (a1-1))) λd =>
    bif d then
     some (a0.2.2.2==0)
    else
     some false
   else
    some false
  else
   ob (f147 n a0.1) λe =>
   bif e then
    bif (a0.2.1==(W (a1-1))) then
     bif (decide (a1>0)) then
      bif (a0.2.2.1==0) then
       ob (f174 n (a0.1==8)) λf =>
       ob (f181 n a0.2.2.2 0 (W (8*f))) λg =>
       some g
      else
       some false
     else
      some false
    else
     some false
   else
    bif (a0.1==2) then
     bif (a0.2.1==0) then
      bif (a0.2.2.1==0) then
       ob (f181 n a0.2.2.2 0 3) λh =>
       some h
      else
       some false
     else
      some false
    else
     bif (a0.2.1==0) then
      bif (a0.2.2.1==0) then
       ob (f181 n a0.2.2.2 0 999999999) λi =>
       some i
      else
       some false
     else
      some false
def Aux (n:Nat):Ent:=⟨186,[hN,hI],[.bool],λx=>f186 n x.1 x.2⟩
def B98 (α:Type) (n:Nat):D3 α:={ reg:=[(1,⟨0,[],[(2,{ ent:=some (El n) })]⟩),(3,⟨0,[],[(2,{ ent:=some (A76 n) })]⟩),(4,⟨0,[],[(4,{ ent:=some (El n) }),(13,{ ent:=some (El n) })]⟩),(5,⟨0,[],[(2,{ ent:=some (A75 n) })]⟩),(6,⟨22,[],[(20,{ ent:=some (R4 n) }),(22,{ ent:=some (El n) })]⟩),(8,⟨0,[],[(11,{ ent:=some (El n) })]⟩),(9,⟨0,[],[(11,{ ent:=some (El n) })]⟩)],join:=[],loop:=[] }
theorem B44 (n:Nat):(Aux n).Sound PP:=Au (fn:=Tryz.f186) (D:=B98 _ n) ⟨Dk n,A9s n,Dk n,Dk n,A9q n,R2 n,Dk n,Dk n,Dk n,trivial⟩

def A3c {α:Type} (n:Nat) (g:Int) (c:LN) (d a j k:Int) (f:Int->LN->Int->Int->Int->Int->Option α) (k0:Int->Option α):Option α :=
 let e:=λ(_:Unit)=>(
  gd (decide (0<=a)&&decide (a<(c.length:Int))) (
   let b:=c.getD a.toNat (0,0,0,0)
   f a c b.1 b.2.1 b.2.2.1 b.2.2.2))
 ob (f146 n d) λh =>
 bif h then
  e ()
 else
  ob (f147 n d) λi =>
  bif i then
   e ()
  else
   k0 g
abbrev To:Tm:=⟨[(1,.d hI),(2,.k (.hp 2 0 0)),(5,.k (.hp 5 0 0))],[(2,.var 43 true false [.d hNs]),(5,.var 85 true false [.d hI,.d hI,.d hI,.d hI])],[],[]⟩
abbrev Auw:Tm:=⟨[(1,.d hI)],[],[2,5],[]⟩
abbrev A3b:List (Exit × Tm):=[(.exit 0,Auw)]
def A3a {α:Type} (n:Nat) (v:To.den) (f:To.den->Option α) (ks:KS α A3b):Option α:=A3c n v.1.1 v.2.1.1 v.2.2.1.1 v.2.2.1.2.1 v.2.2.1.2.2.1 v.2.2.1.2.2.2.1 (λa b c d e g=>f ((a,(),(),()),((b,()),(c,d,e,g,()),()))) (λw0=>ks.1 ((w0,()),()))
def A05 {α:Type} (n m:Nat) (a:Int) (b:LN) (c d e f:Int) (k0:Int->Option α):Option α:=A5 (A3a n) m ((a,(),(),()),((b,()),(c,d,e,f,()),())) (λw=>k0 w.1.1,())
theorem Auv {α n m a b c d e f k0}:A05 (α:=α) n (m+1) a b c d e f k0=A3c n a b c d e f (λa b c d e f=>A05 n m a b c d e f k0) k0:=rfl
abbrev B43:Tm:=⟨[(2,.k (.hp 2 0 0)),(5,.k (.hp 5 0 0))],[(2,.var 43 true false [.d hNs]),(5,.var 85 true false [.d hI,.d hI,.d hI,.d hI])],[],[]⟩
def f187 (n:Nat) (a0:LN) (a1:Int):Option Int :=
 gd (decide (0<=a1)&&decide (a1<(a0.length:Int))) (
  let a:=a0.getD a1.toNat (0,0,0,0)
  A05 n n a1 a0 a.1 a.2.1 a.2.2.1 a.2.2.2
   (λb=>(
    some b)))
def Agx (n:Nat):Ent:=⟨187,[hE,hI],[hI],λx=>f187 n x.1 x.2⟩
def Agy (α:Type) (n:Nat):D3 α:={ reg:=[(2,⟨0,[],[(2,{ ent:=some (A76 n) }),(6,{ ent:=some (A75 n) })]⟩)],join:=[(3,B43)],loop:=[(2,⟨To,A3b,A5 (A3a n) n⟩)] }
theorem Abs (α:Type) (n:Nat):Ao PP (Af (Agy α n).reg):=⟨A9s n,A9q n,trivial⟩
theorem Apj (α:Type) (n:Nat):LO.Sound (α:=α) PP ⟨27,[]⟩ ⟨To,A3b,A5 (A3a n) n⟩ (.loop ((A1 Tryz.f187).at [1,1,0,0,0])):=C0 (D:=Agy α n) (Abs α n) n
theorem B97 (α:Type) (n:Nat):D3.OK PP TT ⟨27,[]⟩ (Agy α n) (A1 Tryz.f187) :=
 D3.OK.mk3 (Abs α n) (show Aa (A1 Tryz.f187)=[(2,(.loop ((A1 Tryz.f187).at [1,1,0,0,0])))] by kernel_rfl) ⟨Ab rfl (Apj α n),trivial⟩
theorem Am6 (n:Nat):(Agx n).Sound PP:=fk (fn:=Tryz.f187) (B97 _ n)

def Ol {α:Type} (n:Nat) (c:Int) (d:LN) (b:LI) (f:Int->LN->LI->Option α) (k0:Bool->Option α) (k1:LN->Option α):Option α :=
 bif (decide (c<(d.length:Int))) then
  gd (decide (0<=c)&&decide (c<(d.length:Int))) (
   let a:=d.getD c.toNat (0,0,0,0)
   ob (f186 n a c) λi =>
   bif (!i) then
    k0 false
   else
    let e:=λ(j:Int)=>(
     let g:=λ(h:Int)=>(
      bif (decide (h>12)) then
       k0 false
      else
       gd (decide ((b.length+1)*8<=140737488355328)) (
        f (W (c+1)) d (b++[h])))
     ob (f147 n a.1) λk =>
     bif k then
      gd (decide (0<=a.2.1)&&decide (a.2.1<(b.length:Int))) (
       gd (decide (a.2.1.toNat<b.length)) (
        g (W (1+(b.getD a.2.1.toNat 0)))))
     else
      g j)
    ob (f146 n a.1) λl =>
    bif l then
     bif (a.2.2.1 != (W (c-1))) then
      k0 false
     else
      ob (f187 n d a.2.2.1) λm =>
      bif (m != (W (a.2.1+1))) then
       k0 false
      else
       gd (decide (0<=a.2.1)&&decide (a.2.1<(b.length:Int))) (
        gd (decide (a.2.1.toNat<b.length)) (
         gd (decide (0<=a.2.2.1)&&decide (a.2.2.1<(b.length:Int))) (
          gd (decide (a.2.2.1.toNat<b.length)) (
           e (W (1+(max (b.getD a.2.1.toNat 0) (b.getD a.2.2.1.toNat 0))))))))
    else
     e 1)
 else
  k1 d
abbrev Ua:Tm:=⟨[(1,.k (.hp 1 0 0)),(3,.k (.hw 12)),(4,.d hI)],[(1,.var 43 true false [.d hNs]),(12,.arr 3 hI false)],[72],[]⟩
abbrev Awc:Tm:=⟨[(2,.d .bool)],[],[1,5,12],[]⟩
abbrev Awb:Tm:=⟨[(1,.k (.hp 1 0 0))],[(1,.var 43 true false [.d hNs])],[12],[]⟩
abbrev A4c:List (Exit × Tm):=[(.ret,Awc),(.exit 0,Awb)]
def A4b {α:Type} (n:Nat) (v:Ua.den) (f:Ua.den->Option α) (ks:KS α A4c):Option α:=Ol n v.1.2.2.1 v.2.1.1 v.2.2.1 (λa b c=>f (((),(),a,()),((b,()),c,()))) (λw0=>ks.1 ((w0,()),())) (λw0=>ks.2.1 (((),()),((w0,()),())))
def A0g {α:Type} (n m:Nat) (a:Int) (b:LN) (c:LI) (k0:Bool->Option α) (k1:LN->Option α):Option α:=A5 (A4b n) m (((),(),a,()),((b,()),c,())) (λw=>k0 w.1.1,λw=>k1 w.2.1.1,())
theorem Ac6 {α n m a b c k0 k1}:A0g (α:=α) n (m+1) a b c k0 k1=Ol n a b c (λa b c=>A0g n m a b c k0 k1) k0 k1:=rfl
abbrev B0g:Tm:=⟨[(1,.k (.hp 1 0 0)),(3,.k (.hw 12)),(4,.d hI),(5,.k (.hp 5 0 0)),(6,.d hI)],[(1,.var 43 true false [.d hNs]),(5,.var 85 true false [.d hI,.d hI,.d hI,.d hI]),(12,.arr 3 hI false)],[],[]⟩
abbrev B0f:Tm:=⟨[(1,.k (.hp 1 0 0)),(3,.k (.hw 12)),(4,.d hI),(6,.d hI)],[(1,.var 43 true false [.d hNs]),(12,.arr 3 hI false)],[5],[]⟩
def f124 (n:Nat) (a0:LN):Option Bool :=
 ob (f181 n (a0.length:Int) 1 60) λb =>
 bif (!b) then
  some false
 else
  A0g n n 0 a0 []
   (λc=>(
    some c))
   (λa=>(
    ob (f187 n a (W ((a.length:Int)-1))) λd =>
    some (d==0)))
def Awd (n:Nat):Ent:=⟨124,[hE],[.bool],λx=>f124 n x⟩
def Ahv (α:Type) (n:Nat):D3 α:={ reg:=[(1,⟨0,[],[(3,{ ent:=some (El n) })]⟩),(3,⟨0,[],[(0,{ sh:=some hI })]⟩),(8,⟨0,[],[(2,{ ent:=some (Aux n) })]⟩),(11,⟨0,[],[(2,{ ent:=some (A76 n) })]⟩),(12,⟨13,[],[(9,{ ent:=some (Agx n) })]⟩),(14,⟨10,[],[]⟩),(15,⟨0,[],[(2,{ ent:=some (A75 n) })]⟩),(19,⟨0,[],[(2,{ sh:=some hI })]⟩),(20,⟨0,[],[(5,{ ent:=some (Agx n) })]⟩)],join:=[(15,B0g),(17,B0f)],loop:=[(5,⟨Ua,A4c,A5 (A4b n) n⟩)] }
theorem Ac5 (α:Type) (n:Nat):Ao PP (Af (Ahv α n).reg):=⟨Dk n,B44 n,A9s n,Am6 n,A9q n,Am6 n,trivial⟩
theorem Aqd (α:Type) (n:Nat):LO.Sound (α:=α) PP ⟨81,[]⟩ ⟨Ua,A4c,A5 (A4b n) n⟩ (.loop ((A1 Tryz.f124).at [1,1,1,0,1,0,0])):=C0 (D:=Ahv α n) (Ac5 α n) n
theorem Baa (α:Type) (n:Nat):D3.OK PP TT ⟨81,[]⟩ (Ahv α n) (A1 Tryz.f124) :=
 D3.OK.mk3 (Ac5 α n) (show Aa (A1 Tryz.f124)=[(5,(.loop ((A1 Tryz.f124).at [1,1,1,0,1,0,0])))] by kernel_rfl) ⟨Ab rfl (Aqd α n),trivial⟩
theorem B5g (n:Nat):(Awd n).Sound PP:=fk (fn:=Tryz.f124) (Baa _ n)

def A2h {α:Type} (n:Nat) (a:LI) (b:Int) (f:LI->Int->Option α) (k0:Bool->Option α) (k1:LI->Option α):Option α :=
 bif (decide (b<(a.length:Int))) then
  gd (decide (0<=b)&&decide (b<(a.length:Int))) (
   ob (f181 n (a.getD b.toNat 0) 0 9999) λc =>
   bif (!c) then
    k0 false
   else
    f a (W (b+1)))
 else
  k1 a
abbrev Ta:Tm:=⟨[(0,.d hIs),(3,.d hI)],[],[],[]⟩
abbrev Au3:Tm:=⟨[(2,.d .bool)],[],[],[]⟩
abbrev Au2:Tm:=⟨[(0,.d hIs)],[],[],[]⟩
abbrev A2g:List (Exit × Tm):=[(.ret,Au3),(.exit 0,Au2)]
def A2f {α:Type} (n:Nat) (v:Ta.den) (f:Ta.den->Option α) (ks:KS α A2g):Option α:=A2h n v.1.1 v.1.2.1 (λa b=>f ((a,b,()),())) (λw0=>ks.1 ((w0,()),())) (λw0=>ks.2.1 ((w0,()),()))
def Qu {α:Type} (n m:Nat) (a:LI) (b:Int) (k0:Bool->Option α) (k1:LI->Option α):Option α:=A5 (A2f n) m ((a,b,()),()) (λw=>k0 w.1.1,λw=>k1 w.1.1,())
theorem Au1 {α n m a b k0 k1}:Qu (α:=α) n (m+1) a b k0 k1=A2h n a b (λa b=>Qu n m a b k0 k1) k0 k1:=rfl
def f212 (n:Nat) (a0:LI):Option Bool :=
 bif (decide ((a0.length:Int)>4096)) then
  some false
 else
  Qu n n a0 0
   (λb=>(
    some b))
   (λa=>(
    bif (decide ((a.length:Int)<=40)) then
     bif ((a.length:Int)==0) then
      some true
     else
      gd (decide (0<=(W ((a.length:Int)-1)))&&decide ((W ((a.length:Int)-1))<(a.length:Int))) (
       some (decide ((a.getD ((W ((a.length:Int)-1)).toNat) 0)>0)))
    else
     some false))
def Age (n:Nat):Ent:=⟨212,[hIs],[.bool],λx=>f212 n x⟩
def Agf (α:Type) (n:Nat):D3 α:={ reg:=[(6,⟨0,[],[(4,{ ent:=some (El n) })]⟩)],join:=[],loop:=[(4,⟨Ta,A2g,A5 (A2f n) n⟩)] }
theorem Abk (α:Type) (n:Nat):Ao PP (Af (Agf α n).reg):=⟨Dk n,trivial⟩
theorem Ap3 (α:Type) (n:Nat):LO.Sound (α:=α) PP ⟨36,[]⟩ ⟨Ta,A2g,A5 (A2f n) n⟩ (.loop ((A1 Tryz.f212).at [1,1,0,1,0,0])):=C0 (D:=Agf α n) (Abk α n) n
theorem B8k (α:Type) (n:Nat):D3.OK PP TT ⟨36,[]⟩ (Agf α n) (A1 Tryz.f212) :=
 D3.OK.mk3 (Abk α n) (show Aa (A1 Tryz.f212)=[(4,(.loop ((A1 Tryz.f212).at [1,1,0,1,0,0])))] by kernel_rfl) ⟨Ab rfl (Ap3 α n),trivial⟩
theorem Alw (n:Nat):(Age n).Sound PP:=fk (fn:=Tryz.f212) (B8k _ n)

abbrev B48:Tm:=⟨[(1,.k (.hp 1 0 0))],[(1,.var 54 true false [.d .bool,.d hIs,.d hIs])],[],[]⟩
def f184 (n:Nat) (a0:Rq):Option Bool :=
 let a:=λ(_:Unit)=>(
  ob (f213 n a0.2.1 a0.2.2) λb =>
  ob (f199 n b [1]) λc =>
  some (c==0))
 ob (f212 n a0.2.1) λd =>
 bif (!d) then
  some false
 else
  ob (f212 n a0.2.2) λe =>
  bif (!e) then
   some false
  else
   bif ((a0.2.2.length:Int)==0) then
    some false
   else
    bif ((a0.2.1.length:Int)==0) then
     bif a0.1 then
      some false
     else
      a ()
    else
     a ()
def Auy (n:Nat):Ent:=⟨184,[hR],[.bool],λx=>f184 n x⟩
def B9a (α:Type) (n:Nat):D3 α:={ reg:=[(1,⟨0,[],[(2,{ ent:=some (Age n) }),(7,{ ent:=some (Age n) })]⟩),(3,⟨0,[],[(4,{ ent:=some (Agc n) }),(5,{ sh:=some hI }),(6,{ ent:=some (Y0 n) })]⟩)],join:=[(3,B48)],loop:=[] }
theorem B46 (n:Nat):(Auy n).Sound PP:=Au (fn:=Tryz.f184) (D:=B9a _ n) ⟨Alw n,Alw n,Alv n,A01 n,trivial⟩

def A4l {α:Type} (n:Nat) (a:LR) (b:Int) (f:LR->Int->Option α) (k0:Bool->Option α) (k1:LR->Option α):Option α :=
 bif (decide (b<(a.length:Int))) then
  gd (decide (0<=b)&&decide (b<(a.length:Int))) (
   let c:=a.getD b.toNat (false,[],[])
   ob (f184 n c) λd =>
   bif (!d) then
    k0 false
   else
    f a (W (b+1)))
 else
  k1 a
abbrev Ue:Tm:=⟨[(0,.d hRs),(3,.d hI)],[],[],[]⟩
abbrev Awo:Tm:=⟨[(2,.d .bool)],[],[],[]⟩
abbrev Awn:Tm:=⟨[(0,.d hRs)],[],[],[]⟩
abbrev A4k:List (Exit × Tm):=[(.ret,Awo),(.exit 0,Awn)]
def A4j {α:Type} (n:Nat) (v:Ue.den) (f:Ue.den->Option α) (ks:KS α A4k):Option α:=A4l n v.1.1 v.1.2.1 (λa b=>f ((a,b,()),())) (λw0=>ks.1 ((w0,()),())) (λw0=>ks.2.1 ((w0,()),()))
def Rj {α:Type} (n m:Nat) (a:LR) (b:Int) (k0:Bool->Option α) (k1:LR->Option α):Option α:=A5 (A4j n) m ((a,b,()),()) (λw=>k0 w.1.1,λw=>k1 w.1.1,())
theorem Awm {α n m a b k0 k1}:Rj (α:=α) n (m+1) a b k0 k1=A4l n a b (λa b=>Rj n m a b k0 k1) k0 k1:=rfl
def f116 (n:Nat) (a0:LR):Option Bool :=
 bif (decide ((a0.length:Int)>4096)) then
  some false
 else
  Rj n n a0 0
   (λa=>(
    some a))
   (λb=>(
    ob (f181 n (b.length:Int) 1 4) λc =>
    some c))
def A7b (n:Nat):Ent:=⟨116,[hRs],[.bool],λx=>f116 n x⟩
def Ai0 (α:Type) (n:Nat):D3 α:={ reg:=[(6,⟨0,[],[(4,{ ent:=some (Auy n) })]⟩),(8,⟨0,[],[(2,{ ent:=some (El n) })]⟩)],join:=[],loop:=[(4,⟨Ue,A4k,A5 (A4j n) n⟩)] }
theorem Acb (α:Type) (n:Nat):Ao PP (Af (Ai0 α n).reg):=⟨B46 n,Dk n,trivial⟩
theorem Aqj (α:Type) (n:Nat):LO.Sound (α:=α) PP ⟨22,[]⟩ ⟨Ue,A4k,A5 (A4j n) n⟩ (.loop ((A1 Tryz.f116).at [1,1,0,1,0,0])):=C0 (D:=Ai0 α n) (Acb α n) n
theorem Baf (α:Type) (n:Nat):D3.OK PP TT ⟨22,[]⟩ (Ai0 α n) (A1 Tryz.f116) :=
 D3.OK.mk3 (Acb α n) (show Aa (A1 Tryz.f116)=[(4,(.loop ((A1 Tryz.f116).at [1,1,0,1,0,0])))] by kernel_rfl) ⟨Ab rfl (Aqj α n),trivial⟩
theorem A9y (n:Nat):(A7b n).Sound PP:=fk (fn:=Tryz.f116) (Baf _ n)

def A4a {α:Type} (n:Nat) (c a:Int) (b:LN) (f:Int->Int->LN->Option α) (k0:Int->Option α):Option α :=
 bif (decide (a<(b.length:Int))) then
  gd (decide (0<=a)&&decide (a<(b.length:Int))) (
   let d:=b.getD a.toNat (0,0,0,0)
   bif (d.1==2) then
    gd (decide (0<=a)&&decide (a<(b.length:Int))) (
     let e:=b.getD a.toNat (0,0,0,0)
     f (max c (W (e.2.2.2+1))) (W (a+1)) b)
   else
    f c (W (a+1)) b)
 else
  k0 c
abbrev U9:Tm:=⟨[(1,.k (.hp 1 0 0)),(3,.d hI),(4,.d hI)],[(1,.var 43 true false [.d hNs])],[],[]⟩
abbrev Aw9:Tm:=⟨[(3,.d hI)],[],[1],[]⟩
abbrev A49:List (Exit × Tm):=[(.exit 0,Aw9)]
def A48 {α:Type} (n:Nat) (v:U9.den) (f:U9.den->Option α) (ks:KS α A49):Option α:=A4a n v.1.2.1 v.1.2.2.1 v.2.1.1 (λa b c=>f (((),a,b,()),((c,()),()))) (λw0=>ks.1 ((w0,()),()))
def A0f {α:Type} (n m:Nat) (a b:Int) (c:LN) (k0:Int->Option α):Option α:=A5 (A48 n) m (((),a,b,()),((c,()),())) (λw=>k0 w.1.1,())
theorem Aw8 {α n m a b c k0}:A0f (α:=α) n (m+1) a b c k0=A4a n a b c (λa b c=>A0f n m a b c k0) k0:=rfl
def f125 (n:Nat) (a0:LN):Option Int :=
 A0f n n 0 0 a0
  (λa=>(
   some a))
def Awa (n:Nat):Ent:=⟨125,[hE],[hI],λx=>f125 n x⟩
def Ahu (α:Type) (n:Nat):D3 α:={ reg:=[],join:=[],loop:=[(3,⟨U9,A49,A5 (A48 n) n⟩)] }
theorem Ac4 (α:Type) (n:Nat):Ao PP (Af (Ahu α n).reg):=trivial
theorem Aqc (α:Type) (n:Nat):LO.Sound (α:=α) PP ⟨29,[]⟩ ⟨U9,A49,A5 (A48 n) n⟩ (.loop ((A1 Tryz.f125).at [1,1,0,1,0,0])):=C0 (D:=Ahu α n) (Ac4 α n) n
theorem Ba9 (α:Type) (n:Nat):D3.OK PP TT ⟨29,[]⟩ (Ahu α n) (A1 Tryz.f125) :=
 D3.OK.mk3 (Ac4 α n) (show Aa (A1 Tryz.f125)=[(3,(.loop ((A1 Tryz.f125).at [1,1,0,1,0,0])))] by kernel_rfl) ⟨Ab rfl (Aqc α n),trivial⟩
theorem B5e (n:Nat):(Awa n).Sound PP:=fk (fn:=Tryz.f125) (Ba9 _ n)

abbrev B7o:Tm:=⟨[(1,.d hRs),(2,.k (.hp 2 0 0)),(9,.d .bool)],[(2,.var 43 true false [.d hNs])],[],[]⟩
def f74 (n:Nat) (a0:LN) (a1:LR):Option Int :=
 bif (decide ((a1.length:Int)>4096)) then
  some 2
 else
  let a:=λ(b:Bool)=>(
   bif b then
    some 1
   else
    ob (f125 n a0) λc =>
    bif (decide ((a1.length:Int)<c)) then
     some 8
    else
     some 0)
  ob (f124 n a0) λd =>
  bif (!d) then
   a true
  else
   ob (f116 n a1) λe =>
   a (!e)
def Aoh (n:Nat):Ent:=⟨74,[hE,hRs],[hI],λx=>f74 n x.1 x.2⟩
def Bbt (α:Type) (n:Nat):D3 α:={ reg:=[(3,⟨0,[],[(1,{ ent:=some (Awd n) }),(5,{ ent:=some (A7b n) })]⟩),(5,⟨0,[],[(3,{ ent:=some (Awa n) })]⟩)],join:=[(4,B7o)],loop:=[] }
theorem At6 (n:Nat):(Aoh n).Sound PP:=Au (fn:=Tryz.f74) (D:=Bbt _ n) ⟨B5g n,A9y n,B5e n,trivial⟩

def Ym {α:Type} (n:Nat) (b c:Int) (a:LR) (f:Int->Int->LR->Option α) (k0:LR->Option α):Option α :=
 bif (decide (c<b)) then
  ob (f131 n 0) λd =>
  gd (decide ((a.length+1)*56<=140737488355328)) (
   f b (W (c+1)) (a++[d]))
 else
  k0 a
abbrev Pq:Tm:=⟨[(0,.d hI),(3,.k (.hw 5)),(4,.d hI)],[(5,.arr 54 hR false)],[13],[]⟩
abbrev Aqi:Tm:=⟨[(3,.k (.hw 5))],[(5,.arr 54 hR false)],[],[]⟩
abbrev Yl:List (Exit × Tm):=[(.exit 0,Aqi)]
def Yk {α:Type} (n:Nat) (v:Pq.den) (f:Pq.den->Option α) (ks:KS α Yl):Option α:=Ym n v.1.1 v.1.2.2.1 v.2.1 (λa b c=>f ((a,(),b,()),(c,()))) (λw0=>ks.1 (((),()),(w0,())))
def Ud {α:Type} (n m:Nat) (a b:Int) (c:LR) (k0:LR->Option α):Option α:=A5 (Yk n) m ((a,(),b,()),(c,())) (λw=>k0 w.2.1,())
theorem Aqh {α n m a b c k0}:Ud (α:=α) n (m+1) a b c k0=Ym n a b c (λa b c=>Ud n m a b c k0) k0:=rfl
def Adr (n:Nat) (a0:Int):Option LR :=
 Ud n n a0 0 []
  (λa=>(
   some a))
def Amp (n:Nat):Ent3:=⟨118,[.im hI],[[.one (.own 54 hR)]],λx=>Adr n x,[]⟩
def A9x (α:Type) (n:Nat):D3 α:={ reg:=[(1,⟨0,[],[(0,{ sh:=some hR })]⟩),(5,⟨0,[],[(1,{ ent:=some (C2 n) }),(2,{ sh:=some hR })]⟩)],join:=[],loop:=[(3,⟨Pq,Yl,A5 (Yk n) n⟩)] }
theorem A7a (α:Type) (n:Nat):Ao PP (Af (A9x α n).reg):=⟨D7 n,trivial⟩
theorem Akd (α:Type) (n:Nat):LO.Sound (α:=α) PP ⟨16,[]⟩ ⟨Pq,Yl,A5 (Yk n) n⟩ (.loop ((A1 Tryz.f118).at [1,1,0,1,0,0])):=C0 (D:=A9x α n) (A7a α n) n
theorem B5p (α:Type) (n:Nat):D3.OK PP TT ⟨16,[]⟩ (A9x α n) (A1 Tryz.f118) :=
 D3.OK.mk3 (A7a α n) (show Aa (A1 Tryz.f118)=[(3,(.loop ((A1 Tryz.f118).at [1,1,0,1,0,0])))] by kernel_rfl) ⟨Ab rfl (Akd α n),trivial⟩
theorem B0j (n:Nat):(Amp n).Sound PP:=fkB (fn:=Tryz.f118) (B5p _ n)

def f81 (n:Nat) (a0 a1:Int):Option LR :=
 ob (Adr n a0) λa =>
 ob (f131 n 1) λb =>
 gd (decide (0<=a1)&&decide (a1<(a.length:Int))) (
  gd (decide (a1.toNat<a.length)) (
   some (a.set a1.toNat b)))
def Sq (n:Nat):Ent:=⟨81,[hI,hI],[hRs],λx=>f81 n x.1 x.2⟩
def Bbp (α:Type) (n:Nat):D3 α:={ reg:=[(1,⟨0,[],[(1,{ entB:=some (Amp n),hb:=310 })]⟩),(2,⟨0,[],[(2,{ ent:=some (C2 n) })]⟩)],join:=[],loop:=[] }
theorem Asy (n:Nat):(Sq n).Sound PP:=Au (fn:=Tryz.f81) (D:=Bbp _ n) ⟨B0j n,D7 n,trivial⟩

def f188 (n:Nat) (a0:Rq):Option (Rq × Rq × Rq × Rq) :=
 ob (f131 n 0) λa =>
 ob (f131 n 0) λb =>
 ob (f131 n 0) λc =>
 some (a0,a,b,c)
def A6l (n:Nat):Ent:=⟨188,[hR],[(.st (.pair hR (.pair hR (.pair hR hR))))],λx=>f188 n x⟩
def B96 (α:Type) (n:Nat):D3 α:={ reg:=[(1,⟨4,[],[(1,{ ent:=some (C2 n) }),(2,{ ent:=some (C2 n) }),(3,{ ent:=some (C2 n) })]⟩)],join:=[],loop:=[] }
theorem A9g (n:Nat):(A6l n).Sound PP:=Au (fn:=Tryz.f188) (D:=B96 _ n) ⟨D7 n,D7 n,D7 n,trivial⟩

def A2z {α:Type} (n:Nat) (b c:LI) (d a:Int) (e:LI) (f:LI->LI->Int->Int->LI->Option α) (k0:LI->Option α):Option α :=
 let g:=λ(_:Unit)=>(
  let h:=λ(i:Int)=>(
   let j:=λ(k:Int)=>(
    gd (decide ((e.length+1)*8<=140737488355328)) (
     f b c (W (Int.tdiv k 10000)) (W (a+1)) (e++[(Int.tmod k 10000)])))
   bif (decide (a<(c.length:Int))) then
    gd (decide (0<=a)&&decide (a<(c.length:Int))) (
     j (W (i+(c.getD a.toNat 0))))
   else
    j i)
  bif (decide (a<(b.length:Int))) then
   gd (decide (0<=a)&&decide (a<(b.length:Int))) (
    h (W (d+(b.getD a.toNat 0))))
  else
   h d)
 bif (decide (a<(b.length:Int))) then
  g ()
 else
  bif (decide (a<(c.length:Int))) then
   g ()
  else
   bif (decide (d>0)) then
    g ()
   else
    k0 e
abbrev Ti:Tm:=⟨[(0,.d hIs),(1,.d hIs),(5,.k (.hw 8)),(6,.d hI),(7,.d hI)],[(8,.arr 3 hI false)],[48],[]⟩
abbrev Aui:Tm:=⟨[(5,.k (.hw 8))],[(8,.arr 3 hI false)],[],[]⟩
abbrev A2y:List (Exit × Tm):=[(.exit 0,Aui)]
def A2x {α:Type} (n:Nat) (v:Ti.den) (f:Ti.den->Option α) (ks:KS α A2y):Option α:=A2z n v.1.1 v.1.2.1 v.1.2.2.2.1 v.1.2.2.2.2.1 v.2.1 (λa b c d e=>f ((a,b,(),c,d,()),(e,()))) (λw0=>ks.1 (((),()),(w0,())))
def Qy {α:Type} (n m:Nat) (a b:LI) (c d:Int) (e:LI) (k0:LI->Option α):Option α:=A5 (A2x n) m ((a,b,(),c,d,()),(e,())) (λw=>k0 w.2.1,())
theorem Auh {α n m a b c d e k0}:Qy (α:=α) n (m+1) a b c d e k0=A2z n a b c d e (λa b c d e=>Qy n m a b c d e k0) k0:=rfl
abbrev B3w:Tm:=⟨[(0,.d hIs),(1,.d hIs),(5,.k (.hw 8)),(6,.d hI),(7,.d hI)],[(8,.arr 3 hI false)],[],[]⟩
abbrev B3v:Tm:=⟨[(0,.d hIs),(1,.d hIs),(5,.k (.hw 8)),(6,.d hI),(7,.d hI)],[(8,.arr 3 hI false)],[],[]⟩
abbrev Azu:Tm:=⟨[(0,.d hIs),(1,.d hIs),(5,.k (.hw 8)),(6,.d hI),(7,.d hI)],[(8,.arr 3 hI false)],[],[]⟩
def f198 (n:Nat) (a0 a1:LI):Option LI :=
 Qy n n a0 a1 0 0 []
  (λa=>(
   some a))
def Auj (n:Nat):Ent:=⟨198,[hIs,hIs],[hIs],λx=>f198 n x.1 x.2⟩
def Agt (α:Type) (n:Nat):D3 α:={ reg:=[(1,⟨0,[],[(0,{ sh:=some hI })]⟩),(10,⟨0,[],[(3,{ sh:=some hI })]⟩)],join:=[(6,B3w),(8,B3v),(10,Azu)],loop:=[(4,⟨Ti,A2y,A5 (A2x n) n⟩)] }
theorem Abq (α:Type) (n:Nat):Ao PP (Af (Agt α n).reg):=trivial
theorem Ape (α:Type) (n:Nat):LO.Sound (α:=α) PP ⟨53,[]⟩ ⟨Ti,A2y,A5 (A2x n) n⟩ (.loop ((A1 Tryz.f198).at [1,1,1,0,1,0,0])):=C0 (D:=Agt α n) (Abq α n) n
theorem B8x (α:Type) (n:Nat):D3.OK PP TT ⟨53,[]⟩ (Agt α n) (A1 Tryz.f198) :=
 D3.OK.mk3 (Abq α n) (show Aa (A1 Tryz.f198)=[(4,(.loop ((A1 Tryz.f198).at [1,1,1,0,1,0,0])))] by kernel_rfl) ⟨Ab rfl (Ape α n),trivial⟩
theorem B3t (n:Nat):(Auj n).Sound PP:=fk (fn:=Tryz.f198) (B8x _ n)

def f138 (n:Nat) (a0 a1:Rq):Option Rq :=
 ob (f196 n a0.2.1 a1.2.2) λa =>
 ob (f196 n a1.2.1 a0.2.2) λb =>
 ob (f196 n a0.2.2 a1.2.2) λc =>
 bif (a0.1==a1.1) then
  ob (f198 n a b) λd =>
  ob (f197 n a0.1 d c) λe =>
  some e
 else
  ob (f199 n a b) λf =>
  bif (decide (f>=0)) then
   ob (f200 n a b) λg =>
   ob (f197 n a0.1 g c) λh =>
   some h
  else
   ob (f200 n b a) λi =>
   ob (f197 n a1.1 i c) λj =>
   some j
def G2 (n:Nat):Ent:=⟨138,[hR,hR],[hR],λx=>f138 n x.1 x.2⟩
def Ba0 (α:Type) (n:Nat):D3 α:={ reg:=[(1,⟨0,[],[(4,{ ent:=some (Hd n) })]⟩),(2,⟨0,[],[(4,{ ent:=some (Hd n) })]⟩),(3,⟨0,[],[(4,{ ent:=some (Hd n) })]⟩),(5,⟨6,[],[(4,{ ent:=some (Auj n) }),(6,{ ent:=some (O5 n) })]⟩),(6,⟨0,[],[(2,{ ent:=some (Y0 n) })]⟩),(7,⟨6,[],[(4,{ ent:=some (A6h n) }),(6,{ ent:=some (O5 n) })]⟩),(8,⟨6,[],[(4,{ ent:=some (A6h n) }),(6,{ ent:=some (O5 n) })]⟩)],join:=[],loop:=[] }
theorem Fl (n:Nat):(G2 n).Sound PP:=Au (fn:=Tryz.f138) (D:=Ba0 _ n) ⟨Gh n,Gh n,Gh n,B3t n,Mv n,A01 n,A9d n,Mv n,A9d n,Mv n,trivial⟩

def f189 (n:Nat) (a0 a1:Rq × Rq × Rq × Rq):Option (Rq × Rq × Rq × Rq) :=
 ob (f138 n a0.1 a1.1) λa =>
 ob (f138 n a0.2.1 a1.2.1) λb =>
 ob (f138 n a0.2.2.1 a1.2.2.1) λc =>
 ob (f138 n a0.2.2.2 a1.2.2.2) λd =>
 some (a,b,c,d)
def Agw (n:Nat):Ent:=⟨189,[(.st (.pair hR (.pair hR (.pair hR hR)))),(.st (.pair hR (.pair hR (.pair hR hR))))],[(.st (.pair hR (.pair hR (.pair hR hR))))],λx=>f189 n x.1 x.2⟩
def B95 (α:Type) (n:Nat):D3 α:={ reg:=[(1,⟨19,[],[(4,{ ent:=some (G2 n) }),(9,{ ent:=some (G2 n) }),(14,{ ent:=some (G2 n) }),(19,{ ent:=some (G2 n) })]⟩)],join:=[],loop:=[] }
theorem Am5 (n:Nat):(Agw n).Sound PP:=Au (fn:=Tryz.f189) (D:=B95 _ n) ⟨Fl n,Fl n,Fl n,Fl n,trivial⟩

def f143 (n:Nat) (a0:Rq):Option Rq :=
 bif (!a0.1) then
  some ((decide ((a0.2.1.length:Int)>0)),a0.2)
 else
  some (false,a0.2)
def Lh (n:Nat):Ent:=⟨143,[hR],[hR],λx=>f143 n x⟩
def B9v (α:Type) (n:Nat):D3 α:={ reg:=[],join:=[],loop:=[] }
theorem K5 (n:Nat):(Lh n).Sound PP:=Au (fn:=Tryz.f143) (D:=B9v _ n) trivial

def f190 (n:Nat) (a0:Rq × Rq × Rq × Rq):Option (Rq × Rq × Rq × Rq) :=
 ob (f143 n a0.1) λa =>
 ob (f143 n a0.2.1) λb =>
 ob (f143 n a0.2.2.1) λc =>
 ob (f143 n a0.2.2.2) λd =>
 some (a,b,c,d)
def Agv (n:Nat):Ent:=⟨190,[(.st (.pair hR (.pair hR (.pair hR hR))))],[(.st (.pair hR (.pair hR (.pair hR hR))))],λx=>f190 n x⟩
def B94 (α:Type) (n:Nat):D3 α:={ reg:=[(1,⟨11,[],[(2,{ ent:=some (Lh n) }),(5,{ ent:=some (Lh n) }),(8,{ ent:=some (Lh n) }),(11,{ ent:=some (Lh n) })]⟩)],join:=[],loop:=[] }
theorem Am4 (n:Nat):(Agv n).Sound PP:=Au (fn:=Tryz.f190) (D:=B94 _ n) ⟨K5 n,K5 n,K5 n,K5 n,trivial⟩

def f140 (n:Nat) (a0 a1:Rq):Option Rq :=
 ob (f196 n a0.2.1 a1.2.1) λa =>
 ob (f196 n a0.2.2 a1.2.2) λb =>
 ob (f197 n (!(a0.1==a1.1)) a b) λc =>
 some c
def Bl (n:Nat):Ent:=⟨140,[hR,hR],[hR],λx=>f140 n x.1 x.2⟩
def B9y (α:Type) (n:Nat):D3 α:={ reg:=[(1,⟨15,[],[(9,{ ent:=some (Hd n) }),(14,{ ent:=some (Hd n) }),(15,{ ent:=some (O5 n) })]⟩)],join:=[],loop:=[] }
theorem Cb (n:Nat):(Bl n).Sound PP:=Au (fn:=Tryz.f140) (D:=B9y _ n) ⟨Gh n,Gh n,Mv n,trivial⟩

def f191 (n:Nat) (a0 a1:Rq × Rq × Rq × Rq):Option (Rq × Rq × Rq × Rq) :=
 ob (f140 n a0.1 a1.1) λa =>
 ob (f140 n a0.2.1 a1.1) λb =>
 ob (f140 n a0.1 a1.2.1) λc =>
 ob (f138 n b c) λd =>
 ob (f140 n a0.2.2.1 a1.1) λe =>
 ob (f140 n a0.1 a1.2.2.1) λf =>
 ob (f138 n e f) λg =>
 ob (f140 n a0.2.2.2 a1.1) λh =>
 ob (f140 n a0.1 a1.2.2.2) λi =>
 ob (f138 n h i) λj =>
 ob (f140 n a0.2.1 a1.2.2.1) λk =>
 ob (f140 n a0.2.2.1 a1.2.1) λl =>
 ob (f138 n k l) λm =>
 ob (f138 n j m) λo =>
 some (a,d,g,o)
def A6k (n:Nat):Ent:=⟨191,[(.st (.pair hR (.pair hR (.pair hR hR)))),(.st (.pair hR (.pair hR (.pair hR hR))))],[(.st (.pair hR (.pair hR (.pair hR hR))))],λx=>f191 n x.1 x.2⟩
def B93 (α:Type) (n:Nat):D3 α:={ reg:=[(1,⟨47,[],[(4,{ ent:=some (Bl n) }),(9,{ ent:=some (Bl n) }),(14,{ ent:=some (Bl n) }),(15,{ ent:=some (G2 n) }),(20,{ ent:=some (Bl n) }),(25,{ ent:=some (Bl n) }),(26,{ ent:=some (G2 n) }),(31,{ ent:=some (Bl n) }),(36,{ ent:=some (Bl n) }),(37,{ ent:=some (G2 n) }),(42,{ ent:=some (Bl n) }),(47,{ ent:=some (Bl n) }),(48,{ ent:=some (G2 n) }),(49,{ ent:=some (G2 n) })]⟩)],join:=[],loop:=[] }
theorem A9f (n:Nat):(A6k n).Sound PP:=Au (fn:=Tryz.f191) (D:=B93 _ n) ⟨Cb n,Cb n,Cb n,Fl n,Cb n,Cb n,Fl n,Cb n,Cb n,Fl n,Cb n,Cb n,Fl n,Fl n,trivial⟩

def f141 (n:Nat) (a0:Rq):Option Bool :=
 some ((a0.2.1.length:Int)==0)
def Avr (n:Nat):Ent:=⟨141,[hR],[.bool],λx=>f141 n x⟩
def B9x (α:Type) (n:Nat):D3 α:={ reg:=[],join:=[],loop:=[] }
theorem B51 (n:Nat):(Avr n).Sound PP:=Au (fn:=Tryz.f141) (D:=B9x _ n) trivial

def f142 (n:Nat) (a0 a1:Rq):Option Rq :=
 ob (f196 n a0.2.1 a1.2.2) λa =>
 ob (f196 n a0.2.2 a1.2.1) λb =>
 ob (f197 n (!(a0.1==a1.1)) a b) λc =>
 some c
def Re (n:Nat):Ent:=⟨142,[hR,hR],[hR],λx=>f142 n x.1 x.2⟩
def B9w (α:Type) (n:Nat):D3 α:={ reg:=[(1,⟨15,[],[(9,{ ent:=some (Hd n) }),(14,{ ent:=some (Hd n) }),(15,{ ent:=some (O5 n) })]⟩)],join:=[],loop:=[] }
theorem B50 (n:Nat):(Re n).Sound PP:=Au (fn:=Tryz.f142) (D:=B9w _ n) ⟨Gh n,Gh n,Mv n,trivial⟩

def f139 (n:Nat) (a0 a1:Rq):Option Rq :=
 ob (f143 n a1) λa =>
 ob (f138 n a0 a) λb =>
 some b
def Avs (n:Nat):Ent:=⟨139,[hR,hR],[hR],λx=>f139 n x.1 x.2⟩
def B9z (α:Type) (n:Nat):D3 α:={ reg:=[(1,⟨3,[],[(2,{ ent:=some (Lh n) }),(3,{ ent:=some (G2 n) })]⟩)],join:=[],loop:=[] }
theorem B52 (n:Nat):(Avs n).Sound PP:=Au (fn:=Tryz.f139) (D:=B9z _ n) ⟨K5 n,Fl n,trivial⟩

abbrev Am3:Tm:=⟨[(1,.k (.hp 1 0 0)),(2,.k (.hp 2 0 0))],[(1,.var 140 true false [.d .bool,.d hIs,.d hIs,.d .bool,.d hIs,.d hIs,.d .bool,.d hIs,.d hIs,.d .bool,.d hIs,.d hIs]),(2,.var 140 true false [.d .bool,.d .nil,.d .nil,.d .bool,.d .nil,.d .nil,.d .bool,.d .nil,.d .nil,.d .bool,.d .nil,.d .nil])],[],[]⟩
abbrev Am2:Tm:=⟨[(1,.k (.hp 1 0 0)),(2,.k (.hp 2 0 0)),(3,.k (.hp 3 0 0)),(4,.k (.hp 4 0 0))],[(1,.var 140 true false [.d .bool,.d hIs,.d hIs,.d .bool,.d hIs,.d hIs,.d .bool,.d hIs,.d hIs,.d .bool,.d hIs,.d hIs]),(2,.var 140 true false [.d .bool,.d .nil,.d .nil,.d .bool,.d .nil,.d .nil,.d .bool,.d .nil,.d .nil,.d .bool,.d .nil,.d .nil]),(3,.var 54 true false [.d .bool,.d hIs,.d hIs]),(4,.var 54 true false [.d .bool,.d hIs,.d hIs])],[],[]⟩
def f192 (n:Nat) (a0:Rq × Rq × Rq × Rq):Option (Rq × Rq × Rq × Rq) :=
 ob (f131 n 1) λc =>
 ob (f142 n c a0.1) λa =>
 ob (f140 n a a) λb =>
 ob (f131 n 2) λd =>
 ob (f140 n b a) λe =>
 ob (f140 n d e) λf =>
 ob (f140 n a0.2.1 b) λg =>
 ob (f143 n g) λh =>
 ob (f140 n a0.2.2.1 b) λi =>
 ob (f143 n i) λj =>
 ob (f140 n a0.2.1 a0.2.2.1) λk =>
 ob (f140 n f k) λl =>
 ob (f140 n a0.2.2.2 b) λm =>
 ob (f139 n l m) λo =>
 some (a,h,j,o)
def Aut (n:Nat):Ent:=⟨192,[(.st (.pair hR (.pair hR (.pair hR hR))))],[(.st (.pair hR (.pair hR (.pair hR hR))))],λx=>f192 n x⟩
def Auu (α:Type) (n:Nat):D3 α:={ reg:=[(1,⟨0,[],[(0,{ ent:=some (C2 n) }),(3,{ ent:=some (Re n) })]⟩),(2,⟨0,[],[(2,{ ent:=some (Bl n) })]⟩),(3,⟨0,[],[(0,{ ent:=some (C2 n) }),(3,{ ent:=some (Bl n) }),(4,{ ent:=some (Bl n) })]⟩),(4,⟨23,[],[(4,{ ent:=some (Bl n) }),(5,{ ent:=some (Lh n) }),(9,{ ent:=some (Bl n) }),(10,{ ent:=some (Lh n) }),(16,{ ent:=some (Bl n) }),(17,{ ent:=some (Bl n) }),(21,{ ent:=some (Bl n) }),(22,{ ent:=some (Avs n) })]⟩)],join:=[],loop:=[],any:=[(1,Am3),(3,Am2)] }
set_option maxHeartbeats 8000000 in
theorem B42 (n:Nat):As TT ⟨42,[]⟩ [(0,{ ent:=some (C2 n) }),(3,{ ent:=some (Re n) })] Am3 (A9 ((A1 Tryz.f192).at [1,0])):=by
 refine ⟨by kernel_rfl,λw q hq=>?_⟩
 have e:WT [(0,{ ent:=some (C2 n) }),(3,{ ent:=some (Re n) })] (A7 (A9 ((A1 Tryz.f192).at [1,0])).toList) q=(∃ (y0:HL (C2 n).rs) (q0:List (Nat × RV)),q=(0,.sv (Aj (C2 n).rs y0))::q0 /\ ∃ (y1:HL (Re n).rs) (q1:List (Nat × RV)),q0=(3,.sv (Aj (Re n).rs y1))::q1/\q1=[]):=by kernel_rfl
 rw [e] at hq;obtain ⟨y0,q0,rfl,y1,q1,rfl,rfl⟩:=hq
 all_goals exact .inr ⟨5,by kernel_rfl,by kernel_rfl,by kernel_rfl⟩
set_option maxHeartbeats 8000000 in
theorem B41 (n:Nat):As TT ⟨42,[]⟩ [(0,{ ent:=some (C2 n) }),(3,{ ent:=some (Bl n) }),(4,{ ent:=some (Bl n) })] Am2 (A9 ((A1 Tryz.f192).at [1,1,1,0])):=by
 refine ⟨by kernel_rfl,λw q hq=>?_⟩
 have e:WT [(0,{ ent:=some (C2 n) }),(3,{ ent:=some (Bl n) }),(4,{ ent:=some (Bl n) })] (A7 (A9 ((A1 Tryz.f192).at [1,1,1,0])).toList) q=(∃ (y0:HL (C2 n).rs) (q0:List (Nat × RV)),q=(0,.sv (Aj (C2 n).rs y0))::q0 /\ ∃ (y1:HL (Bl n).rs) (q1:List (Nat × RV)),q0=(3,.sv (Aj (Bl n).rs y1))::q1 /\ ∃ (y2:HL (Bl n).rs) (q2:List (Nat × RV)),q1=(4,.sv (Aj (Bl n).rs y2))::q2/\q2=[]):=by kernel_rfl
 rw [e] at hq;obtain ⟨y0,q0,rfl,y1,q1,rfl,y2,q2,rfl,rfl⟩:=hq
 all_goals exact .inr ⟨6,by kernel_rfl,by kernel_rfl,by kernel_rfl⟩
theorem Aus (α:Type) (n:Nat):Ao PP (Af (Auu α n).reg):=⟨D7 n,B50 n,Cb n,D7 n,Cb n,Cb n,Cb n,K5 n,Cb n,K5 n,Cb n,Cb n,Cb n,B52 n,trivial⟩
theorem B92 (α:Type) (n:Nat):D3.OK PP TT ⟨42,[]⟩ (Auu α n) (A1 Tryz.f192) :=
 D3.OK.mk3a (Aus α n) (show Aa (A1 Tryz.f192)=[] by kernel_rfl) trivial (show B1 (A1 Tryz.f192)=[(1,A9 ((A1 Tryz.f192).at [1,0])),(3,A9 ((A1 Tryz.f192).at [1,1,1,0])),(4,A9 ((A1 Tryz.f192).at [1,1,1,1,0]))] by kernel_rfl) ⟨⟨B42 n,trivial⟩,⟨B41 n,trivial⟩,trivial,trivial⟩
theorem B40 (n:Nat):(Aut n).Sound PP:=fk (fn:=Tryz.f192) (B92 _ n)

def f145 (n:Nat) (a0:Rq):Option Bool :=
 bif (decide ((a0.2.1.length:Int)<=40)) then
  some (decide ((a0.2.2.length:Int)<=40))
 else
  some false
def Yd (n:Nat):Ent:=⟨145,[hR],[.bool],λx=>f145 n x⟩
def B9u (α:Type) (n:Nat):D3 α:={ reg:=[],join:=[],loop:=[] }
theorem A0d (n:Nat):(Yd n).Sound PP:=Au (fn:=Tryz.f145) (D:=B9u _ n) trivial

def f193 (n:Nat) (a0:Rq × Rq × Rq × Rq):Option Bool :=
 ob (f145 n a0.1) λa =>
 bif a then
  ob (f145 n a0.2.1) λb =>
  bif b then
   ob (f145 n a0.2.2.1) λc =>
   bif c then
    ob (f145 n a0.2.2.2) λd =>
    some d
   else
    some false
  else
   some false
 else
  some false
def Aur (n:Nat):Ent:=⟨193,[(.st (.pair hR (.pair hR (.pair hR hR))))],[.bool],λx=>f193 n x⟩
def B91 (α:Type) (n:Nat):D3 α:={ reg:=[(1,⟨0,[],[(2,{ ent:=some (Yd n) }),(6,{ ent:=some (Yd n) }),(11,{ ent:=some (Yd n) }),(16,{ ent:=some (Yd n) })]⟩)],join:=[],loop:=[] }
theorem B3z (n:Nat):(Aur n).Sound PP:=Au (fn:=Tryz.f193) (D:=B91 _ n) ⟨A0d n,A0d n,A0d n,A0d n,trivial⟩

def Yh {α:Type} (n:Nat) (d e g:LR) (h i:Int) (j:LN) (k l m o:Bool) (d2 b d3 p:Int) (q:Bool) (r s:LI) (t:Bool) (u v:LI) (w:Bool) (x y:LI) (z:Bool) (d0 d1:LI) (c:List (Rq × Rq × Rq × Rq)) (f:LR->LR->LR->Int->Int->LN->Bool->Bool->Bool->Bool->Int->Int->Int->Int->Bool->LI->LI->Bool->LI->LI->Bool->LI->LI->Bool->LI->LI->(List (Rq × Rq × Rq × Rq))->Option α) (k0:LR->LR->LR->Int->LN->Bool->Bool->Bool->Bool->Bool->LI->LI->Bool->LI->LI->Bool->LI->LI->Bool->LI->LI->(List (Rq × Rq × Rq × Rq))->Option α):Option α :=
 bif (decide (i<p)) then
  gd (decide (0<=b)&&decide (b<(c.length:Int))) (
   gd (decide (b.toNat<c.length)) (
    let d4:=c.getD b.toNat ((false,[],[]),(false,[],[]),(false,[],[]),(false,[],[]))
    ob (f191 n ((q,r,s),(t,u,v),(w,x,y),z,d0,d1) d4) λa =>
    f d e g h (W (i+1)) j k l m o d2 b d3 p a.1.1 a.1.2.1 a.1.2.2 a.2.1.1 a.2.1.2.1 a.2.1.2.2 a.2.2.1.1 a.2.2.1.2.1 a.2.2.1.2.2 a.2.2.2.1 a.2.2.2.2.1 a.2.2.2.2.2 c))
 else
  k0 d e g h j k l m o q r s t u v w x y z d0 d1 c
abbrev Pp:Tm:=⟨[(1,.d hRs),(2,.d hRs),(3,.d hRs),(4,.k (.hp 4 0 0)),(8,.k (.hp 8 0 0)),(10,.k (.hw 15)),(11,.d hI),(12,.k (.hp 12 0 0)),(13,.k (.hp 13 0 0)),(14,.d hI)],[(4,.var 43 true false [.d hNs]),(8,.var 140 true false [.d .bool,.d .nil,.d .nil,.d .bool,.d .nil,.d .nil,.d .bool,.d .nil,.d .nil,.d .bool,.d .nil,.d .nil]),(12,.var 85 true false [.d hI,.d hI,.d hI,.d hI]),(13,.var 140 true false [.d .bool,.d hIs,.d hIs,.d .bool,.d hIs,.d hIs,.d .bool,.d hIs,.d hIs,.d .bool,.d hIs,.d hIs]),(15,.arr 140 (.st (.pair hR (.pair hR (.pair hR hR)))) false)],[],[]⟩
abbrev Aqb:Tm:=⟨[(1,.d hRs),(2,.d hRs),(3,.d hRs),(4,.k (.hp 4 0 0)),(8,.k (.hp 8 0 0)),(10,.k (.hw 15)),(11,.d hI),(13,.k (.hp 13 0 0))],[(4,.var 43 true false [.d hNs]),(8,.var 140 true false [.d .bool,.d .nil,.d .nil,.d .bool,.d .nil,.d .nil,.d .bool,.d .nil,.d .nil,.d .bool,.d .nil,.d .nil]),(13,.var 140 true false [.d .bool,.d hIs,.d hIs,.d .bool,.d hIs,.d hIs,.d .bool,.d hIs,.d hIs,.d .bool,.d hIs,.d hIs]),(15,.arr 140 (.st (.pair hR (.pair hR (.pair hR hR)))) false)],[12],[]⟩
abbrev Yg:List (Exit × Tm):=[(.exit 3,Aqb)]
def Yf {α:Type} (n:Nat) (v:Pp.den) (f:Pp.den->Option α) (ks:KS α Yg):Option α:=Yh n v.1.1 v.1.2.1 v.1.2.2.1 v.1.2.2.2.2.2.2.1 v.1.2.2.2.2.2.2.2.2.2.1 v.2.1.1 v.2.2.1.1 v.2.2.1.2.2.2.1 v.2.2.1.2.2.2.2.2.2.1 v.2.2.1.2.2.2.2.2.2.2.2.2.1 v.2.2.2.1.1 v.2.2.2.1.2.1 v.2.2.2.1.2.2.1 v.2.2.2.1.2.2.2.1 v.2.2.2.2.1.1 v.2.2.2.2.1.2.1 v.2.2.2.2.1.2.2.1 v.2.2.2.2.1.2.2.2.1 v.2.2.2.2.1.2.2.2.2.1 v.2.2.2.2.1.2.2.2.2.2.1 v.2.2.2.2.1.2.2.2.2.2.2.1 v.2.2.2.2.1.2.2.2.2.2.2.2.1 v.2.2.2.2.1.2.2.2.2.2.2.2.2.1 v.2.2.2.2.1.2.2.2.2.2.2.2.2.2.1 v.2.2.2.2.1.2.2.2.2.2.2.2.2.2.2.1 v.2.2.2.2.1.2.2.2.2.2.2.2.2.2.2.2.1 v.2.2.2.2.2.1 (λa b c d e g h i j k l m o p q r s t u w x y z d0 d1 d2 d3=>f ((a,b,c,(),(),(),d,(),(),e,()),((g,()),(h,(),(),i,(),(),j,(),(),k,(),(),()),(l,m,o,p,()),(q,r,s,t,u,w,x,y,z,d0,d1,d2,()),d3,()))) (λw0 w1 w2 w3 w4 w5 w6 w7 w8 w9 w10 w11 w12 w13 w14 w15 w16 w17 w18 w19 w20 w21=>ks.1 ((w0,w1,w2,(),(),(),w3,(),()),((w4,()),(w5,(),(),w6,(),(),w7,(),(),w8,(),(),()),(w9,w10,w11,w12,w13,w14,w15,w16,w17,w18,w19,w20,()),w21,())))
def U8 {α:Type} (n m:Nat) (a b c:LR) (d e:Int) (f:LN) (g h i j:Bool) (k l o p:Int) (q:Bool) (r s:LI) (t:Bool) (u v:LI) (x:Bool) (y z:LI) (d0:Bool) (d1 d2:LI) (d3:List (Rq × Rq × Rq × Rq)) (k0:LR->LR->LR->Int->LN->Bool->Bool->Bool->Bool->Bool->LI->LI->Bool->LI->LI->Bool->LI->LI->Bool->LI->LI->(List (Rq × Rq × Rq × Rq))->Option α):Option α:=A5 (Yf n) m ((a,b,c,(),(),(),d,(),(),e,()),((f,()),(g,(),(),h,(),(),i,(),(),j,(),(),()),(k,l,o,p,()),(q,r,s,t,u,v,x,y,z,d0,d1,d2,()),d3,())) (λw=>k0 w.1.1 w.1.2.1 w.1.2.2.1 w.1.2.2.2.2.2.2.1 w.2.1.1 w.2.2.1.1 w.2.2.1.2.2.2.1 w.2.2.1.2.2.2.2.2.2.1 w.2.2.1.2.2.2.2.2.2.2.2.2.1 w.2.2.2.1.1 w.2.2.2.1.2.1 w.2.2.2.1.2.2.1 w.2.2.2.1.2.2.2.1 w.2.2.2.1.2.2.2.2.1 w.2.2.2.1.2.2.2.2.2.1 w.2.2.2.1.2.2.2.2.2.2.1 w.2.2.2.1.2.2.2.2.2.2.2.1 w.2.2.2.1.2.2.2.2.2.2.2.2.1 w.2.2.2.1.2.2.2.2.2.2.2.2.2.1 w.2.2.2.1.2.2.2.2.2.2.2.2.2.2.1 w.2.2.2.1.2.2.2.2.2.2.2.2.2.2.2.1 w.2.2.2.2.1,())
theorem Aqa {α n m a b c d e f g h i j k l o p q r s t u v w x y z d0 d1 d2 k0}:U8 (α:=α) n (m+1) a b c d e f g h i j k l o p q r s t u v w x y z d0 d1 d2 k0=Yh n a b c d e f g h i j k l o p q r s t u v w x y z d0 d1 d2 (λa b c d e f g h i j k l o p q r s t u v w x y z d0 d1 d2=>U8 n m a b c d e f g h i j k l o p q r s t u v w x y z d0 d1 d2 k0) k0:=rfl
def Ok {α:Type} (n:Nat) (m o p:LR) (c:Int) (l:LN) (q r s t:Bool) (b:List (Rq × Rq × Rq × Rq)) (f:LR->LR->LR->Int->LN->Bool->Bool->Bool->Bool->(List (Rq × Rq × Rq × Rq))->Option α) (k0:Int->Bool->Bool->Bool->Bool->Option α) (k1:Bool->Bool->Bool->Bool->(List (Rq × Rq × Rq × Rq))->Option α):Option α :=
 bif (decide (c<(l.length:Int))) then
  gd (decide (0<=c)&&decide (c<(l.length:Int))) (
   let a:=l.getD c.toNat (0,0,0,0)
   ob (f131 n 0) λe2 =>
   ob (f188 n e2) λj0 =>
   let u:=λ(e3:LR) (e4:LR) (e5:LR) (e6:Int) (e7:LN) (e8:Bool) (e9:Bool) (f0:Bool) (f1:Bool) (z:Bool) (d0:LI) (d1:LI) (d2:Bool) (d3:LI) (d4:LI) (d5:Bool) (d6:LI) (d7:LI) (d8:Bool) (d9:LI) (e0:LI) (e1:List (Rq × Rq × Rq × Rq))=>(
    ob (f193 n ((z,d0,d1),(d2,d3,d4),(d5,d6,d7),d8,d9,e0)) λf2 =>
    bif (!f2) then
     k0 7 false false false false
    else
     gd (decide ((e1.length+1)*224<=140737488355328)) (
      f e3 e4 e5 (W (e6+1)) e7 e8 e9 f0 f1 (e1++[((z,d0,d1),(d2,d3,d4),(d5,d6,d7),d8,d9,e0)])))
   bif (a.1==1) then
    ob (f131 n a.2.2.2) λf3 =>
    ob (f188 n f3) λd =>
    u m o p c l q r s t d.1.1 d.1.2.1 d.1.2.2 d.2.1.1 d.2.1.2.1 d.2.1.2.2 d.2.2.1.1 d.2.2.1.2.1 d.2.2.1.2.2 d.2.2.2.1 d.2.2.2.2.1 d.2.2.2.2.2 b
   else
    bif (a.1==2) then
     gd (decide (0<=a.2.2.2)&&decide (a.2.2.2<(m.length:Int))) (
      let v:=m.getD a.2.2.2.toNat (false,[],[])
      gd (decide (0<=a.2.2.2)&&decide (a.2.2.2<(o.length:Int))) (
       let w:=o.getD a.2.2.2.toNat (false,[],[])
       gd (decide (0<=a.2.2.2)&&decide (a.2.2.2<(p.length:Int))) (
        let x:=p.getD a.2.2.2.toNat (false,[],[])
        ob (f131 n 0) λy =>
        u m o p c l q r s t v.1 v.2.1 v.2.2 w.1 w.2.1 w.2.2 x.1 x.2.1 x.2.2 y.1 y.2.1 y.2.2 b)))
    else
     bif (a.1==3) then
      gd (decide (0<=a.2.1)&&decide (a.2.1<(b.length:Int))) (
       gd (decide (a.2.1.toNat<b.length)) (
        let f4:=b.getD a.2.1.toNat ((false,[],[]),(false,[],[]),(false,[],[]),(false,[],[]))
        gd (decide (0<=a.2.2.1)&&decide (a.2.2.1<(b.length:Int))) (
         gd (decide (a.2.2.1.toNat<b.length)) (
          let f5:=b.getD a.2.2.1.toNat ((false,[],[]),(false,[],[]),(false,[],[]),(false,[],[]))
          ob (f189 n f4 f5) λe =>
          u m o p c l q r s t e.1.1 e.1.2.1 e.1.2.2 e.2.1.1 e.2.1.2.1 e.2.1.2.2 e.2.2.1.1 e.2.2.1.2.1 e.2.2.1.2.2 e.2.2.2.1 e.2.2.2.2.1 e.2.2.2.2.2 b))))
     else
      bif (a.1==4) then
       gd (decide (0<=a.2.1)&&decide (a.2.1<(b.length:Int))) (
        gd (decide (a.2.1.toNat<b.length)) (
         let f6:=b.getD a.2.1.toNat ((false,[],[]),(false,[],[]),(false,[],[]),(false,[],[]))
         gd (decide (0<=a.2.2.1)&&decide (a.2.2.1<(b.length:Int))) (
          gd (decide (a.2.2.1.toNat<b.length)) (
           let f7:=b.getD a.2.2.1.toNat ((false,[],[]),(false,[],[]),(false,[],[]),(false,[],[]))
           ob (f190 n f7) λf8 =>
           ob (f189 n f6 f8) λg =>
           u m o p c l q r s t g.1.1 g.1.2.1 g.1.2.2 g.2.1.1 g.2.1.2.1 g.2.1.2.2 g.2.2.1.1 g.2.2.1.2.1 g.2.2.1.2.2 g.2.2.2.1 g.2.2.2.2.1 g.2.2.2.2.2 b))))
      else
       bif (a.1==5) then
        gd (decide (0<=a.2.1)&&decide (a.2.1<(b.length:Int))) (
         gd (decide (a.2.1.toNat<b.length)) (
          let f9:=b.getD a.2.1.toNat ((false,[],[]),(false,[],[]),(false,[],[]),(false,[],[]))
          gd (decide (0<=a.2.2.1)&&decide (a.2.2.1<(b.length:Int))) (
           gd (decide (a.2.2.1.toNat<b.length)) (
            let g0:=b.getD a.2.2.1.toNat ((false,[],[]),(false,[],[]),(false,[],[]),(false,[],[]))
            ob (f191 n f9 g0) λh =>
            u m o p c l q r s t h.1.1 h.1.2.1 h.1.2.2 h.2.1.1 h.2.1.2.1 h.2.1.2.2 h.2.2.1.1 h.2.2.1.2.1 h.2.2.1.2.2 h.2.2.2.1 h.2.2.2.2.1 h.2.2.2.2.2 b))))
       else
        bif (a.1==6) then
         gd (decide (0<=a.2.2.1)&&decide (a.2.2.1<(b.length:Int))) (
          gd (decide (a.2.2.1.toNat<b.length)) (
           let g1:=b.getD a.2.2.1.toNat ((false,[],[]),(false,[],[]),(false,[],[]),(false,[],[]))
           ob (f141 n g1.1) λg2 =>
           bif g2 then
            k0 10 false false false false
           else
            gd (decide (0<=a.2.1)&&decide (a.2.1<(b.length:Int))) (
             gd (decide (a.2.1.toNat<b.length)) (
              let g3:=b.getD a.2.1.toNat ((false,[],[]),(false,[],[]),(false,[],[]),(false,[],[]))
              gd (decide (0<=a.2.2.1)&&decide (a.2.2.1<(b.length:Int))) (
               gd (decide (a.2.2.1.toNat<b.length)) (
                let g4:=b.getD a.2.2.1.toNat ((false,[],[]),(false,[],[]),(false,[],[]),(false,[],[]))
                ob (f192 n g4) λg5 =>
                ob (f191 n g3 g5) λi =>
                u m o p c l q r s t i.1.1 i.1.2.1 i.1.2.2 i.2.1.1 i.2.1.2.1 i.2.1.2.2 i.2.2.1.1 i.2.2.1.2.1 i.2.2.1.2.2 i.2.2.2.1 i.2.2.2.2.1 i.2.2.2.2.2 b))))))
        else
         bif (a.1==7) then
          gd (decide (0<=a.2.1)&&decide (a.2.1<(b.length:Int))) (
           gd (decide (a.2.1.toNat<b.length)) (
            let g6:=b.getD a.2.1.toNat ((false,[],[]),(false,[],[]),(false,[],[]),(false,[],[]))
            ob (f190 n g6) λj =>
            u m o p c l q r s t j.1.1 j.1.2.1 j.1.2.2 j.2.1.1 j.2.1.2.1 j.2.1.2.2 j.2.2.1.1 j.2.2.1.2.1 j.2.2.1.2.2 j.2.2.2.1 j.2.2.2.2.1 j.2.2.2.2.2 b))
         else
          ob (f131 n 1) λg7 =>
          ob (f188 n g7) λk =>
          U8 n n m o p c 0 l q r s t a.1 a.2.1 a.2.2.1 a.2.2.2 k.1.1 k.1.2.1 k.1.2.2 k.2.1.1 k.2.1.2.1 k.2.1.2.2 k.2.2.1.1 k.2.2.1.2.1 k.2.2.1.2.2 k.2.2.2.1 k.2.2.2.2.1 k.2.2.2.2.2 b
           (λg8 g9 h0 h1 h2 h3 h4 h5 h6 h7 h8 h9 i0 i1 i2 i3 i4 i5 i6 i7 i8 i9=>(
            u g8 g9 h0 h1 h2 h3 h4 h5 h6 h7 h8 h9 i0 i1 i2 i3 i4 i5 i6 i7 i8 i9)))
 else
  k1 q r s t b
abbrev U7:Tm:=⟨[(1,.d hRs),(2,.d hRs),(3,.d hRs),(4,.k (.hp 4 0 0)),(8,.k (.hp 8 0 0)),(10,.k (.hw 15)),(11,.d hI)],[(4,.var 43 true false [.d hNs]),(8,.var 140 true false [.d .bool,.d .nil,.d .nil,.d .bool,.d .nil,.d .nil,.d .bool,.d .nil,.d .nil,.d .bool,.d .nil,.d .nil]),(15,.arr 140 (.st (.pair hR (.pair hR (.pair hR hR)))) false)],[13,148],[]⟩
abbrev Aw7:Tm:=⟨[(8,.k (.hp 8 0 0)),(9,.d hI)],[(8,.var 140 true false [.d .bool,.d .nil,.d .nil,.d .bool,.d .nil,.d .nil,.d .bool,.d .nil,.d .nil,.d .bool,.d .nil,.d .nil])],[4,12,13,15],[]⟩
abbrev Aw6:Tm:=⟨[(8,.k (.hp 8 0 0)),(10,.k (.hw 15))],[(8,.var 140 true false [.d .bool,.d .nil,.d .nil,.d .bool,.d .nil,.d .nil,.d .bool,.d .nil,.d .nil,.d .bool,.d .nil,.d .nil]),(15,.arr 140 (.st (.pair hR (.pair hR (.pair hR hR)))) false)],[4],[]⟩
abbrev A47:List (Exit × Tm):=[(.ret,Aw7),(.exit 0,Aw6)]
def A46 {α:Type} (n:Nat) (v:U7.den) (f:U7.den->Option α) (ks:KS α A47):Option α:=Ok n v.1.1 v.1.2.1 v.1.2.2.1 v.1.2.2.2.2.2.2.1 v.2.1.1 v.2.2.1.1 v.2.2.1.2.2.2.1 v.2.2.1.2.2.2.2.2.2.1 v.2.2.1.2.2.2.2.2.2.2.2.2.1 v.2.2.2.1 (λa b c d e g h i j k=>f ((a,b,c,(),(),(),d,()),((e,()),(g,(),(),h,(),(),i,(),(),j,(),(),()),k,()))) (λw0 w1 w2 w3 w4=>ks.1 (((),w0,()),((w1,(),(),w2,(),(),w3,(),(),w4,(),(),()),()))) (λw0 w1 w2 w3 w4=>ks.2.1 (((),(),()),((w0,(),(),w1,(),(),w2,(),(),w3,(),(),()),w4,())))
def A0e {α:Type} (n m:Nat) (a b c:LR) (d:Int) (e:LN) (f g h i:Bool) (j:List (Rq × Rq × Rq × Rq)) (k0:Int->Bool->Bool->Bool->Bool->Option α) (k1:Bool->Bool->Bool->Bool->(List (Rq × Rq × Rq × Rq))->Option α):Option α:=A5 (A46 n) m ((a,b,c,(),(),(),d,()),((e,()),(f,(),(),g,(),(),h,(),(),i,(),(),()),j,())) (λw=>k0 w.1.2.1 w.2.1.1 w.2.1.2.2.2.1 w.2.1.2.2.2.2.2.2.1 w.2.1.2.2.2.2.2.2.2.2.2.1,λw=>k1 w.2.1.1 w.2.1.2.2.2.1 w.2.1.2.2.2.2.2.2.1 w.2.1.2.2.2.2.2.2.2.2.2.1 w.2.2.1,())
theorem Aw4 {α n m a b c d e f g h i j k0 k1}:A0e (α:=α) n (m+1) a b c d e f g h i j k0 k1=Ok n a b c d e f g h i j (λa b c d e f g h i j=>A0e n m a b c d e f g h i j k0 k1) k0 k1:=rfl
abbrev B0e:Tm:=⟨[(1,.d hRs),(2,.d hRs),(3,.d hRs),(4,.k (.hp 4 0 0)),(8,.k (.hp 8 0 0)),(10,.k (.hw 15)),(11,.d hI),(13,.k (.hp 13 0 0))],[(4,.var 43 true false [.d hNs]),(8,.var 140 true false [.d .bool,.d .nil,.d .nil,.d .bool,.d .nil,.d .nil,.d .bool,.d .nil,.d .nil,.d .bool,.d .nil,.d .nil]),(13,.var 140 true false [.d .bool,.d hIs,.d hIs,.d .bool,.d hIs,.d hIs,.d .bool,.d hIs,.d hIs,.d .bool,.d hIs,.d hIs]),(15,.arr 140 (.st (.pair hR (.pair hR (.pair hR hR)))) false)],[12],[]⟩
def f126 (n:Nat) (a0:LN) (a1 a2 a3:LR):Option ((Rq × Rq × Rq × Rq) × Int) :=
 A0e n n a1 a2 a3 0 a0 false false false false []
  (λb c d e f=>(
   some (((c,[],[]),(d,[],[]),(e,[],[]),f,[],[]),b)))
  (λh i j k a=>(
   gd (decide (0<=(W ((a.length:Int)-1)))&&decide ((W ((a.length:Int)-1))<(a.length:Int))) (
    gd (decide ((W ((a.length:Int)-1)).toNat<a.length)) (
     let g:=a.getD ((W ((a.length:Int)-1)).toNat) ((false,[],[]),(false,[],[]),(false,[],[]),(false,[],[]))
     some (g,0)))))
def Rg (n:Nat):Ent:=⟨126,[hE,hRs,hRs,hRs],[(.st (.pair hR (.pair hR (.pair hR hR)))),hI],λx=>f126 n x.1 x.2.1 x.2.2.1 x.2.2.2⟩
def A78 (α:Type) (n:Nat):D3 α:={ reg:=[(1,⟨0,[],[(0,{ sh:=some (.st (.pair hR (.pair hR (.pair hR hR)))) })]⟩),(6,⟨0,[],[(0,{ ent:=some (C2 n) }),(1,{ ent:=some (A6l n) })]⟩),(8,⟨0,[],[(0,{ ent:=some (C2 n) }),(1,{ ent:=some (A6l n) })]⟩),(12,⟨6,[],[(6,{ ent:=some (A6k n) })]⟩),(14,⟨0,[],[(2,{ ent:=some (C2 n) }),(3,{ ent:=some (A6l n) })]⟩),(16,⟨16,[],[(15,{ ent:=some (C2 n) })]⟩),(18,⟨10,[],[(10,{ ent:=some (Agw n) })]⟩),(20,⟨11,[],[(10,{ ent:=some (Agv n) }),(11,{ ent:=some (Agw n) })]⟩),(22,⟨10,[],[(10,{ ent:=some (A6k n) })]⟩),(24,⟨0,[],[(6,{ ent:=some (Avr n) })]⟩),(26,⟨11,[],[(10,{ ent:=some (Aut n) }),(11,{ ent:=some (A6k n) })]⟩),(28,⟨0,[],[(5,{ ent:=some (Agv n) })]⟩),(29,⟨0,[],[(1,{ ent:=some (Aur n) })]⟩),(31,⟨0,[],[(2,{ sh:=some (.st (.pair hR (.pair hR (.pair hR hR)))) })]⟩)],join:=[(29,B0e)],loop:=[(10,⟨Pp,Yg,A5 (Yf n) n⟩),(3,⟨U7,A47,A5 (A46 n) n⟩)] }
theorem Ye (α:Type) (n:Nat):Ao PP (Af (A78 α n).reg):=⟨D7 n,A9g n,D7 n,A9g n,A9f n,D7 n,A9g n,D7 n,Am5 n,Am4 n,Am5 n,A9f n,B51 n,B40 n,A9f n,Am4 n,B3z n,trivial⟩
theorem Akc (α:Type) (n:Nat):LO.Sound (α:=α) PP ⟨156,[]⟩ ⟨Pp,Yg,A5 (Yf n) n⟩ (.loop ((A1 Tryz.f126).at [1,1,0,1,0,0,1,0,0,1,1,0,1,0,1,1,1,1,1,1,1,1,1,1,1,1,1,1,1,1,0,0])):=C0 (D:=A78 α n) (Ye α n) n
theorem Aw5 (α:Type) (n:Nat):D3.OK PP TT ⟨156,[]⟩ (A78 α n) ((A1 Tryz.f126).at [1,1,0,1,0,0]) :=
 D3.OK.mk3 (Ye α n) (show Aa ((A1 Tryz.f126).at [1,1,0,1,0,0])=[(10,(.loop ((A1 Tryz.f126).at [1,1,0,1,0,0,1,0,0,1,1,0,1,0,1,1,1,1,1,1,1,1,1,1,1,1,1,1,1,1,0,0])))] by kernel_rfl) ⟨Ab rfl (Akc α n),trivial⟩
theorem Aq9 (α:Type) (n:Nat):LO.Sound (α:=α) PP ⟨156,[]⟩ ⟨U7,A47,A5 (A46 n) n⟩ (.loop ((A1 Tryz.f126).at [1,1,0,1,0,0])):=lk (Aw5 α n) n
theorem Ba8 (α:Type) (n:Nat):D3.OK PP TT ⟨156,[]⟩ (A78 α n) (A1 Tryz.f126) :=
 D3.OK.mk3 (Ye α n) (show Aa (A1 Tryz.f126)=[(3,(.loop ((A1 Tryz.f126).at [1,1,0,1,0,0])))] by kernel_rfl) ⟨Ab rfl (Aq9 α n),trivial⟩
theorem B5d (n:Nat):(Rg n).Sound PP:=fk (fn:=Tryz.f126) (Ba8 _ n)

abbrev Amo:Tm:=⟨[(1,.k (.hp 1 0 0)),(2,.k (.hp 2 0 0))],[(1,.var 54 true false [.d .bool,.d hIs,.d hIs]),(2,.var 54 true false [.d .bool,.d .nil,.d .nil])],[],[]⟩
def f127 (n:Nat) (a0:Rq):Option Rq :=
 gd (decide ((0+a0.2.1.length)*8<=140737488355328)) (
  gd (decide ((0+a0.2.2.length)*8<=140737488355328)) (
   some a0))
def Aw2 (n:Nat):Ent:=⟨127,[hR],[hR],λx=>f127 n x⟩
def Aw3 (α:Type) (n:Nat):D3 α:={ reg:=[(1,⟨0,[],[(2,{ sh:=some hI }),(6,{ sh:=some hI })]⟩)],join:=[],loop:=[],any:=[(1,Amo)] }
set_option maxHeartbeats 8000000 in
theorem B5c (n:Nat):As TT ⟨14,[]⟩ [(2,{ sh:=some hI }),(6,{ sh:=some hI })] Amo (A9 ((A1 Tryz.f127).at [1,0])):=by
 refine ⟨by kernel_rfl,λw q hq=>?_⟩
 have e:WT [(2,{ sh:=some hI }),(6,{ sh:=some hI })] (A7 (A9 ((A1 Tryz.f127).at [1,0])).toList) q=(q=[]):=by kernel_rfl
 rw [e] at hq;obtain rfl:=hq
 all_goals exact .inl (Mo.mk (by kernel_rfl))
theorem Aw1 (α:Type) (n:Nat):Ao PP (Af (Aw3 α n).reg):=trivial
theorem Ba7 (α:Type) (n:Nat):D3.OK PP TT ⟨14,[]⟩ (Aw3 α n) (A1 Tryz.f127) :=
 D3.OK.mk3a (Aw1 α n) (show Aa (A1 Tryz.f127)=[] by kernel_rfl) trivial (show B1 (A1 Tryz.f127)=[(1,A9 ((A1 Tryz.f127).at [1,0]))] by kernel_rfl) ⟨⟨B5c n,trivial⟩,trivial⟩
theorem B5b (n:Nat):(Aw2 n).Sound PP:=fk (fn:=Tryz.f127) (Ba7 _ n)

def Zj {α:Type} (n:Nat) (a e:LR) (b:Int) (g:LN) (c:LR) (f:LR->LR->Int->LN->LR->Option α) (k0:Int->LR->Option α) (k1:LR->Option α):Option α :=
 bif (decide (b<(a.length:Int))) then
  ob (f81 n (a.length:Int) b) λh =>
  ob (f126 n g a h e) λd =>
  bif (d.2 != 0) then
   k0 d.2 []
  else
   ob (f127 n d.1.2.2.2) λi =>
   gd (decide ((c.length+1)*56<=140737488355328)) (
    f a e (W (b+1)) g (c++[i]))
 else
  k1 c
abbrev Zi:Tm:=⟨[(1,.d hRs),(2,.d hRs),(3,.k (.hp 3 0 0)),(8,.k (.hw 12)),(9,.d hI)],[(3,.var 43 true false [.d hNs]),(12,.arr 54 hR false)],[10,38],[]⟩
abbrev Az3:Tm:=⟨[(6,.k (.hw 32)),(7,.d hI)],[(32,.arr 54 hR false)],[3,10,12],[]⟩
abbrev Az2:Tm:=⟨[(8,.k (.hw 12))],[(12,.arr 54 hR false)],[3],[]⟩
abbrev A8m:List (Exit × Tm):=[(.ret,Az3),(.exit 0,Az2)]
def A8l {α:Type} (n:Nat) (v:Zi.den) (f:Zi.den->Option α) (ks:KS α A8m):Option α:=Zj n v.1.1 v.1.2.1 v.1.2.2.2.2.1 v.2.1.1 v.2.2.1 (λa b c d e=>f ((a,b,(),(),c,()),((d,()),e,()))) (λw0 w1=>ks.1 (((),w0,()),(w1,()))) (λw0=>ks.2.1 (((),()),(w0,())))
def A5z {α:Type} (n m:Nat) (a b:LR) (c:Int) (d:LN) (e:LR) (k0:Int->LR->Option α) (k1:LR->Option α):Option α:=A5 (A8l n) m ((a,b,(),(),c,()),((d,()),e,())) (λw=>k0 w.1.2.1 w.2.1,λw=>k1 w.2.1,())
theorem Afm {α n m a b c d e k0 k1}:A5z (α:=α) n (m+1) a b c d e k0 k1=Zj n a b c d e (λa b c d e=>A5z n m a b c d e k0 k1) k0 k1:=rfl
abbrev At1:Tm:=⟨[(1,.d hRs),(2,.d hRs),(3,.k (.hp 3 0 0)),(8,.k (.hw 12)),(9,.d hI)],[(3,.var 43 true false [.d hNs]),(12,.arr 54 hR false)],[],[]⟩
def f80 (n:Nat) (a0:LN) (a1 a2:LR):Option (LR × Int) :=
 A5z n n a1 a2 0 a0 []
  (λa b=>(
   some (b,a)))
  (λc=>(
   some (c,0)))
def Aod (n:Nat):Ent:=⟨80,[hE,hRs,hRs],[hRs,hI],λx=>f80 n x.1 x.2.1 x.2.2⟩
def Aoe (α:Type) (n:Nat):D3 α:={ reg:=[(1,⟨0,[],[(0,{ sh:=some hR })]⟩),(5,⟨0,[],[(5,{ ent:=some (Sq n) }),(7,{ ent:=some (Rg n) })]⟩),(7,⟨0,[],[(0,{ sh:=some hR })]⟩),(8,⟨0,[],[(3,{ ent:=some (Aw2 n) }),(4,{ sh:=some hR })]⟩)],join:=[],loop:=[(3,⟨Zi,A8m,A5 (A8l n) n⟩)],any:=[(5,At1)] }
set_option maxHeartbeats 8000000 in
theorem At2 (n:Nat):As TT ⟨41,[]⟩ [(5,{ ent:=some (Sq n) }),(7,{ ent:=some (Rg n) })] At1 (A9 ((A1 Tryz.f80).at [1,1,0,1,0,0,1,0,0,0])):=by
 refine ⟨by kernel_rfl,λw q hq=>?_⟩
 have e:WT [(5,{ ent:=some (Sq n) }),(7,{ ent:=some (Rg n) })] (A7 (A9 ((A1 Tryz.f80).at [1,1,0,1,0,0,1,0,0,0])).toList) q=(∃ (y0:HL (Sq n).rs) (q0:List (Nat × RV)),q=(5,.sv (Aj (Sq n).rs y0))::q0 /\ ∃ (y1:HL (Rg n).rs) (q1:List (Nat × RV)),q0=(7,.sv (Aj (Rg n).rs y1))::q1/\q1=[]):=by kernel_rfl
 rw [e] at hq;obtain ⟨y0,q0,rfl,y1,q1,rfl,rfl⟩:=hq
 all_goals exact .inr ⟨13,by kernel_rfl,by kernel_rfl,by kernel_rfl⟩
theorem Afl (α:Type) (n:Nat):Ao PP (Af (Aoe α n).reg):=⟨Asy n,B5d n,B5b n,trivial⟩
theorem Az1 (α:Type) (n:Nat):D3.OK PP TT ⟨41,[]⟩ (Aoe α n) ((A1 Tryz.f80).at [1,1,0,1,0,0]) :=
 D3.OK.mk3a (Afl α n) (show Aa ((A1 Tryz.f80).at [1,1,0,1,0,0])=[] by kernel_rfl) trivial (show B1 ((A1 Tryz.f80).at [1,1,0,1,0,0])=[(5,A9 ((A1 Tryz.f80).at [1,1,0,1,0,0,1,0,0,0]))] by kernel_rfl) ⟨⟨At2 n,trivial⟩,trivial⟩
theorem At0 (α:Type) (n:Nat):LO.Sound (α:=α) PP ⟨41,[]⟩ ⟨Zi,A8m,A5 (A8l n) n⟩ (.loop ((A1 Tryz.f80).at [1,1,0,1,0,0])):=lk (Az1 α n) n
theorem Bbq (α:Type) (n:Nat):D3.OK PP TT ⟨41,[]⟩ (Aoe α n) (A1 Tryz.f80) :=
 D3.OK.mk3a (Afl α n) (show Aa (A1 Tryz.f80)=[(3,(.loop ((A1 Tryz.f80).at [1,1,0,1,0,0])))] by kernel_rfl) ⟨Ab rfl (At0 α n),trivial⟩ (show B1 (A1 Tryz.f80)=[(5,A9 ((A1 Tryz.f80).at [1,1,0,1,0,0,1,0,0,0]))] by kernel_rfl) ⟨⟨At2 n,trivial⟩,trivial⟩
theorem Asz (n:Nat):(Aod n).Sound PP:=fk (fn:=Tryz.f80) (Bbq _ n)

def Zt {α:Type} (n:Nat) (a:LR) (c:Int) (e:LN) (d:LR) (f:LR->Int->LN->LR->Option α) (k0:Int->LR->Option α) (k1:LR->Option α):Option α :=
 bif (decide (c<(a.length:Int))) then
  ob (f81 n (a.length:Int) c) λg =>
  ob (f80 n e a g) λb =>
  bif (b.2 != 0) then
   k0 b.2 []
  else
   gd (decide ((d.length+b.1.length)*56<=140737488355328)) (
    f a (W (c+1)) e (d++b.1))
 else
  k1 d
abbrev Zs:Tm:=⟨[(1,.d hRs),(2,.k (.hp 2 0 0)),(7,.k (.hw 22)),(8,.d hI)],[(2,.var 43 true false [.d hNs]),(22,.arr 54 hR false)],[],[]⟩
abbrev Azh:Tm:=⟨[(4,.k (.hw 41)),(5,.d hI)],[(41,.arr 54 hR false)],[2,22],[]⟩
abbrev Azg:Tm:=⟨[(7,.k (.hw 22))],[(22,.arr 54 hR false)],[2],[]⟩
abbrev A93:List (Exit × Tm):=[(.ret,Azh),(.exit 0,Azg)]
def A92 {α:Type} (n:Nat) (v:Zs.den) (f:Zs.den->Option α) (ks:KS α A93):Option α:=Zt n v.1.1 v.1.2.2.2.1 v.2.1.1 v.2.2.1 (λa b c d=>f ((a,(),(),b,()),((c,()),d,()))) (λw0 w1=>ks.1 (((),w0,()),(w1,()))) (λw0=>ks.2.1 (((),()),(w0,())))
def A65 {α:Type} (n m:Nat) (a:LR) (b:Int) (c:LN) (d:LR) (k0:Int->LR->Option α) (k1:LR->Option α):Option α:=A5 (A92 n) m ((a,(),(),b,()),((c,()),d,())) (λw=>k0 w.1.2.1 w.2.1,λw=>k1 w.2.1,())
theorem Ag2 {α n m a b c d k0 k1}:A65 (α:=α) n (m+1) a b c d k0 k1=Zt n a b c d (λa b c d=>A65 n m a b c d k0 k1) k0 k1:=rfl
def f35 (n:Nat) (a0:LN) (a1:LR):Option (LR × Int) :=
 bif (decide ((a1.length:Int)>4096)) then
  some ([],2)
 else
  ob (f74 n a0 a1) λa =>
  bif (a != 0) then
   some ([],a)
  else
   A65 n n a1 0 a0 []
    (λb c=>(
     some (c,b)))
    (λd=>(
     some (d,0)))
def B1w (n:Nat):Ent:=⟨35,[hE,hRs],[hRs,hI],λx=>f35 n x.1 x.2⟩
def Aop (α:Type) (n:Nat):D3 α:={ reg:=[(2,⟨0,[],[(0,{ sh:=some hR })]⟩),(3,⟨0,[],[(2,{ ent:=some (Aoh n) })]⟩),(5,⟨0,[],[(0,{ sh:=some hR })]⟩),(6,⟨0,[],[(0,{ sh:=some hR })]⟩),(10,⟨11,[],[(5,{ ent:=some (Sq n) }),(6,{ ent:=some (Aod n) })]⟩),(12,⟨0,[],[(0,{ sh:=some hR })]⟩)],join:=[],loop:=[(8,⟨Zs,A93,A5 (A92 n) n⟩)] }
theorem Ag1 (α:Type) (n:Nat):Ao PP (Af (Aop α n).reg):=⟨At6 n,Asy n,Asz n,trivial⟩
theorem Atj (α:Type) (n:Nat):LO.Sound (α:=α) PP ⟨47,[]⟩ ⟨Zs,A93,A5 (A92 n) n⟩ (.loop ((A1 Tryz.f35).at [1,1,1,1,0,1,0,0])):=C0 (D:=Aop α n) (Ag1 α n) n
theorem Bc9 (α:Type) (n:Nat):D3.OK PP TT ⟨47,[]⟩ (Aop α n) (A1 Tryz.f35) :=
 D3.OK.mk3 (Ag1 α n) (show Aa (A1 Tryz.f35)=[(8,(.loop ((A1 Tryz.f35).at [1,1,1,1,0,1,0,0])))] by kernel_rfl) ⟨Ab rfl (Atj α n),trivial⟩
theorem B83 (n:Nat):(B1w n).Sound PP:=fk (fn:=Tryz.f35) (Bc9 _ n)

abbrev B7h:Tm:=⟨[(0,.d hRs),(1,.d hRs),(5,.d .bool)],[],[],[]⟩
abbrev B7g:Tm:=⟨[(0,.d hRs),(1,.d hRs),(14,.d .bool)],[],[],[]⟩
def f92 (n:Nat) (a0 a1:LR):Option Int :=
 let a:=λ(c:Bool)=>(
  bif c then
   some 2
  else
   let b:=λ(d:Bool)=>(
    bif d then
     some 1
    else
     bif ((a0.length:Int) != (a1.length:Int)) then
      some 8
     else
      some 0)
   ob (f116 n a0) λe =>
   bif (!e) then
    b true
   else
    ob (f116 n a1) λf =>
    b (!f))
 bif (decide ((a0.length:Int)>4096)) then
  a true
 else
  a (decide ((a1.length:Int)>4096))
def B1l (n:Nat):Ent:=⟨92,[hRs,hRs],[hI],λx=>f92 n x.1 x.2⟩
def Bbj (α:Type) (n:Nat):D3 α:={ reg:=[(3,⟨0,[],[(1,{ ent:=some (A7b n) }),(5,{ ent:=some (A7b n) })]⟩)],join:=[(2,B7h),(4,B7g)],loop:=[] }
theorem B7f (n:Nat):(B1l n).Sound PP:=Au (fn:=Tryz.f92) (D:=Bbj _ n) ⟨A9y n,A9y n,trivial⟩

def f82 (n:Nat) (a0:LN) (a1 a2:LR):Option Int :=
 ob (f74 n a0 a1) λa =>
 bif (a != 0) then
  some a
 else
  ob (f92 n a1 a2) λb =>
  some b
def B1p (n:Nat):Ent:=⟨82,[hE,hRs,hRs],[hI],λx=>f82 n x.1 x.2.1 x.2.2⟩
def Bbo (α:Type) (n:Nat):D3 α:={ reg:=[(1,⟨0,[],[(2,{ ent:=some (Aoh n) })]⟩),(4,⟨0,[],[(2,{ ent:=some (B1l n) })]⟩)],join:=[],loop:=[] }
theorem B7m (n:Nat):(B1p n).Sound PP:=Au (fn:=Tryz.f82) (D:=Bbo _ n) ⟨At6 n,B7f n,trivial⟩

def f36 (n:Nat) (a0:LN) (a1 a2:LR):Option (LR × Int) :=
 bif (decide ((a1.length:Int)>4096)) then
  some ([],2)
 else
  bif (decide ((a2.length:Int)>4096)) then
   some ([],2)
  else
   ob (f82 n a0 a1 a2) λa =>
   bif (a != 0) then
    some ([],a)
   else
    ob (f80 n a0 a1 a2) λb =>
    some (b.1,b.2)
def B1v (n:Nat):Ent:=⟨36,[hE,hRs,hRs],[hRs,hI],λx=>f36 n x.1 x.2.1 x.2.2⟩
def Bc8 (α:Type) (n:Nat):D3 α:={ reg:=[(2,⟨0,[],[(0,{ sh:=some hR })]⟩),(3,⟨0,[],[(3,{ ent:=some (B1p n) })]⟩),(5,⟨0,[],[(0,{ sh:=some hR })]⟩),(6,⟨0,[],[(3,{ ent:=some (Aod n) })]⟩)],join:=[],loop:=[] }
theorem B82 (n:Nat):(B1v n).Sound PP:=Au (fn:=Tryz.f36) (D:=Bc8 _ n) ⟨B7m n,Asz n,trivial⟩

def A8p {α:Type} (n:Nat) (b c:LI) (a:Int) (f:LI->LI->Int->Option α) (k0:Bool->Option α) (k1:Unit->Option α):Option α :=
 bif (decide (a<(b.length:Int))) then
  gd (decide (0<=a)&&decide (a<(b.length:Int))) (
   gd (decide (0<=a)&&decide (a<(c.length:Int))) (
    bif ((b.getD a.toNat 0) != (c.getD a.toNat 0)) then
     k0 false
    else
     f b c (W (a+1))))
 else
  k1 ()
abbrev Zk:Tm:=⟨[(0,.d hIs),(1,.d hIs),(5,.d hI)],[],[],[]⟩
abbrev Az6:Tm:=⟨[(4,.d .bool)],[],[],[]⟩
abbrev Az5:Tm:=⟨[],[],[],[]⟩
abbrev A8o:List (Exit × Tm):=[(.ret,Az6),(.exit 0,Az5)]
def A8n {α:Type} (n:Nat) (v:Zk.den) (f:Zk.den->Option α) (ks:KS α A8o):Option α:=A8p n v.1.1 v.1.2.1 v.1.2.2.1 (λa b c=>f ((a,b,c,()),())) (λw0=>ks.1 ((w0,()),())) (λ_=>ks.2.1 ((),()))
def Xg {α:Type} (n m:Nat) (a b:LI) (c:Int) (k0:Bool->Option α) (k1:Unit->Option α):Option α:=A5 (A8n n) m ((a,b,c,()),()) (λw=>k0 w.1.1,λw=>k1 (),())
theorem Az4 {α n m a b c k0 k1}:Xg (α:=α) n (m+1) a b c k0 k1=A8p n a b c (λa b c=>Xg n m a b c k0 k1) k0 k1:=rfl
def f77 (n:Nat) (a0 a1:LI):Option Bool :=
 bif ((a0.length:Int) != (a1.length:Int)) then
  some false
 else
  Xg n n a0 a1 0
   (λa=>(
    some a))
   (λ(_:Unit)=>(
    some true))
def Aof (n:Nat):Ent:=⟨77,[hIs,hIs],[.bool],λx=>f77 n x.1 x.2⟩
def Aog (α:Type) (n:Nat):D3 α:={ reg:=[(6,⟨8,[],[]⟩)],join:=[],loop:=[(4,⟨Zk,A8o,A5 (A8n n) n⟩)] }
theorem Afo (α:Type) (n:Nat):Ao PP (Af (Aog α n).reg):=trivial
theorem At5 (α:Type) (n:Nat):LO.Sound (α:=α) PP ⟨26,[]⟩ ⟨Zk,A8o,A5 (A8n n) n⟩ (.loop ((A1 Tryz.f77).at [1,1,0,1,0,0])):=C0 (D:=Aog α n) (Afo α n) n
theorem Bbs (α:Type) (n:Nat):D3.OK PP TT ⟨26,[]⟩ (Aog α n) (A1 Tryz.f77) :=
 D3.OK.mk3 (Afo α n) (show Aa (A1 Tryz.f77)=[(4,(.loop ((A1 Tryz.f77).at [1,1,0,1,0,0])))] by kernel_rfl) ⟨Ab rfl (At5 α n),trivial⟩
theorem At3 (n:Nat):(Aof n).Sound PP:=fk (fn:=Tryz.f77) (Bbs _ n)

def f32 (n:Nat) (a0 a1:Rq):Option Bool :=
 bif (a0.1==a1.1) then
  ob (f77 n a0.2.1 a1.2.1) λa =>
  bif a then
   ob (f77 n a0.2.2 a1.2.2) λb =>
   some b
  else
   some false
 else
  some false
def B1y (n:Nat):Ent:=⟨32,[hR,hR],[.bool],λx=>f32 n x.1 x.2⟩
def Bcb (α:Type) (n:Nat):D3 α:={ reg:=[(1,⟨0,[],[(10,{ ent:=some (Aof n) }),(17,{ ent:=some (Aof n) })]⟩)],join:=[],loop:=[] }
theorem B85 (n:Nat):(B1y n).Sound PP:=Au (fn:=Tryz.f32) (D:=Bcb _ n) ⟨At3 n,At3 n,trivial⟩

def A98 {α:Type} (n:Nat) (b c:LR) (a:Int) (f:LR->LR->Int->Option α) (k0:Bool->Option α) (k1:Unit->Option α):Option α :=
 bif (decide (a<(b.length:Int))) then
  gd (decide (0<=a)&&decide (a<(b.length:Int))) (
   let d:=b.getD a.toNat (false,[],[])
   gd (decide (0<=a)&&decide (a<(c.length:Int))) (
    let e:=c.getD a.toNat (false,[],[])
    ob (f32 n d e) λg =>
    bif (!g) then
     k0 false
    else
     f b c (W (a+1))))
 else
  k1 ()
abbrev Zw:Tm:=⟨[(0,.d hRs),(1,.d hRs),(5,.d hI)],[],[],[]⟩
abbrev Azn:Tm:=⟨[(4,.d .bool)],[],[],[]⟩
abbrev Azm:Tm:=⟨[],[],[],[]⟩
abbrev A97:List (Exit × Tm):=[(.ret,Azn),(.exit 0,Azm)]
def A96 {α:Type} (n:Nat) (v:Zw.den) (f:Zw.den->Option α) (ks:KS α A97):Option α:=A98 n v.1.1 v.1.2.1 v.1.2.2.1 (λa b c=>f ((a,b,c,()),())) (λw0=>ks.1 ((w0,()),())) (λ_=>ks.2.1 ((),()))
def Xi {α:Type} (n m:Nat) (a b:LR) (c:Int) (k0:Bool->Option α) (k1:Unit->Option α):Option α:=A5 (A96 n) m ((a,b,c,()),()) (λw=>k0 w.1.1,λw=>k1 (),())
theorem Azl {α n m a b c k0 k1}:Xi (α:=α) n (m+1) a b c k0 k1=A98 n a b c (λa b c=>Xi n m a b c k0 k1) k0 k1:=rfl
def f25 (n:Nat) (a0 a1:LR):Option Bool :=
 bif ((a0.length:Int) != (a1.length:Int)) then
  some false
 else
  Xi n n a0 a1 0
   (λa=>(
    some a))
   (λ(_:Unit)=>(
    some true))
def A68 (n:Nat):Ent:=⟨25,[hRs,hRs],[.bool],λx=>f25 n x.1 x.2⟩
def Aos (α:Type) (n:Nat):D3 α:={ reg:=[(6,⟨8,[],[(8,{ ent:=some (B1y n) })]⟩)],join:=[],loop:=[(4,⟨Zw,A97,A5 (A96 n) n⟩)] }
theorem Ag6 (α:Type) (n:Nat):Ao PP (Af (Aos α n).reg):=⟨B85 n,trivial⟩
theorem Atn (α:Type) (n:Nat):LO.Sound (α:=α) PP ⟨27,[]⟩ ⟨Zw,A97,A5 (A96 n) n⟩ (.loop ((A1 Tryz.f25).at [1,1,0,1,0,0])):=C0 (D:=Aos α n) (Ag6 α n) n
theorem Bcd (α:Type) (n:Nat):D3.OK PP TT ⟨27,[]⟩ (Aos α n) (A1 Tryz.f25) :=
 D3.OK.mk3 (Ag6 α n) (show Aa (A1 Tryz.f25)=[(4,(.loop ((A1 Tryz.f25).at [1,1,0,1,0,0])))] by kernel_rfl) ⟨Ab rfl (Atn α n),trivial⟩
theorem A67 (n:Nat):(A68 n).Sound PP:=fk (fn:=Tryz.f25) (Bcd _ n)

def f135 (n:Nat) (a0:LR) (a1:Int):Option Bool :=
 ob (f177 n a1 1 4) λa =>
 bif a then
  bif ((a0.length:Int)==(W (a1*a1))) then
   ob (f185 n a0) λb =>
   some (b==0)
  else
   some false
 else
  some false
def Avu (n:Nat):Ent:=⟨135,[hRs,hI],[.bool],λx=>f135 n x.1 x.2⟩
def Ba2 (α:Type) (n:Nat):D3 α:={ reg:=[(1,⟨0,[],[(1,{ ent:=some (Lf n) }),(12,{ ent:=some (Agz n) })]⟩)],join:=[],loop:=[] }
theorem B55 (n:Nat):(Avu n).Sound PP:=Au (fn:=Tryz.f135) (D:=Ba2 _ n) ⟨K3 n,Am8 n,trivial⟩

def f134 (n:Nat) (a0:LR) (a1:Int):Option Bool :=
 ob (f135 n a0 a1) λa =>
 some (!a)
def Avv (n:Nat):Ent:=⟨134,[hRs,(.ref hI)],[.bool],λx=>f134 n x.1 x.2⟩
def Ba3 (α:Type) (n:Nat):D3 α:={ reg:=[(1,⟨0,[],[(2,{ ent:=some (Avu n) })]⟩)],join:=[],loop:=[] }
theorem B57 (n:Nat):(Avv n).Sound PP:=Au (fn:=Tryz.f134) (D:=Ba3 _ n) ⟨B55 n,trivial⟩

def O8 {α:Type} (n:Nat) (b:List LR) (c d a:Int) (f:(List LR)->Int->Int->Int->Option α) (k0:Int->Option α) (k1:Unit->Option α):Option α :=
 bif (decide (a<d)) then
  gd (decide (0<=a)&&decide (a<(b.length:Int))) (
   ob (f134 n (b.getD a.toNat []) c) λe =>
   bif e then
    k0 a
   else
    f b c d (W (a+1)))
 else
  k1 ()
abbrev Ix:Tm:=⟨[(0,.d (.sl hRs)),(1,.d (.clo 134 (.ref hI))),(7,.d hI),(8,.d hI)],[],[],[]⟩
abbrev Acx:Tm:=⟨[(4,.d hI)],[],[],[]⟩
abbrev Acw:Tm:=⟨[],[],[],[]⟩
abbrev O7:List (Exit × Tm):=[(.ret,Acx),(.exit 0,Acw)]
def O6 {α:Type} (n:Nat) (v:Ix.den) (f:Ix.den->Option α) (ks:KS α O7):Option α:=O8 n v.1.1 v.1.2.1 v.1.2.2.1 v.1.2.2.2.1 (λa b c d=>f ((a,b,c,d,()),())) (λw0=>ks.1 ((w0,()),())) (λ_=>ks.2.1 ((),()))
def He {α:Type} (n m:Nat) (a:List LR) (b c d:Int) (k0:Int->Option α) (k1:Unit->Option α):Option α:=A5 (O6 n) m ((a,b,c,d,()),()) (λw=>k0 w.1.1,λw=>k1 (),())
theorem Acv {α n m a b c d k0 k1}:He (α:=α) n (m+1) a b c d k0 k1=O8 n a b c d (λa b c d=>He n m a b c d k0 k1) k0 k1:=rfl
def A36 (n:Nat) (a0:List LR) (a1:Int):Option Int :=
 He n n a0 a1 (a0.length:Int) 0
  (λa=>(
   some a))
  (λ(_:Unit)=>(
   some (-1)))
def A6j (n:Nat):Ent:=⟨195,[(.sl hRs),(.clo 134 (.ref hI))],[hI],λx=>A36 n x.1 x.2⟩
def Tl (α:Type) (n:Nat):D3 α:={ reg:=[(4,⟨0,[],[(5,{ ent:=some (Avv n) })]⟩)],join:=[],loop:=[(2,⟨Ix,O7,A5 (O6 n) n⟩)] }
theorem Vl (α:Type) (n:Nat):Ao PP (Af (Tl α n).reg):=⟨B57 n,trivial⟩
theorem A9e (α:Type) (n:Nat):LO.Sound (α:=α) PP ⟨19,[]⟩ ⟨Ix,O7,A5 (O6 n) n⟩ (.loop ((A1 Tryz.f195).at [1,0,1,0,0])):=C0 (D:=Tl α n) (Vl α n) n
theorem Aph (α:Type) (n:Nat):D3.OK PP TT ⟨19,[]⟩ (Tl α n) (A1 Tryz.f195) :=
 D3.OK.mk3 (Vl α n) (show Aa (A1 Tryz.f195)=[(2,(.loop ((A1 Tryz.f195).at [1,0,1,0,0])))] by kernel_rfl) ⟨Ab rfl (A9e α n),trivial⟩
theorem Ak4 (n:Nat):(A6j n).Sound PP:=fk (fn:=Tryz.f195) (Aph _ n)

def U5 (n:Nat) (a0:List LR) (a1:Int):Option Bool :=
 ob (A36 n a0 a1) λa =>
 some (decide (a>=0))
def A77 (n:Nat):Ent:=⟨133,[(.sl hRs),(.clo 134 (.ref hI))],[.bool],λx=>U5 n x.1 x.2⟩
def Aq7 (α:Type) (n:Nat):D3 α:={ reg:=[(1,⟨0,[],[(2,{ ent:=some (A6j n) })]⟩)],join:=[],loop:=[] }
theorem Aka (n:Nat):(A77 n).Sound PP:=Au (fn:=Tryz.f133) (D:=Aq7 _ n) ⟨Ak4 n,trivial⟩

def f85 (n:Nat) (a0:Int) (a1:List LR):Option Int :=
 ob (f71 n a1) λa =>
 ob (U5 n a1 a0) λb =>
 ob (f111 n (!b) 1) λc =>
 ob (f70 n [a,c]) λd =>
 some d
def Aoc (n:Nat):Ent:=⟨85,[hI,(.sl hRs)],[hI],λx=>f85 n x.1 x.2⟩
def Bbl (α:Type) (n:Nat):D3 α:={ reg:=[(1,⟨0,[],[(1,{ ent:=some (Gg n) }),(3,{ sh:=some (.ref hI) }),(4,{ ent:=some (A77 n) }),(6,{ ent:=some (Em n) }),(7,{ sh:=some hI }),(8,{ ent:=some (Ex n) })]⟩)],join:=[],loop:=[] }
theorem Asx (n:Nat):(Aoc n).Sound PP:=Au (fn:=Tryz.f85) (D:=Bbl _ n) ⟨A60 n,Aka n,I4 n,Qr n,trivial⟩

def f83 (n:Nat) (a0 a1:LR):Option Int :=
 ob (f71 n [a0,a1]) λa =>
 ob (f119 n a1) λb =>
 ob (f111 n b 1) λc =>
 ob (f85 n (a1.length:Int) [a0]) λd =>
 ob (f70 n [a,c,d]) λe =>
 some e
def B1o (n:Nat):Ent:=⟨83,[hRs,hRs],[hI],λx=>f83 n x.1 x.2⟩
def Bbn (α:Type) (n:Nat):D3 α:={ reg:=[(1,⟨0,[],[(2,{ sh:=some hRs }),(3,{ ent:=some (Gg n) }),(5,{ ent:=some (Lj n) }),(6,{ ent:=some (Em n) }),(10,{ sh:=some hRs }),(11,{ ent:=some (Aoc n) }),(12,{ sh:=some hI }),(13,{ ent:=some (Ex n) })]⟩)],join:=[],loop:=[] }
theorem B7k (n:Nat):(B1o n).Sound PP:=Au (fn:=Tryz.f83) (D:=Bbn _ n) ⟨A60 n,A9v n,I4 n,Asx n,Qr n,trivial⟩

def A45 {α:Type} (n:Nat) (b c:LR) (e a:Int) (g h:Bool) (i j:LI) (f:LR->LR->Int->Int->Bool->Bool->LI->LI->Option α) (k0:Bool->Bool->LI->LI->Option α):Option α :=
 bif (decide (a<e)) then
  gd (decide (0<=a)&&decide (a<(c.length:Int))) (
   let k:=c.getD a.toNat (false,[],[])
   gd (decide (0<=a)&&decide (a<(b.length:Int))) (
    let l:=b.getD a.toNat (false,[],[])
    ob (f162 n k l) λm =>
    ob (f99 n (h,i,j) m) λd =>
    f b c e (W (a+1)) g d.1 d.2.1 d.2.2))
 else
  k0 g h i j
abbrev U6:Tm:=⟨[(1,.d hRs),(4,.k (.hp 4 0 0)),(5,.k (.hp 5 0 0)),(9,.d hRs),(10,.d hI),(11,.d hI)],[(4,.var 54 true false [.d .bool,.d .nil,.d .nil]),(5,.var 54 true false [.d .bool,.d hIs,.d hIs])],[7],[]⟩
abbrev Avz:Tm:=⟨[(4,.k (.hp 4 0 0)),(5,.k (.hp 5 0 0))],[(4,.var 54 true false [.d .bool,.d .nil,.d .nil]),(5,.var 54 true false [.d .bool,.d hIs,.d hIs])],[],[]⟩
abbrev A44:List (Exit × Tm):=[(.exit 0,Avz)]
def A43 {α:Type} (n:Nat) (v:U6.den) (f:U6.den->Option α) (ks:KS α A44):Option α:=A45 n v.1.1 v.1.2.2.2.1 v.1.2.2.2.2.1 v.1.2.2.2.2.2.1 v.2.1.1 v.2.2.1.1 v.2.2.1.2.1 v.2.2.1.2.2.1 (λa b c d e g h i=>f ((a,(),(),b,c,d,()),((e,(),(),()),(g,h,i,()),()))) (λw0 w1 w2 w3=>ks.1 (((),(),()),((w0,(),(),()),(w1,w2,w3,()),())))
def Rf {α:Type} (n m:Nat) (a b:LR) (c d:Int) (e f:Bool) (g h:LI) (k0:Bool->Bool->LI->LI->Option α):Option α:=A5 (A43 n) m ((a,(),(),b,c,d,()),((e,(),(),()),(f,g,h,()),())) (λw=>k0 w.2.1.1 w.2.2.1.1 w.2.2.1.2.1 w.2.2.1.2.2.1,())
theorem Avy {α n m a b c d e f g h k0}:Rf (α:=α) n (m+1) a b c d e f g h k0=A45 n a b c d e f g h (λa b c d e f g h=>Rf n m a b c d e f g h k0) k0:=rfl
def f130 (n:Nat) (a0 a1:LR):Option Rq :=
 ob (f97 n 0) λa =>
 Rf n n a1 a0 (a0.length:Int) 0 false a.1 a.2.1 a.2.2
  (λe b c d=>(
   some (b,c,d)))
def Aw0 (n:Nat):Ent:=⟨130,[hRs,hRs],[hR],λx=>f130 n x.1 x.2⟩
def Aht (α:Type) (n:Nat):D3 α:={ reg:=[(1,⟨0,[],[(0,{ ent:=some (Bo n) })]⟩),(5,⟨7,[],[(6,{ ent:=some (Ac n) }),(7,{ ent:=some (Ak n) })]⟩)],join:=[],loop:=[(3,⟨U6,A44,A5 (A43 n) n⟩)] }
theorem Ac3 (α:Type) (n:Nat):Ao PP (Af (Aht α n).reg):=⟨Co n,Bd n,G0 n,trivial⟩
theorem Aq8 (α:Type) (n:Nat):LO.Sound (α:=α) PP ⟨26,[]⟩ ⟨U6,A44,A5 (A43 n) n⟩ (.loop ((A1 Tryz.f130).at [1,1,0,1,0,0])):=C0 (D:=Aht α n) (Ac3 α n) n
theorem Ba6 (α:Type) (n:Nat):D3.OK PP TT ⟨26,[]⟩ (Aht α n) (A1 Tryz.f130) :=
 D3.OK.mk3 (Ac3 α n) (show Aa (A1 Tryz.f130)=[(3,(.loop ((A1 Tryz.f130).at [1,1,0,1,0,0])))] by kernel_rfl) ⟨Ab rfl (Aq8 α n),trivial⟩
theorem B5a (n:Nat):(Aw0 n).Sound PP:=fk (fn:=Tryz.f130) (Ba6 _ n)

def f132 (n:Nat) (a0:Int) (a1:LR) (a2:Int) (a3:LR):Option Rq :=
 gd (decide (0<=(W (a0*a2)))&&decide ((W (a0*a2))<=(W ((W (a0+1))*a2)))&&decide ((W ((W (a0+1))*a2))<=(a1.length:Int))) (
  ob (f130 n ((a1.drop ((W (a0*a2)).toNat)).take ((W ((W (a0+1))*a2)).toNat-(W (a0*a2)).toNat)) a3) λa =>
  some a)
def Avw (n:Nat):Ent:=⟨132,[hI,(.ref hRs),(.ref hI),(.ref hRs)],[hR],λx=>f132 n x.1 x.2.1 x.2.2.1 x.2.2.2⟩
def Ba4 (α:Type) (n:Nat):D3 α:={ reg:=[(1,⟨10,[],[(10,{ ent:=some (Aw0 n) })]⟩)],join:=[],loop:=[] }
theorem B58 (n:Nat):(Avw n).Sound PP:=Au (fn:=Tryz.f132) (D:=Ba4 _ n) ⟨B5a n,trivial⟩

def Ot {α:Type} (n:Nat) (a:LR × Int × LR) (d b:Int) (c:LR) (f:(LR × Int × LR)->Int->Int->LR->Option α) (k0:LR->Option α):Option α :=
 bif (decide (b<d)) then
  ob (f132 n b a.1 a.2.1 a.2.2) λe =>
  ob (f73 n e) λg =>
  gd (decide ((c.length+1)*56<=140737488355328)) (
   f a d (W (b+1)) (c++[g]))
 else
  k0 c
abbrev J1:Tm:=⟨[(1,.d (.clo 132 (.pair (.ref hRs) (.pair (.ref hI) (.ref hRs))))),(5,.k (.hw 7)),(8,.d hI),(9,.d hI)],[(7,.arr 54 hR false)],[17],[]⟩
abbrev Ad7:Tm:=⟨[(5,.k (.hw 7))],[(7,.arr 54 hR false)],[],[]⟩
abbrev Or:List (Exit × Tm):=[(.exit 0,Ad7)]
def Oq {α:Type} (n:Nat) (v:J1.den) (f:J1.den->Option α) (ks:KS α Or):Option α:=Ot n v.1.1 v.1.2.2.1 v.1.2.2.2.1 v.2.1 (λa b c d=>f ((a,(),b,c,()),(d,()))) (λw0=>ks.1 (((),()),(w0,())))
def Ko {α:Type} (n m:Nat) (a:LR × Int × LR) (b c:Int) (d:LR) (k0:LR->Option α):Option α:=A5 (Oq n) m ((a,(),b,c,()),(d,())) (λw=>k0 w.2.1,())
theorem Ad6 {α n m a b c d k0}:Ko (α:=α) n (m+1) a b c d k0=Ot n a b c d (λa b c d=>Ko n m a b c d k0) k0:=rfl
def Uk (n:Nat) (a0:Int) (a1:LR × Int × LR):Option LR :=
 Ko n n a1 a0 0 []
  (λa=>(
   some a))
def A7g (n:Nat):Ent:=⟨102,[hI,(.clo 132 (.pair (.ref hRs) (.pair (.ref hI) (.ref hRs))))],[hRs],λx=>Uk n x.1 x.2⟩
def Uj (α:Type) (n:Nat):D3 α:={ reg:=[(1,⟨0,[],[(0,{ sh:=some hR })]⟩),(5,⟨0,[],[(3,{ ent:=some (Avw n) }),(4,{ ent:=some (Adm n) }),(5,{ sh:=some hR })]⟩)],join:=[],loop:=[(3,⟨J1,Or,A5 (Oq n) n⟩)] }
theorem Vr (α:Type) (n:Nat):Ao PP (Af (Uj α n).reg):=⟨B58 n,Afp n,trivial⟩
theorem Aa2 (α:Type) (n:Nat):LO.Sound (α:=α) PP ⟨21,[]⟩ ⟨J1,Or,A5 (Oq n) n⟩ (.loop ((A1 Tryz.f102).at [1,1,0,1,0,0])):=C0 (D:=Uj α n) (Vr α n) n
theorem Aqr (α:Type) (n:Nat):D3.OK PP TT ⟨21,[]⟩ (Uj α n) (A1 Tryz.f102) :=
 D3.OK.mk3 (Vr α n) (show Aa (A1 Tryz.f102)=[(3,(.loop ((A1 Tryz.f102).at [1,1,0,1,0,0])))] by kernel_rfl) ⟨Ab rfl (Aa2 α n),trivial⟩
theorem Akj (n:Nat):(A7g n).Sound PP:=fk (fn:=Tryz.f102) (Aqr _ n)

def f84 (n:Nat) (a0 a1:LR):Option LR :=
 ob (Uk n (a1.length:Int) (a0,(a1.length:Int),a1)) λa =>
 some a
def B1n (n:Nat):Ent:=⟨84,[hRs,hRs],[hRs],λx=>f84 n x.1 x.2⟩
def Bbm (α:Type) (n:Nat):D3 α:={ reg:=[(2,⟨0,[],[(1,{ sh:=some (.pair (.ref hRs) (.pair (.ref hI) (.ref hRs))) }),(2,{ ent:=some (A7g n) })]⟩)],join:=[],loop:=[] }
theorem B7j (n:Nat):(B1n n).Sound PP:=Au (fn:=Tryz.f84) (D:=Bbm _ n) ⟨Akj n,trivial⟩

def f37 (n:Nat) (a0 a1:LR):Option (LR × Int) :=
 ob (f83 n a0 a1) λa =>
 bif (a != 0) then
  some ([],a)
 else
  ob (f84 n a0 a1) λc =>
  ob (f51 n c) λb =>
  some (b.1,b.2)
def B1u (n:Nat):Ent:=⟨37,[hRs,hRs],[hRs,hI],λx=>f37 n x.1 x.2⟩
def Bc7 (α:Type) (n:Nat):D3 α:={ reg:=[(1,⟨0,[],[(2,{ ent:=some (B1o n) })]⟩),(4,⟨0,[],[(2,{ ent:=some (B1n n) }),(3,{ ent:=some (Adn n) })]⟩)],join:=[],loop:=[] }
theorem B81 (n:Nat):(B1u n).Sound PP:=Au (fn:=Tryz.f37) (D:=Bc7 _ n) ⟨B7k n,B7j n,Ag0 n,trivial⟩

def f136 (n:Nat) (a0:Int) (a1:LR) (a2:Int):Option Rq :=
 gd (decide (a2 ≠ 0)) (
  gd (decide (a2 ≠ 0)) (
   gd (decide (0<=(W ((W ((Int.tmod a0 a2)*a2))+(W (Int.tdiv a0 a2)))))&&decide ((W ((W ((Int.tmod a0 a2)*a2))+(W (Int.tdiv a0 a2))))<(a1.length:Int))) (
    let a:=a1.getD ((W ((W ((Int.tmod a0 a2)*a2))+(W (Int.tdiv a0 a2)))).toNat) (false,[],[])
    some a)))
def Avt (n:Nat):Ent:=⟨136,[hI,(.ref hRs),(.ref hI)],[hR],λx=>f136 n x.1 x.2.1 x.2.2⟩
def Ba1 (α:Type) (n:Nat):D3 α:={ reg:=[(1,⟨10,[],[]⟩)],join:=[],loop:=[] }
theorem B53 (n:Nat):(Avt n).Sound PP:=Au (fn:=Tryz.f136) (D:=Ba1 _ n) trivial

def Oo {α:Type} (n:Nat) (a:LR × Int) (d b:Int) (c:LR) (f:(LR × Int)->Int->Int->LR->Option α) (k0:LR->Option α):Option α :=
 bif (decide (b<d)) then
  ob (f136 n b a.1 a.2) λe =>
  ob (f73 n e) λg =>
  gd (decide ((c.length+1)*56<=140737488355328)) (
   f a d (W (b+1)) (c++[g]))
 else
  k0 c
abbrev J0:Tm:=⟨[(1,.d (.clo 136 (.pair (.ref hRs) (.ref hI)))),(5,.k (.hw 7)),(8,.d hI),(9,.d hI)],[(7,.arr 54 hR false)],[17],[]⟩
abbrev Ad5:Tm:=⟨[(5,.k (.hw 7))],[(7,.arr 54 hR false)],[],[]⟩
abbrev On:List (Exit × Tm):=[(.exit 0,Ad5)]
def Om {α:Type} (n:Nat) (v:J0.den) (f:J0.den->Option α) (ks:KS α On):Option α:=Oo n v.1.1 v.1.2.2.1 v.1.2.2.2.1 v.2.1 (λa b c d=>f ((a,(),b,c,()),(d,()))) (λw0=>ks.1 (((),()),(w0,())))
def Kn {α:Type} (n m:Nat) (a:LR × Int) (b c:Int) (d:LR) (k0:LR->Option α):Option α:=A5 (Om n) m ((a,(),b,c,()),(d,())) (λw=>k0 w.2.1,())
theorem Ad4 {α n m a b c d k0}:Kn (α:=α) n (m+1) a b c d k0=Oo n a b c d (λa b c d=>Kn n m a b c d k0) k0:=rfl
def Ui (n:Nat) (a0:Int) (a1:LR × Int):Option LR :=
 Kn n n a1 a0 0 []
  (λa=>(
   some a))
def A7f (n:Nat):Ent:=⟨102,[hI,(.clo 136 (.pair (.ref hRs) (.ref hI)))],[hRs],λx=>Ui n x.1 x.2⟩
def Uh (α:Type) (n:Nat):D3 α:={ reg:=[(1,⟨0,[],[(0,{ sh:=some hR })]⟩),(5,⟨0,[],[(3,{ ent:=some (Avt n) }),(4,{ ent:=some (Adm n) }),(5,{ sh:=some hR })]⟩)],join:=[],loop:=[(3,⟨J0,On,A5 (Om n) n⟩)] }
theorem Vq (α:Type) (n:Nat):Ao PP (Af (Uh α n).reg):=⟨B53 n,Afp n,trivial⟩
theorem Aa1 (α:Type) (n:Nat):LO.Sound (α:=α) PP ⟨21,[]⟩ ⟨J0,On,A5 (Om n) n⟩ (.loop ((A1 Tryz.f102).at [1,1,0,1,0,0])):=C0 (D:=Uh α n) (Vq α n) n
theorem Aqq (α:Type) (n:Nat):D3.OK PP TT ⟨21,[]⟩ (Uh α n) (A1 Tryz.f102) :=
 D3.OK.mk3 (Vq α n) (show Aa (A1 Tryz.f102)=[(3,(.loop ((A1 Tryz.f102).at [1,1,0,1,0,0])))] by kernel_rfl) ⟨Ab rfl (Aa1 α n),trivial⟩
theorem Aki (n:Nat):(A7f n).Sound PP:=fk (fn:=Tryz.f102) (Aqq _ n)

def f86 (n:Nat) (a0:LR) (a1:Int):Option LR :=
 ob (Ui n (W (a1*a1)) (a0,a1)) λa =>
 some a
def B1m (n:Nat):Ent:=⟨86,[hRs,hI],[hRs],λx=>f86 n x.1 x.2⟩
def Bbk (α:Type) (n:Nat):D3 α:={ reg:=[(1,⟨0,[],[(3,{ sh:=some (.pair (.ref hRs) (.ref hI)) }),(4,{ ent:=some (A7f n) })]⟩)],join:=[],loop:=[] }
theorem B7i (n:Nat):(B1m n).Sound PP:=Au (fn:=Tryz.f86) (D:=Bbk _ n) ⟨Aki n,trivial⟩

def f38 (n:Nat) (a0:LR) (a1:Int):Option (LR × Int) :=
 ob (f85 n a1 [a0]) λa =>
 bif (a != 0) then
  some ([],a)
 else
  ob (f86 n a0 a1) λb =>
  some (b,0)
def B1t (n:Nat):Ent:=⟨38,[hRs,hI],[hRs,hI],λx=>f38 n x.1 x.2⟩
def Bc6 (α:Type) (n:Nat):D3 α:={ reg:=[(1,⟨0,[],[(2,{ sh:=some hRs }),(3,{ ent:=some (Aoc n) })]⟩),(4,⟨0,[],[(2,{ ent:=some (B1m n) })]⟩)],join:=[],loop:=[] }
theorem B80 (n:Nat):(B1t n).Sound PP:=Au (fn:=Tryz.f38) (D:=Bc6 _ n) ⟨Asx n,B7i n,trivial⟩

def f6 (n:Nat) (a0 a1:LI):Option Bool :=
 bif (decide ((a0.length:Int)>1048576)) then
  some true
 else
  bif (decide ((a1.length:Int)>1048576)) then
   some true
  else
   ob (f20 n a0 2 true) λb =>
   ob (f21 n a1 2) λc =>
   gd (decide ((1+a1.length)*1<=140737488355328)) (
    ob (f21 n ([5]++a1) 2) λe =>
    ob (f34 n b c) λa =>
    ob (f35 n b c) λf =>
    ob (f27 n b c e) λd =>
    ob (f36 n b c e) λg =>
    bif (a.2 != f.2) then
     some false
    else
     ob (f25 n a.1 f.1) λj =>
     bif (!j) then
      some false
     else
      bif (d.2 != g.2) then
       some false
      else
       ob (f25 n d.1 g.1) λk =>
       bif (!k) then
        some false
       else
        bif (a.2 != 0) then
         some true
        else
         bif (d.2 != 0) then
          some true
         else
          ob (f37 n a.1 e) λh =>
          ob (f38 n a.1 2) λi =>
          bif (h.2==0) then
           ob (f25 n h.1 d.1) λl =>
           bif l then
            bif (i.2==0) then
             ob (f25 n i.1 a.1) λm =>
             some m
            else
             some false
           else
            some false
          else
           some false)
def Bd3 (n:Nat):Ent:=⟨6,[(.sl (.int .u8)),(.sl (.int .u8))],[.bool],λx=>f6 n x.1 x.2⟩
def Bd4 (α:Type) (n:Nat):D3 α:={ reg:=[(3,⟨0,[],[(1,{ ent:=some (B20 n) })]⟩),(4,⟨0,[],[(1,{ ent:=some (Aov n) })]⟩),(5,⟨0,[],[(0,{ sh:=some (.int .u8) }),(3,{ ent:=some (Aov n),fz:=[(34,(.sl (.int .u8)))] })]⟩),(6,⟨0,[],[(2,{ ent:=some (B1x n) })]⟩),(7,⟨0,[],[(2,{ ent:=some (B1w n) })]⟩),(8,⟨0,[],[(3,{ ent:=some (Aor n) })]⟩),(9,⟨0,[],[(3,{ ent:=some (B1v n) })]⟩),(10,⟨0,[],[(6,{ ent:=some (A68 n) }),(17,{ ent:=some (A68 n) })]⟩),(14,⟨0,[],[(2,{ ent:=some (B1u n) })]⟩),(15,⟨0,[],[(1,{ ent:=some (B1t n) })]⟩),(16,⟨0,[],[(5,{ ent:=some (A68 n) }),(14,{ ent:=some (A68 n) })]⟩)],join:=[],loop:=[] }
theorem Bby (n:Nat):(Bd3 n).Sound PP:=Au (fn:=Tryz.f6) (D:=Bd4 _ n) ⟨B8m n,Atq n,Atq n,B84 n,B83 n,Atl n,B82 n,A67 n,A67 n,B81 n,B80 n,A67 n,A67 n,trivial⟩

end Go.Ev
