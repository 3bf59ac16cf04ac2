/- DERIVED. What the functions compute, and that they do. -/
import Derived.Test.YtcpdoafoahaagaaGreatVa

set_option linter.all false
set_option linter.unusedVariables false
set_option linter.unusedSimpArgs false

namespace Go.Ev
open Go Go.Proofs Go.RowKit Go.Shelf
def f104 (n:Nat) (a0 a1:Rq):Option Rq :=
 ob (f143 n a0.2.1 a1.2.2) λa =>
 ob (f143 n a1.2.1 a0.2.2) λb =>
 ob (f143 n a0.2.2 a1.2.2) λc =>
 bif (a0.1==a1.1) then
  ob (f169 n a b) λd =>
  ob (f142 n a0.1 d c) λe =>
  some e
 else
  ob (f170 n a b) λf =>
  bif (decide (f>=0)) then
   ob (f171 n a b) λg =>
   ob (f142 n a0.1 g c) λh =>
   some h
  else
   ob (f171 n b a) λi =>
   ob (f142 n a1.1 i c) λj =>
   some j
def Ac (n:Nat):Ent:=⟨104,[hR,hR],[hR],λx=>f104 n x.1 x.2⟩
def B5e (α:Type) (n:Nat):D3 α:={ reg:=[(1,⟨9,[],[(4,{ ent:=some (Gm n) }),(9,{ ent:=some (Gm n) })]⟩),(2,⟨0,[],[(4,{ ent:=some (Gm n) })]⟩),(4,⟨6,[],[(4,{ ent:=some (Asa n) }),(6,{ ent:=some (Qj n) })]⟩),(5,⟨0,[],[(2,{ ent:=some (Wl n) })]⟩),(6,⟨6,[],[(4,{ ent:=some (Aep n) }),(6,{ ent:=some (Qj n) })]⟩),(7,⟨6,[],[(4,{ ent:=some (Aep n) }),(6,{ ent:=some (Qj n) })]⟩)],join:=[],loop:=[] }
theorem Bz (n:Nat):(Ac n).Sound PP:=B2 (fn:=Tryz.f104) (D:=B5e _ n) ⟨Fx n,Fx n,Fx n,B0y n,Qi n,Yf n,Ajj n,Qi n,Ajj n,Qi n,trivial⟩

def f144 (n:Nat) (a0:Int) (a1:Rq) (a2 a3:LR):Option Rq :=
 gd (decide (0<=a0)&&decide (a0<(a2.length:Int))) (
  let a:=a2.getD a0.toNat (false,[],[])
  ob (f103 n a1 a) λb =>
  gd (decide (0<=a0)&&decide (a0<(a3.length:Int))) (
   let c:=a3.getD a0.toNat (false,[],[])
   ob (f104 n b c) λd =>
   some d))
def Asr (n:Nat):Ent:=⟨144,[hI,(.ref hR),(.ref hRs),(.ref hRs)],[hR],λx=>f144 n x.1 x.2.1 x.2.2.1 x.2.2.2⟩
def B55 (α:Type) (n:Nat):D3 α:={ reg:=[(1,⟨10,[],[(5,{ ent:=some (A9 n) }),(10,{ ent:=some (Ac n) })]⟩)],join:=[],loop:=[] }
theorem B1g (n:Nat):(Asr n).Sound PP:=B2 (fn:=Tryz.f144) (D:=B55 _ n) ⟨At n,Bz n,trivial⟩

def f97 (n:Nat) (a0:Rq):Option Rq :=
 ob (f145 n a0.2.1) λa =>
 ob (f145 n a0.2.2) λb =>
 some (a0.1,a,b)
def Xs (n:Nat):Ent:=⟨97,[hR],[hR],λx=>f97 n x⟩
def B6f (α:Type) (n:Nat):D3 α:={ reg:=[(1,⟨8,[],[(4,{ ent:=some (Kn n) }),(7,{ ent:=some (Kn n) })]⟩)],join:=[],loop:=[] }
theorem Vg (n:Nat):(Xs n).Sound PP:=B2 (fn:=Tryz.f97) (D:=B6f _ n) ⟨Jk n,Jk n,trivial⟩

def O5 {α:Type} (n:Nat) (a:Rq × LR × LR) (d b:Int) (c:LR) (f:(Rq × LR × LR)->Int->Int->LR->Option α) (k0:LR->Option α):Option α :=
 bif (decide (b<d)) then
  ob (f144 n b a.1 a.2.1 a.2.2) λe =>
  ob (f97 n e) λg =>
  gd (decide ((c.length+1)*56<=140737488355328)) (
   f a d (W (b+1)) (c++[g]))
 else
  k0 c
abbrev If:Tm:=⟨[(1,.d (.clo 144 (.pair (.ref hR) (.pair (.ref hRs) (.ref hRs))))),(5,.k (.hw 7)),(8,.d hI),(9,.d hI)],[(7,.arr 30 hR false)],[17],[]⟩
abbrev Aac:Tm:=⟨[(5,.k (.hw 7))],[(7,.arr 30 hR false)],[],[]⟩
abbrev O4:List (Exit × Tm):=[(.exit 0,Aac)]
def O3 {α:Type} (n:Nat) (v:If.den) (f:If.den->Option α) (ks:KS α O4):Option α:=O5 n v.1.1 v.1.2.2.1 v.1.2.2.2.1 v.2.1 (λa b c d=>f ((a,(),b,c,()),(d,()))) (λw0=>ks.1 (((),()),(w0,())))
def Gp {α:Type} (n m:Nat) (a:Rq × LR × LR) (b c:Int) (d:LR) (k0:LR->Option α):Option α:=A6 (O3 n) m ((a,(),b,c,()),(d,())) (λw=>k0 w.2.1,())
theorem Aab {α n m a b c d k0}:Gp (α:=α) n (m+1) a b c d k0=O5 n a b c d (λa b c d=>Gp n m a b c d k0) k0:=rfl
def A2k (n:Nat) (a0:Int) (a1:Rq × LR × LR):Option LR :=
 Gp n n a1 a0 0 []
  (λa=>(
   some a))
def A55 (n:Nat):Ent:=⟨129,[hI,(.clo 144 (.pair (.ref hR) (.pair (.ref hRs) (.ref hRs))))],[hRs],λx=>A2k n x.1 x.2⟩
def T5 (α:Type) (n:Nat):D3 α:={ reg:=[(1,⟨0,[],[(0,{ sh:=some hR })]⟩),(5,⟨0,[],[(3,{ ent:=some (Asr n) }),(4,{ ent:=some (Xs n) }),(5,{ sh:=some hR })]⟩)],join:=[],loop:=[(3,⟨If,O4,A6 (O3 n) n⟩)] }
theorem Uh (α:Type) (n:Nat):Aq PP (Af (T5 α n).reg):=⟨B1g n,Vg n,trivial⟩
theorem A7a (α:Type) (n:Nat):LO.Sound (α:=α) PP ⟨21,[]⟩ ⟨If,O4,A6 (O3 n) n⟩ (.loop ((A0 Tryz.f129).at [1,1,0,1,0,0])):=Ca (D:=T5 α n) (Uh α n) n
theorem Amx (α:Type) (n:Nat):D3.OK PP TT ⟨21,[]⟩ (T5 α n) (A0 Tryz.f129) :=
 D3.OK.mk3 (Uh α n) (show Aa (A0 Tryz.f129)=[(3,(.loop ((A0 Tryz.f129).at [1,1,0,1,0,0])))] by kernel_rfl) ⟨Ad rfl (A7a α n),trivial⟩
theorem Ah4 (n:Nat):(A55 n).Sound PP:=fk (fn:=Tryz.f129) (Amx _ n)

def f76 (n:Nat) (a0:Rq) (a1 a2:LR):Option LR :=
 ob (A2k n (a1.length:Int) (a0,a1,a2)) λa =>
 some a
def Axy (n:Nat):Ent:=⟨76,[hR,hRs,hRs],[hRs],λx=>f76 n x.1 x.2.1 x.2.2⟩
def B6m (α:Type) (n:Nat):D3 α:={ reg:=[(1,⟨0,[],[(2,{ sh:=some (.pair (.ref hR) (.pair (.ref hRs) (.ref hRs))) }),(3,{ ent:=some (A55 n) })]⟩)],join:=[],loop:=[] }
theorem B36 (n:Nat):(Axy n).Sound PP:=B2 (fn:=Tryz.f76) (D:=B6m _ n) ⟨Ah4 n,trivial⟩

def f113 (n:Nat) (a0:Rq):Option Bool :=
 bif (decide ((a0.2.1.length:Int)<=40)) then
  some (decide ((a0.2.2.length:Int)<=40))
 else
  some false
def Ig (n:Nat):Ent:=⟨113,[hR],[.bool],λx=>f113 n x⟩
def B59 (α:Type) (n:Nat):D3 α:={ reg:=[],join:=[],loop:=[] }
theorem Hn (n:Nat):(Ig n).Sound PP:=B2 (fn:=Tryz.f113) (D:=B59 _ n) trivial

def f112 (n:Nat) (a0:Rq):Option Bool :=
 ob (f113 n a0) λa =>
 some (!a)
def Asy (n:Nat):Ent:=⟨112,[hR],[.bool],λx=>f112 n x⟩
def B5a (α:Type) (n:Nat):D3 α:={ reg:=[(1,⟨0,[],[(1,{ ent:=some (Ig n) })]⟩)],join:=[],loop:=[] }
theorem B1l (n:Nat):(Asy n).Sound PP:=B2 (fn:=Tryz.f112) (D:=B5a _ n) ⟨Hn n,trivial⟩

def Nv {α:Type} (n:Nat) (b:LR) (c a:Int) (f:LR->Int->Int->Option α) (k0:Int->Option α) (k1:Unit->Option α):Option α :=
 bif (decide (a<c)) then
  gd (decide (0<=a)&&decide (a<(b.length:Int))) (
   let d:=b.getD a.toNat (false,[],[])
   ob (f112 n d) λe =>
   bif e then
    k0 a
   else
    f b c (W (a+1)))
 else
  k1 ()
abbrev Id:Tm:=⟨[(0,.d hRs),(1,.d (.fn 112)),(7,.d hI),(8,.d hI)],[],[],[]⟩
abbrev Aa8:Tm:=⟨[(4,.d hI)],[],[],[]⟩
abbrev Aa7:Tm:=⟨[],[],[],[]⟩
abbrev Nu:List (Exit × Tm):=[(.ret,Aa8),(.exit 0,Aa7)]
def Nt {α:Type} (n:Nat) (v:Id.den) (f:Id.den->Option α) (ks:KS α Nu):Option α:=Nv n v.1.1 v.1.2.2.1 v.1.2.2.2.1 (λa b c=>f ((a,(),b,c,()),())) (λw0=>ks.1 ((w0,()),())) (λ_=>ks.2.1 ((),()))
def Gl {α:Type} (n m:Nat) (a:LR) (b c:Int) (k0:Int->Option α) (k1:Unit->Option α):Option α:=A6 (Nt n) m ((a,(),b,c,()),()) (λw=>k0 w.1.1,λw=>k1 (),())
theorem Aa6 {α n m a b c k0 k1}:Gl (α:=α) n (m+1) a b c k0 k1=Nv n a b c (λa b c=>Gl n m a b c k0 k1) k0 k1:=rfl
def A1p (n:Nat) (a0:LR) (a1:Unit):Option Int :=
 Gl n n a0 (a0.length:Int) 0
  (λa=>(
   some a))
  (λ(_:Unit)=>(
   some (-1)))
def A4y (n:Nat):Ent:=⟨175,[hRs,(.fn 112)],[hI],λx=>A1p n x.1 x.2⟩
def So (α:Type) (n:Nat):D3 α:={ reg:=[(4,⟨0,[],[(5,{ ent:=some (Asy n) })]⟩)],join:=[],loop:=[(2,⟨Id,Nu,A6 (Nt n) n⟩)] }
theorem Ud (α:Type) (n:Nat):Aq PP (Af (So α n).reg):=⟨B1l n,trivial⟩
theorem A74 (α:Type) (n:Nat):LO.Sound (α:=α) PP ⟨19,[]⟩ ⟨Id,Nu,A6 (Nt n) n⟩ (.loop ((A0 Tryz.f175).at [1,0,1,0,0])):=Ca (D:=So α n) (Ud α n) n
theorem Ame (α:Type) (n:Nat):D3.OK PP TT ⟨19,[]⟩ (So α n) (A0 Tryz.f175) :=
 D3.OK.mk3 (Ud α n) (show Aa (A0 Tryz.f175)=[(2,(.loop ((A0 Tryz.f175).at [1,0,1,0,0])))] by kernel_rfl) ⟨Ad rfl (A74 α n),trivial⟩
theorem Ah1 (n:Nat):(A4y n).Sound PP:=fk (fn:=Tryz.f175) (Ame _ n)

def A2l (n:Nat) (a0:LR) (a1:Unit):Option Bool :=
 ob (A1p n a0 a1) λa =>
 some (decide (a>=0))
def A57 (n:Nat):Ent:=⟨111,[hRs,(.fn 112)],[.bool],λx=>A2l n x.1 x.2⟩
def Amz (α:Type) (n:Nat):D3 α:={ reg:=[(1,⟨0,[],[(2,{ ent:=some (A4y n) })]⟩)],join:=[],loop:=[] }
theorem Ah7 (n:Nat):(A57 n).Sound PP:=B2 (fn:=Tryz.f111) (D:=Amz _ n) ⟨Ah1 n,trivial⟩

def f51 (n:Nat) (a0:LR):Option (LR × Int) :=
 ob (A2l n a0 ()) λa =>
 bif a then
  some ([],7)
 else
  some (a0,0)
def Xz (n:Nat):Ent:=⟨51,[hRs],[hRs,hI],λx=>f51 n x⟩
def B6w (α:Type) (n:Nat):D3 α:={ reg:=[(1,⟨0,[],[(1,{ ent:=some (A57 n) })]⟩)],join:=[],loop:=[] }
theorem Vm (n:Nat):(Xz n).Sound PP:=B2 (fn:=Tryz.f51) (D:=B6w _ n) ⟨Ah7 n,trivial⟩

abbrev Aq2:Tm:=⟨[(1,.d hRs),(2,.d hRs),(3,.k (.hp 3 0 0))],[(3,.var 30 true false [.d .bool,.d hIs,.d hIs])],[],[]⟩
def f38 (n:Nat) (a0:Rq) (a1 a2:LR):Option (LR × Int) :=
 ob (f93 n [a1,a2]) λc =>
 ob (f94 n [a0]) λd =>
 ob (f68 n [c,d]) λa =>
 bif (a != 0) then
  some ([],a)
 else
  ob (f76 n a0 a1 a2) λe =>
  ob (f51 n e) λb =>
  some (b.1,b.2)
def Ay8 (n:Nat):Ent:=⟨38,[hR,hRs,hRs],[hRs,hI],λx=>f38 n x.1 x.2.1 x.2.2⟩
def Ay9 (α:Type) (n:Nat):D3 α:={ reg:=[(1,⟨0,[],[(2,{ sh:=some hRs }),(3,{ ent:=some (Rg n) }),(5,{ sh:=some hR }),(6,{ ent:=some (Lq n) }),(7,{ sh:=some hI }),(8,{ ent:=some (C7 n) })]⟩),(4,⟨0,[],[(3,{ ent:=some (Axy n) }),(4,{ ent:=some (Xz n) })]⟩)],join:=[],loop:=[],any:=[(1,Aq2)] }
set_option maxHeartbeats 8000000 in
theorem B3n (n:Nat):Am TT ⟨28,[]⟩ [(2,{ sh:=some hRs }),(3,{ ent:=some (Rg n) }),(5,{ sh:=some hR }),(6,{ ent:=some (Lq n) }),(7,{ sh:=some hI }),(8,{ ent:=some (C7 n) })] Aq2 (A4 ((A0 Tryz.f38).at [1,0,0])):=by
 refine ⟨by kernel_rfl,λw q hq=>?_⟩
 have e:WT [(2,{ sh:=some hRs }),(3,{ ent:=some (Rg n) }),(5,{ sh:=some hR }),(6,{ ent:=some (Lq n) }),(7,{ sh:=some hI }),(8,{ ent:=some (C7 n) })] (A7 (A4 ((A0 Tryz.f38).at [1,0,0])).toList) q=(∃ (y0:HL (Rg n).rs) (q0:List (Nat × RV)),q=(3,.sv (Ae (Rg n).rs y0))::q0 /\ ∃ (y1:HL (Lq n).rs) (q1:List (Nat × RV)),q0=(6,.sv (Ae (Lq n).rs y1))::q1 /\ ∃ (y2:HL (C7 n).rs) (q2:List (Nat × RV)),q1=(8,.sv (Ae (C7 n).rs y2))::q2/\q2=[]):=by kernel_rfl
 rw [e] at hq;obtain ⟨y0,q0,rfl,y1,q1,rfl,y2,q2,rfl,rfl⟩:=hq
 all_goals exact .inr ⟨6,by kernel_rfl,by kernel_rfl,by kernel_rfl⟩
theorem Avu (α:Type) (n:Nat):Aq PP (Af (Ay9 α n).reg):=⟨Aph n,A41 n,Q3 n,B36 n,Vm n,trivial⟩
theorem B74 (α:Type) (n:Nat):D3.OK PP TT ⟨28,[]⟩ (Ay9 α n) (A0 Tryz.f38) :=
 D3.OK.mk3a (Avu α n) (show Aa (A0 Tryz.f38)=[] by kernel_rfl) trivial (show Ar (A0 Tryz.f38)=[(1,A4 ((A0 Tryz.f38).at [1,0,0]))] by kernel_rfl) ⟨⟨B3n n,trivial⟩,trivial⟩
theorem B3l (n:Nat):(Ay8 n).Sound PP:=fk (fn:=Tryz.f38) (B74 _ n)

def f70 (n:Nat) (a0 a1 a2:Int):Option Bool :=
 bif (decide (a1<=a0)) then
  some (decide (a0<=a2))
 else
  some false
def Rl (n:Nat):Ent:=⟨70,[hI,hI,hI],[.bool],λx=>f70 n x.1 x.2.1 x.2.2⟩
def B6r (α:Type) (n:Nat):D3 α:={ reg:=[],join:=[],loop:=[] }
theorem Q1 (n:Nat):(Rl n).Sound PP:=B2 (fn:=Tryz.f70) (D:=B6r _ n) trivial

def f231 (n:Nat) (a0:Nq):Option Bool :=
 bif (a0.1==1) then
  ob (f70 n a0.2.2.2 0 999999999) λa =>
  some a
 else
  bif (a0.1==2) then
   ob (f70 n a0.2.2.2 0 3) λb =>
   some b
  else
   bif (a0.1==8) then
    ob (f70 n a0.2.2.2 0 8) λc =>
    some c
   else
    some (a0.2.2.2==0)
def Aq4 (n:Nat):Ent:=⟨231,[hN],[.bool],λx=>f231 n x⟩
def B3u (α:Type) (n:Nat):D3 α:={ reg:=[(3,⟨0,[],[(2,{ ent:=some (Rl n) })]⟩),(5,⟨0,[],[(2,{ ent:=some (Rl n) })]⟩),(7,⟨0,[],[(2,{ ent:=some (Rl n) })]⟩)],join:=[],loop:=[] }
theorem Azi (n:Nat):(Aq4 n).Sound PP:=B2 (fn:=Tryz.f231) (D:=B3u _ n) ⟨Q1 n,Q1 n,Q1 n,trivial⟩

def f214 (n:Nat) (a0:Nq):Option Int :=
 bif (a0.1==3) then
  some 2
 else
  bif (a0.1==4) then
   some 2
  else
   bif (a0.1==5) then
    some 2
   else
    bif (a0.1==6) then
     some 2
    else
     bif (a0.1==7) then
      some 1
     else
      bif (a0.1==8) then
       some 1
      else
       some 0
def Q7 (n:Nat):Ent:=⟨214,[hN],[hI],λx=>f214 n x⟩
def B48 (α:Type) (n:Nat):D3 α:={ reg:=[],join:=[],loop:=[] }
theorem Q6 (n:Nat):(Q7 n).Sound PP:=B2 (fn:=Tryz.f214) (D:=B48 _ n) trivial

def f232 (n:Nat) (a0:Bool) (a1 a2:Int):Option Bool :=
 bif a0 then
  ob (f70 n a1 0 (W (a2-1))) λa =>
  bif a then
   some true
  else
   bif (!a0) then
    some (a1==0)
   else
    some false
 else
  bif (!a0) then
   some (a1==0)
  else
   some false
def Ad4 (n:Nat):Ent:=⟨232,[.bool,hI,(.ref hI)],[.bool],λx=>f232 n x.1 x.2.1 x.2.2⟩
def B3t (α:Type) (n:Nat):D3 α:={ reg:=[(1,⟨0,[],[(5,{ ent:=some (Rl n) })]⟩)],join:=[],loop:=[] }
theorem Aif (n:Nat):(Ad4 n).Sound PP:=B2 (fn:=Tryz.f232) (D:=B3t _ n) ⟨Q1 n,trivial⟩

def f225 (n:Nat) (a0:Nq) (a1:Int):Option Bool :=
 ob (f70 n a0.1 1 8) λa =>
 bif (!a) then
  some false
 else
  ob (f231 n a0) λb =>
  bif (!b) then
   some false
  else
   ob (f214 n a0) λc =>
   ob (f232 n (decide (c>0)) a0.2.1 a1) λd =>
   bif d then
    ob (f214 n a0) λe =>
    ob (f232 n (decide (e>1)) a0.2.2.1 a1) λf =>
    some f
   else
    some false
def Aqa (n:Nat):Ent:=⟨225,[hN,hI],[.bool],λx=>f225 n x.1 x.2⟩
def B3z (α:Type) (n:Nat):D3 α:={ reg:=[(1,⟨0,[],[(2,{ ent:=some (Rl n) }),(6,{ ent:=some (Aq4 n) })]⟩),(3,⟨0,[],[(0,{ sh:=some (.ref hI) })]⟩),(4,⟨14,[],[(2,{ ent:=some (Q7 n) }),(6,{ ent:=some (Ad4 n) }),(10,{ ent:=some (Q7 n) }),(14,{ ent:=some (Ad4 n) })]⟩)],join:=[],loop:=[] }
theorem Azr (n:Nat):(Aqa n).Sound PP:=B2 (fn:=Tryz.f225) (D:=B3z _ n) ⟨Q1 n,Azi n,Q6 n,Aif n,Q6 n,Aif n,trivial⟩

def Nj {α:Type} (n:Nat) (e:LN) (h d:Int) (b c:LI) (f:LN->Int->Int->LI->LI->Option α) (k0:Bool->Option α) (k1:LI->LI->Option α):Option α :=
 bif (decide (d<h)) then
  gd (decide (0<=d)&&decide (d<(e.length:Int))) (
   let a:=e.getD d.toNat (0,0,0,0)
   ob (f225 n a d) λj =>
   bif (!j) then
    k0 false
   else
    let g:=λ(k:Int) (l:Int)=>(
     gd (decide ((b.length+1)*8<=140737488355328)) (
      gd (decide ((c.length+1)*8<=140737488355328)) (
       f e h (W (d+1)) (b++[k]) (c++[l]))))
    ob (f214 n a) λi =>
    bif (i==1) then
     bif (a.2.1 != (W (d-1))) then
      k0 false
     else
      gd (decide (0<=a.2.1)&&decide (a.2.1<(b.length:Int))) (
       gd (decide (a.2.1.toNat<b.length)) (
        gd (decide (0<=a.2.1)&&decide (a.2.1<(c.length:Int))) (
         gd (decide (a.2.1.toNat<c.length)) (
          g (b.getD a.2.1.toNat 0) (W ((c.getD a.2.1.toNat 0)+1))))))
    else
     bif (i==2) then
      bif (a.2.2.1 != (W (d-1))) then
       k0 false
      else
       gd (decide (0<=a.2.2.1)&&decide (a.2.2.1<(b.length:Int))) (
        gd (decide (a.2.2.1.toNat<b.length)) (
         bif (a.2.1 != (W ((b.getD a.2.2.1.toNat 0)-1))) then
          k0 false
         else
          gd (decide (0<=a.2.1)&&decide (a.2.1<(b.length:Int))) (
           gd (decide (a.2.1.toNat<b.length)) (
            gd (decide (0<=a.2.1)&&decide (a.2.1<(c.length:Int))) (
             gd (decide (a.2.1.toNat<c.length)) (
              gd (decide (0<=a.2.2.1)&&decide (a.2.2.1<(c.length:Int))) (
               gd (decide (a.2.2.1.toNat<c.length)) (
                g (b.getD a.2.1.toNat 0) (W ((max (c.getD a.2.1.toNat 0) (c.getD a.2.2.1.toNat 0))+1))))))))))
     else
      g d 1)
 else
  k1 b c
abbrev S1:Tm:=⟨[(5,.k (.hw 11)),(6,.k (.hw 12)),(13,.d hNs),(14,.d hI),(15,.d hI)],[(11,.arr 3 hI false),(12,.arr 3 hI false)],[82,86],[]⟩
abbrev Aqy:Tm:=⟨[(2,.d .nil),(3,.d .nil),(4,.d .bool)],[],[8,11,12],[]⟩
abbrev Aqx:Tm:=⟨[(5,.k (.hw 11)),(6,.k (.hw 12))],[(11,.arr 3 hI false),(12,.arr 3 hI false)],[],[]⟩
abbrev A0w:List (Exit × Tm):=[(.ret,Aqy),(.exit 0,Aqx)]
def A0v {α:Type} (n:Nat) (v:S1.den) (f:S1.den->Option α) (ks:KS α A0w):Option α:=Nj n v.1.2.2.1 v.1.2.2.2.1 v.1.2.2.2.2.1 v.2.1 v.2.2.1 (λa b c d e=>f (((),(),a,b,c,()),(d,e,()))) (λw0=>ks.1 (((),(),w0,()),())) (λw0 w1=>ks.2.1 (((),(),()),(w0,w1,())))
def Y6 {α:Type} (n m:Nat) (a:LN) (b c:Int) (d e:LI) (k0:Bool->Option α) (k1:LI->LI->Option α):Option α:=A6 (A0v n) m (((),(),a,b,c,()),(d,e,())) (λw=>k0 w.1.2.2.1,λw=>k1 w.2.1 w.2.2.1,())
theorem A8z {α n m a b c d e k0 k1}:Y6 (α:=α) n (m+1) a b c d e k0 k1=Nj n a b c d e (λa b c d e=>Y6 n m a b c d e k0 k1) k0 k1:=rfl
abbrev Awd:Tm:=⟨[(5,.k (.hw 11)),(6,.k (.hw 12)),(9,.d hI),(10,.d hI),(13,.d hNs),(14,.d hI),(15,.d hI)],[(11,.arr 3 hI false),(12,.arr 3 hI false)],[8],[]⟩
def f212 (n:Nat) (a0:LN):Option (LI × LI × Bool) :=
 Y6 n n a0 (a0.length:Int) 0 [] []
  (λa=>(
   some ([],[],a)))
  (λb c=>(
   some (b,c,true)))
def Aqz (n:Nat):Ent:=⟨212,[hNs],[hIs,hIs,.bool],λx=>f212 n x⟩
def Ae2 (α:Type) (n:Nat):D3 α:={ reg:=[(1,⟨0,[],[(0,{ sh:=some hI }),(1,{ sh:=some hI })]⟩),(5,⟨0,[],[(2,{ ent:=some (Aqa n) })]⟩),(8,⟨0,[],[(1,{ ent:=some (Q7 n) })]⟩),(12,⟨12,[],[]⟩),(14,⟨14,[],[]⟩),(16,⟨18,[],[]⟩),(17,⟨0,[],[(2,{ sh:=some hI }),(6,{ sh:=some hI })]⟩)],join:=[(17,Awd)],loop:=[(3,⟨S1,A0w,A6 (A0v n) n⟩)] }
theorem A8y (α:Type) (n:Nat):Aq PP (Af (Ae2 α n).reg):=⟨Azr n,Q6 n,trivial⟩
theorem Als (α:Type) (n:Nat):LO.Sound (α:=α) PP ⟨91,[]⟩ ⟨S1,A0w,A6 (A0v n) n⟩ (.loop ((A0 Tryz.f212).at [1,1,0,1,0,0])):=Ca (D:=Ae2 α n) (A8y α n) n
theorem B4a (α:Type) (n:Nat):D3.OK PP TT ⟨91,[]⟩ (Ae2 α n) (A0 Tryz.f212) :=
 D3.OK.mk3 (A8y α n) (show Aa (A0 Tryz.f212)=[(3,(.loop ((A0 Tryz.f212).at [1,1,0,1,0,0])))] by kernel_rfl) ⟨Ad rfl (Als α n),trivial⟩
theorem B0d (n:Nat):(Aqz n).Sound PP:=fk (fn:=Tryz.f212) (B4a _ n)

def S0 {α:Type} (n:Nat) (b:LI) (c a:Int) (f:LI->Int->Int->Option α) (k0:Int->Option α):Option α :=
 bif (decide (a<(b.length:Int))) then
  gd (decide (0<=a)&&decide (a<(b.length:Int))) (
   f b (max c (b.getD a.toNat 0)) (W (a+1)))
 else
  k0 c
abbrev Rz:Tm:=⟨[(0,.d hIs),(3,.d hI),(4,.d hI)],[],[],[]⟩
abbrev Aqv:Tm:=⟨[(3,.d hI)],[],[],[]⟩
abbrev A0u:List (Exit × Tm):=[(.exit 0,Aqv)]
def A0t {α:Type} (n:Nat) (v:Rz.den) (f:Rz.den->Option α) (ks:KS α A0u):Option α:=S0 n v.1.1 v.1.2.1 v.1.2.2.1 (λa b c=>f ((a,b,c,()),())) (λw0=>ks.1 ((w0,()),()))
def Y5 {α:Type} (n m:Nat) (a:LI) (b c:Int) (k0:Int->Option α):Option α:=A6 (A0t n) m ((a,b,c,()),()) (λw=>k0 w.1.1,())
theorem A8x {α n m a b c k0}:Y5 (α:=α) n (m+1) a b c k0=S0 n a b c (λa b c=>Y5 n m a b c k0) k0:=rfl
def f213 (n:Nat) (a0:LI):Option Int :=
 bif (decide ((a0.length:Int)<1)) then
  none
 else
  gd (decide (0<(a0.length:Int))) (
   Y5 n n a0 (a0.getD 0 0) 1
    (λa=>(
     some a)))
def Aqw (n:Nat):Ent:=⟨213,[hIs],[hI],λx=>f213 n x⟩
def Ae1 (α:Type) (n:Nat):D3 α:={ reg:=[],join:=[],loop:=[(5,⟨Rz,A0u,A6 (A0t n) n⟩)] }
theorem A8w (α:Type) (n:Nat):Aq PP (Af (Ae1 α n).reg):=trivial
theorem Alr (α:Type) (n:Nat):LO.Sound (α:=α) PP ⟨25,[]⟩ ⟨Rz,A0u,A6 (A0t n) n⟩ (.loop ((A0 Tryz.f213).at [1,1,1,0,1,0,0])):=Ca (D:=Ae1 α n) (A8w α n) n
theorem B49 (α:Type) (n:Nat):D3.OK PP TT ⟨25,[]⟩ (Ae1 α n) (A0 Tryz.f213) :=
 D3.OK.mk3 (A8w α n) (show Aa (A0 Tryz.f213)=[(5,(.loop ((A0 Tryz.f213).at [1,1,1,0,1,0,0])))] by kernel_rfl) ⟨Ad rfl (Alr α n),trivial⟩
theorem B0b (n:Nat):(Aqw n).Sound PP:=fk (fn:=Tryz.f213) (B49 _ n)

def f198 (n:Nat) (a0:LN):Option Bool :=
 ob (f70 n (a0.length:Int) 1 60) λb =>
 bif (!b) then
  some false
 else
  ob (f212 n a0) λa =>
  bif a.2.2 then
   gd (decide (0<=(W ((a0.length:Int)-1)))&&decide ((W ((a0.length:Int)-1))<(a.1.length:Int))) (
    bif ((a.1.getD ((W ((a0.length:Int)-1)).toNat) 0)==0) then
     ob (f213 n a.2.1) λc =>
     some (decide (c<=12))
    else
     some false)
  else
   some false
def Arc (n:Nat):Ent:=⟨198,[hE],[.bool],λx=>f198 n x⟩
def B4g (α:Type) (n:Nat):D3 α:={ reg:=[(2,⟨0,[],[(1,{ ent:=some (Rl n) })]⟩),(4,⟨0,[],[(2,{ ent:=some (Aqz n) })]⟩),(5,⟨0,[],[(11,{ ent:=some (Aqw n) })]⟩)],join:=[],loop:=[] }
theorem B0k (n:Nat):(Arc n).Sound PP:=B2 (fn:=Tryz.f198) (D:=B4g _ n) ⟨Q1 n,B0d n,B0b n,trivial⟩

def f164 (n:Nat) (a0:LN):Option Int :=
 ob (f198 n a0) λa =>
 ob (f69 n a 1) λb =>
 some b
def Qe (n:Nat):Ent:=⟨164,[hE],[hI],λx=>f164 n x⟩
def B4z (α:Type) (n:Nat):D3 α:={ reg:=[(1,⟨0,[],[(1,{ ent:=some (Arc n) }),(2,{ ent:=some (I7 n) })]⟩)],join:=[],loop:=[] }
theorem B18 (n:Nat):(Qe n).Sound PP:=B2 (fn:=Tryz.f164) (D:=B4z _ n) ⟨B0k n,Q2 n,trivial⟩

def A29 {α:Type} (n:Nat) (c:Int) (b:LN) (d a:Int) (f:Int->LN->Int->Int->Option α) (k0:Int->Option α):Option α :=
 bif (decide (a<d)) then
  gd (decide (0<=a)&&decide (a<(b.length:Int))) (
   let e:=b.getD a.toNat (0,0,0,0)
   bif (e.1==2) then
    f (max c (W (e.2.2.2+1))) b d (W (a+1))
   else
    f c b d (W (a+1)))
 else
  k0 c
abbrev T0:Tm:=⟨[(3,.d hI),(6,.d hNs),(7,.d hI),(8,.d hI)],[],[5],[]⟩
abbrev Asl:Tm:=⟨[(3,.d hI)],[],[],[]⟩
abbrev A28:List (Exit × Tm):=[(.exit 0,Asl)]
def A27 {α:Type} (n:Nat) (v:T0.den) (f:T0.den->Option α) (ks:KS α A28):Option α:=A29 n v.1.1 v.1.2.1 v.1.2.2.1 v.1.2.2.2.1 (λa b c d=>f ((a,b,c,d,()),())) (λw0=>ks.1 ((w0,()),()))
def Yh {α:Type} (n m:Nat) (a:Int) (b:LN) (c d:Int) (k0:Int->Option α):Option α:=A6 (A27 n) m ((a,b,c,d,()),()) (λw=>k0 w.1.1,())
theorem Ask {α n m a b c d k0}:Yh (α:=α) n (m+1) a b c d k0=A29 n a b c d (λa b c d=>Yh n m a b c d k0) k0:=rfl
def f165 (n:Nat) (a0:LN):Option Int :=
 Yh n n 0 a0 (a0.length:Int) 0
  (λa=>(
   some a))
def Asm (n:Nat):Ent:=⟨165,[hNs],[hI],λx=>f165 n x⟩
def Aeu (α:Type) (n:Nat):D3 α:={ reg:=[],join:=[],loop:=[(3,⟨T0,A28,A6 (A27 n) n⟩)] }
theorem A9g (α:Type) (n:Nat):Aq PP (Af (Aeu α n).reg):=trivial
theorem Amq (α:Type) (n:Nat):LO.Sound (α:=α) PP ⟨22,[]⟩ ⟨T0,A28,A6 (A27 n) n⟩ (.loop ((A0 Tryz.f165).at [1,1,0,1,0,0])):=Ca (D:=Aeu α n) (A9g α n) n
theorem B4y (α:Type) (n:Nat):D3.OK PP TT ⟨22,[]⟩ (Aeu α n) (A0 Tryz.f165) :=
 D3.OK.mk3 (A9g α n) (show Aa (A0 Tryz.f165)=[(3,(.loop ((A0 Tryz.f165).at [1,1,0,1,0,0])))] by kernel_rfl) ⟨Ad rfl (Amq α n),trivial⟩
theorem B16 (n:Nat):(Asm n).Sound PP:=fk (fn:=Tryz.f165) (B4y _ n)

abbrev Apg:Tm:=⟨[(1,.d hRs),(2,.k (.hp 2 0 0))],[(2,.var 54 true false [.d hNs])],[],[]⟩
def f95 (n:Nat) (a0:LN) (a1:LR):Option Int :=
 ob (f98 n [a1]) λb =>
 ob (f164 n a0) λc =>
 ob (f109 n a1) λd =>
 ob (f69 n d 1) λe =>
 ob (f68 n [b,c,e]) λa =>
 bif (a != 0) then
  ob (f69 n true 8) λf =>
  ob (f68 n [a,f]) λg =>
  some g
 else
  ob (f165 n a0) λh =>
  ob (f69 n (decide ((a1.length:Int)>=h)) 8) λi =>
  ob (f68 n [a,i]) λj =>
  some j
def Gu (n:Nat):Ent:=⟨95,[hE,hRs],[hI],λx=>f95 n x.1 x.2⟩
def Axx (α:Type) (n:Nat):D3 α:={ reg:=[(1,⟨0,[],[(1,{ sh:=some hRs }),(2,{ ent:=some (Dh n) }),(4,{ ent:=some (Qe n) }),(6,{ ent:=some (Ko n) }),(7,{ ent:=some (I7 n) }),(8,{ sh:=some hI }),(9,{ ent:=some (C7 n) })]⟩),(2,⟨0,[],[(8,{ ent:=some (Asm n) }),(11,{ ent:=some (I7 n) }),(12,{ sh:=some hI }),(13,{ ent:=some (C7 n) })]⟩)],join:=[],loop:=[],any:=[(1,Apg)] }
set_option maxHeartbeats 8000000 in
theorem B33 (n:Nat):Am TT ⟨30,[]⟩ [(1,{ sh:=some hRs }),(2,{ ent:=some (Dh n) }),(4,{ ent:=some (Qe n) }),(6,{ ent:=some (Ko n) }),(7,{ ent:=some (I7 n) }),(8,{ sh:=some hI }),(9,{ ent:=some (C7 n) })] Apg (A4 ((A0 Tryz.f95).at [1,0])):=by
 refine ⟨by kernel_rfl,λw q hq=>?_⟩
 have e:WT [(1,{ sh:=some hRs }),(2,{ ent:=some (Dh n) }),(4,{ ent:=some (Qe n) }),(6,{ ent:=some (Ko n) }),(7,{ ent:=some (I7 n) }),(8,{ sh:=some hI }),(9,{ ent:=some (C7 n) })] (A7 (A4 ((A0 Tryz.f95).at [1,0])).toList) q=(∃ (y0:HL (Dh n).rs) (q0:List (Nat × RV)),q=(2,.sv (Ae (Dh n).rs y0))::q0 /\ ∃ (y1:HL (Qe n).rs) (q1:List (Nat × RV)),q0=(4,.sv (Ae (Qe n).rs y1))::q1 /\ ∃ (y2:HL (Ko n).rs) (q2:List (Nat × RV)),q1=(6,.sv (Ae (Ko n).rs y2))::q2 /\ ∃ (y3:HL (I7 n).rs) (q3:List (Nat × RV)),q2=(7,.sv (Ae (I7 n).rs y3))::q3 /\ ∃ (y4:HL (C7 n).rs) (q4:List (Nat × RV)),q3=(9,.sv (Ae (C7 n).rs y4))::q4/\q4=[]):=by kernel_rfl
 rw [e] at hq;obtain ⟨y0,q0,rfl,y1,q1,rfl,y2,q2,rfl,y3,q3,rfl,y4,q4,rfl,rfl⟩:=hq
 all_goals exact .inr ⟨6,by kernel_rfl,by kernel_rfl,by kernel_rfl⟩
theorem Ave (α:Type) (n:Nat):Aq PP (Af (Axx α n).reg):=⟨A40 n,B18 n,A7b n,Q2 n,Q3 n,B16 n,Q2 n,Q3 n,trivial⟩
theorem B6h (α:Type) (n:Nat):D3.OK PP TT ⟨30,[]⟩ (Axx α n) (A0 Tryz.f95) :=
 D3.OK.mk3a (Ave α n) (show Aa (A0 Tryz.f95)=[] by kernel_rfl) trivial (show Ar (A0 Tryz.f95)=[(1,A4 ((A0 Tryz.f95).at [1,0]))] by kernel_rfl) ⟨⟨B33 n,trivial⟩,trivial⟩
theorem Aco (n:Nat):(Gu n).Sound PP:=fk (fn:=Tryz.f95) (B6h _ n)

def A6n {α:Type} (n:Nat) (b c:Int) (a:LR) (f:Int->Int->LR->Option α) (k0:LR->Option α):Option α :=
 bif (decide (c<b)) then
  ob (f92 n 0) λd =>
  gd (decide ((a.length+1)*56<=140737488355328)) (
   f b (W (c+1)) (a++[d]))
 else
  k0 a
abbrev Xv:Tm:=⟨[(3,.k (.hw 4)),(5,.d hI),(6,.d hI)],[(4,.arr 30 hR false)],[10],[]⟩
abbrev Avm:Tm:=⟨[(3,.k (.hw 4))],[(4,.arr 30 hR false)],[],[]⟩
abbrev A6m:List (Exit × Tm):=[(.exit 0,Avm)]
def A6l {α:Type} (n:Nat) (v:Xv.den) (f:Xv.den->Option α) (ks:KS α A6m):Option α:=A6n n v.1.2.1 v.1.2.2.1 v.2.1 (λa b c=>f (((),a,b,()),(c,()))) (λw0=>ks.1 (((),()),(w0,())))
def A44 {α:Type} (n m:Nat) (a b:Int) (c:LR) (k0:LR->Option α):Option α:=A6 (A6l n) m (((),a,b,()),(c,())) (λw=>k0 w.2.1,())
theorem Avl {α n m a b c k0}:A44 (α:=α) n (m+1) a b c k0=A6n n a b c (λa b c=>A44 n m a b c k0) k0:=rfl
def f72 (n:Nat) (a0:Int):Option LR :=
 A44 n n a0 0 []
  (λa=>(
   some a))
def Gw (n:Nat):Ent:=⟨72,[hI],[hRs],λx=>f72 n x⟩
def Al2 (α:Type) (n:Nat):D3 α:={ reg:=[(1,⟨0,[],[(0,{ sh:=some hR })]⟩),(4,⟨0,[],[(1,{ ent:=some (As n) }),(2,{ sh:=some hR })]⟩)],join:=[],loop:=[(3,⟨Xv,A6m,A6 (A6l n) n⟩)] }
theorem Acv (α:Type) (n:Nat):Aq PP (Af (Al2 α n).reg):=⟨B8 n,trivial⟩
theorem Apq (α:Type) (n:Nat):LO.Sound (α:=α) PP ⟨14,[]⟩ ⟨Xv,A6m,A6 (A6l n) n⟩ (.loop ((A0 Tryz.f72).at [1,1,0,1,0,0])):=Ca (D:=Al2 α n) (Acv α n) n
theorem B6q (α:Type) (n:Nat):D3.OK PP TT ⟨14,[]⟩ (Al2 α n) (A0 Tryz.f72) :=
 D3.OK.mk3 (Acv α n) (show Aa (A0 Tryz.f72)=[(3,(.loop ((A0 Tryz.f72).at [1,1,0,1,0,0])))] by kernel_rfl) ⟨Ad rfl (Apq α n),trivial⟩
theorem Acu (n:Nat):(Gw n).Sound PP:=fk (fn:=Tryz.f72) (B6q _ n)

abbrev Aj5:Tm:=⟨[(2,.k (.hp 2 0 0)),(3,.k (.hp 3 0 0)),(4,.k (.hp 4 0 0))],[(2,.var 118 true false [.d hI,.d .nil]),(3,.var 30 true false [.d .bool,.d hIs,.d hIs]),(4,.var 115 true false [.d .bool,.d .nil,.d .nil,.d .nil,.d .nil,.d .bool,.d .nil,.d .nil])],[],[]⟩
def f215 (n:Nat) (a0:Int × Unit) (a1:Rq):Option (Rq × LR × Unit × Rq) :=
 ob (f72 n a0.1) λa =>
 ob (f92 n 0) λb =>
 some (a1,a,(),b)
def Aqr (n:Nat):Ent:=⟨215,[(.st (.pair hI .nil)),hR],[(.st (.pair hR (.pair hRs (.pair .nil hR))))],λx=>f215 n x.1 x.2⟩
def Aqs (α:Type) (n:Nat):D3 α:={ reg:=[(1,⟨0,[],[(3,{ ent:=some (Gw n) }),(4,{ ent:=some (As n) })]⟩)],join:=[],loop:=[],any:=[(1,Aj5)] }
set_option maxHeartbeats 8000000 in
theorem B09 (n:Nat):Am TT ⟨20,[]⟩ [(3,{ ent:=some (Gw n) }),(4,{ ent:=some (As n) })] Aj5 (A4 ((A0 Tryz.f215).at [1,0])):=by
 refine ⟨by kernel_rfl,λw q hq=>?_⟩
 have e:WT [(3,{ ent:=some (Gw n) }),(4,{ ent:=some (As n) })] (A7 (A4 ((A0 Tryz.f215).at [1,0])).toList) q=(∃ (y0:HL (Gw n).rs) (q0:List (Nat × RV)),q=(3,.sv (Ae (Gw n).rs y0))::q0 /\ ∃ (y1:HL (As n).rs) (q1:List (Nat × RV)),q0=(4,.sv (Ae (As n).rs y1))::q1/\q1=[]):=by kernel_rfl
 rw [e] at hq;obtain ⟨y0,q0,rfl,y1,q1,rfl,rfl⟩:=hq
 all_goals exact .inr ⟨7,by kernel_rfl,by kernel_rfl,by kernel_rfl⟩
theorem Aqq (α:Type) (n:Nat):Aq PP (Af (Aqs α n).reg):=⟨Acu n,B8 n,trivial⟩
theorem B47 (α:Type) (n:Nat):D3.OK PP TT ⟨20,[]⟩ (Aqs α n) (A0 Tryz.f215) :=
 D3.OK.mk3a (Aqq α n) (show Aa (A0 Tryz.f215)=[] by kernel_rfl) trivial (show Ar (A0 Tryz.f215)=[(1,A4 ((A0 Tryz.f215).at [1,0]))] by kernel_rfl) ⟨⟨B09 n,trivial⟩,trivial⟩
theorem B08 (n:Nat):(Aqr n).Sound PP:=fk (fn:=Tryz.f215) (B47 _ n)

def A0d {α:Type} (n:Nat) (b c:Int) (a:LR) (f:Int->Int->LR->Option α) (k0:LR->Option α):Option α :=
 bif (decide (c<b)) then
  ob (f92 n 0) λd =>
  gd (decide ((a.length+1)*56<=140737488355328)) (
   f b (W (c+1)) (a++[d]))
 else
  k0 a
abbrev Rk:Tm:=⟨[(3,.k (.hw 4)),(5,.d hI),(6,.d hI)],[(4,.arr 30 hR false)],[10],[]⟩
abbrev Aps:Tm:=⟨[(3,.k (.hw 4))],[(4,.arr 30 hR false)],[],[]⟩
abbrev A0c:List (Exit × Tm):=[(.exit 0,Aps)]
def A0b {α:Type} (n:Nat) (v:Rk.den) (f:Rk.den->Option α) (ks:KS α A0c):Option α:=A0d n v.1.2.1 v.1.2.2.1 v.2.1 (λa b c=>f (((),a,b,()),(c,()))) (λw0=>ks.1 (((),()),(w0,())))
def Xw {α:Type} (n m:Nat) (a b:Int) (c:LR) (k0:LR->Option α):Option α:=A6 (A0b n) m (((),a,b,()),(c,())) (λw=>k0 w.2.1,())
theorem Apr {α n m a b c k0}:Xw (α:=α) n (m+1) a b c k0=A0d n a b c (λa b c=>Xw n m a b c k0) k0:=rfl
def A0e (n:Nat) (a0:Int):Option LR :=
 Xw n n a0 0 []
  (λa=>(
   some a))
def Dj (n:Nat):Ent3:=⟨72,[.im hI],[[.one (.own 30 hR)]],λx=>A0e n x⟩
def Acw (α:Type) (n:Nat):D3 α:={ reg:=[(1,⟨0,[],[(0,{ sh:=some hR })]⟩),(4,⟨0,[],[(1,{ ent:=some (As n) }),(2,{ sh:=some hR })]⟩)],join:=[],loop:=[(3,⟨Rk,A0c,A6 (A0b n) n⟩)] }
theorem A8k (α:Type) (n:Nat):Aq PP (Af (Acw α n).reg):=⟨B8 n,trivial⟩
theorem Al3 (α:Type) (n:Nat):LO.Sound (α:=α) PP ⟨14,[]⟩ ⟨Rk,A0c,A6 (A0b n) n⟩ (.loop ((A0 Tryz.f72).at [1,1,0,1,0,0])):=Ca (D:=Acw α n) (A8k α n) n
theorem B38 (α:Type) (n:Nat):D3.OK PP TT ⟨14,[]⟩ (Acw α n) (A0 Tryz.f72) :=
 D3.OK.mk3 (A8k α n) (show Aa (A0 Tryz.f72)=[(3,(.loop ((A0 Tryz.f72).at [1,1,0,1,0,0])))] by kernel_rfl) ⟨Ad rfl (Al3 α n),trivial⟩
theorem A6o (n:Nat):(Dj n).Sound PP:=fkB (fn:=Tryz.f72) (B38 _ n)

abbrev Adx:Tm:=⟨[(2,.k (.hp 2 0 0)),(3,.k (.hp 3 0 0)),(4,.k (.hp 4 0 0))],[(2,.var 118 true false [.d hI,.d .nil]),(3,.var 30 true false [.d .bool,.d hIs,.d hIs]),(4,.var 115 true false [.d .bool,.d .nil,.d .nil,.d .nil,.d .nil,.d .bool,.d .nil,.d .nil])],[],[]⟩
def Alq (n:Nat) (a0:Int × Unit) (a1:Rq):Option (Bool × LI × LI × LR × Unit × Bool × LI × LI) :=
 ob (A0e n a0.1) λb =>
 ob (f92 n 0) λa =>
 some (a1.1,a1.2.1,a1.2.2,b,(),a.1,a.2.1,a.2.2)
def Aj6 (n:Nat):Ent3:=⟨215,[.im (.st (.pair hI .nil)),.im hR],[[.mix [.im .bool,.im hIs,.im hIs,.own 30 hR,.im .nil,.im .bool,.im hIs,.im hIs]]],λx=>Alq n x.1 x.2⟩
def Aj7 (α:Type) (n:Nat):D3 α:={ reg:=[(1,⟨0,[],[(3,{ entB:=some (Dj n),hb:=310 }),(4,{ ent:=some (As n) })]⟩)],join:=[],loop:=[],any:=[(1,Adx)] }
set_option maxHeartbeats 8000000 in
theorem Awb (n:Nat):Am TT ⟨20,[]⟩ [(3,{ entB:=some (Dj n),hb:=310 }),(4,{ ent:=some (As n) })] Adx (A4 ((A0 Tryz.f215).at [1,0])):=by
 refine ⟨by kernel_rfl,λw q hq=>?_⟩
 have e:WT [(3,{ entB:=some (Dj n),hb:=310 }),(4,{ ent:=some (As n) })] (A7 (A4 ((A0 Tryz.f215).at [1,0])).toList) q=(∃ (y0:HF (Ao 1000 (Dj n).ts) (Dj n).forms) (q0:List (Nat × RV)),q=(3,.bx (Dj n) y0)::q0 /\ ∃ (y1:HL (As n).rs) (q1:List (Nat × RV)),q0=(4,.sv (Ae (As n).rs y1))::q1/\q1=[]):=by kernel_rfl
 rw [e] at hq;obtain ⟨y0,q0,rfl,y1,q1,rfl,rfl⟩:=hq
 all_goals exact .inl (Iu.mk (by kernel_rfl))
theorem Alp (α:Type) (n:Nat):Aq PP (Af (Aj7 α n).reg):=⟨A6o n,B8 n,trivial⟩
theorem B0a (α:Type) (n:Nat):D3.OK PP TT ⟨20,[]⟩ (Aj7 α n) (A0 Tryz.f215) :=
 D3.OK.mk3a (Alp α n) (show Aa (A0 Tryz.f215)=[] by kernel_rfl) trivial (show Ar (A0 Tryz.f215)=[(1,A4 ((A0 Tryz.f215).at [1,0]))] by kernel_rfl) ⟨⟨Awb n,trivial⟩,trivial⟩
theorem Awa (n:Nat):(Aj6 n).Sound PP:=fkB (fn:=Tryz.f215) (B0a _ n)

abbrev B06:Tm:=⟨[(2,.d hI),(3,.k (.hp 3 0 0)),(6,.k (.hp 6 0 0)),(7,.k (.hp 7 0 0))],[(3,.var 118 true false [.d hI,.d .nil]),(6,.var 115 true false [.d .bool,.d .nil,.d .nil,.d .nil,.d .nil,.d .bool,.d .nil,.d .nil]),(7,.var 115 false false [.d .bool,.d hIs,.d hIs,.k (.hw 313),.d .nil,.d .bool,.d hIs,.d hIs]),(313,.arr 30 hR false)],[4],[]⟩
def f216 (n:Nat) (a0:Int × Unit) (a1:Rq) (a2:Int):Option (Rq × LR × Unit × Rq) :=
 ob (Alq n a0 a1) λa =>
 let b:=λ(c:LR)=>(
  some ((a.1,a.2.1,a.2.2.1),c,(),a.2.2.2.2.2))
 bif (decide (a2<a0.1)) then
  ob (f92 n 1) λd =>
  gd (decide (0<=a2)&&decide (a2<(a.2.2.2.1.length:Int))) (
   gd (decide (a2.toNat<a.2.2.2.1.length)) (
    b (a.2.2.2.1.set a2.toNat d)))
 else
  b a.2.2.2.1
def Aqp (n:Nat):Ent:=⟨216,[(.st (.pair hI .nil)),hR,hI],[(.st (.pair hR (.pair hRs (.pair .nil hR))))],λx=>f216 n x.1 x.2.1 x.2.2⟩
def B46 (α:Type) (n:Nat):D3 α:={ reg:=[(1,⟨0,[],[(2,{ alt:=[(Aj6 n)],hb:=310 })]⟩),(3,⟨4,[],[(3,{ ent:=some (As n) })]⟩)],join:=[(4,B06)],loop:=[] }
theorem B05 (n:Nat):(Aqp n).Sound PP:=B2 (fn:=Tryz.f216) (D:=B46 _ n) ⟨Awa n,B8 n,trivial⟩

def A0s {α:Type} (n:Nat) (b:LR) (e a:Int) (p:Bool) (q r:LI) (s:LR) (t:Bool) (u v:LI) (w:Bool) (x y:LI) (c:LR) (z:Bool) (d0 d1:LI) (g h i:Bool) (j k:LI) (l:Bool) (m o:LI) (d:LR) (f:LR->Int->Int->Bool->LI->LI->LR->Bool->LI->LI->Bool->LI->LI->LR->Bool->LI->LI->Bool->Bool->Bool->LI->LI->Bool->LI->LI->LR->Option α) (k0:Bool->Bool->Bool->LI->LI->Bool->LI->LI->LR->Option α):Option α :=
 bif (decide (a<e)) then
  gd (decide (0<=a)&&decide (a<(b.length:Int))) (
   let d2:=b.getD a.toNat (false,[],[])
   gd (decide (0<=a)&&decide (a<(c.length:Int))) (
    let d3:=c.getD a.toNat (false,[],[])
    ob (f104 n d2 d3) λd4 =>
    gd (decide ((d.length+1)*56<=140737488355328)) (
     f b e (W (a+1)) p q r s t u v w x y c z d0 d1 g h i j k l m o (d++[d4]))))
 else
  k0 g h i j k l m o d
abbrev Ry:Tm:=⟨[(2,.k (.hp 2 0 0)),(3,.k (.hp 3 0 0)),(4,.k (.hp 4 0 0)),(5,.k (.hp 5 0 0)),(20,.d hRs),(21,.d hI),(22,.d hI)],[(2,.var 115 true false [.d .bool,.d hIs,.d hIs,.d hRs,.d .nil,.d .bool,.d hIs,.d hIs]),(3,.var 115 true false [.d .bool,.d hIs,.d hIs,.d hRs,.d .nil,.d .bool,.d hIs,.d hIs]),(4,.var 115 true false [.d .bool,.d .nil,.d .nil,.d .nil,.d .nil,.d .bool,.d .nil,.d .nil]),(5,.var 115 false false [.d .bool,.d hIs,.d hIs,.k (.hw 37),.d .nil,.d .bool,.d hIs,.d hIs]),(37,.arr 30 hR false)],[7,36],[]⟩
abbrev Aqo:Tm:=⟨[(4,.k (.hp 4 0 0)),(5,.k (.hp 5 0 0))],[(4,.var 115 true false [.d .bool,.d .nil,.d .nil,.d .nil,.d .nil,.d .bool,.d .nil,.d .nil]),(5,.var 115 false false [.d .bool,.d hIs,.d hIs,.k (.hw 37),.d .nil,.d .bool,.d hIs,.d hIs]),(37,.arr 30 hR false)],[2,3],[]⟩
abbrev A0r:List (Exit × Tm):=[(.exit 0,Aqo)]
def A0q {α:Type} (n:Nat) (v:Ry.den) (f:Ry.den->Option α) (ks:KS α A0r):Option α:=A0s n v.1.2.2.2.2.1 v.1.2.2.2.2.2.1 v.1.2.2.2.2.2.2.1 v.2.1.1 v.2.1.2.1 v.2.1.2.2.1 v.2.1.2.2.2.1 v.2.1.2.2.2.2.2.1 v.2.1.2.2.2.2.2.2.1 v.2.1.2.2.2.2.2.2.2.1 v.2.2.1.1 v.2.2.1.2.1 v.2.2.1.2.2.1 v.2.2.1.2.2.2.1 v.2.2.1.2.2.2.2.2.1 v.2.2.1.2.2.2.2.2.2.1 v.2.2.1.2.2.2.2.2.2.2.1 v.2.2.2.1.1 v.2.2.2.1.2.2.2.2.2.1 v.2.2.2.2.1.1 v.2.2.2.2.1.2.1 v.2.2.2.2.1.2.2.1 v.2.2.2.2.1.2.2.2.2.2.1 v.2.2.2.2.1.2.2.2.2.2.2.1 v.2.2.2.2.1.2.2.2.2.2.2.2.1 v.2.2.2.2.2.1 (λa b c d e g h i j k l m o p q r s t u w x y z d0 d1 d2=>f (((),(),(),(),a,b,c,()),((d,e,g,h,(),i,j,k,()),(l,m,o,p,(),q,r,s,()),(t,(),(),(),(),u,(),(),()),(w,x,y,(),(),z,d0,d1,()),d2,()))) (λw0 w1 w2 w3 w4 w5 w6 w7 w8=>ks.1 (((),(),()),((w0,(),(),(),(),w1,(),(),()),(w2,w3,w4,(),(),w5,w6,w7,()),w8,())))
def Y3 {α:Type} (n m:Nat) (a:LR) (b c:Int) (d:Bool) (e f:LI) (g:LR) (h:Bool) (i j:LI) (k:Bool) (l o:LI) (p:LR) (q:Bool) (r s:LI) (t u v:Bool) (x y:LI) (z:Bool) (d0 d1:LI) (d2:LR) (k0:Bool->Bool->Bool->LI->LI->Bool->LI->LI->LR->Option α):Option α:=A6 (A0q n) m (((),(),(),(),a,b,c,()),((d,e,f,g,(),h,i,j,()),(k,l,o,p,(),q,r,s,()),(t,(),(),(),(),u,(),(),()),(v,x,y,(),(),z,d0,d1,()),d2,())) (λw=>k0 w.2.1.1 w.2.1.2.2.2.2.2.1 w.2.2.1.1 w.2.2.1.2.1 w.2.2.1.2.2.1 w.2.2.1.2.2.2.2.2.1 w.2.2.1.2.2.2.2.2.2.1 w.2.2.1.2.2.2.2.2.2.2.1 w.2.2.2.1,())
theorem Aqm {α n m a b c d e f g h i j k l o p q r s t u v w x y z d0 d1 k0}:Y3 (α:=α) n (m+1) a b c d e f g h i j k l o p q r s t u v w x y z d0 d1 k0=A0s n a b c d e f g h i j k l o p q r s t u v w x y z d0 d1 (λa b c d e f g h i j k l o p q r s t u v w x y z d0 d1=>Y3 n m a b c d e f g h i j k l o p q r s t u v w x y z d0 d1 k0) k0:=rfl
abbrev Aj0:Tm:=⟨[(2,.k (.hp 2 0 0)),(3,.k (.hp 3 0 0)),(4,.k (.hp 4 0 0))],[(2,.var 115 true false [.d .bool,.d hIs,.d hIs,.d hRs,.d .nil,.d .bool,.d hIs,.d hIs]),(3,.var 115 true false [.d .bool,.d hIs,.d hIs,.d hRs,.d .nil,.d .bool,.d hIs,.d hIs]),(4,.var 115 true false [.d .bool,.d .nil,.d .nil,.d .nil,.d .nil,.d .bool,.d .nil,.d .nil])],[],[]⟩
abbrev Aiz:Tm:=⟨[(2,.k (.hp 2 0 0)),(3,.k (.hp 3 0 0)),(4,.k (.hp 4 0 0)),(5,.k (.hp 5 0 0)),(6,.d hI),(7,.k (.hp 7 0 0)),(20,.d hRs),(21,.d hI),(22,.d hI)],[(2,.var 115 true false [.d .bool,.d hIs,.d hIs,.d hRs,.d .nil,.d .bool,.d hIs,.d hIs]),(3,.var 115 true false [.d .bool,.d hIs,.d hIs,.d hRs,.d .nil,.d .bool,.d hIs,.d hIs]),(4,.var 115 true false [.d .bool,.d .nil,.d .nil,.d .nil,.d .nil,.d .bool,.d .nil,.d .nil]),(5,.var 115 true false [.d .bool,.d hIs,.d hIs,.d .nil,.d .nil,.d .bool,.d hIs,.d hIs]),(7,.var 30 true false [.d .bool,.d hIs,.d hIs])],[],[]⟩
abbrev A8t:Tm:=⟨[(2,.k (.hp 2 0 0)),(3,.k (.hp 3 0 0)),(4,.k (.hp 4 0 0)),(5,.k (.hp 5 0 0)),(6,.d hI),(7,.k (.hp 7 0 0)),(20,.d hRs),(21,.d hI),(22,.d hI)],[(2,.var 115 true false [.d .bool,.d hIs,.d hIs,.d hRs,.d .nil,.d .bool,.d hIs,.d hIs]),(3,.var 115 true false [.d .bool,.d hIs,.d hIs,.d hRs,.d .nil,.d .bool,.d hIs,.d hIs]),(4,.var 115 true false [.d .bool,.d .nil,.d .nil,.d .nil,.d .nil,.d .bool,.d .nil,.d .nil]),(5,.var 115 false false [.d .bool,.d hIs,.d hIs,.k (.hw 37),.d .nil,.d .bool,.d hIs,.d hIs]),(7,.var 30 true false [.d .bool,.d hIs,.d hIs]),(37,.arr 30 hR false)],[],[]⟩
def f217 (n:Nat) (a0 a1:Rq × LR × Unit × Rq):Option (Rq × LR × Unit × Rq) :=
 ob (f104 n a0.1 a1.1) λa =>
 ob (f104 n a0.2.2.2 a1.2.2.2) λb =>
 bif (decide (0<(a0.2.1.length:Int))) then
  gd (decide (0<(a0.2.1.length:Int))) (
   let c:=a0.2.1.getD 0 (false,[],[])
   gd (decide (0<(a1.2.1.length:Int))) (
    let d:=a1.2.1.getD 0 (false,[],[])
    ob (f104 n c d) λe =>
    Y3 n n a0.2.1 (a0.2.1.length:Int) 1 a0.1.1 a0.1.2.1 a0.1.2.2 a0.2.1 a0.2.2.2.1 a0.2.2.2.2.1 a0.2.2.2.2.2 a1.1.1 a1.1.2.1 a1.1.2.2 a1.2.1 a1.2.2.2.1 a1.2.2.2.2.1 a1.2.2.2.2.2 false false a.1 a.2.1 a.2.2 b.1 b.2.1 b.2.2 [e]
     (λm o f g h i j k l=>(
      some ((f,g,h),l,(),i,j,k)))))
 else
  some (a,[],(),b)
def Adu (n:Nat):Ent:=⟨217,[(.st (.pair hR (.pair hRs (.pair .nil hR)))),(.st (.pair hR (.pair hRs (.pair .nil hR))))],[(.st (.pair hR (.pair hRs (.pair .nil hR))))],λx=>f217 n x.1 x.2⟩
def Adv (α:Type) (n:Nat):D3 α:={ reg:=[(1,⟨0,[],[(4,{ ent:=some (Ac n) }),(9,{ ent:=some (Ac n) })]⟩),(5,⟨0,[],[(8,{ ent:=some (Ac n) }),(9,{ sh:=some hR }),(10,{ sh:=some hR })]⟩)],join:=[],loop:=[(3,⟨Ry,A0r,A6 (A0q n) n⟩)],any:=[(1,Aj0),(5,Aiz),(5,A8t)] }
set_option maxHeartbeats 8000000 in
theorem B03 (n:Nat):Am TT ⟨60,[]⟩ [(4,{ ent:=some (Ac n) }),(9,{ ent:=some (Ac n) })] Aj0 (A4 ((A0 Tryz.f217).at [1,0])):=by
 refine ⟨by kernel_rfl,λw q hq=>?_⟩
 have e:WT [(4,{ ent:=some (Ac n) }),(9,{ ent:=some (Ac n) })] (A7 (A4 ((A0 Tryz.f217).at [1,0])).toList) q=(∃ (y0:HL (Ac n).rs) (q0:List (Nat × RV)),q=(4,.sv (Ae (Ac n).rs y0))::q0 /\ ∃ (y1:HL (Ac n).rs) (q1:List (Nat × RV)),q0=(9,.sv (Ae (Ac n).rs y1))::q1/\q1=[]):=by kernel_rfl
 rw [e] at hq;obtain ⟨y0,q0,rfl,y1,q1,rfl,rfl⟩:=hq
 all_goals exact .inr ⟨12,by kernel_rfl,by kernel_rfl,by kernel_rfl⟩
set_option maxHeartbeats 8000000 in
theorem Aj1 (n:Nat):Am TT ⟨60,[]⟩ [(8,{ ent:=some (Ac n) }),(9,{ sh:=some hR }),(10,{ sh:=some hR })] Aiz (A4 ((A0 Tryz.f217).at [1,1,0,1,0,0,1,1,0,0,1,0])):=by
 refine ⟨by kernel_rfl,λw q hq=>?_⟩
 have e:WT [(8,{ ent:=some (Ac n) }),(9,{ sh:=some hR }),(10,{ sh:=some hR })] (A7 (A4 ((A0 Tryz.f217).at [1,1,0,1,0,0,1,1,0,0,1,0])).toList) q=(∃ (y0:HL (Ac n).rs) (q0:List (Nat × RV)),q=(8,.sv (Ae (Ac n).rs y0))::q0/\q0=[]):=by kernel_rfl
 rw [e] at hq;obtain ⟨y0,q0,rfl,rfl⟩:=hq
 all_goals exact .inr ⟨10,by kernel_rfl,by kernel_rfl,by kernel_rfl⟩
set_option maxHeartbeats 8000000 in
theorem A8u (n:Nat):Am TT ⟨60,[]⟩ [(8,{ ent:=some (Ac n) }),(9,{ sh:=some hR }),(10,{ sh:=some hR })] A8t (A4 ((A0 Tryz.f217).at [1,1,0,1,0,0,1,1,0,0,1,0])):=by
 refine ⟨by kernel_rfl,λw q hq=>?_⟩
 have e:WT [(8,{ ent:=some (Ac n) }),(9,{ sh:=some hR }),(10,{ sh:=some hR })] (A7 (A4 ((A0 Tryz.f217).at [1,1,0,1,0,0,1,1,0,0,1,0])).toList) q=(∃ (y0:HL (Ac n).rs) (q0:List (Nat × RV)),q=(8,.sv (Ae (Ac n).rs y0))::q0/\q0=[]):=by kernel_rfl
 rw [e] at hq;obtain ⟨y0,q0,rfl,rfl⟩:=hq
 all_goals exact .inr ⟨10,by kernel_rfl,by kernel_rfl,by kernel_rfl⟩
theorem A8s (α:Type) (n:Nat):Aq PP (Af (Adv α n).reg):=⟨Bz n,Bz n,Bz n,trivial⟩
theorem Aqn (α:Type) (n:Nat):D3.OK PP TT ⟨60,[]⟩ (Adv α n) ((A0 Tryz.f217).at [1,1,0,1,0,0]) :=
 D3.OK.mk3a (A8s α n) (show Aa ((A0 Tryz.f217).at [1,1,0,1,0,0])=[] by kernel_rfl) trivial (show Ar ((A0 Tryz.f217).at [1,1,0,1,0,0])=[(5,A4 ((A0 Tryz.f217).at [1,1,0,1,0,0,1,1,0,0,1,0])),(7,A4 ((A0 Tryz.f217).at [1,1,0,1,0,0,1,1,0,0,1,1,1,0]))] by kernel_rfl) ⟨⟨Aj1 n,A8u n,trivial⟩,trivial,trivial⟩
theorem Aln (α:Type) (n:Nat):LO.Sound (α:=α) PP ⟨60,[]⟩ ⟨Ry,A0r,A6 (A0q n) n⟩ (.loop ((A0 Tryz.f217).at [1,1,0,1,0,0])):=lk (Aqn α n) n
theorem B45 (α:Type) (n:Nat):D3.OK PP TT ⟨60,[]⟩ (Adv α n) (A0 Tryz.f217) :=
 D3.OK.mk3a (A8s α n) (show Aa (A0 Tryz.f217)=[(3,(.loop ((A0 Tryz.f217).at [1,1,0,1,0,0])))] by kernel_rfl) ⟨Ad rfl (Aln α n),trivial⟩ (show Ar (A0 Tryz.f217)=[(1,A4 ((A0 Tryz.f217).at [1,0])),(5,A4 ((A0 Tryz.f217).at [1,1,0,1,0,0,1,1,0,0,1,0])),(7,A4 ((A0 Tryz.f217).at [1,1,0,1,0,0,1,1,0,0,1,1,1,0]))] by kernel_rfl) ⟨⟨B03 n,trivial⟩,⟨Aj1 n,A8u n,trivial⟩,trivial,trivial⟩
theorem Aiy (n:Nat):(Adu n).Sound PP:=fk (fn:=Tryz.f217) (B45 _ n)

def f227 (n:Nat) (a0 a1:Rq):Option Rq :=
 ob (f103 n a0 a1) λa =>
 some a
def C9 (n:Nat):Ent:=⟨227,[hR,(.ref hR)],[hR],λx=>f227 n x.1 x.2⟩
def B3y (α:Type) (n:Nat):D3 α:={ reg:=[(1,⟨0,[],[(2,{ ent:=some (A9 n) })]⟩)],join:=[],loop:=[] }
theorem Aim (n:Nat):(C9 n).Sound PP:=B2 (fn:=Tryz.f227) (D:=B3y _ n) ⟨At n,trivial⟩

def Ha {α:Type} (n:Nat) (d:Rq) (p:(Bool × LI × LI × LR × Unit × Bool × LI × LI) × Rq) (b:LR) (e a:Int) (q:Bool) (r s:LI) (t:LR) (u:Bool) (v w:LI) (g h i:Bool) (j k:LI) (l:Bool) (m o:LI) (c:LR) (f:Rq->((Bool × LI × LI × LR × Unit × Bool × LI × LI) × Rq)->LR->Int->Int->Bool->LI->LI->LR->Bool->LI->LI->Bool->Bool->Bool->LI->LI->Bool->LI->LI->LR->Option α) (k0:Bool->Bool->Bool->LI->LI->Bool->LI->LI->LR->Option α):Option α :=
 bif (decide (a<e)) then
  gd (decide (0<=a)&&decide (a<(b.length:Int))) (
   let x:=b.getD a.toNat (false,[],[])
   ob (f227 n x d) λy =>
   gd (decide ((c.length+1)*56<=140737488355328)) (
    f d p b e (W (a+1)) q r s t u v w g h i j k l m o (c++[y])))
 else
  k0 g h i j k l m o c
abbrev Eo:Tm:=⟨[(3,.d (.clo 227 (.ref hR))),(4,.d (.clo 228 (.pair (.ref (.st (.pair .bool (.pair hIs (.pair hIs (.pair hRs (.pair .nil (.pair .bool (.pair hIs hIs))))))))) (.ref hR)))),(5,.k (.hp 5 0 0)),(10,.k (.hp 10 0 0)),(11,.k (.hp 11 0 0)),(18,.d hRs),(19,.d hI),(20,.d hI)],[(5,.var 115 true false [.d .bool,.d hIs,.d hIs,.d hRs,.d .nil,.d .bool,.d hIs,.d hIs]),(10,.var 115 true false [.d .bool,.d .nil,.d .nil,.d .nil,.d .nil,.d .bool,.d .nil,.d .nil]),(11,.var 115 false false [.d .bool,.d hIs,.d hIs,.k (.hw 31),.d .nil,.d .bool,.d hIs,.d hIs]),(31,.arr 30 hR false)],[13,30],[]⟩
abbrev Z1:Tm:=⟨[(10,.k (.hp 10 0 0)),(11,.k (.hp 11 0 0))],[(10,.var 115 true false [.d .bool,.d .nil,.d .nil,.d .nil,.d .nil,.d .bool,.d .nil,.d .nil]),(11,.var 115 false false [.d .bool,.d hIs,.d hIs,.k (.hw 31),.d .nil,.d .bool,.d hIs,.d hIs]),(31,.arr 30 hR false)],[5],[]⟩
abbrev H9:List (Exit × Tm):=[(.exit 0,Z1)]
def H8 {α:Type} (n:Nat) (v:Eo.den) (f:Eo.den->Option α) (ks:KS α H9):Option α:=Ha n v.1.1 v.1.2.1 v.1.2.2.2.2.2.1 v.1.2.2.2.2.2.2.1 v.1.2.2.2.2.2.2.2.1 v.2.1.1 v.2.1.2.1 v.2.1.2.2.1 v.2.1.2.2.2.1 v.2.1.2.2.2.2.2.1 v.2.1.2.2.2.2.2.2.1 v.2.1.2.2.2.2.2.2.2.1 v.2.2.1.1 v.2.2.1.2.2.2.2.2.1 v.2.2.2.1.1 v.2.2.2.1.2.1 v.2.2.2.1.2.2.1 v.2.2.2.1.2.2.2.2.2.1 v.2.2.2.1.2.2.2.2.2.2.1 v.2.2.2.1.2.2.2.2.2.2.2.1 v.2.2.2.2.1 (λa b c d e g h i j k l m o p q r s t u w x=>f ((a,b,(),(),(),c,d,e,()),((g,h,i,j,(),k,l,m,()),(o,(),(),(),(),p,(),(),()),(q,r,s,(),(),t,u,w,()),x,()))) (λw0 w1 w2 w3 w4 w5 w6 w7 w8=>ks.1 (((),(),()),((w0,(),(),(),(),w1,(),(),()),(w2,w3,w4,(),(),w5,w6,w7,()),w8,())))
def Fe {α:Type} (n m:Nat) (a:Rq) (b:(Bool × LI × LI × LR × Unit × Bool × LI × LI) × Rq) (c:LR) (d e:Int) (f:Bool) (g h:LI) (i:LR) (j:Bool) (k l:LI) (o p q:Bool) (r s:LI) (t:Bool) (u v:LI) (x:LR) (k0:Bool->Bool->Bool->LI->LI->Bool->LI->LI->LR->Option α):Option α:=A6 (H8 n) m ((a,b,(),(),(),c,d,e,()),((f,g,h,i,(),j,k,l,()),(o,(),(),(),(),p,(),(),()),(q,r,s,(),(),t,u,v,()),x,())) (λw=>k0 w.2.1.1 w.2.1.2.2.2.2.2.1 w.2.2.1.1 w.2.2.1.2.1 w.2.2.1.2.2.1 w.2.2.1.2.2.2.2.2.1 w.2.2.1.2.2.2.2.2.2.1 w.2.2.1.2.2.2.2.2.2.2.1 w.2.2.2.1,())
theorem Yz {α n m a b c d e f g h i j k l o p q r s t u v w k0}:Fe (α:=α) n (m+1) a b c d e f g h i j k l o p q r s t u v w k0=Ha n a b c d e f g h i j k l o p q r s t u v w (λa b c d e f g h i j k l o p q r s t u v w=>Fe n m a b c d e f g h i j k l o p q r s t u v w k0) k0:=rfl
abbrev On:Tm:=⟨[(3,.d (.clo 227 (.ref hR))),(4,.d (.clo 228 (.pair (.ref (.st (.pair .bool (.pair hIs (.pair hIs (.pair hRs (.pair .nil (.pair .bool (.pair hIs hIs))))))))) (.ref hR)))),(5,.k (.hp 5 0 0)),(10,.k (.hp 10 0 0)),(11,.k (.hp 11 0 0)),(12,.d hI),(13,.k (.hp 13 0 0)),(18,.d hRs),(19,.d hI),(20,.d hI)],[(5,.var 115 true false [.d .bool,.d hIs,.d hIs,.d hRs,.d .nil,.d .bool,.d hIs,.d hIs]),(10,.var 115 true false [.d .bool,.d .nil,.d .nil,.d .nil,.d .nil,.d .bool,.d .nil,.d .nil]),(11,.var 115 true false [.d .bool,.d hIs,.d hIs,.d .nil,.d .nil,.d .bool,.d hIs,.d hIs]),(13,.var 30 true false [.d .bool,.d hIs,.d hIs])],[6,7],[]⟩
abbrev Lf:Tm:=⟨[(3,.d (.clo 227 (.ref hR))),(4,.d (.clo 228 (.pair (.ref (.st (.pair .bool (.pair hIs (.pair hIs (.pair hRs (.pair .nil (.pair .bool (.pair hIs hIs))))))))) (.ref hR)))),(5,.k (.hp 5 0 0)),(10,.k (.hp 10 0 0)),(11,.k (.hp 11 0 0)),(12,.d hI),(13,.k (.hp 13 0 0)),(18,.d hRs),(19,.d hI),(20,.d hI)],[(5,.var 115 true false [.d .bool,.d hIs,.d hIs,.d hRs,.d .nil,.d .bool,.d hIs,.d hIs]),(10,.var 115 true false [.d .bool,.d .nil,.d .nil,.d .nil,.d .nil,.d .bool,.d .nil,.d .nil]),(11,.var 115 false false [.d .bool,.d hIs,.d hIs,.k (.hw 31),.d .nil,.d .bool,.d hIs,.d hIs]),(13,.var 30 true false [.d .bool,.d hIs,.d hIs]),(31,.arr 30 hR false)],[],[]⟩
def Nf (n:Nat) (a0:Rq × LR × Unit × Rq) (a1 a2 a3:Rq) (a4:(Bool × LI × LI × LR × Unit × Bool × LI × LI) × Rq):Option (Rq × LR × Unit × Rq) :=
 bif (decide (0<(a0.2.1.length:Int))) then
  gd (decide (0<(a0.2.1.length:Int))) (
   let a:=a0.2.1.getD 0 (false,[],[])
   ob (f227 n a a3) λb =>
   Fe n n a3 a4 a0.2.1 (a0.2.1.length:Int) 1 a0.1.1 a0.1.2.1 a0.1.2.2 a0.2.1 a0.2.2.2.1 a0.2.2.2.2.1 a0.2.2.2.2.2 false false a1.1 a1.2.1 a1.2.2 a2.1 a2.2.1 a2.2.2 [b]
    (λj k c d e f g h i=>(
     some ((c,d,e),i,(),f,g,h))))
 else
  some (a1,[],(),a2)
def Cv (n:Nat):Ent:=⟨226,[(.st (.pair hR (.pair hRs (.pair .nil hR)))),hR,hR,(.clo 227 (.ref hR)),(.clo 228 (.pair (.ref (.st (.pair .bool (.pair hIs (.pair hIs (.pair hRs (.pair .nil (.pair .bool (.pair hIs hIs))))))))) (.ref hR)))],[(.st (.pair hR (.pair hRs (.pair .nil hR))))],λx=>Nf n x.1 x.2.1 x.2.2.1 x.2.2.2.1 x.2.2.2.2⟩
def Jd (α:Type) (n:Nat):D3 α:={ reg:=[(5,⟨0,[],[(4,{ ent:=some (C9 n) }),(5,{ sh:=some hR }),(6,{ sh:=some hR })]⟩)],join:=[],loop:=[(3,⟨Eo,H9,A6 (H8 n) n⟩)],any:=[(5,On),(5,Lf)] }
set_option maxHeartbeats 8000000 in
theorem Oo (n:Nat):Am TT ⟨46,[]⟩ [(4,{ ent:=some (C9 n) }),(5,{ sh:=some hR }),(6,{ sh:=some hR })] On (A4 ((A0 Tryz.f226).at [1,1,0,1,0,0,1,1,0,0,1,0])):=by
 refine ⟨by kernel_rfl,λw q hq=>?_⟩
 have e:WT [(4,{ ent:=some (C9 n) }),(5,{ sh:=some hR }),(6,{ sh:=some hR })] (A7 (A4 ((A0 Tryz.f226).at [1,1,0,1,0,0,1,1,0,0,1,0])).toList) q=(∃ (y0:HL (C9 n).rs) (q0:List (Nat × RV)),q=(4,.sv (Ae (C9 n).rs y0))::q0/\q0=[]):=by kernel_rfl
 rw [e] at hq;obtain ⟨y0,q0,rfl,rfl⟩:=hq
 all_goals exact .inr ⟨6,by kernel_rfl,by kernel_rfl,by kernel_rfl⟩
set_option maxHeartbeats 8000000 in
theorem Lg (n:Nat):Am TT ⟨46,[]⟩ [(4,{ ent:=some (C9 n) }),(5,{ sh:=some hR }),(6,{ sh:=some hR })] Lf (A4 ((A0 Tryz.f226).at [1,1,0,1,0,0,1,1,0,0,1,0])):=by
 refine ⟨by kernel_rfl,λw q hq=>?_⟩
 have e:WT [(4,{ ent:=some (C9 n) }),(5,{ sh:=some hR }),(6,{ sh:=some hR })] (A7 (A4 ((A0 Tryz.f226).at [1,1,0,1,0,0,1,1,0,0,1,0])).toList) q=(∃ (y0:HL (C9 n).rs) (q0:List (Nat × RV)),q=(4,.sv (Ae (C9 n).rs y0))::q0/\q0=[]):=by kernel_rfl
 rw [e] at hq;obtain ⟨y0,q0,rfl,rfl⟩:=hq
 all_goals exact .inr ⟨6,by kernel_rfl,by kernel_rfl,by kernel_rfl⟩
theorem Le (α:Type) (n:Nat):Aq PP (Af (Jd α n).reg):=⟨Aim n,trivial⟩
theorem Z0 (α:Type) (n:Nat):D3.OK PP TT ⟨46,[]⟩ (Jd α n) ((A0 Tryz.f226).at [1,1,0,1,0,0]) :=
 D3.OK.mk3a (Le α n) (show Aa ((A0 Tryz.f226).at [1,1,0,1,0,0])=[] by kernel_rfl) trivial (show Ar ((A0 Tryz.f226).at [1,1,0,1,0,0])=[(5,A4 ((A0 Tryz.f226).at [1,1,0,1,0,0,1,1,0,0,1,0])),(7,A4 ((A0 Tryz.f226).at [1,1,0,1,0,0,1,1,0,0,1,1,1,0]))] by kernel_rfl) ⟨⟨Oo n,Lg n,trivial⟩,trivial,trivial⟩
theorem Vu (α:Type) (n:Nat):LO.Sound (α:=α) PP ⟨46,[]⟩ ⟨Eo,H9,A6 (H8 n) n⟩ (.loop ((A0 Tryz.f226).at [1,1,0,1,0,0])):=lk (Z0 α n) n
theorem A6u (α:Type) (n:Nat):D3.OK PP TT ⟨46,[]⟩ (Jd α n) (A0 Tryz.f226) :=
 D3.OK.mk3a (Le α n) (show Aa (A0 Tryz.f226)=[(3,(.loop ((A0 Tryz.f226).at [1,1,0,1,0,0])))] by kernel_rfl) ⟨Ad rfl (Vu α n),trivial⟩ (show Ar (A0 Tryz.f226)=[(5,A4 ((A0 Tryz.f226).at [1,1,0,1,0,0,1,1,0,0,1,0])),(7,A4 ((A0 Tryz.f226).at [1,1,0,1,0,0,1,1,0,0,1,1,1,0]))] by kernel_rfl) ⟨⟨Oo n,Lg n,trivial⟩,trivial,trivial⟩
theorem A4b (n:Nat):(Cv n).Sound PP:=fk (fn:=Tryz.f226) (A6u _ n)

abbrev Aix:Tm:=⟨[(2,.k (.hp 2 0 0)),(3,.k (.hp 3 0 0)),(4,.k (.hp 4 0 0))],[(2,.var 115 true false [.d .bool,.d hIs,.d hIs,.d hRs,.d .nil,.d .bool,.d hIs,.d hIs]),(3,.var 30 true false [.d .bool,.d hIs,.d hIs]),(4,.var 115 true false [.d .bool,.d .nil,.d .nil,.d .nil,.d .nil,.d .bool,.d .nil,.d .nil])],[],[]⟩
def f218 (n:Nat) (a0:Rq × LR × Unit × Rq) (a1:Rq):Option (Rq × LR × Unit × Rq) :=
 ob (f103 n a0.1 a1) λa =>
 ob (f103 n a0.2.2.2 a1) λb =>
 ob (Nf n (a0.1,a0.2.1,(),a0.2.2.2) a b a1 ((a0.1.1,a0.1.2.1,a0.1.2.2,a0.2.1,(),a0.2.2.2),a1)) λc =>
 some c
def Adn (n:Nat):Ent:=⟨218,[(.st (.pair hR (.pair hRs (.pair .nil hR)))),hR],[(.st (.pair hR (.pair hRs (.pair .nil hR))))],λx=>f218 n x.1 x.2⟩
def Aql (α:Type) (n:Nat):D3 α:={ reg:=[(1,⟨0,[],[(4,{ ent:=some (A9 n) }),(8,{ ent:=some (A9 n) }),(9,{ sh:=some (.ref hR) }),(10,{ sh:=some (.pair (.ref (.st (.pair .bool (.pair hIs (.pair hIs (.pair hRs (.pair .nil (.pair .bool (.pair hIs hIs))))))))) (.ref hR)) }),(11,{ ent:=some (Cv n) })]⟩)],join:=[],loop:=[],any:=[(1,Aix)] }
set_option maxHeartbeats 8000000 in
theorem B01 (n:Nat):Am TT ⟨17,[]⟩ [(4,{ ent:=some (A9 n) }),(8,{ ent:=some (A9 n) }),(9,{ sh:=some (.ref hR) }),(10,{ sh:=some (.pair (.ref (.st (.pair .bool (.pair hIs (.pair hIs (.pair hRs (.pair .nil (.pair .bool (.pair hIs hIs))))))))) (.ref hR)) }),(11,{ ent:=some (Cv n) })] Aix (A4 ((A0 Tryz.f218).at [1,0])):=by
 refine ⟨by kernel_rfl,λw q hq=>?_⟩
 have e:WT [(4,{ ent:=some (A9 n) }),(8,{ ent:=some (A9 n) }),(9,{ sh:=some (.ref hR) }),(10,{ sh:=some (.pair (.ref (.st (.pair .bool (.pair hIs (.pair hIs (.pair hRs (.pair .nil (.pair .bool (.pair hIs hIs))))))))) (.ref hR)) }),(11,{ ent:=some (Cv n) })] (A7 (A4 ((A0 Tryz.f218).at [1,0])).toList) q=(∃ (y0:HL (A9 n).rs) (q0:List (Nat × RV)),q=(4,.sv (Ae (A9 n).rs y0))::q0 /\ ∃ (y1:HL (A9 n).rs) (q1:List (Nat × RV)),q0=(8,.sv (Ae (A9 n).rs y1))::q1 /\ ∃ (y2:HL (Cv n).rs) (q2:List (Nat × RV)),q1=(11,.sv (Ae (Cv n).rs y2))::q2/\q2=[]):=by kernel_rfl
 rw [e] at hq;obtain ⟨y0,q0,rfl,y1,q1,rfl,y2,q2,rfl,rfl⟩:=hq
 all_goals exact .inl (Iu.mk (by kernel_rfl))
theorem Aqk (α:Type) (n:Nat):Aq PP (Af (Aql α n).reg):=⟨At n,At n,A4b n,trivial⟩
theorem B44 (α:Type) (n:Nat):D3.OK PP TT ⟨17,[]⟩ (Aql α n) (A0 Tryz.f218) :=
 D3.OK.mk3a (Aqk α n) (show Aa (A0 Tryz.f218)=[] by kernel_rfl) trivial (show Ar (A0 Tryz.f218)=[(1,A4 ((A0 Tryz.f218).at [1,0]))] by kernel_rfl) ⟨⟨B01 n,trivial⟩,trivial⟩
theorem Aiw (n:Nat):(Adn n).Sound PP:=fk (fn:=Tryz.f218) (B44 _ n)

def A0p {α:Type} (n:Nat) (b:LR) (e a:Int) (g:Bool) (h i:LI) (v:LR) (w:Bool) (x y:LI) (j:Bool) (k l:LI) (c:LR) (z:Bool) (d0 d1:LI) (m o p:Bool) (q r:LI) (s:Bool) (t u:LI) (d:LR) (f:LR->Int->Int->Bool->LI->LI->LR->Bool->LI->LI->Bool->LI->LI->LR->Bool->LI->LI->Bool->Bool->Bool->LI->LI->Bool->LI->LI->LR->Option α) (k0:Bool->Bool->Bool->LI->LI->Bool->LI->LI->LR->Option α):Option α :=
 bif (decide (a<e)) then
  gd (decide (0<=a)&&decide (a<(b.length:Int))) (
   let d2:=b.getD a.toNat (false,[],[])
   gd (decide (0<=a)&&decide (a<(c.length:Int))) (
    let d3:=c.getD a.toNat (false,[],[])
    ob (f103 n d2 (j,k,l)) λd4 =>
    ob (f103 n (g,h,i) d3) λd5 =>
    ob (f104 n d4 d5) λd6 =>
    gd (decide ((d.length+1)*56<=140737488355328)) (
     f b e (W (a+1)) g h i v w x y j k l c z d0 d1 m o p q r s t u (d++[d6]))))
 else
  k0 m o p q r s t u d
abbrev Rw:Tm:=⟨[(2,.k (.hp 2 0 0)),(3,.k (.hp 3 0 0)),(4,.k (.hp 4 0 0)),(5,.k (.hp 5 0 0)),(28,.d hRs),(29,.d hI),(30,.d hI)],[(2,.var 115 true false [.d .bool,.d hIs,.d hIs,.d hRs,.d .nil,.d .bool,.d hIs,.d hIs]),(3,.var 115 true false [.d .bool,.d hIs,.d hIs,.d hRs,.d .nil,.d .bool,.d hIs,.d hIs]),(4,.var 115 true false [.d .bool,.d .nil,.d .nil,.d .nil,.d .nil,.d .bool,.d .nil,.d .nil]),(5,.var 115 false false [.d .bool,.d hIs,.d hIs,.k (.hw 52),.d .nil,.d .bool,.d hIs,.d hIs]),(52,.arr 30 hR false)],[7,8,51],[]⟩
abbrev Aqj:Tm:=⟨[(4,.k (.hp 4 0 0)),(5,.k (.hp 5 0 0))],[(4,.var 115 true false [.d .bool,.d .nil,.d .nil,.d .nil,.d .nil,.d .bool,.d .nil,.d .nil]),(5,.var 115 false false [.d .bool,.d hIs,.d hIs,.k (.hw 52),.d .nil,.d .bool,.d hIs,.d hIs]),(52,.arr 30 hR false)],[2,3],[]⟩
abbrev A0o:List (Exit × Tm):=[(.exit 0,Aqj)]
def A0n {α:Type} (n:Nat) (v:Rw.den) (f:Rw.den->Option α) (ks:KS α A0o):Option α:=A0p n v.1.2.2.2.2.1 v.1.2.2.2.2.2.1 v.1.2.2.2.2.2.2.1 v.2.1.1 v.2.1.2.1 v.2.1.2.2.1 v.2.1.2.2.2.1 v.2.1.2.2.2.2.2.1 v.2.1.2.2.2.2.2.2.1 v.2.1.2.2.2.2.2.2.2.1 v.2.2.1.1 v.2.2.1.2.1 v.2.2.1.2.2.1 v.2.2.1.2.2.2.1 v.2.2.1.2.2.2.2.2.1 v.2.2.1.2.2.2.2.2.2.1 v.2.2.1.2.2.2.2.2.2.2.1 v.2.2.2.1.1 v.2.2.2.1.2.2.2.2.2.1 v.2.2.2.2.1.1 v.2.2.2.2.1.2.1 v.2.2.2.2.1.2.2.1 v.2.2.2.2.1.2.2.2.2.2.1 v.2.2.2.2.1.2.2.2.2.2.2.1 v.2.2.2.2.1.2.2.2.2.2.2.2.1 v.2.2.2.2.2.1 (λa b c d e g h i j k l m o p q r s t u w x y z d0 d1 d2=>f (((),(),(),(),a,b,c,()),((d,e,g,h,(),i,j,k,()),(l,m,o,p,(),q,r,s,()),(t,(),(),(),(),u,(),(),()),(w,x,y,(),(),z,d0,d1,()),d2,()))) (λw0 w1 w2 w3 w4 w5 w6 w7 w8=>ks.1 (((),(),()),((w0,(),(),(),(),w1,(),(),()),(w2,w3,w4,(),(),w5,w6,w7,()),w8,())))
def Y2 {α:Type} (n m:Nat) (a:LR) (b c:Int) (d:Bool) (e f:LI) (g:LR) (h:Bool) (i j:LI) (k:Bool) (l o:LI) (p:LR) (q:Bool) (r s:LI) (t u v:Bool) (x y:LI) (z:Bool) (d0 d1:LI) (d2:LR) (k0:Bool->Bool->Bool->LI->LI->Bool->LI->LI->LR->Option α):Option α:=A6 (A0n n) m (((),(),(),(),a,b,c,()),((d,e,f,g,(),h,i,j,()),(k,l,o,p,(),q,r,s,()),(t,(),(),(),(),u,(),(),()),(v,x,y,(),(),z,d0,d1,()),d2,())) (λw=>k0 w.2.1.1 w.2.1.2.2.2.2.2.1 w.2.2.1.1 w.2.2.1.2.1 w.2.2.1.2.2.1 w.2.2.1.2.2.2.2.2.1 w.2.2.1.2.2.2.2.2.2.1 w.2.2.1.2.2.2.2.2.2.2.1 w.2.2.2.1,())
theorem Aqh {α n m a b c d e f g h i j k l o p q r s t u v w x y z d0 d1 k0}:Y2 (α:=α) n (m+1) a b c d e f g h i j k l o p q r s t u v w x y z d0 d1 k0=A0p n a b c d e f g h i j k l o p q r s t u v w x y z d0 d1 (λa b c d e f g h i j k l o p q r s t u v w x y z d0 d1=>Y2 n m a b c d e f g h i j k l o p q r s t u v w x y z d0 d1 k0) k0:=rfl
abbrev Ait:Tm:=⟨[(2,.k (.hp 2 0 0)),(3,.k (.hp 3 0 0)),(4,.k (.hp 4 0 0))],[(2,.var 115 true false [.d .bool,.d hIs,.d hIs,.d hRs,.d .nil,.d .bool,.d hIs,.d hIs]),(3,.var 115 true false [.d .bool,.d hIs,.d hIs,.d hRs,.d .nil,.d .bool,.d hIs,.d hIs]),(4,.var 115 true false [.d .bool,.d .nil,.d .nil,.d .nil,.d .nil,.d .bool,.d .nil,.d .nil])],[],[]⟩
abbrev Ais:Tm:=⟨[(2,.k (.hp 2 0 0)),(3,.k (.hp 3 0 0)),(4,.k (.hp 4 0 0)),(5,.k (.hp 5 0 0)),(6,.d hI),(7,.k (.hp 7 0 0)),(8,.k (.hp 8 0 0)),(28,.d hRs),(29,.d hI),(30,.d hI)],[(2,.var 115 true false [.d .bool,.d hIs,.d hIs,.d hRs,.d .nil,.d .bool,.d hIs,.d hIs]),(3,.var 115 true false [.d .bool,.d hIs,.d hIs,.d hRs,.d .nil,.d .bool,.d hIs,.d hIs]),(4,.var 115 true false [.d .bool,.d .nil,.d .nil,.d .nil,.d .nil,.d .bool,.d .nil,.d .nil]),(5,.var 115 true false [.d .bool,.d hIs,.d hIs,.d .nil,.d .nil,.d .bool,.d hIs,.d hIs]),(7,.var 30 true false [.d .bool,.d hIs,.d hIs]),(8,.var 30 true false [.d .bool,.d hIs,.d hIs])],[],[]⟩
abbrev A8q:Tm:=⟨[(2,.k (.hp 2 0 0)),(3,.k (.hp 3 0 0)),(4,.k (.hp 4 0 0)),(5,.k (.hp 5 0 0)),(6,.d hI),(7,.k (.hp 7 0 0)),(8,.k (.hp 8 0 0)),(28,.d hRs),(29,.d hI),(30,.d hI)],[(2,.var 115 true false [.d .bool,.d hIs,.d hIs,.d hRs,.d .nil,.d .bool,.d hIs,.d hIs]),(3,.var 115 true false [.d .bool,.d hIs,.d hIs,.d hRs,.d .nil,.d .bool,.d hIs,.d hIs]),(4,.var 115 true false [.d .bool,.d .nil,.d .nil,.d .nil,.d .nil,.d .bool,.d .nil,.d .nil]),(5,.var 115 false false [.d .bool,.d hIs,.d hIs,.k (.hw 52),.d .nil,.d .bool,.d hIs,.d hIs]),(7,.var 30 true false [.d .bool,.d hIs,.d hIs]),(8,.var 30 true false [.d .bool,.d hIs,.d hIs]),(52,.arr 30 hR false)],[],[]⟩
def f219 (n:Nat) (a0 a1:Rq × LR × Unit × Rq):Option (Rq × LR × Unit × Rq) :=
 ob (f103 n a0.1 a1.1) λa =>
 ob (f103 n a0.2.2.2 a1.1) λc =>
 ob (f103 n a0.1 a1.2.2.2) λd =>
 ob (f104 n c d) λb =>
 bif (decide (0<(a0.2.1.length:Int))) then
  gd (decide (0<(a0.2.1.length:Int))) (
   let e:=a0.2.1.getD 0 (false,[],[])
   gd (decide (0<(a1.2.1.length:Int))) (
    let f:=a1.2.1.getD 0 (false,[],[])
    ob (f103 n e a1.1) λg =>
    ob (f103 n a0.1 f) λh =>
    ob (f104 n g h) λi =>
    Y2 n n a0.2.1 (a0.2.1.length:Int) 1 a0.1.1 a0.1.2.1 a0.1.2.2 a0.2.1 a0.2.2.2.1 a0.2.2.2.2.1 a0.2.2.2.2.2 a1.1.1 a1.1.2.1 a1.1.2.2 a1.2.1 a1.2.2.2.1 a1.2.2.2.2.1 a1.2.2.2.2.2 false false a.1 a.2.1 a.2.2 b.1 b.2.1 b.2.2 [i]
     (λr s j k l m o p q=>(
      some ((j,k,l),q,(),m,o,p)))))
 else
  some (a,[],(),b)
def Adj (n:Nat):Ent:=⟨219,[(.st (.pair hR (.pair hRs (.pair .nil hR)))),(.st (.pair hR (.pair hRs (.pair .nil hR))))],[(.st (.pair hR (.pair hRs (.pair .nil hR))))],λx=>f219 n x.1 x.2⟩
def Adk (α:Type) (n:Nat):D3 α:={ reg:=[(1,⟨0,[],[(4,{ ent:=some (A9 n) }),(9,{ ent:=some (A9 n) }),(14,{ ent:=some (A9 n) }),(15,{ ent:=some (Ac n) })]⟩),(6,⟨0,[],[(5,{ ent:=some (A9 n) }),(9,{ ent:=some (A9 n) }),(10,{ ent:=some (Ac n) }),(11,{ sh:=some hR }),(12,{ sh:=some hR })]⟩)],join:=[],loop:=[(3,⟨Rw,A0o,A6 (A0n n) n⟩)],any:=[(1,Ait),(6,Ais),(6,A8q)] }
set_option maxHeartbeats 8000000 in
theorem Azz (n:Nat):Am TT ⟨92,[]⟩ [(4,{ ent:=some (A9 n) }),(9,{ ent:=some (A9 n) }),(14,{ ent:=some (A9 n) }),(15,{ ent:=some (Ac n) })] Ait (A4 ((A0 Tryz.f219).at [1,0])):=by
 refine ⟨by kernel_rfl,λw q hq=>?_⟩
 have e:WT [(4,{ ent:=some (A9 n) }),(9,{ ent:=some (A9 n) }),(14,{ ent:=some (A9 n) }),(15,{ ent:=some (Ac n) })] (A7 (A4 ((A0 Tryz.f219).at [1,0])).toList) q=(∃ (y0:HL (A9 n).rs) (q0:List (Nat × RV)),q=(4,.sv (Ae (A9 n).rs y0))::q0 /\ ∃ (y1:HL (A9 n).rs) (q1:List (Nat × RV)),q0=(9,.sv (Ae (A9 n).rs y1))::q1 /\ ∃ (y2:HL (A9 n).rs) (q2:List (Nat × RV)),q1=(14,.sv (Ae (A9 n).rs y2))::q2 /\ ∃ (y3:HL (Ac n).rs) (q3:List (Nat × RV)),q2=(15,.sv (Ae (Ac n).rs y3))::q3/\q3=[]):=by kernel_rfl
 rw [e] at hq;obtain ⟨y0,q0,rfl,y1,q1,rfl,y2,q2,rfl,y3,q3,rfl,rfl⟩:=hq
 all_goals exact .inr ⟨18,by kernel_rfl,by kernel_rfl,by kernel_rfl⟩
set_option maxHeartbeats 8000000 in
theorem Aiu (n:Nat):Am TT ⟨92,[]⟩ [(5,{ ent:=some (A9 n) }),(9,{ ent:=some (A9 n) }),(10,{ ent:=some (Ac n) }),(11,{ sh:=some hR }),(12,{ sh:=some hR })] Ais (A4 ((A0 Tryz.f219).at [1,1,0,1,0,0,1,1,0,0,1,1,0])):=by
 refine ⟨by kernel_rfl,λw q hq=>?_⟩
 have e:WT [(5,{ ent:=some (A9 n) }),(9,{ ent:=some (A9 n) }),(10,{ ent:=some (Ac n) }),(11,{ sh:=some hR }),(12,{ sh:=some hR })] (A7 (A4 ((A0 Tryz.f219).at [1,1,0,1,0,0,1,1,0,0,1,1,0])).toList) q=(∃ (y0:HL (A9 n).rs) (q0:List (Nat × RV)),q=(5,.sv (Ae (A9 n).rs y0))::q0 /\ ∃ (y1:HL (A9 n).rs) (q1:List (Nat × RV)),q0=(9,.sv (Ae (A9 n).rs y1))::q1 /\ ∃ (y2:HL (Ac n).rs) (q2:List (Nat × RV)),q1=(10,.sv (Ae (Ac n).rs y2))::q2/\q2=[]):=by kernel_rfl
 rw [e] at hq;obtain ⟨y0,q0,rfl,y1,q1,rfl,y2,q2,rfl,rfl⟩:=hq
 all_goals exact .inr ⟨12,by kernel_rfl,by kernel_rfl,by kernel_rfl⟩
set_option maxHeartbeats 8000000 in
theorem A8r (n:Nat):Am TT ⟨92,[]⟩ [(5,{ ent:=some (A9 n) }),(9,{ ent:=some (A9 n) }),(10,{ ent:=some (Ac n) }),(11,{ sh:=some hR }),(12,{ sh:=some hR })] A8q (A4 ((A0 Tryz.f219).at [1,1,0,1,0,0,1,1,0,0,1,1,0])):=by
 refine ⟨by kernel_rfl,λw q hq=>?_⟩
 have e:WT [(5,{ ent:=some (A9 n) }),(9,{ ent:=some (A9 n) }),(10,{ ent:=some (Ac n) }),(11,{ sh:=some hR }),(12,{ sh:=some hR })] (A7 (A4 ((A0 Tryz.f219).at [1,1,0,1,0,0,1,1,0,0,1,1,0])).toList) q=(∃ (y0:HL (A9 n).rs) (q0:List (Nat × RV)),q=(5,.sv (Ae (A9 n).rs y0))::q0 /\ ∃ (y1:HL (A9 n).rs) (q1:List (Nat × RV)),q0=(9,.sv (Ae (A9 n).rs y1))::q1 /\ ∃ (y2:HL (Ac n).rs) (q2:List (Nat × RV)),q1=(10,.sv (Ae (Ac n).rs y2))::q2/\q2=[]):=by kernel_rfl
 rw [e] at hq;obtain ⟨y0,q0,rfl,y1,q1,rfl,y2,q2,rfl,rfl⟩:=hq
 all_goals exact .inr ⟨12,by kernel_rfl,by kernel_rfl,by kernel_rfl⟩
theorem A8p (α:Type) (n:Nat):Aq PP (Af (Adk α n).reg):=⟨At n,At n,At n,Bz n,At n,At n,Bz n,trivial⟩
theorem Aqi (α:Type) (n:Nat):D3.OK PP TT ⟨92,[]⟩ (Adk α n) ((A0 Tryz.f219).at [1,1,0,1,0,0]) :=
 D3.OK.mk3a (A8p α n) (show Aa ((A0 Tryz.f219).at [1,1,0,1,0,0])=[] by kernel_rfl) trivial (show Ar ((A0 Tryz.f219).at [1,1,0,1,0,0])=[(6,A4 ((A0 Tryz.f219).at [1,1,0,1,0,0,1,1,0,0,1,1,0])),(8,A4 ((A0 Tryz.f219).at [1,1,0,1,0,0,1,1,0,0,1,1,1,1,0,0])),(9,A4 ((A0 Tryz.f219).at [1,1,0,1,0,0,1,1,0,0,1,1,1,1,0,1]))] by kernel_rfl) ⟨⟨Aiu n,A8r n,trivial⟩,trivial,trivial,trivial⟩
theorem Ali (α:Type) (n:Nat):LO.Sound (α:=α) PP ⟨92,[]⟩ ⟨Rw,A0o,A6 (A0n n) n⟩ (.loop ((A0 Tryz.f219).at [1,1,0,1,0,0])):=lk (Aqi α n) n
theorem B43 (α:Type) (n:Nat):D3.OK PP TT ⟨92,[]⟩ (Adk α n) (A0 Tryz.f219) :=
 D3.OK.mk3a (A8p α n) (show Aa (A0 Tryz.f219)=[(3,(.loop ((A0 Tryz.f219).at [1,1,0,1,0,0])))] by kernel_rfl) ⟨Ad rfl (Ali α n),trivial⟩ (show Ar (A0 Tryz.f219)=[(1,A4 ((A0 Tryz.f219).at [1,0])),(6,A4 ((A0 Tryz.f219).at [1,1,0,1,0,0,1,1,0,0,1,1,0])),(8,A4 ((A0 Tryz.f219).at [1,1,0,1,0,0,1,1,0,0,1,1,1,1,0,0])),(9,A4 ((A0 Tryz.f219).at [1,1,0,1,0,0,1,1,0,0,1,1,1,1,0,1]))] by kernel_rfl) ⟨⟨Azz n,trivial⟩,⟨Aiu n,A8r n,trivial⟩,trivial,trivial,trivial⟩
theorem Air (n:Nat):(Adj n).Sound PP:=fk (fn:=Tryz.f219) (B43 _ n)

def f77 (n:Nat) (a0:Rq):Option Rq :=
 bif (!a0.1) then
  ob (f74 n a0) λa =>
  ob (f145 n a0.2.1) λb =>
  ob (f145 n a0.2.2) λc =>
  some ((!a),b,c)
 else
  ob (f145 n a0.2.1) λd =>
  ob (f145 n a0.2.2) λe =>
  some (false,d,e)
def Al0 (n:Nat):Ent:=⟨77,[hR],[hR],λx=>f77 n x⟩
def B6l (α:Type) (n:Nat):D3 α:={ reg:=[(1,⟨14,[],[(5,{ ent:=some (Rj n) }),(10,{ ent:=some (Kn n) }),(13,{ ent:=some (Kn n) })]⟩)],join:=[],loop:=[] }
theorem Apo (n:Nat):(Al0 n).Sound PP:=B2 (fn:=Tryz.f77) (D:=B6l _ n) ⟨Q0 n,Jk n,Jk n,trivial⟩

def f233 (n:Nat) (a0 a1:Rq):Option Rq :=
 ob (f103 n a1 a0) λa =>
 some a
def C8 (n:Nat):Ent:=⟨233,[hR,(.ref hR)],[hR],λx=>f233 n x.1 x.2⟩
def B3s (α:Type) (n:Nat):D3 α:={ reg:=[(1,⟨0,[],[(2,{ ent:=some (A9 n) })]⟩)],join:=[],loop:=[] }
theorem Aie (n:Nat):(C8 n).Sound PP:=B2 (fn:=Tryz.f233) (D:=B3s _ n) ⟨At n,trivial⟩

def H7 {α:Type} (n:Nat) (d:Rq) (p:Rq × (Bool × LI × LI × LR × Unit × Bool × LI × LI) × Rq) (b:LR) (e a:Int) (q:Bool) (r s:LI) (t:LR) (u:Bool) (v w:LI) (g h i:Bool) (j k:LI) (l:Bool) (m o:LI) (c:LR) (f:Rq->(Rq × (Bool × LI × LI × LR × Unit × Bool × LI × LI) × Rq)->LR->Int->Int->Bool->LI->LI->LR->Bool->LI->LI->Bool->Bool->Bool->LI->LI->Bool->LI->LI->LR->Option α) (k0:Bool->Bool->Bool->LI->LI->Bool->LI->LI->LR->Option α):Option α :=
 bif (decide (a<e)) then
  gd (decide (0<=a)&&decide (a<(b.length:Int))) (
   let x:=b.getD a.toNat (false,[],[])
   ob (f233 n x d) λy =>
   gd (decide ((c.length+1)*56<=140737488355328)) (
    f d p b e (W (a+1)) q r s t u v w g h i j k l m o (c++[y])))
 else
  k0 g h i j k l m o c
abbrev Em:Tm:=⟨[(3,.d (.clo 233 (.ref hR))),(4,.d (.clo 234 (.pair (.ref hR) (.pair (.ref (.st (.pair .bool (.pair hIs (.pair hIs (.pair hRs (.pair .nil (.pair .bool (.pair hIs hIs))))))))) (.ref hR))))),(5,.k (.hp 5 0 0)),(10,.k (.hp 10 0 0)),(11,.k (.hp 11 0 0)),(18,.d hRs),(19,.d hI),(20,.d hI)],[(5,.var 115 true false [.d .bool,.d hIs,.d hIs,.d hRs,.d .nil,.d .bool,.d hIs,.d hIs]),(10,.var 115 true false [.d .bool,.d .nil,.d .nil,.d .nil,.d .nil,.d .bool,.d .nil,.d .nil]),(11,.var 115 false false [.d .bool,.d hIs,.d hIs,.k (.hw 31),.d .nil,.d .bool,.d hIs,.d hIs]),(31,.arr 30 hR false)],[13,30],[]⟩
abbrev Yy:Tm:=⟨[(10,.k (.hp 10 0 0)),(11,.k (.hp 11 0 0))],[(10,.var 115 true false [.d .bool,.d .nil,.d .nil,.d .nil,.d .nil,.d .bool,.d .nil,.d .nil]),(11,.var 115 false false [.d .bool,.d hIs,.d hIs,.k (.hw 31),.d .nil,.d .bool,.d hIs,.d hIs]),(31,.arr 30 hR false)],[5],[]⟩
abbrev H6:List (Exit × Tm):=[(.exit 0,Yy)]
def H5 {α:Type} (n:Nat) (v:Em.den) (f:Em.den->Option α) (ks:KS α H6):Option α:=H7 n v.1.1 v.1.2.1 v.1.2.2.2.2.2.1 v.1.2.2.2.2.2.2.1 v.1.2.2.2.2.2.2.2.1 v.2.1.1 v.2.1.2.1 v.2.1.2.2.1 v.2.1.2.2.2.1 v.2.1.2.2.2.2.2.1 v.2.1.2.2.2.2.2.2.1 v.2.1.2.2.2.2.2.2.2.1 v.2.2.1.1 v.2.2.1.2.2.2.2.2.1 v.2.2.2.1.1 v.2.2.2.1.2.1 v.2.2.2.1.2.2.1 v.2.2.2.1.2.2.2.2.2.1 v.2.2.2.1.2.2.2.2.2.2.1 v.2.2.2.1.2.2.2.2.2.2.2.1 v.2.2.2.2.1 (λa b c d e g h i j k l m o p q r s t u w x=>f ((a,b,(),(),(),c,d,e,()),((g,h,i,j,(),k,l,m,()),(o,(),(),(),(),p,(),(),()),(q,r,s,(),(),t,u,w,()),x,()))) (λw0 w1 w2 w3 w4 w5 w6 w7 w8=>ks.1 (((),(),()),((w0,(),(),(),(),w1,(),(),()),(w2,w3,w4,(),(),w5,w6,w7,()),w8,())))
def Fd {α:Type} (n m:Nat) (a:Rq) (b:Rq × (Bool × LI × LI × LR × Unit × Bool × LI × LI) × Rq) (c:LR) (d e:Int) (f:Bool) (g h:LI) (i:LR) (j:Bool) (k l:LI) (o p q:Bool) (r s:LI) (t:Bool) (u v:LI) (x:LR) (k0:Bool->Bool->Bool->LI->LI->Bool->LI->LI->LR->Option α):Option α:=A6 (H5 n) m ((a,b,(),(),(),c,d,e,()),((f,g,h,i,(),j,k,l,()),(o,(),(),(),(),p,(),(),()),(q,r,s,(),(),t,u,v,()),x,())) (λw=>k0 w.2.1.1 w.2.1.2.2.2.2.2.1 w.2.2.1.1 w.2.2.1.2.1 w.2.2.1.2.2.1 w.2.2.1.2.2.2.2.2.1 w.2.2.1.2.2.2.2.2.2.1 w.2.2.1.2.2.2.2.2.2.2.1 w.2.2.2.1,())
theorem Yw {α n m a b c d e f g h i j k l o p q r s t u v w k0}:Fd (α:=α) n (m+1) a b c d e f g h i j k l o p q r s t u v w k0=H7 n a b c d e f g h i j k l o p q r s t u v w (λa b c d e f g h i j k l o p q r s t u v w=>Fd n m a b c d e f g h i j k l o p q r s t u v w k0) k0:=rfl
abbrev Ol:Tm:=⟨[(3,.d (.clo 233 (.ref hR))),(4,.d (.clo 234 (.pair (.ref hR) (.pair (.ref (.st (.pair .bool (.pair hIs (.pair hIs (.pair hRs (.pair .nil (.pair .bool (.pair hIs hIs))))))))) (.ref hR))))),(5,.k (.hp 5 0 0)),(10,.k (.hp 10 0 0)),(11,.k (.hp 11 0 0)),(12,.d hI),(13,.k (.hp 13 0 0)),(18,.d hRs),(19,.d hI),(20,.d hI)],[(5,.var 115 true false [.d .bool,.d hIs,.d hIs,.d hRs,.d .nil,.d .bool,.d hIs,.d hIs]),(10,.var 115 true false [.d .bool,.d .nil,.d .nil,.d .nil,.d .nil,.d .bool,.d .nil,.d .nil]),(11,.var 115 true false [.d .bool,.d hIs,.d hIs,.d .nil,.d .nil,.d .bool,.d hIs,.d hIs]),(13,.var 30 true false [.d .bool,.d hIs,.d hIs])],[6,7],[]⟩
abbrev Lc:Tm:=⟨[(3,.d (.clo 233 (.ref hR))),(4,.d (.clo 234 (.pair (.ref hR) (.pair (.ref (.st (.pair .bool (.pair hIs (.pair hIs (.pair hRs (.pair .nil (.pair .bool (.pair hIs hIs))))))))) (.ref hR))))),(5,.k (.hp 5 0 0)),(10,.k (.hp 10 0 0)),(11,.k (.hp 11 0 0)),(12,.d hI),(13,.k (.hp 13 0 0)),(18,.d hRs),(19,.d hI),(20,.d hI)],[(5,.var 115 true false [.d .bool,.d hIs,.d hIs,.d hRs,.d .nil,.d .bool,.d hIs,.d hIs]),(10,.var 115 true false [.d .bool,.d .nil,.d .nil,.d .nil,.d .nil,.d .bool,.d .nil,.d .nil]),(11,.var 115 false false [.d .bool,.d hIs,.d hIs,.k (.hw 31),.d .nil,.d .bool,.d hIs,.d hIs]),(13,.var 30 true false [.d .bool,.d hIs,.d hIs]),(31,.arr 30 hR false)],[],[]⟩
def N8 (n:Nat) (a0:Rq × LR × Unit × Rq) (a1 a2 a3:Rq) (a4:Rq × (Bool × LI × LI × LR × Unit × Bool × LI × LI) × Rq):Option (Rq × LR × Unit × Rq) :=
 bif (decide (0<(a0.2.1.length:Int))) then
  gd (decide (0<(a0.2.1.length:Int))) (
   let a:=a0.2.1.getD 0 (false,[],[])
   ob (f233 n a a3) λb =>
   Fd n n a3 a4 a0.2.1 (a0.2.1.length:Int) 1 a0.1.1 a0.1.2.1 a0.1.2.2 a0.2.1 a0.2.2.2.1 a0.2.2.2.2.1 a0.2.2.2.2.2 false false a1.1 a1.2.1 a1.2.2 a2.1 a2.2.1 a2.2.2 [b]
    (λj k c d e f g h i=>(
     some ((c,d,e),i,(),f,g,h))))
 else
  some (a1,[],(),a2)
def Cu (n:Nat):Ent:=⟨226,[(.st (.pair hR (.pair hRs (.pair .nil hR)))),hR,hR,(.clo 233 (.ref hR)),(.clo 234 (.pair (.ref hR) (.pair (.ref (.st (.pair .bool (.pair hIs (.pair hIs (.pair hRs (.pair .nil (.pair .bool (.pair hIs hIs))))))))) (.ref hR))))],[(.st (.pair hR (.pair hRs (.pair .nil hR))))],λx=>N8 n x.1 x.2.1 x.2.2.1 x.2.2.2.1 x.2.2.2.2⟩
def Jb (α:Type) (n:Nat):D3 α:={ reg:=[(5,⟨0,[],[(4,{ ent:=some (C8 n) }),(5,{ sh:=some hR }),(6,{ sh:=some hR })]⟩)],join:=[],loop:=[(3,⟨Em,H6,A6 (H5 n) n⟩)],any:=[(5,Ol),(5,Lc)] }
set_option maxHeartbeats 8000000 in
theorem Om (n:Nat):Am TT ⟨46,[]⟩ [(4,{ ent:=some (C8 n) }),(5,{ sh:=some hR }),(6,{ sh:=some hR })] Ol (A4 ((A0 Tryz.f226).at [1,1,0,1,0,0,1,1,0,0,1,0])):=by
 refine ⟨by kernel_rfl,λw q hq=>?_⟩
 have e:WT [(4,{ ent:=some (C8 n) }),(5,{ sh:=some hR }),(6,{ sh:=some hR })] (A7 (A4 ((A0 Tryz.f226).at [1,1,0,1,0,0,1,1,0,0,1,0])).toList) q=(∃ (y0:HL (C8 n).rs) (q0:List (Nat × RV)),q=(4,.sv (Ae (C8 n).rs y0))::q0/\q0=[]):=by kernel_rfl
 rw [e] at hq;obtain ⟨y0,q0,rfl,rfl⟩:=hq
 all_goals exact .inr ⟨6,by kernel_rfl,by kernel_rfl,by kernel_rfl⟩
set_option maxHeartbeats 8000000 in
theorem Ld (n:Nat):Am TT ⟨46,[]⟩ [(4,{ ent:=some (C8 n) }),(5,{ sh:=some hR }),(6,{ sh:=some hR })] Lc (A4 ((A0 Tryz.f226).at [1,1,0,1,0,0,1,1,0,0,1,0])):=by
 refine ⟨by kernel_rfl,λw q hq=>?_⟩
 have e:WT [(4,{ ent:=some (C8 n) }),(5,{ sh:=some hR }),(6,{ sh:=some hR })] (A7 (A4 ((A0 Tryz.f226).at [1,1,0,1,0,0,1,1,0,0,1,0])).toList) q=(∃ (y0:HL (C8 n).rs) (q0:List (Nat × RV)),q=(4,.sv (Ae (C8 n).rs y0))::q0/\q0=[]):=by kernel_rfl
 rw [e] at hq;obtain ⟨y0,q0,rfl,rfl⟩:=hq
 all_goals exact .inr ⟨6,by kernel_rfl,by kernel_rfl,by kernel_rfl⟩
theorem Lb (α:Type) (n:Nat):Aq PP (Af (Jb α n).reg):=⟨Aie n,trivial⟩
theorem Yx (α:Type) (n:Nat):D3.OK PP TT ⟨46,[]⟩ (Jb α n) ((A0 Tryz.f226).at [1,1,0,1,0,0]) :=
 D3.OK.mk3a (Lb α n) (show Aa ((A0 Tryz.f226).at [1,1,0,1,0,0])=[] by kernel_rfl) trivial (show Ar ((A0 Tryz.f226).at [1,1,0,1,0,0])=[(5,A4 ((A0 Tryz.f226).at [1,1,0,1,0,0,1,1,0,0,1,0])),(7,A4 ((A0 Tryz.f226).at [1,1,0,1,0,0,1,1,0,0,1,1,1,0]))] by kernel_rfl) ⟨⟨Om n,Ld n,trivial⟩,trivial,trivial⟩
theorem Vq (α:Type) (n:Nat):LO.Sound (α:=α) PP ⟨46,[]⟩ ⟨Em,H6,A6 (H5 n) n⟩ (.loop ((A0 Tryz.f226).at [1,1,0,1,0,0])):=lk (Yx α n) n
theorem A6t (α:Type) (n:Nat):D3.OK PP TT ⟨46,[]⟩ (Jb α n) (A0 Tryz.f226) :=
 D3.OK.mk3a (Lb α n) (show Aa (A0 Tryz.f226)=[(3,(.loop ((A0 Tryz.f226).at [1,1,0,1,0,0])))] by kernel_rfl) ⟨Ad rfl (Vq α n),trivial⟩ (show Ar (A0 Tryz.f226)=[(5,A4 ((A0 Tryz.f226).at [1,1,0,1,0,0,1,1,0,0,1,0])),(7,A4 ((A0 Tryz.f226).at [1,1,0,1,0,0,1,1,0,0,1,1,1,0]))] by kernel_rfl) ⟨⟨Om n,Ld n,trivial⟩,trivial,trivial⟩
theorem A49 (n:Nat):(Cu n).Sound PP:=fk (fn:=Tryz.f226) (A6t _ n)

abbrev Ail:Tm:=⟨[(4,.k (.hp 4 0 0)),(5,.k (.hp 5 0 0)),(6,.k (.hp 6 0 0)),(7,.k (.hp 7 0 0)),(8,.k (.hp 8 0 0))],[(4,.var 115 true false [.d .bool,.d hIs,.d hIs,.d hRs,.d .nil,.d .bool,.d hIs,.d hIs]),(5,.var 30 true false [.d .bool,.d hIs,.d hIs]),(6,.var 30 true false [.d .bool,.d hIs,.d hIs]),(7,.var 30 true false [.d .bool,.d hIs,.d hIs]),(8,.var 115 true false [.d .bool,.d .nil,.d .nil,.d .nil,.d .nil,.d .bool,.d .nil,.d .nil])],[],[]⟩
def f229 (n:Nat) (a0:Rq × LR × Unit × Rq) (a1 a2 a3:Rq):Option (Rq × LR × Unit × Rq) :=
 ob (f103 n a2 a0.2.2.2) λa =>
 ob (N8 n (a0.1,a0.2.1,(),a0.2.2.2) a1 a a2 (a3,(a0.1.1,a0.1.2.1,a0.1.2.2,a0.2.1,(),a0.2.2.2),a2)) λb =>
 some b
def Ad8 (n:Nat):Ent:=⟨229,[(.st (.pair hR (.pair hRs (.pair .nil hR)))),hR,hR,hR],[(.st (.pair hR (.pair hRs (.pair .nil hR))))],λx=>f229 n x.1 x.2.1 x.2.2.1 x.2.2.2⟩
def Aq9 (α:Type) (n:Nat):D3 α:={ reg:=[(1,⟨0,[],[(5,{ ent:=some (A9 n) }),(6,{ sh:=some (.ref hR) }),(7,{ sh:=some (.pair (.ref hR) (.pair (.ref (.st (.pair .bool (.pair hIs (.pair hIs (.pair hRs (.pair .nil (.pair .bool (.pair hIs hIs))))))))) (.ref hR))) }),(8,{ ent:=some (Cu n) })]⟩)],join:=[],loop:=[],any:=[(1,Ail)] }
set_option maxHeartbeats 8000000 in
theorem Azp (n:Nat):Am TT ⟨18,[]⟩ [(5,{ ent:=some (A9 n) }),(6,{ sh:=some (.ref hR) }),(7,{ sh:=some (.pair (.ref hR) (.pair (.ref (.st (.pair .bool (.pair hIs (.pair hIs (.pair hRs (.pair .nil (.pair .bool (.pair hIs hIs))))))))) (.ref hR))) }),(8,{ ent:=some (Cu n) })] Ail (A4 ((A0 Tryz.f229).at [1,0])):=by
 refine ⟨by kernel_rfl,λw q hq=>?_⟩
 have e:WT [(5,{ ent:=some (A9 n) }),(6,{ sh:=some (.ref hR) }),(7,{ sh:=some (.pair (.ref hR) (.pair (.ref (.st (.pair .bool (.pair hIs (.pair hIs (.pair hRs (.pair .nil (.pair .bool (.pair hIs hIs))))))))) (.ref hR))) }),(8,{ ent:=some (Cu n) })] (A7 (A4 ((A0 Tryz.f229).at [1,0])).toList) q=(∃ (y0:HL (A9 n).rs) (q0:List (Nat × RV)),q=(5,.sv (Ae (A9 n).rs y0))::q0 /\ ∃ (y1:HL (Cu n).rs) (q1:List (Nat × RV)),q0=(8,.sv (Ae (Cu n).rs y1))::q1/\q1=[]):=by kernel_rfl
 rw [e] at hq;obtain ⟨y0,q0,rfl,y1,q1,rfl,rfl⟩:=hq
 all_goals exact .inl (Iu.mk (by kernel_rfl))
theorem Aq8 (α:Type) (n:Nat):Aq PP (Af (Aq9 α n).reg):=⟨At n,A49 n,trivial⟩
theorem B3w (α:Type) (n:Nat):D3.OK PP TT ⟨18,[]⟩ (Aq9 α n) (A0 Tryz.f229) :=
 D3.OK.mk3a (Aq8 α n) (show Aa (A0 Tryz.f229)=[] by kernel_rfl) trivial (show Ar (A0 Tryz.f229)=[(1,A4 ((A0 Tryz.f229).at [1,0]))] by kernel_rfl) ⟨⟨Azp n,trivial⟩,trivial⟩
theorem Aik (n:Nat):(Ad8 n).Sound PP:=fk (fn:=Tryz.f229) (B3w _ n)

abbrev Aiq:Tm:=⟨[(1,.k (.hp 1 0 0)),(2,.k (.hp 2 0 0))],[(1,.var 115 true false [.d .bool,.d hIs,.d hIs,.d hRs,.d .nil,.d .bool,.d hIs,.d hIs]),(2,.var 115 true false [.d .bool,.d .nil,.d .nil,.d .nil,.d .nil,.d .bool,.d .nil,.d .nil])],[],[]⟩
def f220 (n:Nat) (a0:Rq × LR × Unit × Rq):Option (Rq × LR × Unit × Rq) :=
 ob (f92 n 1) λc =>
 ob (f75 n c a0.1) λa =>
 ob (f103 n a a) λb =>
 ob (f77 n b) λd =>
 ob (f103 n b a) λe =>
 ob (f92 n 2) λf =>
 ob (f103 n e f) λg =>
 ob (f229 n (a0.1,a0.2.1,(),a0.2.2.2) a d g) λh =>
 some h
def Aqf (n:Nat):Ent:=⟨220,[(.st (.pair hR (.pair hRs (.pair .nil hR))))],[(.st (.pair hR (.pair hRs (.pair .nil hR))))],λx=>f220 n x⟩
def Aqg (α:Type) (n:Nat):D3 α:={ reg:=[(1,⟨0,[],[(0,{ ent:=some (As n) }),(3,{ ent:=some (Gv n) })]⟩),(2,⟨0,[],[(2,{ ent:=some (A9 n) })]⟩),(3,⟨9,[],[(3,{ ent:=some (Al0 n) }),(6,{ ent:=some (A9 n) }),(7,{ ent:=some (As n) }),(8,{ ent:=some (A9 n) }),(9,{ ent:=some (Ad8 n) })]⟩)],join:=[],loop:=[],any:=[(1,Aiq)] }
set_option maxHeartbeats 8000000 in
theorem Azx (n:Nat):Am TT ⟨22,[]⟩ [(0,{ ent:=some (As n) }),(3,{ ent:=some (Gv n) })] Aiq (A4 ((A0 Tryz.f220).at [1,0])):=by
 refine ⟨by kernel_rfl,λw q hq=>?_⟩
 have e:WT [(0,{ ent:=some (As n) }),(3,{ ent:=some (Gv n) })] (A7 (A4 ((A0 Tryz.f220).at [1,0])).toList) q=(∃ (y0:HL (As n).rs) (q0:List (Nat × RV)),q=(0,.sv (Ae (As n).rs y0))::q0 /\ ∃ (y1:HL (Gv n).rs) (q1:List (Nat × RV)),q0=(3,.sv (Ae (Gv n).rs y1))::q1/\q1=[]):=by kernel_rfl
 rw [e] at hq;obtain ⟨y0,q0,rfl,y1,q1,rfl,rfl⟩:=hq
 all_goals exact .inr ⟨5,by kernel_rfl,by kernel_rfl,by kernel_rfl⟩
theorem Aqe (α:Type) (n:Nat):Aq PP (Af (Aqg α n).reg):=⟨B8 n,Acq n,At n,Apo n,At n,B8 n,At n,Aik n,trivial⟩
theorem B42 (α:Type) (n:Nat):D3.OK PP TT ⟨22,[]⟩ (Aqg α n) (A0 Tryz.f220) :=
 D3.OK.mk3a (Aqe α n) (show Aa (A0 Tryz.f220)=[] by kernel_rfl) trivial (show Ar (A0 Tryz.f220)=[(1,A4 ((A0 Tryz.f220).at [1,0])),(3,A4 ((A0 Tryz.f220).at [1,1,1,0]))] by kernel_rfl) ⟨⟨Azx n,trivial⟩,trivial,trivial⟩
theorem Azw (n:Nat):(Aqf n).Sound PP:=fk (fn:=Tryz.f220) (B42 _ n)

def A0m {α:Type} (n:Nat) (a b:Int) (c:Bool) (d e:LI) (g h:Bool) (i j:LI) (f:Int->Int->Bool->LI->LI->Bool->Bool->LI->LI->Option α) (k0:Bool->Bool->LI->LI->Option α):Option α :=
 bif (decide (b<a)) then
  ob (f143 n i d) λk =>
  ob (f143 n j e) λl =>
  f a (W (b+1)) c d e g (!(h==c)) k l
 else
  k0 g h i j
abbrev Rr:Tm:=⟨[(2,.k (.hp 2 0 0)),(4,.k (.hp 4 0 0)),(5,.k (.hp 5 0 0)),(7,.d hI),(8,.d hI)],[(2,.var 30 true false [.d .bool,.d hIs,.d hIs]),(4,.var 30 true false [.d .bool,.d .nil,.d .nil]),(5,.var 30 true false [.d .bool,.d hIs,.d hIs])],[],[]⟩
abbrev Aqd:Tm:=⟨[(4,.k (.hp 4 0 0)),(5,.k (.hp 5 0 0))],[(4,.var 30 true false [.d .bool,.d .nil,.d .nil]),(5,.var 30 true false [.d .bool,.d hIs,.d hIs])],[2],[]⟩
abbrev A0l:List (Exit × Tm):=[(.exit 0,Aqd)]
def A0k {α:Type} (n:Nat) (v:Rr.den) (f:Rr.den->Option α) (ks:KS α A0l):Option α:=A0m n v.1.2.2.2.1 v.1.2.2.2.2.1 v.2.1.1 v.2.1.2.1 v.2.1.2.2.1 v.2.2.1.1 v.2.2.2.1.1 v.2.2.2.1.2.1 v.2.2.2.1.2.2.1 (λa b c d e g h i j=>f (((),(),(),a,b,()),((c,d,e,()),(g,(),(),()),(h,i,j,()),()))) (λw0 w1 w2 w3=>ks.1 (((),(),()),((w0,(),(),()),(w1,w2,w3,()),())))
def Q5 {α:Type} (n m:Nat) (a b:Int) (c:Bool) (d e:LI) (f g:Bool) (h i:LI) (k0:Bool->Bool->LI->LI->Option α):Option α:=A6 (A0k n) m (((),(),(),a,b,()),((c,d,e,()),(f,(),(),()),(g,h,i,()),())) (λw=>k0 w.2.1.1 w.2.2.1.1 w.2.2.1.2.1 w.2.2.1.2.2.1,())
theorem Aqc {α n m a b c d e f g h i k0}:Q5 (α:=α) n (m+1) a b c d e f g h i k0=A0m n a b c d e f g h i (λa b c d e f g h i=>Q5 n m a b c d e f g h i k0) k0:=rfl
def f221 (n:Nat) (a0:Rq) (a1:Int):Option Rq :=
 ob (f92 n 1) λc =>
 Q5 n n a1 0 a0.1 a0.2.1 a0.2.2 false c.1 c.2.1 c.2.2
  (λj e a b=>(
   bif e then
    ob (f74 n (e,a,b)) λd =>
    ob (f74 n ((!d),a,b)) λf =>
    bif f then
     ob (f161 n) λg =>
     some ((!d),a,g)
    else
     some ((!d),a,b)
   else
    ob (f74 n (false,a,b)) λh =>
    bif h then
     ob (f161 n) λi =>
     some (false,a,i)
    else
     some (false,a,b)))
def Ib (n:Nat):Ent:=⟨221,[hR,hI],[hR],λx=>f221 n x.1 x.2⟩
def Ad9 (α:Type) (n:Nat):D3 α:={ reg:=[(1,⟨0,[],[(0,{ ent:=some (As n) })]⟩),(4,⟨15,[],[(9,{ ent:=some (Gm n) }),(14,{ ent:=some (Gm n) })]⟩),(6,⟨0,[],[(4,{ ent:=some (Rj n) })]⟩),(7,⟨0,[],[(1,{ ent:=some (Rj n) })]⟩),(8,⟨0,[],[(0,{ ent:=some (Qg n) })]⟩)],join:=[],loop:=[(3,⟨Rr,A0l,A6 (A0k n) n⟩)] }
theorem A8o (α:Type) (n:Nat):Aq PP (Af (Ad9 α n).reg):=⟨B8 n,Fx n,Fx n,Q0 n,Q0 n,Qf n,trivial⟩
theorem Ald (α:Type) (n:Nat):LO.Sound (α:=α) PP ⟨40,[]⟩ ⟨Rr,A0l,A6 (A0k n) n⟩ (.loop ((A0 Tryz.f221).at [1,1,0,1,0,0])):=Ca (D:=Ad9 α n) (A8o α n) n
theorem B41 (α:Type) (n:Nat):D3.OK PP TT ⟨40,[]⟩ (Ad9 α n) (A0 Tryz.f221) :=
 D3.OK.mk3 (A8o α n) (show Aa (A0 Tryz.f221)=[(3,(.loop ((A0 Tryz.f221).at [1,1,0,1,0,0])))] by kernel_rfl) ⟨Ad rfl (Ald α n),trivial⟩
theorem Hi (n:Nat):(Ib n).Sound PP:=fk (fn:=Tryz.f221) (B41 _ n)

abbrev Aii:Tm:=⟨[(4,.k (.hp 4 0 0)),(5,.k (.hp 5 0 0)),(6,.k (.hp 6 0 0)),(7,.k (.hp 7 0 0))],[(4,.var 30 true false [.d .bool,.d .nil,.d .nil]),(5,.var 30 true false [.d .bool,.d .nil,.d .nil]),(6,.var 30 true false [.d .bool,.d hIs,.d hIs]),(7,.var 30 true false [.d .bool,.d hIs,.d hIs])],[2],[]⟩
abbrev Azm:Tm:=⟨[(1,.d hI),(2,.k (.hp 2 0 0)),(4,.k (.hp 4 0 0)),(5,.k (.hp 5 0 0)),(6,.k (.hp 6 0 0)),(7,.k (.hp 7 0 0))],[(2,.var 115 true false [.d .bool,.d hIs,.d hIs,.d hRs,.d .nil,.d .bool,.d hIs,.d hIs]),(4,.var 30 true false [.d .bool,.d .nil,.d .nil]),(5,.var 30 true false [.d .bool,.d .nil,.d .nil]),(6,.var 30 true false [.d .bool,.d hIs,.d hIs]),(7,.var 30 true false [.d .bool,.d hIs,.d hIs])],[],[]⟩
def f230 (n:Nat) (a0:Rq × LR × Unit × Rq) (a1:Int):Option (Rq × Rq) :=
 ob (f92 n 0) λa =>
 ob (f92 n 0) λg =>
 let c:=λ(d:Bool) (e:LI) (f:LI)=>(
  bif (decide (a1>=2)) then
   ob (f221 n a0.1 (W (a1-2))) λh =>
   ob (f92 n (W (a1*(W (a1-1))))) λi =>
   ob (f103 n h i) λj =>
   some ((d,e,f),j)
  else
   some ((d,e,f),g))
 bif (decide (a1>=1)) then
  ob (f221 n a0.1 (W (a1-1))) λk =>
  ob (f92 n a1) λl =>
  ob (f103 n k l) λb =>
  c b.1 b.2.1 b.2.2
 else
  c a.1 a.2.1 a.2.2
def Aq6 (n:Nat):Ent:=⟨230,[(.st (.pair hR (.pair hRs (.pair .nil hR)))),hI],[hR,hR],λx=>f230 n x.1 x.2⟩
def Aq7 (α:Type) (n:Nat):D3 α:={ reg:=[(1,⟨0,[],[(0,{ ent:=some (As n) }),(1,{ ent:=some (As n) })]⟩),(3,⟨0,[],[(4,{ ent:=some (Ib n) }),(6,{ ent:=some (As n) }),(7,{ ent:=some (A9 n) })]⟩),(5,⟨0,[],[(4,{ ent:=some (Ib n) }),(9,{ ent:=some (As n) }),(10,{ ent:=some (A9 n) })]⟩)],join:=[(4,Azm)],loop:=[],any:=[(6,Aii)] }
set_option maxHeartbeats 8000000 in
theorem Azn (n:Nat):Am TT ⟨35,[]⟩ [] Aii (A4 ((A0 Tryz.f230).at [1,1,1,1,0])):=by
 refine ⟨by kernel_rfl,λw q hq=>?_⟩
 have e:WT [] (A7 (A4 ((A0 Tryz.f230).at [1,1,1,1,0])).toList) q=(q=[]):=by kernel_rfl
 rw [e] at hq;obtain rfl:=hq
 all_goals exact .inr ⟨3,by kernel_rfl,by kernel_rfl,by kernel_rfl⟩
theorem Aq5 (α:Type) (n:Nat):Aq PP (Af (Aq7 α n).reg):=⟨B8 n,B8 n,Hi n,B8 n,At n,Hi n,B8 n,At n,trivial⟩
theorem B3v (α:Type) (n:Nat):D3.OK PP TT ⟨35,[]⟩ (Aq7 α n) (A0 Tryz.f230) :=
 D3.OK.mk3a (Aq5 α n) (show Aa (A0 Tryz.f230)=[] by kernel_rfl) trivial (show Ar (A0 Tryz.f230)=[(6,A4 ((A0 Tryz.f230).at [1,1,1,1,0]))] by kernel_rfl) ⟨⟨Azn n,trivial⟩,trivial⟩
theorem Azl (n:Nat):(Aq6 n).Sound PP:=fk (fn:=Tryz.f230) (B3v _ n)

def f222 (n:Nat) (a0:Rq × LR × Unit × Rq) (a1:Int):Option (Rq × LR × Unit × Rq) :=
 ob (f230 n a0 a1) λa =>
 ob (f221 n a0.1 a1) λb =>
 ob (f229 n a0 b a.1 a.2) λc =>
 some c
def Aqb (n:Nat):Ent:=⟨222,[(.st (.pair hR (.pair hRs (.pair .nil hR)))),hI],[(.st (.pair hR (.pair hRs (.pair .nil hR))))],λx=>f222 n x.1 x.2⟩
def B40 (α:Type) (n:Nat):D3 α:={ reg:=[(1,⟨0,[],[(2,{ ent:=some (Aq6 n) })]⟩),(2,⟨7,[],[(4,{ ent:=some (Ib n) }),(7,{ ent:=some (Ad8 n) })]⟩)],join:=[],loop:=[] }
theorem Azu (n:Nat):(Aqb n).Sound PP:=B2 (fn:=Tryz.f222) (D:=B40 _ n) ⟨Azl n,Hi n,Aik n,trivial⟩

abbrev Ae7:Tm:=⟨[(2,.d hRs),(3,.k (.hw 1003)),(4,.k (.hp 4 0 0)),(5,.k (.hp 5 0 0)),(8,.k (.hp 8 0 0)),(10,.k (.hp 10 0 0)),(11,.k (.hp 11 0 0))],[(4,.var 118 true false [.d hI,.d .nil]),(5,.var 150 true false [.d hI,.d hI,.d hI,.d hI]),(8,.var 115 true false [.d .bool,.d .nil,.d .nil,.d .nil,.d .nil,.d .bool,.d .nil,.d .nil]),(10,.var 115 true false [.d .bool,.d .nil,.d .nil,.d .nil,.d .nil,.d .bool,.d .nil,.d .nil]),(11,.var 115 true false [.d .bool,.d .nil,.d .nil,.d .nil,.d .nil,.d .bool,.d .nil,.d .nil]),(1003,.arr 115 (.st (.pair hR (.pair hRs (.pair .nil hR)))) false)],[],[]⟩
abbrev Awi:Tm:=⟨[(2,.d hRs),(4,.k (.hp 4 0 0)),(5,.k (.hp 5 0 0)),(8,.k (.hp 8 0 0)),(10,.k (.hp 10 0 0)),(11,.k (.hp 11 0 0))],[(4,.var 118 true false [.d hI,.d .nil]),(5,.var 150 true false [.d hI,.d hI,.d hI,.d hI]),(8,.var 115 true false [.d .bool,.d .nil,.d .nil,.d .nil,.d .nil,.d .bool,.d .nil,.d .nil]),(10,.var 115 true false [.d .bool,.d hIs,.d hIs,.d hRs,.d .nil,.d .bool,.d hIs,.d hIs]),(11,.var 115 true false [.d .bool,.d hIs,.d hIs,.d hRs,.d .nil,.d .bool,.d hIs,.d hIs]),(1003,.arr 115 (.st (.pair hR (.pair hRs (.pair .nil hR)))) false)],[],[]⟩
def Aar (n:Nat) (a0:Int × Unit) (a1:Nq) (a2:LR) (a3:List (Rq × LR × Unit × Rq)):Option (((Rq × LR × Unit × Rq) × Int) × (List (Rq × LR × Unit × Rq))) :=
 let r:=λ(a:Bool) (b:LI) (c:LI) (f:LR) (g:Bool) (h:LI) (i:LI) (j:Bool) (k:LI) (l:LI) (m:LR) (o:Bool) (p:LI) (q:LI)=>(
  bif (a1.1==1) then
   ob (f92 n a1.2.2.2) λs =>
   ob (f215 n (a0.1,()) s) λt =>
   some ((t,0),a3)
  else
   bif (a1.1==2) then
    gd (decide (0<=a1.2.2.2)&&decide (a1.2.2.2<(a2.length:Int))) (
     let u:=a2.getD a1.2.2.2.toNat (false,[],[])
     ob (f216 n (a0.1,()) u a1.2.2.2) λv =>
     some ((v,0),a3))
   else
    bif (a1.1==3) then
     ob (f217 n ((a,b,c),f,(),g,h,i) ((j,k,l),m,(),o,p,q)) λw =>
     some ((w,0),a3)
    else
     bif (a1.1==4) then
      ob (f92 n (-1)) λx =>
      ob (f218 n ((j,k,l),m,(),o,p,q) x) λy =>
      ob (f217 n ((a,b,c),f,(),g,h,i) y) λz =>
      some ((z,0),a3)
     else
      bif (a1.1==5) then
       ob (f219 n ((a,b,c),f,(),g,h,i) ((j,k,l),m,(),o,p,q)) λd0 =>
       some ((d0,0),a3)
      else
       bif (a1.1==6) then
        ob (f74 n (j,k,l)) λd1 =>
        bif d1 then
         some ((((false,[],[]),[],(),false,[],[]),10),a3)
        else
         ob (f220 n ((j,k,l),m,(),o,p,q)) λd2 =>
         ob (f219 n ((a,b,c),f,(),g,h,i) d2) λd3 =>
         some ((d3,0),a3)
       else
        bif (a1.1==7) then
         ob (f92 n (-1)) λd4 =>
         ob (f218 n ((a,b,c),f,(),g,h,i) d4) λd5 =>
         some ((d5,0),a3)
        else
         ob (f221 n (a,b,c) a1.2.2.2) λd6 =>
         ob (f113 n d6) λd7 =>
         bif (!d7) then
          some ((((false,[],[]),[],(),false,[],[]),7),a3)
         else
          ob (f222 n ((a,b,c),f,(),g,h,i) a1.2.2.2) λd8 =>
          some ((d8,0),a3))
 ob (f214 n a1) λd9 =>
 bif (decide (d9>0)) then
  gd (decide (0<=a1.2.1)&&decide (a1.2.1<(a3.length:Int))) (
   gd (decide (a1.2.1.toNat<a3.length)) (
    let d:=a3.getD a1.2.1.toNat ((false,[],[]),[],(),(false,[],[]))
    gd (decide (0<=a1.2.2.1)&&decide (a1.2.2.1<(a3.length:Int))) (
     gd (decide (a1.2.2.1.toNat<a3.length)) (
      let e:=a3.getD a1.2.2.1.toNat ((false,[],[]),[],(),(false,[],[]))
      r d.1.1 d.1.2.1 d.1.2.2 d.2.1 d.2.2.2.1 d.2.2.2.2.1 d.2.2.2.2.2 e.1.1 e.1.2.1 e.1.2.2 e.2.1 e.2.2.2.1 e.2.2.2.2.1 e.2.2.2.2.2))))
 else
  r false [] [] [] false [] [] false [] [] [] false [] []
def Aja (n:Nat):Ent3:=⟨199,[.im (.st (.pair hI .nil)),.im hN,.im hRs,.one (.own 115 (.st (.pair hR (.pair hRs (.pair .nil hR)))))],[[.im (.st (.pair hR (.pair hRs (.pair .nil hR)))),.im hI]],λx=>Aar n x.1 x.2.1 x.2.2.1 x.2.2.2⟩
def Ajb (α:Type) (n:Nat):D3 α:={ reg:=[(2,⟨0,[],[(1,{ ent:=some (Q7 n) })]⟩),(6,⟨4,[],[(3,{ ent:=some (As n) }),(4,{ ent:=some (Aqr n) })]⟩),(8,⟨8,[],[(8,{ ent:=some (Aqp n) })]⟩),(10,⟨0,[],[(2,{ ent:=some (Adu n) })]⟩),(12,⟨4,[],[(2,{ ent:=some (As n) }),(3,{ ent:=some (Adn n) }),(4,{ ent:=some (Adu n) })]⟩),(14,⟨0,[],[(2,{ ent:=some (Adj n) })]⟩),(16,⟨0,[],[(2,{ ent:=some (Rj n) })]⟩),(18,⟨3,[],[(2,{ ent:=some (Aqf n) }),(3,{ ent:=some (Adj n) })]⟩),(20,⟨2,[],[(1,{ ent:=some (As n) }),(2,{ ent:=some (Adn n) })]⟩),(21,⟨0,[],[(4,{ ent:=some (Ib n) }),(5,{ ent:=some (Ig n) })]⟩),(23,⟨0,[],[(3,{ ent:=some (Aqb n) })]⟩)],join:=[(4,Awi)],loop:=[],any:=[(3,Ae7)] }
set_option maxHeartbeats 8000000 in
theorem Awj (n:Nat):Am TT ⟨89,[]⟩ [] Ae7 (A4 ((A0 Tryz.f199).at [1,1,0,1,0])):=by
 refine ⟨by kernel_rfl,λw q hq=>?_⟩
 have e:WT [] (A7 (A4 ((A0 Tryz.f199).at [1,1,0,1,0])).toList) q=(q=[]):=by kernel_rfl
 rw [e] at hq;obtain rfl:=hq
 all_goals exact .inr ⟨11,by kernel_rfl,by kernel_rfl,by kernel_rfl⟩
theorem Am0 (α:Type) (n:Nat):Aq PP (Af (Ajb α n).reg):=⟨Q6 n,B8 n,B08 n,B05 n,Aiy n,B8 n,Aiw n,Aiy n,Air n,Q0 n,Azw n,Air n,B8 n,Aiw n,Hi n,Hn n,Azu n,trivial⟩
theorem B0j (α:Type) (n:Nat):D3.OK PP TT ⟨89,[]⟩ (Ajb α n) (A0 Tryz.f199) :=
 D3.OK.mk3a (Am0 α n) (show Aa (A0 Tryz.f199)=[] by kernel_rfl) trivial (show Ar (A0 Tryz.f199)=[(3,A4 ((A0 Tryz.f199).at [1,1,0,1,0])),(6,A4 ((A0 Tryz.f199).at [1,1,1,0,1,0,1,0,0])),(8,A4 ((A0 Tryz.f199).at [1,1,1,0,1,0,1,1,1,0,0])),(12,A4 ((A0 Tryz.f199).at [1,1,1,0,1,0,1,1,1,1,1,1,1,0,0])),(18,A4 ((A0 Tryz.f199).at [1,1,1,0,1,0,1,1,1,1,1,1,1,1,1,1,1,0,1,0])),(20,A4 ((A0 Tryz.f199).at [1,1,1,0,1,0,1,1,1,1,1,1,1,1,1,1,1,1,1,0,0]))] by kernel_rfl) ⟨⟨Awj n,trivial⟩,trivial,trivial,trivial,trivial,trivial,trivial⟩
theorem Awh (n:Nat):(Aja n).Sound PP:=fkB (fn:=Tryz.f199) (B0j _ n)

def f200 (n:Nat) (a0:Rq × LR × Unit × Rq):Option Bool :=
 ob (f51 n a0.2.1) λa =>
 ob (f51 n []) λb =>
 ob (f113 n a0.1) λc =>
 bif c then
  ob (f113 n a0.2.2.2) λd =>
  bif d then
   bif (a.2==0) then
    some (b.2==0)
   else
    some false
  else
   some false
 else
  some false
def Ar8 (n:Nat):Ent:=⟨200,[(.st (.pair hR (.pair hRs (.pair .nil hR))))],[.bool],λx=>f200 n x⟩
def B4f (α:Type) (n:Nat):D3 α:={ reg:=[(1,⟨0,[],[(2,{ ent:=some (Xz n) })]⟩),(2,⟨0,[],[(2,{ ent:=some (Xz n) })]⟩),(3,⟨0,[],[(2,{ ent:=some (Ig n) }),(6,{ ent:=some (Ig n) })]⟩)],join:=[],loop:=[] }
theorem B0i (n:Nat):(Ar8 n).Sound PP:=B2 (fn:=Tryz.f200) (D:=B4f _ n) ⟨Vm n,Vm n,Hn n,Hn n,trivial⟩

def A26 {α:Type} (n:Nat) (e:LR) (c:LN) (g b h:Int) (d:List (Rq × LR × Unit × Rq)) (f:LR->LN->Int->Int->Int->(List (Rq × LR × Unit × Rq))->Option α) (k0:Int->Option α) (k1:(List (Rq × LR × Unit × Rq))->Option α):Option α :=
 bif (decide (b<g)) then
  gd (decide (0<=b)&&decide (b<(c.length:Int))) (
   let i:=c.getD b.toNat (0,0,0,0)
   ob (Aar n (h,()) i e d) λa =>
   gd (Nat.beq a.2.length d.length&&true) (
    bif (a.1.2 != 0) then
     k0 a.1.2
    else
     ob (f200 n a.1.1) λj =>
     bif (!j) then
      k0 7
     else
      gd (decide ((a.2.length+1)*160<=140737488355328)) (
       f e c g (W (b+1)) h (a.2++[a.1.1]))))
 else
  k1 d
abbrev Sy:Tm:=⟨[(2,.d hRs),(3,.k (.hp 3 0 0)),(8,.k (.hw 13)),(14,.d hNs),(15,.d hI),(16,.d hI)],[(3,.var 118 true false [.d hI,.d .nil]),(13,.arr 115 (.st (.pair hR (.pair hRs (.pair .nil hR)))) false)],[10,11,36],[]⟩
abbrev Asi:Tm:=⟨[(6,.d .nil),(7,.d hI)],[],[3,10,11,13],[]⟩
abbrev Ash:Tm:=⟨[(8,.k (.hw 13))],[(13,.arr 115 (.st (.pair hR (.pair hRs (.pair .nil hR)))) false)],[3],[]⟩
abbrev A25:List (Exit × Tm):=[(.ret,Asi),(.exit 0,Ash)]
def A24 {α:Type} (n:Nat) (v:Sy.den) (f:Sy.den->Option α) (ks:KS α A25):Option α:=A26 n v.1.1 v.1.2.2.2.1 v.1.2.2.2.2.1 v.1.2.2.2.2.2.1 v.2.1.1 v.2.2.1 (λa b c d e g=>f ((a,(),(),b,c,d,()),((e,(),()),g,()))) (λw0=>ks.1 (((),w0,()),())) (λw0=>ks.2.1 (((),()),(w0,())))
def Yg {α:Type} (n m:Nat) (a:LR) (b:LN) (c d e:Int) (f:List (Rq × LR × Unit × Rq)) (k0:Int->Option α) (k1:(List (Rq × LR × Unit × Rq))->Option α):Option α:=A6 (A24 n) m ((a,(),(),b,c,d,()),((e,(),()),f,())) (λw=>k0 w.1.2.1,λw=>k1 w.2.1,())
theorem Asg {α n m a b c d e f k0 k1}:Yg (α:=α) n (m+1) a b c d e f k0 k1=A26 n a b c d e f (λa b c d e f=>Yg n m a b c d e f k0 k1) k0 k1:=rfl
def f166 (n:Nat) (a0:Int × Unit) (a1:LN) (a2:LR):Option ((List (Rq × LR × Unit × Rq)) × Int) :=
 Yg n n a2 a1 (a1.length:Int) 0 a0.1 []
  (λa=>(
   some ([],a)))
  (λb=>(
   some (b,0)))
def Asj (n:Nat):Ent:=⟨166,[(.st (.pair hI .nil)),hNs,hRs],[(.sl (.st (.pair hR (.pair hRs (.pair .nil hR))))),hI],λx=>f166 n x.1 x.2.1 x.2.2⟩
def Aet (α:Type) (n:Nat):D3 α:={ reg:=[(1,⟨0,[],[(0,{ sh:=some (.st (.pair hR (.pair hRs (.pair .nil hR)))) })]⟩),(5,⟨0,[],[(4,{ alt:=[(Aja n)],hb:=310 })]⟩),(8,⟨0,[],[(1,{ ent:=some (Ar8 n) })]⟩),(10,⟨0,[],[(2,{ sh:=some (.st (.pair hR (.pair hRs (.pair .nil hR)))) })]⟩)],join:=[],loop:=[(3,⟨Sy,A25,A6 (A24 n) n⟩)] }
theorem A9f (α:Type) (n:Nat):Aq PP (Af (Aet α n).reg):=⟨Awh n,B0i n,trivial⟩
theorem Amp (α:Type) (n:Nat):LO.Sound (α:=α) PP ⟨40,[]⟩ ⟨Sy,A25,A6 (A24 n) n⟩ (.loop ((A0 Tryz.f166).at [1,1,0,1,0,0])):=Ca (D:=Aet α n) (A9f α n) n
theorem B4x (α:Type) (n:Nat):D3.OK PP TT ⟨40,[]⟩ (Aet α n) (A0 Tryz.f166) :=
 D3.OK.mk3 (A9f α n) (show Aa (A0 Tryz.f166)=[(3,(.loop ((A0 Tryz.f166).at [1,1,0,1,0,0])))] by kernel_rfl) ⟨Ad rfl (Amp α n),trivial⟩
theorem B15 (n:Nat):(Asj n).Sound PP:=fk (fn:=Tryz.f166) (B4x _ n)

def f96 (n:Nat) (a0:Int × Unit) (a1:LN) (a2:LR):Option ((Rq × LR × Unit × Rq) × Int) :=
 ob (f166 n a0 a1 a2) λa =>
 bif (a.2 != 0) then
  some (((false,[],[]),[],(),false,[],[]),a.2)
 else
  gd (decide (0<=(W ((a.1.length:Int)-1)))&&decide ((W ((a.1.length:Int)-1))<(a.1.length:Int))) (
   let b:=a.1.getD ((W ((a.1.length:Int)-1)).toNat) ((false,[],[]),[],(),(false,[],[]))
   some (b,0))
def Axw (n:Nat):Ent:=⟨96,[(.st (.pair hI .nil)),hE,hRs],[(.st (.pair hR (.pair hRs (.pair .nil hR)))),hI],λx=>f96 n x.1 x.2.1 x.2.2⟩
def B6g (α:Type) (n:Nat):D3 α:={ reg:=[(1,⟨0,[],[(4,{ ent:=some (Asj n) })]⟩)],join:=[],loop:=[] }
theorem B32 (n:Nat):(Axw n).Sound PP:=B2 (fn:=Tryz.f96) (D:=B6g _ n) ⟨B15 n,trivial⟩

def f39 (n:Nat) (a0:LN) (a1:LR):Option (Rq × Int) :=
 ob (f95 n a0 a1) λb =>
 bif (b != 0) then
  some ((false,[],[]),b)
 else
  ob (f96 n (0,()) a0 a1) λa =>
  bif (a.2 != 0) then
   some ((false,[],[]),a.2)
  else
   ob (f97 n a.1.1) λc =>
   some (c,0)
def Ay7 (n:Nat):Ent:=⟨39,[hE,hRs],[hR,hI],λx=>f39 n x.1 x.2⟩
def B73 (α:Type) (n:Nat):D3 α:={ reg:=[(1,⟨0,[],[(2,{ ent:=some (Gu n) })]⟩),(4,⟨0,[],[(3,{ ent:=some (Axw n) })]⟩),(7,⟨0,[],[(2,{ ent:=some (Xs n) })]⟩)],join:=[],loop:=[] }
theorem B3k (n:Nat):(Ay7 n).Sound PP:=B2 (fn:=Tryz.f39) (D:=B73 _ n) ⟨Aco n,B32 n,Vg n,trivial⟩

def f99 (n:Nat) (a0 a1:LR):Option Int :=
 ob (f109 n a1) λa =>
 ob (f69 n a 1) λb =>
 ob (f69 n ((a1.length:Int)==(a0.length:Int)) 8) λc =>
 ob (f68 n [b,c]) λd =>
 some d
def I6 (n:Nat):Ent:=⟨99,[hRs,hRs],[hI],λx=>f99 n x.1 x.2⟩
def B6d (α:Type) (n:Nat):D3 α:={ reg:=[(1,⟨0,[],[(1,{ ent:=some (Ko n) }),(2,{ ent:=some (I7 n) }),(8,{ ent:=some (I7 n) }),(9,{ sh:=some hI }),(10,{ ent:=some (C7 n) })]⟩)],join:=[],loop:=[] }
theorem Apd (n:Nat):(I6 n).Sound PP:=B2 (fn:=Tryz.f99) (D:=B6d _ n) ⟨A7b n,Q2 n,Q2 n,Q3 n,trivial⟩

abbrev Adw:Tm:=⟨[(2,.k (.hp 2 0 0)),(3,.k (.hp 3 0 0)),(4,.k (.hp 4 0 0))],[(2,.var 118 true false [.d hI,.d hRs]),(3,.var 30 true false [.d .bool,.d hIs,.d hIs]),(4,.var 115 true false [.d .bool,.d .nil,.d .nil,.d .nil,.d .nil,.d .bool,.d .nil,.d .nil])],[],[]⟩
def Aap (n:Nat) (a0:Int × LR) (a1:Rq):Option (Rq × LR × LR × Rq) :=
 ob (f72 n a0.1) λa =>
 ob (f92 n 0) λb =>
 gd ((!a0.2.isEmpty)) (
  ob (f72 n a0.1) λc =>
  some (a1,a,c,b))
def Aj3 (n:Nat):Ent:=⟨215,[(.st (.pair hI hRs)),hR],[(.st (.pair hR (.pair hRs (.pair hRs hR))))],λx=>Aap n x.1 x.2⟩
def Aj4 (α:Type) (n:Nat):D3 α:={ reg:=[(1,⟨0,[],[(3,{ ent:=some (Gw n) }),(4,{ ent:=some (As n) })]⟩),(3,⟨0,[],[(2,{ ent:=some (Gw n) })]⟩)],join:=[],loop:=[],any:=[(1,Adw)] }
set_option maxHeartbeats 8000000 in
theorem Aw9 (n:Nat):Am TT ⟨20,[]⟩ [(3,{ ent:=some (Gw n) }),(4,{ ent:=some (As n) })] Adw (A4 ((A0 Tryz.f215).at [1,0])):=by
 refine ⟨by kernel_rfl,λw q hq=>?_⟩
 have e:WT [(3,{ ent:=some (Gw n) }),(4,{ ent:=some (As n) })] (A7 (A4 ((A0 Tryz.f215).at [1,0])).toList) q=(∃ (y0:HL (Gw n).rs) (q0:List (Nat × RV)),q=(3,.sv (Ae (Gw n).rs y0))::q0 /\ ∃ (y1:HL (As n).rs) (q1:List (Nat × RV)),q0=(4,.sv (Ae (As n).rs y1))::q1/\q1=[]):=by kernel_rfl
 rw [e] at hq;obtain ⟨y0,q0,rfl,y1,q1,rfl,rfl⟩:=hq
 all_goals exact .inr ⟨7,by kernel_rfl,by kernel_rfl,by kernel_rfl⟩
theorem Alo (α:Type) (n:Nat):Aq PP (Af (Aj4 α n).reg):=⟨Acu n,B8 n,Acu n,trivial⟩
theorem B07 (α:Type) (n:Nat):D3.OK PP TT ⟨20,[]⟩ (Aj4 α n) (A0 Tryz.f215) :=
 D3.OK.mk3a (Alo α n) (show Aa (A0 Tryz.f215)=[] by kernel_rfl) trivial (show Ar (A0 Tryz.f215)=[(1,A4 ((A0 Tryz.f215).at [1,0]))] by kernel_rfl) ⟨⟨Aw9 n,trivial⟩,trivial⟩
theorem Aw8 (n:Nat):(Aj3 n).Sound PP:=fk (fn:=Tryz.f215) (B07 _ n)

abbrev A8v:Tm:=⟨[(2,.k (.hp 2 0 0)),(3,.k (.hp 3 0 0)),(4,.k (.hp 4 0 0))],[(2,.var 118 true false [.d hI,.d hRs]),(3,.var 30 true false [.d .bool,.d hIs,.d hIs]),(4,.var 115 true false [.d .bool,.d .nil,.d .nil,.d .nil,.d .nil,.d .bool,.d .nil,.d .nil])],[],[]⟩
def Ae0 (n:Nat) (a0:Int × LR) (a1:Rq):Option (Bool × LI × LI × LR × LR × Bool × LI × LI) :=
 ob (A0e n a0.1) λb =>
 ob (f92 n 0) λa =>
 gd ((!a0.2.isEmpty)) (
  ob (A0e n a0.1) λc =>
  some (a1.1,a1.2.1,a1.2.2,b,c,a.1,a.2.1,a.2.2))
def Ady (n:Nat):Ent3:=⟨215,[.im (.st (.pair hI hRs)),.im hR],[[.mix [.im .bool,.im hIs,.im hIs,.own 30 hR,.own 30 hR,.im .bool,.im hIs,.im hIs]]],λx=>Ae0 n x.1 x.2⟩
def Adz (α:Type) (n:Nat):D3 α:={ reg:=[(1,⟨0,[],[(3,{ entB:=some (Dj n),hb:=310 }),(4,{ ent:=some (As n) })]⟩),(3,⟨0,[],[(2,{ entB:=some (Dj n),hb:=320 })]⟩)],join:=[],loop:=[],any:=[(1,A8v)] }
set_option maxHeartbeats 8000000 in
theorem Aqu (n:Nat):Am TT ⟨20,[]⟩ [(3,{ entB:=some (Dj n),hb:=310 }),(4,{ ent:=some (As n) })] A8v (A4 ((A0 Tryz.f215).at [1,0])):=by
 refine ⟨by kernel_rfl,λw q hq=>?_⟩
 have e:WT [(3,{ entB:=some (Dj n),hb:=310 }),(4,{ ent:=some (As n) })] (A7 (A4 ((A0 Tryz.f215).at [1,0])).toList) q=(∃ (y0:HF (Ao 1000 (Dj n).ts) (Dj n).forms) (q0:List (Nat × RV)),q=(3,.bx (Dj n) y0)::q0 /\ ∃ (y1:HL (As n).rs) (q1:List (Nat × RV)),q0=(4,.sv (Ae (As n).rs y1))::q1/\q1=[]):=by kernel_rfl
 rw [e] at hq;obtain ⟨y0,q0,rfl,y1,q1,rfl,rfl⟩:=hq
 all_goals exact .inl (Iu.mk (by kernel_rfl))
theorem Agp (α:Type) (n:Nat):Aq PP (Af (Adz α n).reg):=⟨A6o n,B8 n,A6o n,trivial⟩
theorem Awc (α:Type) (n:Nat):D3.OK PP TT ⟨20,[]⟩ (Adz α n) (A0 Tryz.f215) :=
 D3.OK.mk3a (Agp α n) (show Aa (A0 Tryz.f215)=[] by kernel_rfl) trivial (show Ar (A0 Tryz.f215)=[(1,A4 ((A0 Tryz.f215).at [1,0]))] by kernel_rfl) ⟨⟨Aqu n,trivial⟩,trivial⟩
theorem Aqt (n:Nat):(Ady n).Sound PP:=fkB (fn:=Tryz.f215) (Awc _ n)

end Go.Ev
