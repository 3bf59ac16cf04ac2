/- DERIVED. What the functions compute, and that they do. -/
import Derived.Test.YtdheaaapdlekdaaGreatHa

set_option linter.all false
set_option linter.unusedVariables false
set_option linter.unusedSimpArgs false

namespace Go.Ev
open Go Go.Proofs Go.RowKit Go.Shelf
def f79 (n:Nat) (a0 a1:Int):Option LR :=
 ob (A23 n a0) λa =>
 ob (f97 n 1) λb =>
 gd (decide (0<=a1)&&decide (a1<(a.length:Int))) (
  gd (decide (a1.toNat<a.length)) (
   some (a.set a1.toNat b)))
def B1q (n:Nat):Ent:=⟨79,[hI,hI],[hRs],λx=>f79 n x.1 x.2⟩
def Bbr (α:Type) (n:Nat):D3 α:={ reg:=[(1,⟨0,[],[(1,{ entB:=some (It n),hb:=310 })]⟩),(2,⟨0,[],[(2,{ ent:=some (Bo n) })]⟩)],join:=[],loop:=[] }
theorem B7n (n:Nat):(B1q n).Sound PP:=Au (fn:=Tryz.f79) (D:=Bbr _ n) ⟨A90 n,Co n,trivial⟩

def f72 (n:Nat) (a0 a1:LR):Option Int :=
 ob (f119 n a1) λa =>
 ob (f111 n a 1) λb =>
 ob (f111 n ((a1.length:Int)==(a0.length:Int)) 8) λc =>
 ob (f70 n [b,c]) λd =>
 some d
def Zl (n:Nat):Ent:=⟨72,[hRs,hRs],[hI],λx=>f72 n x.1 x.2⟩
def Bbv (α:Type) (n:Nat):D3 α:={ reg:=[(1,⟨0,[],[(1,{ ent:=some (Lj n) }),(2,{ ent:=some (Em n) }),(8,{ ent:=some (Em n) }),(9,{ sh:=some hI }),(10,{ ent:=some (Ex n) })]⟩)],join:=[],loop:=[] }
theorem B7p (n:Nat):(Zl n).Sound PP:=Au (fn:=Tryz.f72) (D:=Bbv _ n) ⟨A9v n,I4 n,I4 n,Qr n,trivial⟩

def A8z {α:Type} (n:Nat) (b c:Int) (a:LR) (f:Int->Int->LR->Option α) (k0:LR->Option α):Option α :=
 bif (decide (c<b)) then
  ob (f97 n 0) λd =>
  gd (decide ((a.length+1)*56<=140737488355328)) (
   f b (W (c+1)) (a++[d]))
 else
  k0 a
abbrev Zp:Tm:=⟨[(3,.k (.hw 4)),(5,.d hI),(6,.d hI)],[(4,.arr 54 hR false)],[10],[]⟩
abbrev Aze:Tm:=⟨[(3,.k (.hw 4))],[(4,.arr 54 hR false)],[],[]⟩
abbrev A8y:List (Exit × Tm):=[(.exit 0,Aze)]
def A8x {α:Type} (n:Nat) (v:Zp.den) (f:Zp.den->Option α) (ks:KS α A8y):Option α:=A8z n v.1.2.1 v.1.2.2.1 v.2.1 (λa b c=>f (((),a,b,()),(c,()))) (λw0=>ks.1 (((),()),(w0,())))
def A62 {α:Type} (n m:Nat) (a b:Int) (c:LR) (k0:LR->Option α):Option α:=A5 (A8x n) m (((),a,b,()),(c,())) (λw=>k0 w.2.1,())
theorem Azd {α n m a b c k0}:A62 (α:=α) n (m+1) a b c k0=A8z n a b c (λa b c=>A62 n m a b c k0) k0:=rfl
def f64 (n:Nat) (a0:Int):Option LR :=
 A62 n n a0 0 []
  (λa=>(
   some a))
def Ss (n:Nat):Ent:=⟨64,[hI],[hRs],λx=>f64 n x⟩
def Aol (α:Type) (n:Nat):D3 α:={ reg:=[(1,⟨0,[],[(0,{ sh:=some hR })]⟩),(4,⟨0,[],[(1,{ ent:=some (Bo n) }),(2,{ sh:=some hR })]⟩)],join:=[],loop:=[(3,⟨Zp,A8y,A5 (A8x n) n⟩)] }
theorem Afu (α:Type) (n:Nat):Ao PP (Af (Aol α n).reg):=⟨Co n,trivial⟩
theorem Atd (α:Type) (n:Nat):LO.Sound (α:=α) PP ⟨14,[]⟩ ⟨Zp,A8y,A5 (A8x n) n⟩ (.loop ((A1 Tryz.f64).at [1,1,0,1,0,0])):=C0 (D:=Aol α n) (Afu α n) n
theorem Bc2 (α:Type) (n:Nat):D3.OK PP TT ⟨14,[]⟩ (Aol α n) (A1 Tryz.f64) :=
 D3.OK.mk3 (Afu α n) (show Aa (A1 Tryz.f64)=[(3,(.loop ((A1 Tryz.f64).at [1,1,0,1,0,0])))] by kernel_rfl) ⟨Ab rfl (Atd α n),trivial⟩
theorem Atc (n:Nat):(Ss n).Sound PP:=fk (fn:=Tryz.f64) (Bc2 _ n)

abbrev Ahk:Tm:=⟨[(2,.k (.hp 2 0 0)),(3,.k (.hp 3 0 0)),(4,.k (.hp 4 0 0))],[(2,.var 94 true false [.d hI,.d hRs]),(3,.var 54 true false [.d .bool,.d hIs,.d hIs]),(4,.var 91 true false [.d .bool,.d .nil,.d .nil,.d .nil,.d .nil,.d .bool,.d .nil,.d .nil])],[],[]⟩
def Adq (n:Nat) (a0:Int × LR) (a1:Rq):Option (Rq × LR × LR × Rq) :=
 ob (f64 n a0.1) λa =>
 ob (f97 n 0) λb =>
 gd ((!a0.2.isEmpty)) (
  ob (f64 n a0.1) λc =>
  some (a1,a,c,b))
def Ami (n:Nat):Ent:=⟨163,[(.st (.pair hI hRs)),hR],[(.st (.pair hR (.pair hRs (.pair hRs hR))))],λx=>Adq n x.1 x.2⟩
def Amj (α:Type) (n:Nat):D3 α:={ reg:=[(1,⟨0,[],[(3,{ ent:=some (Ss n) }),(4,{ ent:=some (Bo n) })]⟩),(3,⟨0,[],[(2,{ ent:=some (Ss n) })]⟩)],join:=[],loop:=[],any:=[(1,Ahk)] }
set_option maxHeartbeats 8000000 in
theorem B08 (n:Nat):As TT ⟨20,[]⟩ [(3,{ ent:=some (Ss n) }),(4,{ ent:=some (Bo n) })] Ahk (A9 ((A1 Tryz.f163).at [1,0])):=by
 refine ⟨by kernel_rfl,λw q hq=>?_⟩
 have e:WT [(3,{ ent:=some (Ss n) }),(4,{ ent:=some (Bo n) })] (A7 (A9 ((A1 Tryz.f163).at [1,0])).toList) q=(∃ (y0:HL (Ss n).rs) (q0:List (Nat × RV)),q=(3,.sv (Aj (Ss n).rs y0))::q0 /\ ∃ (y1:HL (Bo n).rs) (q1:List (Nat × RV)),q0=(4,.sv (Aj (Bo n).rs y1))::q1/\q1=[]):=by kernel_rfl
 rw [e] at hq;obtain ⟨y0,q0,rfl,y1,q1,rfl,rfl⟩:=hq
 all_goals exact .inr ⟨7,by kernel_rfl,by kernel_rfl,by kernel_rfl⟩
theorem Apx (α:Type) (n:Nat):Ao PP (Af (Amj α n).reg):=⟨Atc n,Co n,Atc n,trivial⟩
theorem B4o (α:Type) (n:Nat):D3.OK PP TT ⟨20,[]⟩ (Amj α n) (A1 Tryz.f163) :=
 D3.OK.mk3a (Apx α n) (show Aa (A1 Tryz.f163)=[] by kernel_rfl) trivial (show B1 (A1 Tryz.f163)=[(1,A9 ((A1 Tryz.f163).at [1,0]))] by kernel_rfl) ⟨⟨B08 n,trivial⟩,trivial⟩
theorem B07 (n:Nat):(Ami n).Sound PP:=fk (fn:=Tryz.f163) (B4o _ n)

abbrev Aby:Tm:=⟨[(2,.k (.hp 2 0 0)),(3,.k (.hp 3 0 0)),(4,.k (.hp 4 0 0))],[(2,.var 94 true false [.d hI,.d hRs]),(3,.var 54 true false [.d .bool,.d hIs,.d hIs]),(4,.var 91 true false [.d .bool,.d .nil,.d .nil,.d .nil,.d .nil,.d .bool,.d .nil,.d .nil])],[],[]⟩
def Ahn (n:Nat) (a0:Int × LR) (a1:Rq):Option (Bool × LI × LI × LR × LR × Bool × LI × LI) :=
 ob (A23 n a0.1) λb =>
 ob (f97 n 0) λa =>
 gd ((!a0.2.isEmpty)) (
  ob (A23 n a0.1) λc =>
  some (a1.1,a1.2.1,a1.2.2,b,c,a.1,a.2.1,a.2.2))
def Ahl (n:Nat):Ent3:=⟨163,[.im (.st (.pair hI hRs)),.im hR],[[.mix [.im .bool,.im hIs,.im hIs,.own 54 hR,.own 54 hR,.im .bool,.im hIs,.im hIs]]],λx=>Ahn n x.1 x.2,[]⟩
def Ahm (α:Type) (n:Nat):D3 α:={ reg:=[(1,⟨0,[],[(3,{ entB:=some (It n),hb:=310 }),(4,{ ent:=some (Bo n) })]⟩),(3,⟨0,[],[(2,{ entB:=some (It n),hb:=320 })]⟩)],join:=[],loop:=[],any:=[(1,Aby)] }
set_option maxHeartbeats 8000000 in
theorem Av8 (n:Nat):As TT ⟨20,[]⟩ [(3,{ entB:=some (It n),hb:=310 }),(4,{ ent:=some (Bo n) })] Aby (A9 ((A1 Tryz.f163).at [1,0])):=by
 refine ⟨by kernel_rfl,λw q hq=>?_⟩
 have e:WT [(3,{ entB:=some (It n),hb:=310 }),(4,{ ent:=some (Bo n) })] (A7 (A9 ((A1 Tryz.f163).at [1,0])).toList) q=(∃ (y0:HF (Al 1000 (It n).ts) (It n).forms) (q0:List (Nat × RV)),q=(3,.bx (It n) y0)::q0 /\ ∃ (y1:HL (Bo n).rs) (q1:List (Nat × RV)),q0=(4,.sv (Aj (Bo n).rs y1))::q1/\q1=[]):=by kernel_rfl
 rw [e] at hq;obtain ⟨y0,q0,rfl,y1,q1,rfl,rfl⟩:=hq
 all_goals exact .inl (Mo.mk (by kernel_rfl))
theorem Ak9 (α:Type) (n:Nat):Ao PP (Af (Ahm α n).reg):=⟨A90 n,Co n,A90 n,trivial⟩
theorem B09 (α:Type) (n:Nat):D3.OK PP TT ⟨20,[]⟩ (Ahm α n) (A1 Tryz.f163) :=
 D3.OK.mk3a (Ak9 α n) (show Aa (A1 Tryz.f163)=[] by kernel_rfl) trivial (show B1 (A1 Tryz.f163)=[(1,A9 ((A1 Tryz.f163).at [1,0]))] by kernel_rfl) ⟨⟨Av8 n,trivial⟩,trivial⟩
theorem Av7 (n:Nat):(Ahl n).Sound PP:=fkB (fn:=Tryz.f163) (B09 _ n)

abbrev B06:Tm:=⟨[(2,.d hI),(3,.k (.hp 3 0 0)),(6,.k (.hp 6 0 0)),(7,.k (.hp 7 0 0))],[(3,.var 94 true false [.d hI,.d hRs]),(6,.var 91 true false [.d .bool,.d .nil,.d .nil,.d .nil,.d .nil,.d .bool,.d .nil,.d .nil]),(7,.var 91 false false [.d .bool,.d hIs,.d hIs,.k (.hw 313),.k (.hw 314),.d .bool,.d hIs,.d hIs]),(313,.arr 54 hR false),(314,.arr 54 hR false)],[4],[]⟩
def Adp (n:Nat) (a0:Int × LR) (a1:Rq) (a2:Int):Option (Rq × LR × LR × Rq) :=
 ob (Ahn n a0 a1) λa =>
 let b:=λ(c:LR)=>(
  gd ((!a0.2.isEmpty)) (
   gd (decide (0<=a2)&&decide (a2<(a0.2.length:Int))) (
    let d:=a0.2.getD a2.toNat (false,[],[])
    some ((a.1,a.2.1,a.2.2.1),c,a.2.2.2.2.1,d))))
 bif (decide (a2<a0.1)) then
  ob (f97 n 1) λe =>
  gd (decide (0<=a2)&&decide (a2<(a.2.2.2.1.length:Int))) (
   gd (decide (a2.toNat<a.2.2.2.1.length)) (
    b (a.2.2.2.1.set a2.toNat e)))
 else
  b a.2.2.2.1
def Amh (n:Nat):Ent:=⟨164,[(.st (.pair hI hRs)),hR,hI],[(.st (.pair hR (.pair hRs (.pair hRs hR))))],λx=>Adp n x.1 x.2.1 x.2.2⟩
def B4n (α:Type) (n:Nat):D3 α:={ reg:=[(1,⟨0,[],[(2,{ alt:=[(Ahl n)],hb:=310 })]⟩),(3,⟨4,[],[(3,{ ent:=some (Bo n) })]⟩)],join:=[(4,B06)],loop:=[] }
theorem B05 (n:Nat):(Amh n).Sound PP:=Au (fn:=Tryz.f164) (D:=B4n _ n) ⟨Av7 n,Co n,trivial⟩

def A3w {α:Type} (n:Nat) (d:LI) (b g e a:Int) (h:LI) (i j:Int) (c:LI) (f:LI->Int->Int->Int->Int->LI->Int->Int->LI->Option α) (k0:LI->LI->Int->Int->LI->Option α):Option α :=
 let k:=λ(_:Unit)=>(
  let l:=λ(m:Int)=>(
   gd (decide (0<=(W (b+a)))&&decide ((W (b+a))<(c.length:Int))) (
    gd (decide ((W (b+a)).toNat<c.length)) (
     gd (decide (0<=(W (b+a)))&&decide ((W (b+a))<(c.length:Int))) (
      gd (decide ((W (b+a)).toNat<c.length)) (
       f d b g (W (Int.tdiv (W (m+(c.getD ((W (b+a)).toNat) 0))) 10000)) (W (a+1)) h i j (c.set ((W (b+a)).toNat) (Int.tmod (W (m+(c.getD ((W (b+a)).toNat) 0))) 10000)))))))
  bif (decide (a<(d.length:Int))) then
   gd (decide (0<=a)&&decide (a<(d.length:Int))) (
    l (W (e+(W (g*(d.getD a.toNat 0))))))
  else
   l e)
 bif (decide (a<(d.length:Int))) then
  k ()
 else
  bif (decide (e>0)) then
   k ()
  else
   k0 d h i j c
abbrev U2:Tm:=⟨[(1,.d hIs),(5,.k (.hw 15)),(6,.d hI),(7,.d hI),(8,.d hI),(9,.d hI),(16,.d hIs),(17,.d hI),(18,.d hI)],[(15,.arr 3 hI false)],[],[]⟩
abbrev Avl:Tm:=⟨[(1,.d hIs),(5,.k (.hw 15)),(16,.d hIs),(17,.d hI),(18,.d hI)],[(15,.arr 3 hI false)],[],[]⟩
abbrev A3v:List (Exit × Tm):=[(.exit 2,Avl)]
def A3u {α:Type} (n:Nat) (v:U2.den) (f:U2.den->Option α) (ks:KS α A3v):Option α:=A3w n v.1.1 v.1.2.2.1 v.1.2.2.2.1 v.1.2.2.2.2.1 v.1.2.2.2.2.2.1 v.1.2.2.2.2.2.2.1 v.1.2.2.2.2.2.2.2.1 v.1.2.2.2.2.2.2.2.2.1 v.2.1 (λa b c d e g h i j=>f ((a,(),b,c,d,e,g,h,i,()),(j,()))) (λw0 w1 w2 w3 w4=>ks.1 ((w0,(),w1,w2,w3,()),(w4,())))
def N0 {α:Type} (n m:Nat) (a:LI) (b c d e:Int) (f:LI) (g h:Int) (i:LI) (k0:LI->LI->Int->Int->LI->Option α):Option α:=A5 (A3u n) m ((a,(),b,c,d,e,f,g,h,()),(i,())) (λw=>k0 w.1.1 w.1.2.2.1 w.1.2.2.2.1 w.1.2.2.2.2.1 w.2.1,())
theorem Avk {α n m a b c d e f g h i k0}:N0 (α:=α) n (m+1) a b c d e f g h i k0=A3w n a b c d e f g h i (λa b c d e f g h i=>N0 n m a b c d e f g h i k0) k0:=rfl
def A3z {α:Type} (n:Nat) (e b:LI) (c a:Int) (d:LI) (f:LI->LI->Int->Int->LI->Option α) (k0:LI->Option α):Option α :=
 bif (decide (a<c)) then
  gd (decide (0<=a)&&decide (a<(b.length:Int))) (
   N0 n n e a (b.getD a.toNat 0) 0 0 b c a d
    (λg h i j k=>(
     f g h i (W (j+1)) k)))
 else
  k0 d
abbrev U3:Tm:=⟨[(1,.d hIs),(5,.k (.hw 15)),(16,.d hIs),(17,.d hI),(18,.d hI)],[(15,.arr 3 hI false)],[],[]⟩
abbrev Avo:Tm:=⟨[(5,.k (.hw 15))],[(15,.arr 3 hI false)],[],[]⟩
abbrev A3y:List (Exit × Tm):=[(.exit 0,Avo)]
def A3x {α:Type} (n:Nat) (v:U3.den) (f:U3.den->Option α) (ks:KS α A3y):Option α:=A3z n v.1.1 v.1.2.2.1 v.1.2.2.2.1 v.1.2.2.2.2.1 v.2.1 (λa b c d e=>f ((a,(),b,c,d,()),(e,()))) (λw0=>ks.1 (((),()),(w0,())))
def N1 {α:Type} (n m:Nat) (a b:LI) (c d:Int) (e:LI) (k0:LI->Option α):Option α:=A5 (A3x n) m ((a,(),b,c,d,()),(e,())) (λw=>k0 w.2.1,())
theorem Avm {α n m a b c d e k0}:N1 (α:=α) n (m+1) a b c d e k0=A3z n a b c d e (λa b c d e=>N1 n m a b c d e k0) k0:=rfl
abbrev B4z:Tm:=⟨[(1,.d hIs),(5,.k (.hw 15)),(6,.d hI),(7,.d hI),(8,.d hI),(9,.d hI),(16,.d hIs),(17,.d hI),(18,.d hI)],[(15,.arr 3 hI false)],[],[]⟩
abbrev B0d:Tm:=⟨[(1,.d hIs),(5,.k (.hw 15)),(6,.d hI),(7,.d hI),(8,.d hI),(9,.d hI),(16,.d hIs),(17,.d hI),(18,.d hI)],[(15,.arr 3 hI false)],[],[]⟩
def f152 (n:Nat) (a0 a1:LI):Option LI :=
 gd (decide (0<=(W ((a0.length:Int)+(a1.length:Int))))&&decide ((W ((a0.length:Int)+(a1.length:Int)))<=4611686018427387904)&&decide ((8:Int)*(W ((a0.length:Int)+(a1.length:Int)))<=281474976710656)) (
  N1 n n a1 a0 (a0.length:Int) 0 (List.replicate ((W ((a0.length:Int)+(a1.length:Int))).toNat) 0)
   (λa=>(
    ob (f202 n a) λb =>
    some b)))
def Hh (n:Nat):Ent:=⟨152,[hIs,hIs],[hIs],λx=>f152 n x.1 x.2⟩
def A74 (α:Type) (n:Nat):D3 α:={ reg:=[(14,⟨0,[],[(1,{ ent:=some (Hc n),fz:=[(63,hIs)] })]⟩)],join:=[(9,B4z),(11,B0d)],loop:=[(7,⟨U2,A3v,A5 (A3u n) n⟩),(3,⟨U3,A3y,A5 (A3x n) n⟩)] }
theorem Yc (α:Type) (n:Nat):Ao PP (Af (A74 α n).reg):=⟨Qw n,trivial⟩
theorem Aq4 (α:Type) (n:Nat):LO.Sound (α:=α) PP ⟨65,[]⟩ ⟨U2,A3v,A5 (A3u n) n⟩ (.loop ((A1 Tryz.f152).at [1,1,0,1,0,0,1,1,0,0,1,1,1,0,0])):=C0 (D:=A74 α n) (Yc α n) n
theorem Avn (α:Type) (n:Nat):D3.OK PP TT ⟨65,[]⟩ (A74 α n) ((A1 Tryz.f152).at [1,1,0,1,0,0]) :=
 D3.OK.mk3 (Yc α n) (show Aa ((A1 Tryz.f152).at [1,1,0,1,0,0])=[(7,(.loop ((A1 Tryz.f152).at [1,1,0,1,0,0,1,1,0,0,1,1,1,0,0])))] by kernel_rfl) ⟨Ab rfl (Aq4 α n),trivial⟩
theorem Aq5 (α:Type) (n:Nat):LO.Sound (α:=α) PP ⟨65,[]⟩ ⟨U3,A3y,A5 (A3x n) n⟩ (.loop ((A1 Tryz.f152).at [1,1,0,1,0,0])):=lk (Avn α n) n
theorem B9p (α:Type) (n:Nat):D3.OK PP TT ⟨65,[]⟩ (A74 α n) (A1 Tryz.f152) :=
 D3.OK.mk3 (Yc α n) (show Aa (A1 Tryz.f152)=[(3,(.loop ((A1 Tryz.f152).at [1,1,0,1,0,0])))] by kernel_rfl) ⟨Ab rfl (Aq5 α n),trivial⟩
theorem Gi (n:Nat):(Hh n).Sound PP:=fk (fn:=Tryz.f152) (B9p _ n)

def A3t {α:Type} (n:Nat) (b c:LI) (d a:Int) (e:LI) (f:LI->LI->Int->Int->LI->Option α) (k0:LI->Option α):Option α :=
 let g:=λ(_:Unit)=>(
  let h:=λ(i:Int)=>(
   let j:=λ(k:Int)=>(
    gd (decide ((e.length+1)*8<=140737488355328)) (
     f b c (W (Int.tdiv k 10000)) (W (a+1)) (e++[(Int.tmod k 10000)])))
   bif (decide (a<(c.length:Int))) then
    gd (decide (0<=a)&&decide (a<(c.length:Int))) (
     j (W (i+(c.getD a.toNat 0))))
   else
    j i)
  bif (decide (a<(b.length:Int))) then
   gd (decide (0<=a)&&decide (a<(b.length:Int))) (
    h (W (d+(b.getD a.toNat 0))))
  else
   h d)
 bif (decide (a<(max (b.length:Int) (c.length:Int)))) then
  g ()
 else
  bif (decide (d>0)) then
   g ()
  else
   k0 e
abbrev U1:Tm:=⟨[(0,.d hIs),(1,.d hIs),(5,.k (.hw 8)),(6,.d hI),(7,.d hI)],[(8,.arr 3 hI false)],[45],[]⟩
abbrev Avi:Tm:=⟨[(5,.k (.hw 8))],[(8,.arr 3 hI false)],[],[]⟩
abbrev A3s:List (Exit × Tm):=[(.exit 0,Avi)]
def A3r {α:Type} (n:Nat) (v:U1.den) (f:U1.den->Option α) (ks:KS α A3s):Option α:=A3t n v.1.1 v.1.2.1 v.1.2.2.2.1 v.1.2.2.2.2.1 v.2.1 (λa b c d e=>f ((a,b,(),c,d,()),(e,()))) (λw0=>ks.1 (((),()),(w0,())))
def Mz {α:Type} (n m:Nat) (a b:LI) (c d:Int) (e:LI) (k0:LI->Option α):Option α:=A5 (A3r n) m ((a,b,(),c,d,()),(e,())) (λw=>k0 w.2.1,())
theorem Avh {α n m a b c d e k0}:Mz (α:=α) n (m+1) a b c d e k0=A3t n a b c d e (λa b c d e=>Mz n m a b c d e k0) k0:=rfl
abbrev B4w:Tm:=⟨[(0,.d hIs),(1,.d hIs),(5,.k (.hw 8)),(6,.d hI),(7,.d hI)],[(8,.arr 3 hI false)],[],[]⟩
abbrev B4v:Tm:=⟨[(0,.d hIs),(1,.d hIs),(5,.k (.hw 8)),(6,.d hI),(7,.d hI)],[(8,.arr 3 hI false)],[],[]⟩
abbrev B4u:Tm:=⟨[(0,.d hIs),(1,.d hIs),(5,.k (.hw 8)),(6,.d hI),(7,.d hI)],[(8,.arr 3 hI false)],[],[]⟩
def f154 (n:Nat) (a0 a1:LI):Option LI :=
 Mz n n a0 a1 0 0 []
  (λa=>(
   some a))
def Avj (n:Nat):Ent:=⟨154,[hIs,hIs],[hIs],λx=>f154 n x.1 x.2⟩
def Ahr (α:Type) (n:Nat):D3 α:={ reg:=[(1,⟨0,[],[(0,{ sh:=some hI })]⟩),(9,⟨0,[],[(3,{ sh:=some hI })]⟩)],join:=[(5,B4w),(7,B4v),(9,B4u)],loop:=[(3,⟨U1,A3s,A5 (A3r n) n⟩)] }
theorem Ac0 (α:Type) (n:Nat):Ao PP (Af (Ahr α n).reg):=trivial
theorem Aq3 (α:Type) (n:Nat):LO.Sound (α:=α) PP ⟨50,[]⟩ ⟨U1,A3s,A5 (A3r n) n⟩ (.loop ((A1 Tryz.f154).at [1,1,0,1,0,0])):=C0 (D:=Ahr α n) (Ac0 α n) n
theorem B9n (α:Type) (n:Nat):D3.OK PP TT ⟨50,[]⟩ (Ahr α n) (A1 Tryz.f154) :=
 D3.OK.mk3 (Ac0 α n) (show Aa (A1 Tryz.f154)=[(3,(.loop ((A1 Tryz.f154).at [1,1,0,1,0,0])))] by kernel_rfl) ⟨Ab rfl (Aq3 α n),trivial⟩
theorem B4t (n:Nat):(Avj n).Sound PP:=fk (fn:=Tryz.f154) (B9n _ n)

abbrev B4x:Tm:=⟨[(0,.d .bool),(1,.d hIs),(2,.d hIs),(6,.k (.hp 6 0 0))],[(6,.var 54 true false [.d .bool,.d .nil,.d .nil])],[],[]⟩
def f153 (n:Nat) (a0:Bool) (a1 a2:LI):Option Rq :=
 let c:=λ(a:LI) (d:LI)=>(
  bif a0 then
   ob (f123 n a) λe =>
   ob (f123 n d) λf =>
   some ((decide ((a.length:Int)>0)),e,f)
  else
   ob (f123 n a) λg =>
   ob (f123 n d) λh =>
   some (false,g,h))
 ob (f203 n a1 a2) λb =>
 ob (f151 n) λi =>
 ob (f155 n b i) λj =>
 bif (j != 0) then
  ob (f204 n a1 b) λk =>
  ob (f204 n a2 b) λl =>
  c k.1 l.1
 else
  c a1 a2
def R9 (n:Nat):Ent:=⟨153,[.bool,hIs,hIs],[hR],λx=>f153 n x.1 x.2.1 x.2.2⟩
def B9o (α:Type) (n:Nat):D3 α:={ reg:=[(1,⟨0,[],[(2,{ ent:=some (Ago n) })]⟩),(2,⟨0,[],[(1,{ ent:=some (Rb n) }),(2,{ ent:=some (Yb n) })]⟩),(3,⟨0,[],[(2,{ ent:=some (A6g n) })]⟩),(4,⟨0,[],[(2,{ ent:=some (A6g n) })]⟩),(5,⟨0,[],[(7,{ ent:=some (Li n) }),(9,{ ent:=some (Li n) })]⟩)],join:=[(5,B4x)],loop:=[] }
theorem R8 (n:Nat):(R9 n).Sound PP:=Au (fn:=Tryz.f153) (D:=B9o _ n) ⟨Am1 n,Ra n,A0b n,A9c n,A9c n,K6 n,K6 n,trivial⟩

def A3p {α:Type} (n:Nat) (c:LI) (g d a:Int) (b:LI) (f:LI->Int->Int->Int->LI->Option α) (k0:LI->Option α):Option α :=
 bif (decide (a<d)) then
  gd (decide (0<=a)&&decide (a<(b.length:Int))) (
   gd (decide (a.toNat<b.length)) (
    let h:=λ(e:Int)=>(
     bif (decide (e<0)) then
      gd (decide (0<=a)&&decide (a<(b.length:Int))) (
       gd (decide (a.toNat<b.length)) (
        f c 1 d (W (a+1)) (b.set a.toNat (W (e+10000)))))
     else
      gd (decide (0<=a)&&decide (a<(b.length:Int))) (
       gd (decide (a.toNat<b.length)) (
        f c 0 d (W (a+1)) (b.set a.toNat e))))
    bif (decide (a<(c.length:Int))) then
     gd (decide (0<=a)&&decide (a<(c.length:Int))) (
      h (W ((W ((b.getD a.toNat 0)-g))-(c.getD a.toNat 0))))
    else
     h (W ((b.getD a.toNat 0)-g))))
 else
  k0 b
abbrev Tz:Tm:=⟨[(1,.d hIs),(5,.k (.hw 310)),(6,.d hI),(12,.d hI),(13,.d hI)],[(310,.arr 3 hI false)],[],[]⟩
abbrev Avb:Tm:=⟨[(5,.k (.hw 310))],[(310,.arr 3 hI false)],[],[]⟩
abbrev A3o:List (Exit × Tm):=[(.exit 0,Avb)]
def A3n {α:Type} (n:Nat) (v:Tz.den) (f:Tz.den->Option α) (ks:KS α A3o):Option α:=A3p n v.1.1 v.1.2.2.1 v.1.2.2.2.1 v.1.2.2.2.2.1 v.2.1 (λa b c d e=>f ((a,(),b,c,d,()),(e,()))) (λw0=>ks.1 (((),()),(w0,())))
def I2 {α:Type} (n m:Nat) (a:LI) (b c d:Int) (e:LI) (k0:LI->Option α):Option α:=A5 (A3n n) m ((a,(),b,c,d,()),(e,())) (λw=>k0 w.2.1,())
theorem Ava {α n m a b c d e k0}:I2 (α:=α) n (m+1) a b c d e k0=A3p n a b c d e (λa b c d e=>I2 n m a b c d e k0) k0:=rfl
abbrev B4r:Tm:=⟨[(1,.d hIs),(5,.k (.hw 310)),(7,.d hI),(8,.d hI),(12,.d hI),(13,.d hI)],[(310,.arr 3 hI false)],[],[]⟩
def f156 (n:Nat) (a0 a1:LI):Option LI :=
 ob (A79 n a0) λa =>
 I2 n n a1 0 (a.length:Int) 0 a
  (λb=>(
   ob (f202 n b) λc =>
   some c))
def Ahp (n:Nat):Ent:=⟨156,[hIs,hIs],[hIs],λx=>f156 n x.1 x.2⟩
def Ahq (α:Type) (n:Nat):D3 α:={ reg:=[(1,⟨0,[],[(1,{ entB:=some (I3 n),hb:=310 })]⟩),(13,⟨0,[],[(1,{ ent:=some (Hc n),fz:=[(41,hIs)] })]⟩)],join:=[(8,B4r)],loop:=[(3,⟨Tz,A3o,A5 (A3n n) n⟩)] }
theorem Abz (α:Type) (n:Nat):Ao PP (Af (Ahq α n).reg):=⟨Ahw n,Qw n,trivial⟩
theorem Apz (α:Type) (n:Nat):LO.Sound (α:=α) PP ⟨43,[]⟩ ⟨Tz,A3o,A5 (A3n n) n⟩ (.loop ((A1 Tryz.f156).at [1,1,0,1,0,0])):=C0 (D:=Ahq α n) (Abz α n) n
theorem B9l (α:Type) (n:Nat):D3.OK PP TT ⟨43,[]⟩ (Ahq α n) (A1 Tryz.f156) :=
 D3.OK.mk3 (Abz α n) (show Aa (A1 Tryz.f156)=[(3,(.loop ((A1 Tryz.f156).at [1,1,0,1,0,0])))] by kernel_rfl) ⟨Ab rfl (Apz α n),trivial⟩
theorem Amm (n:Nat):(Ahp n).Sound PP:=fk (fn:=Tryz.f156) (B9l _ n)

def f99 (n:Nat) (a0 a1:Rq):Option Rq :=
 ob (f152 n a0.2.1 a1.2.2) λa =>
 ob (f152 n a1.2.1 a0.2.2) λb =>
 ob (f152 n a0.2.2 a1.2.2) λc =>
 bif (a0.1==a1.1) then
  ob (f154 n a b) λd =>
  ob (f153 n a0.1 d c) λe =>
  some e
 else
  ob (f155 n a b) λf =>
  bif (decide (f>=0)) then
   ob (f156 n a b) λg =>
   ob (f153 n a0.1 g c) λh =>
   some h
  else
   ob (f156 n b a) λi =>
   ob (f153 n a1.1 i c) λj =>
   some j
def Ak (n:Nat):Ent:=⟨99,[hR,hR],[hR],λx=>f99 n x.1 x.2⟩
def Bbg (α:Type) (n:Nat):D3 α:={ reg:=[(1,⟨9,[],[(4,{ ent:=some (Hh n) }),(9,{ ent:=some (Hh n) })]⟩),(2,⟨0,[],[(4,{ ent:=some (Hh n) })]⟩),(4,⟨6,[],[(4,{ ent:=some (Avj n) }),(6,{ ent:=some (R9 n) })]⟩),(5,⟨0,[],[(2,{ ent:=some (Yb n) })]⟩),(6,⟨6,[],[(4,{ ent:=some (Ahp n) }),(6,{ ent:=some (R9 n) })]⟩),(7,⟨6,[],[(4,{ ent:=some (Ahp n) }),(6,{ ent:=some (R9 n) })]⟩)],join:=[],loop:=[] }
theorem G0 (n:Nat):(Ak n).Sound PP:=Au (fn:=Tryz.f99) (D:=Bbg _ n) ⟨Gi n,Gi n,Gi n,B4t n,R8 n,A0b n,Amm n,R8 n,Amm n,R8 n,trivial⟩

def Y9 {α:Type} (n:Nat) (c:LR) (i a:Int) (s:Bool) (t u:LI) (v b:LR) (w:Bool) (x y:LI) (z:Bool) (d0 d1:LI) (d e:LR) (d2:Bool) (d3 d4:LI) (j k l:Bool) (m o:LI) (p:Bool) (q r:LI) (g h:LR) (f:LR->Int->Int->Bool->LI->LI->LR->LR->Bool->LI->LI->Bool->LI->LI->LR->LR->Bool->LI->LI->Bool->Bool->Bool->LI->LI->Bool->LI->LI->LR->LR->Option α) (k0:Bool->Bool->Bool->LI->LI->Bool->LI->LI->LR->LR->Option α):Option α :=
 bif (decide (a<i)) then
  gd (decide (0<=a)&&decide (a<(c.length:Int))) (
   let d5:=c.getD a.toNat (false,[],[])
   gd (decide (0<=a)&&decide (a<(d.length:Int))) (
    let d6:=d.getD a.toNat (false,[],[])
    ob (f99 n d5 d6) λd7 =>
    gd (decide ((g.length+1)*56<=140737488355328)) (
     gd ((!b.isEmpty)) (
      gd (decide (0<=a)&&decide (a<(b.length:Int))) (
       let d8:=b.getD a.toNat (false,[],[])
       gd (decide (0<=a)&&decide (a<(e.length:Int))) (
        let d9:=e.getD a.toNat (false,[],[])
        ob (f99 n d8 d9) λe0 =>
        gd (decide ((h.length+1)*56<=140737488355328)) (
         f c i (W (a+1)) s t u v b w x y z d0 d1 d e d2 d3 d4 j k l m o p q r (g++[d7]) (h++[e0]))))))))
 else
  k0 j k l m o p q r g h
abbrev Po:Tm:=⟨[(2,.k (.hp 2 0 0)),(3,.k (.hp 3 0 0)),(4,.k (.hp 4 0 0)),(5,.k (.hp 5 0 0)),(20,.d hRs),(21,.d hI),(22,.d hI)],[(2,.var 91 true false [.d .bool,.d hIs,.d hIs,.d hRs,.d hRs,.d .bool,.d hIs,.d hIs]),(3,.var 91 true false [.d .bool,.d hIs,.d hIs,.d hRs,.d hRs,.d .bool,.d hIs,.d hIs]),(4,.var 91 true false [.d .bool,.d .nil,.d .nil,.d .nil,.d .nil,.d .bool,.d .nil,.d .nil]),(5,.var 91 false false [.d .bool,.d hIs,.d hIs,.k (.hw 37),.k (.hw 56),.d .bool,.d hIs,.d hIs]),(37,.arr 54 hR false),(56,.arr 54 hR false)],[55],[]⟩
abbrev Apw:Tm:=⟨[(4,.k (.hp 4 0 0)),(5,.k (.hp 5 0 0))],[(4,.var 91 true false [.d .bool,.d .nil,.d .nil,.d .nil,.d .nil,.d .bool,.d .nil,.d .nil]),(5,.var 91 false false [.d .bool,.d hIs,.d hIs,.k (.hw 37),.k (.hw 56),.d .bool,.d hIs,.d hIs]),(37,.arr 54 hR false),(56,.arr 54 hR false)],[2,3],[]⟩
abbrev Y8:List (Exit × Tm):=[(.exit 0,Apw)]
def Y7 {α:Type} (n:Nat) (v:Po.den) (f:Po.den->Option α) (ks:KS α Y8):Option α:=Y9 n v.1.2.2.2.2.1 v.1.2.2.2.2.2.1 v.1.2.2.2.2.2.2.1 v.2.1.1 v.2.1.2.1 v.2.1.2.2.1 v.2.1.2.2.2.1 v.2.1.2.2.2.2.1 v.2.1.2.2.2.2.2.1 v.2.1.2.2.2.2.2.2.1 v.2.1.2.2.2.2.2.2.2.1 v.2.2.1.1 v.2.2.1.2.1 v.2.2.1.2.2.1 v.2.2.1.2.2.2.1 v.2.2.1.2.2.2.2.1 v.2.2.1.2.2.2.2.2.1 v.2.2.1.2.2.2.2.2.2.1 v.2.2.1.2.2.2.2.2.2.2.1 v.2.2.2.1.1 v.2.2.2.1.2.2.2.2.2.1 v.2.2.2.2.1.1 v.2.2.2.2.1.2.1 v.2.2.2.2.1.2.2.1 v.2.2.2.2.1.2.2.2.2.2.1 v.2.2.2.2.1.2.2.2.2.2.2.1 v.2.2.2.2.1.2.2.2.2.2.2.2.1 v.2.2.2.2.2.1 v.2.2.2.2.2.2.1 (λa b c d e g h i j k l m o p q r s t u w x y z d0 d1 d2 d3 d4 d5=>f (((),(),(),(),a,b,c,()),((d,e,g,h,i,j,k,l,()),(m,o,p,q,r,s,t,u,()),(w,(),(),(),(),x,(),(),()),(y,z,d0,(),(),d1,d2,d3,()),d4,d5,()))) (λw0 w1 w2 w3 w4 w5 w6 w7 w8 w9=>ks.1 (((),(),()),((w0,(),(),(),(),w1,(),(),()),(w2,w3,w4,(),(),w5,w6,w7,()),w8,w9,())))
def Tx {α:Type} (n m:Nat) (a:LR) (b c:Int) (d:Bool) (e f:LI) (g h:LR) (i:Bool) (j k:LI) (l:Bool) (o p:LI) (q r:LR) (s:Bool) (t u:LI) (v x y:Bool) (z d0:LI) (d1:Bool) (d2 d3:LI) (d4 d5:LR) (k0:Bool->Bool->Bool->LI->LI->Bool->LI->LI->LR->LR->Option α):Option α:=A5 (Y7 n) m (((),(),(),(),a,b,c,()),((d,e,f,g,h,i,j,k,()),(l,o,p,q,r,s,t,u,()),(v,(),(),(),(),x,(),(),()),(y,z,d0,(),(),d1,d2,d3,()),d4,d5,())) (λw=>k0 w.2.1.1 w.2.1.2.2.2.2.2.1 w.2.2.1.1 w.2.2.1.2.1 w.2.2.1.2.2.1 w.2.2.1.2.2.2.2.2.1 w.2.2.1.2.2.2.2.2.2.1 w.2.2.1.2.2.2.2.2.2.2.1 w.2.2.2.1 w.2.2.2.2.1,())
theorem Apu {α n m a b c d e f g h i j k l o p q r s t u v w x y z d0 d1 d2 d3 d4 k0}:Tx (α:=α) n (m+1) a b c d e f g h i j k l o p q r s t u v w x y z d0 d1 d2 d3 d4 k0=Y9 n a b c d e f g h i j k l o p q r s t u v w x y z d0 d1 d2 d3 d4 (λa b c d e f g h i j k l o p q r s t u v w x y z d0 d1 d2 d3 d4=>Tx n m a b c d e f g h i j k l o p q r s t u v w x y z d0 d1 d2 d3 d4 k0) k0:=rfl
abbrev Ahh:Tm:=⟨[(2,.k (.hp 2 0 0)),(3,.k (.hp 3 0 0)),(4,.k (.hp 4 0 0))],[(2,.var 91 true false [.d .bool,.d hIs,.d hIs,.d hRs,.d hRs,.d .bool,.d hIs,.d hIs]),(3,.var 91 true false [.d .bool,.d hIs,.d hIs,.d hRs,.d hRs,.d .bool,.d hIs,.d hIs]),(4,.var 91 true false [.d .bool,.d .nil,.d .nil,.d .nil,.d .nil,.d .bool,.d .nil,.d .nil])],[],[]⟩
abbrev Ahg:Tm:=⟨[(2,.k (.hp 2 0 0)),(3,.k (.hp 3 0 0)),(4,.k (.hp 4 0 0)),(5,.k (.hp 5 0 0)),(6,.d hI),(7,.k (.hp 7 0 0)),(20,.d hRs),(21,.d hI),(22,.d hI)],[(2,.var 91 true false [.d .bool,.d hIs,.d hIs,.d hRs,.d hRs,.d .bool,.d hIs,.d hIs]),(3,.var 91 true false [.d .bool,.d hIs,.d hIs,.d hRs,.d hRs,.d .bool,.d hIs,.d hIs]),(4,.var 91 true false [.d .bool,.d .nil,.d .nil,.d .nil,.d .nil,.d .bool,.d .nil,.d .nil]),(5,.var 91 true false [.d .bool,.d hIs,.d hIs,.d .nil,.d .nil,.d .bool,.d hIs,.d hIs]),(7,.var 54 true false [.d .bool,.d hIs,.d hIs])],[],[]⟩
abbrev A6z:Tm:=⟨[(2,.k (.hp 2 0 0)),(3,.k (.hp 3 0 0)),(4,.k (.hp 4 0 0)),(5,.k (.hp 5 0 0)),(6,.d hI),(7,.k (.hp 7 0 0)),(20,.d hRs),(21,.d hI),(22,.d hI)],[(2,.var 91 true false [.d .bool,.d hIs,.d hIs,.d hRs,.d hRs,.d .bool,.d hIs,.d hIs]),(3,.var 91 true false [.d .bool,.d hIs,.d hIs,.d hRs,.d hRs,.d .bool,.d hIs,.d hIs]),(4,.var 91 true false [.d .bool,.d .nil,.d .nil,.d .nil,.d .nil,.d .bool,.d .nil,.d .nil]),(5,.var 91 false false [.d .bool,.d hIs,.d hIs,.k (.hw 37),.k (.hw 56),.d .bool,.d hIs,.d hIs]),(7,.var 54 true false [.d .bool,.d hIs,.d hIs]),(37,.arr 54 hR false),(56,.arr 54 hR false)],[],[]⟩
abbrev Ahf:Tm:=⟨[(2,.k (.hp 2 0 0)),(3,.k (.hp 3 0 0)),(4,.k (.hp 4 0 0)),(5,.k (.hp 5 0 0)),(6,.d hI),(20,.d hRs),(21,.d hI),(22,.d hI)],[(2,.var 91 true false [.d .bool,.d hIs,.d hIs,.d hRs,.d hRs,.d .bool,.d hIs,.d hIs]),(3,.var 91 true false [.d .bool,.d hIs,.d hIs,.d hRs,.d hRs,.d .bool,.d hIs,.d hIs]),(4,.var 91 true false [.d .bool,.d .nil,.d .nil,.d .nil,.d .nil,.d .bool,.d .nil,.d .nil]),(5,.var 91 false false [.d .bool,.d hIs,.d hIs,.k (.hw 37),.d .nil,.d .bool,.d hIs,.d hIs]),(37,.arr 54 hR false)],[7,36],[]⟩
abbrev A6y:Tm:=⟨[(2,.k (.hp 2 0 0)),(3,.k (.hp 3 0 0)),(4,.k (.hp 4 0 0)),(5,.k (.hp 5 0 0)),(6,.d hI),(20,.d hRs),(21,.d hI),(22,.d hI)],[(2,.var 91 true false [.d .bool,.d hIs,.d hIs,.d hRs,.d hRs,.d .bool,.d hIs,.d hIs]),(3,.var 91 true false [.d .bool,.d hIs,.d hIs,.d hRs,.d hRs,.d .bool,.d hIs,.d hIs]),(4,.var 91 true false [.d .bool,.d .nil,.d .nil,.d .nil,.d .nil,.d .bool,.d .nil,.d .nil]),(5,.var 91 false false [.d .bool,.d hIs,.d hIs,.k (.hw 37),.k (.hw 56),.d .bool,.d hIs,.d hIs]),(37,.arr 54 hR false),(56,.arr 54 hR false)],[7,36],[]⟩
def Km (n:Nat) (a0 a1:Rq × LR × LR × Rq):Option (Rq × LR × LR × Rq) :=
 ob (f99 n a0.1 a1.1) λa =>
 ob (f99 n a0.2.2.2 a1.2.2.2) λb =>
 bif (decide (0<(a0.2.1.length:Int))) then
  gd (decide (0<(a0.2.1.length:Int))) (
   let c:=a0.2.1.getD 0 (false,[],[])
   gd (decide (0<(a1.2.1.length:Int))) (
    let d:=a1.2.1.getD 0 (false,[],[])
    ob (f99 n c d) λe =>
    gd ((!a0.2.2.1.isEmpty)) (
     gd (decide (0<(a0.2.2.1.length:Int))) (
      let f:=a0.2.2.1.getD 0 (false,[],[])
      gd (decide (0<(a1.2.2.1.length:Int))) (
       let g:=a1.2.2.1.getD 0 (false,[],[])
       ob (f99 n f g) λh =>
       Tx n n a0.2.1 (a0.2.1.length:Int) 1 a0.1.1 a0.1.2.1 a0.1.2.2 a0.2.1 a0.2.2.1 a0.2.2.2.1 a0.2.2.2.2.1 a0.2.2.2.2.2 a1.1.1 a1.1.2.1 a1.1.2.2 a1.2.1 a1.2.2.1 a1.2.2.2.1 a1.2.2.2.2.1 a1.2.2.2.2.2 false false a.1 a.2.1 a.2.2 b.1 b.2.1 b.2.2 [e] [h]
        (λr s i j k l m o p q=>(
         some ((i,j,k),p,q,l,m,o))))))))
 else
  some (a,[],[],b)
def A9n (n:Nat):Ent:=⟨165,[(.st (.pair hR (.pair hRs (.pair hRs hR)))),(.st (.pair hR (.pair hRs (.pair hRs hR))))],[(.st (.pair hR (.pair hRs (.pair hRs hR))))],λx=>Km n x.1 x.2⟩
def A9o (α:Type) (n:Nat):D3 α:={ reg:=[(1,⟨0,[],[(4,{ ent:=some (Ak n) }),(9,{ ent:=some (Ak n) })]⟩),(5,⟨0,[],[(8,{ ent:=some (Ak n) }),(9,{ sh:=some hR }),(10,{ sh:=some hR })]⟩),(7,⟨0,[],[(12,{ ent:=some (Ak n) }),(13,{ sh:=some hR }),(14,{ sh:=some hR })]⟩)],join:=[],loop:=[(3,⟨Po,Y8,A5 (Y7 n) n⟩)],any:=[(1,Ahh),(5,Ahg),(5,A6z),(7,Ahf),(7,A6y)] }
set_option maxHeartbeats 8000000 in
theorem B04 (n:Nat):As TT ⟨60,[]⟩ [(4,{ ent:=some (Ak n) }),(9,{ ent:=some (Ak n) })] Ahh (A9 ((A1 Tryz.f165).at [1,0])):=by
 refine ⟨by kernel_rfl,λw q hq=>?_⟩
 have e:WT [(4,{ ent:=some (Ak n) }),(9,{ ent:=some (Ak n) })] (A7 (A9 ((A1 Tryz.f165).at [1,0])).toList) q=(∃ (y0:HL (Ak n).rs) (q0:List (Nat × RV)),q=(4,.sv (Aj (Ak n).rs y0))::q0 /\ ∃ (y1:HL (Ak n).rs) (q1:List (Nat × RV)),q0=(9,.sv (Aj (Ak n).rs y1))::q1/\q1=[]):=by kernel_rfl
 rw [e] at hq;obtain ⟨y0,q0,rfl,y1,q1,rfl,rfl⟩:=hq
 all_goals exact .inr ⟨12,by kernel_rfl,by kernel_rfl,by kernel_rfl⟩
set_option maxHeartbeats 8000000 in
theorem Ahj (n:Nat):As TT ⟨60,[]⟩ [(8,{ ent:=some (Ak n) }),(9,{ sh:=some hR }),(10,{ sh:=some hR })] Ahg (A9 ((A1 Tryz.f165).at [1,1,0,1,0,0,1,1,0,0,1,0])):=by
 refine ⟨by kernel_rfl,λw q hq=>?_⟩
 have e:WT [(8,{ ent:=some (Ak n) }),(9,{ sh:=some hR }),(10,{ sh:=some hR })] (A7 (A9 ((A1 Tryz.f165).at [1,1,0,1,0,0,1,1,0,0,1,0])).toList) q=(∃ (y0:HL (Ak n).rs) (q0:List (Nat × RV)),q=(8,.sv (Aj (Ak n).rs y0))::q0/\q0=[]):=by kernel_rfl
 rw [e] at hq;obtain ⟨y0,q0,rfl,rfl⟩:=hq
 all_goals exact .inr ⟨10,by kernel_rfl,by kernel_rfl,by kernel_rfl⟩
set_option maxHeartbeats 8000000 in
theorem A71 (n:Nat):As TT ⟨60,[]⟩ [(8,{ ent:=some (Ak n) }),(9,{ sh:=some hR }),(10,{ sh:=some hR })] A6z (A9 ((A1 Tryz.f165).at [1,1,0,1,0,0,1,1,0,0,1,0])):=by
 refine ⟨by kernel_rfl,λw q hq=>?_⟩
 have e:WT [(8,{ ent:=some (Ak n) }),(9,{ sh:=some hR }),(10,{ sh:=some hR })] (A7 (A9 ((A1 Tryz.f165).at [1,1,0,1,0,0,1,1,0,0,1,0])).toList) q=(∃ (y0:HL (Ak n).rs) (q0:List (Nat × RV)),q=(8,.sv (Aj (Ak n).rs y0))::q0/\q0=[]):=by kernel_rfl
 rw [e] at hq;obtain ⟨y0,q0,rfl,rfl⟩:=hq
 all_goals exact .inr ⟨10,by kernel_rfl,by kernel_rfl,by kernel_rfl⟩
set_option maxHeartbeats 8000000 in
theorem Ahi (n:Nat):As TT ⟨60,[]⟩ [(12,{ ent:=some (Ak n) }),(13,{ sh:=some hR }),(14,{ sh:=some hR })] Ahf (A9 ((A1 Tryz.f165).at [1,1,0,1,0,0,1,1,0,0,1,1,1,0])):=by
 refine ⟨by kernel_rfl,λw q hq=>?_⟩
 have e:WT [(12,{ ent:=some (Ak n) }),(13,{ sh:=some hR }),(14,{ sh:=some hR })] (A7 (A9 ((A1 Tryz.f165).at [1,1,0,1,0,0,1,1,0,0,1,1,1,0])).toList) q=(∃ (y0:HL (Ak n).rs) (q0:List (Nat × RV)),q=(12,.sv (Aj (Ak n).rs y0))::q0/\q0=[]):=by kernel_rfl
 rw [e] at hq;obtain ⟨y0,q0,rfl,rfl⟩:=hq
 all_goals exact .inr ⟨14,by kernel_rfl,by kernel_rfl,by kernel_rfl⟩
set_option maxHeartbeats 8000000 in
theorem A70 (n:Nat):As TT ⟨60,[]⟩ [(12,{ ent:=some (Ak n) }),(13,{ sh:=some hR }),(14,{ sh:=some hR })] A6y (A9 ((A1 Tryz.f165).at [1,1,0,1,0,0,1,1,0,0,1,1,1,0])):=by
 refine ⟨by kernel_rfl,λw q hq=>?_⟩
 have e:WT [(12,{ ent:=some (Ak n) }),(13,{ sh:=some hR }),(14,{ sh:=some hR })] (A7 (A9 ((A1 Tryz.f165).at [1,1,0,1,0,0,1,1,0,0,1,1,1,0])).toList) q=(∃ (y0:HL (Ak n).rs) (q0:List (Nat × RV)),q=(12,.sv (Aj (Ak n).rs y0))::q0/\q0=[]):=by kernel_rfl
 rw [e] at hq;obtain ⟨y0,q0,rfl,rfl⟩:=hq
 all_goals exact .inr ⟨14,by kernel_rfl,by kernel_rfl,by kernel_rfl⟩
theorem A6x (α:Type) (n:Nat):Ao PP (Af (A9o α n).reg):=⟨G0 n,G0 n,G0 n,G0 n,trivial⟩
theorem Apv (α:Type) (n:Nat):D3.OK PP TT ⟨60,[]⟩ (A9o α n) ((A1 Tryz.f165).at [1,1,0,1,0,0]) :=
 D3.OK.mk3a (A6x α n) (show Aa ((A1 Tryz.f165).at [1,1,0,1,0,0])=[] by kernel_rfl) trivial (show B1 ((A1 Tryz.f165).at [1,1,0,1,0,0])=[(5,A9 ((A1 Tryz.f165).at [1,1,0,1,0,0,1,1,0,0,1,0])),(7,A9 ((A1 Tryz.f165).at [1,1,0,1,0,0,1,1,0,0,1,1,1,0]))] by kernel_rfl) ⟨⟨Ahj n,A71 n,trivial⟩,⟨Ahi n,A70 n,trivial⟩,trivial⟩
theorem Ak8 (α:Type) (n:Nat):LO.Sound (α:=α) PP ⟨60,[]⟩ ⟨Po,Y8,A5 (Y7 n) n⟩ (.loop ((A1 Tryz.f165).at [1,1,0,1,0,0])):=lk (Apv α n) n
theorem B4m (α:Type) (n:Nat):D3.OK PP TT ⟨60,[]⟩ (A9o α n) (A1 Tryz.f165) :=
 D3.OK.mk3a (A6x α n) (show Aa (A1 Tryz.f165)=[(3,(.loop ((A1 Tryz.f165).at [1,1,0,1,0,0])))] by kernel_rfl) ⟨Ab rfl (Ak8 α n),trivial⟩ (show B1 (A1 Tryz.f165)=[(1,A9 ((A1 Tryz.f165).at [1,0])),(5,A9 ((A1 Tryz.f165).at [1,1,0,1,0,0,1,1,0,0,1,0])),(7,A9 ((A1 Tryz.f165).at [1,1,0,1,0,0,1,1,0,0,1,1,1,0]))] by kernel_rfl) ⟨⟨B04 n,trivial⟩,⟨Ahj n,A71 n,trivial⟩,⟨Ahi n,A70 n,trivial⟩,trivial⟩
theorem Ahe (n:Nat):(A9n n).Sound PP:=fk (fn:=Tryz.f165) (B4m _ n)

def f162 (n:Nat) (a0 a1:Rq):Option Rq :=
 ob (f152 n a0.2.1 a1.2.1) λa =>
 ob (f152 n a0.2.2 a1.2.2) λb =>
 ob (f153 n (!(a0.1==a1.1)) a b) λc =>
 some c
def Ac (n:Nat):Ent:=⟨162,[hR,hR],[hR],λx=>f162 n x.1 x.2⟩
def B9j (α:Type) (n:Nat):D3 α:={ reg:=[(1,⟨15,[],[(9,{ ent:=some (Hh n) }),(14,{ ent:=some (Hh n) }),(15,{ ent:=some (R9 n) })]⟩)],join:=[],loop:=[] }
theorem Bd (n:Nat):(Ac n).Sound PP:=Au (fn:=Tryz.f162) (D:=B9j _ n) ⟨Gi n,Gi n,R8 n,trivial⟩

def f208 (n:Nat) (a0 a1:Rq):Option Rq :=
 ob (f162 n a0 a1) λa =>
 some a
def Ha (n:Nat):Ent:=⟨208,[hR,(.ref hR)],[hR],λx=>f208 n x.1 x.2⟩
def B8p (α:Type) (n:Nat):D3 α:={ reg:=[(1,⟨0,[],[(2,{ ent:=some (Ac n) })]⟩)],join:=[],loop:=[] }
theorem B3o (n:Nat):(Ha n).Sound PP:=Au (fn:=Tryz.f208) (D:=B8p _ n) ⟨Bd n,trivial⟩

def f209 (n:Nat) (a0:Int) (a1:Bool × LI × LI × LR × LR × Bool × LI × LI) (a2:Rq):Option Rq :=
 gd (decide (0<=a0)&&decide (a0<(a1.2.2.2.2.1.length:Int))) (
  let a:=a1.2.2.2.2.1.getD a0.toNat (false,[],[])
  ob (f162 n a a2) λb =>
  some b)
def H9 (n:Nat):Ent:=⟨209,[hI,(.ref (.st (.pair .bool (.pair hIs (.pair hIs (.pair hRs (.pair hRs (.pair .bool (.pair hIs hIs))))))))),(.ref hR)],[hR],λx=>f209 n x.1 x.2.1 x.2.2⟩
def B8o (α:Type) (n:Nat):D3 α:={ reg:=[(1,⟨6,[],[(6,{ ent:=some (Ac n) })]⟩)],join:=[],loop:=[] }
theorem B3n (n:Nat):(H9 n).Sound PP:=Au (fn:=Tryz.f209) (D:=B8o _ n) ⟨Bd n,trivial⟩

def Gu {α:Type} (n:Nat) (g:Rq) (b:(Bool × LI × LI × LR × LR × Bool × LI × LI) × Rq) (c:LR) (h a:Int) (s:Bool) (t u:LI) (v i:LR) (w:Bool) (x y:LI) (j k l:Bool) (m o:LI) (p:Bool) (q r:LI) (d e:LR) (f:Rq->((Bool × LI × LI × LR × LR × Bool × LI × LI) × Rq)->LR->Int->Int->Bool->LI->LI->LR->LR->Bool->LI->LI->Bool->Bool->Bool->LI->LI->Bool->LI->LI->LR->LR->Option α) (k0:Bool->Bool->Bool->LI->LI->Bool->LI->LI->LR->LR->Option α):Option α :=
 bif (decide (a<h)) then
  gd (decide (0<=a)&&decide (a<(c.length:Int))) (
   let z:=c.getD a.toNat (false,[],[])
   ob (f208 n z g) λd0 =>
   gd (decide ((d.length+1)*56<=140737488355328)) (
    gd ((!i.isEmpty)) (
     ob (f209 n a b.1 b.2) λd1 =>
     gd (decide ((e.length+1)*56<=140737488355328)) (
      f g b c h (W (a+1)) s t u v i w x y j k l m o p q r (d++[d0]) (e++[d1])))))
 else
  k0 j k l m o p q r d e
abbrev Ee:Tm:=⟨[(3,.d (.clo 208 (.ref hR))),(4,.d (.clo 209 (.pair (.ref (.st (.pair .bool (.pair hIs (.pair hIs (.pair hRs (.pair hRs (.pair .bool (.pair hIs hIs))))))))) (.ref hR)))),(5,.k (.hp 5 0 0)),(10,.k (.hp 10 0 0)),(11,.k (.hp 11 0 0)),(18,.d hRs),(19,.d hI),(20,.d hI)],[(5,.var 91 true false [.d .bool,.d hIs,.d hIs,.d hRs,.d hRs,.d .bool,.d hIs,.d hIs]),(10,.var 91 true false [.d .bool,.d .nil,.d .nil,.d .nil,.d .nil,.d .bool,.d .nil,.d .nil]),(11,.var 91 false false [.d .bool,.d hIs,.d hIs,.k (.hw 31),.k (.hw 42),.d .bool,.d hIs,.d hIs]),(31,.arr 54 hR false),(42,.arr 54 hR false)],[41],[]⟩
abbrev Xw:Tm:=⟨[(10,.k (.hp 10 0 0)),(11,.k (.hp 11 0 0))],[(10,.var 91 true false [.d .bool,.d .nil,.d .nil,.d .nil,.d .nil,.d .bool,.d .nil,.d .nil]),(11,.var 91 false false [.d .bool,.d hIs,.d hIs,.k (.hw 31),.k (.hw 42),.d .bool,.d hIs,.d hIs]),(31,.arr 54 hR false),(42,.arr 54 hR false)],[5],[]⟩
abbrev Gt:List (Exit × Tm):=[(.exit 0,Xw)]
def Gs {α:Type} (n:Nat) (v:Ee.den) (f:Ee.den->Option α) (ks:KS α Gt):Option α:=Gu n v.1.1 v.1.2.1 v.1.2.2.2.2.2.1 v.1.2.2.2.2.2.2.1 v.1.2.2.2.2.2.2.2.1 v.2.1.1 v.2.1.2.1 v.2.1.2.2.1 v.2.1.2.2.2.1 v.2.1.2.2.2.2.1 v.2.1.2.2.2.2.2.1 v.2.1.2.2.2.2.2.2.1 v.2.1.2.2.2.2.2.2.2.1 v.2.2.1.1 v.2.2.1.2.2.2.2.2.1 v.2.2.2.1.1 v.2.2.2.1.2.1 v.2.2.2.1.2.2.1 v.2.2.2.1.2.2.2.2.2.1 v.2.2.2.1.2.2.2.2.2.2.1 v.2.2.2.1.2.2.2.2.2.2.2.1 v.2.2.2.2.1 v.2.2.2.2.2.1 (λa b c d e g h i j k l m o p q r s t u w x y z=>f ((a,b,(),(),(),c,d,e,()),((g,h,i,j,k,l,m,o,()),(p,(),(),(),(),q,(),(),()),(r,s,t,(),(),u,w,x,()),y,z,()))) (λw0 w1 w2 w3 w4 w5 w6 w7 w8 w9=>ks.1 (((),(),()),((w0,(),(),(),(),w1,(),(),()),(w2,w3,w4,(),(),w5,w6,w7,()),w8,w9,())))
def Ez {α:Type} (n m:Nat) (a:Rq) (b:(Bool × LI × LI × LR × LR × Bool × LI × LI) × Rq) (c:LR) (d e:Int) (f:Bool) (g h:LI) (i j:LR) (k:Bool) (l o:LI) (p q r:Bool) (s t:LI) (u:Bool) (v x:LI) (y z:LR) (k0:Bool->Bool->Bool->LI->LI->Bool->LI->LI->LR->LR->Option α):Option α:=A5 (Gs n) m ((a,b,(),(),(),c,d,e,()),((f,g,h,i,j,k,l,o,()),(p,(),(),(),(),q,(),(),()),(r,s,t,(),(),u,v,x,()),y,z,())) (λw=>k0 w.2.1.1 w.2.1.2.2.2.2.2.1 w.2.2.1.1 w.2.2.1.2.1 w.2.2.1.2.2.1 w.2.2.1.2.2.2.2.2.1 w.2.2.1.2.2.2.2.2.2.1 w.2.2.1.2.2.2.2.2.2.2.1 w.2.2.2.1 w.2.2.2.2.1,())
theorem Xu {α n m a b c d e f g h i j k l o p q r s t u v w x y k0}:Ez (α:=α) n (m+1) a b c d e f g h i j k l o p q r s t u v w x y k0=Gu n a b c d e f g h i j k l o p q r s t u v w x y (λa b c d e f g h i j k l o p q r s t u v w x y=>Ez n m a b c d e f g h i j k l o p q r s t u v w x y k0) k0:=rfl
abbrev Nz:Tm:=⟨[(3,.d (.clo 208 (.ref hR))),(4,.d (.clo 209 (.pair (.ref (.st (.pair .bool (.pair hIs (.pair hIs (.pair hRs (.pair hRs (.pair .bool (.pair hIs hIs))))))))) (.ref hR)))),(5,.k (.hp 5 0 0)),(10,.k (.hp 10 0 0)),(11,.k (.hp 11 0 0)),(12,.d hI),(13,.k (.hp 13 0 0)),(18,.d hRs),(19,.d hI),(20,.d hI)],[(5,.var 91 true false [.d .bool,.d hIs,.d hIs,.d hRs,.d hRs,.d .bool,.d hIs,.d hIs]),(10,.var 91 true false [.d .bool,.d .nil,.d .nil,.d .nil,.d .nil,.d .bool,.d .nil,.d .nil]),(11,.var 91 true false [.d .bool,.d hIs,.d hIs,.d .nil,.d .nil,.d .bool,.d hIs,.d hIs]),(13,.var 54 true false [.d .bool,.d hIs,.d hIs])],[6,7],[]⟩
abbrev Lc:Tm:=⟨[(3,.d (.clo 208 (.ref hR))),(4,.d (.clo 209 (.pair (.ref (.st (.pair .bool (.pair hIs (.pair hIs (.pair hRs (.pair hRs (.pair .bool (.pair hIs hIs))))))))) (.ref hR)))),(5,.k (.hp 5 0 0)),(10,.k (.hp 10 0 0)),(11,.k (.hp 11 0 0)),(12,.d hI),(13,.k (.hp 13 0 0)),(18,.d hRs),(19,.d hI),(20,.d hI)],[(5,.var 91 true false [.d .bool,.d hIs,.d hIs,.d hRs,.d hRs,.d .bool,.d hIs,.d hIs]),(10,.var 91 true false [.d .bool,.d .nil,.d .nil,.d .nil,.d .nil,.d .bool,.d .nil,.d .nil]),(11,.var 91 false false [.d .bool,.d hIs,.d hIs,.k (.hw 31),.k (.hw 42),.d .bool,.d hIs,.d hIs]),(13,.var 54 true false [.d .bool,.d hIs,.d hIs]),(31,.arr 54 hR false),(42,.arr 54 hR false)],[],[]⟩
abbrev Ny:Tm:=⟨[(3,.d (.clo 208 (.ref hR))),(4,.d (.clo 209 (.pair (.ref (.st (.pair .bool (.pair hIs (.pair hIs (.pair hRs (.pair hRs (.pair .bool (.pair hIs hIs))))))))) (.ref hR)))),(5,.k (.hp 5 0 0)),(10,.k (.hp 10 0 0)),(11,.k (.hp 11 0 0)),(12,.d hI),(18,.d hRs),(19,.d hI),(20,.d hI)],[(5,.var 91 true false [.d .bool,.d hIs,.d hIs,.d hRs,.d hRs,.d .bool,.d hIs,.d hIs]),(10,.var 91 true false [.d .bool,.d .nil,.d .nil,.d .nil,.d .nil,.d .bool,.d .nil,.d .nil]),(11,.var 91 false false [.d .bool,.d hIs,.d hIs,.k (.hw 31),.d .nil,.d .bool,.d hIs,.d hIs]),(31,.arr 54 hR false)],[13,30],[]⟩
abbrev Lb:Tm:=⟨[(3,.d (.clo 208 (.ref hR))),(4,.d (.clo 209 (.pair (.ref (.st (.pair .bool (.pair hIs (.pair hIs (.pair hRs (.pair hRs (.pair .bool (.pair hIs hIs))))))))) (.ref hR)))),(5,.k (.hp 5 0 0)),(10,.k (.hp 10 0 0)),(11,.k (.hp 11 0 0)),(12,.d hI),(18,.d hRs),(19,.d hI),(20,.d hI)],[(5,.var 91 true false [.d .bool,.d hIs,.d hIs,.d hRs,.d hRs,.d .bool,.d hIs,.d hIs]),(10,.var 91 true false [.d .bool,.d .nil,.d .nil,.d .nil,.d .nil,.d .bool,.d .nil,.d .nil]),(11,.var 91 false false [.d .bool,.d hIs,.d hIs,.k (.hw 31),.k (.hw 42),.d .bool,.d hIs,.d hIs]),(31,.arr 54 hR false),(42,.arr 54 hR false)],[13,30],[]⟩
def Ly (n:Nat) (a0:Rq × LR × LR × Rq) (a1 a2 a3:Rq) (a4:(Bool × LI × LI × LR × LR × Bool × LI × LI) × Rq):Option (Rq × LR × LR × Rq) :=
 bif (decide (0<(a0.2.1.length:Int))) then
  gd (decide (0<(a0.2.1.length:Int))) (
   let a:=a0.2.1.getD 0 (false,[],[])
   ob (f208 n a a3) λb =>
   gd ((!a0.2.2.1.isEmpty)) (
    ob (f209 n 0 a4.1 a4.2) λc =>
    Ez n n a3 a4 a0.2.1 (a0.2.1.length:Int) 1 a0.1.1 a0.1.2.1 a0.1.2.2 a0.2.1 a0.2.2.1 a0.2.2.2.1 a0.2.2.2.2.1 a0.2.2.2.2.2 false false a1.1 a1.2.1 a1.2.2 a2.1 a2.2.1 a2.2.2 [b] [c]
     (λl m d e f g h i j k=>(
      some ((d,e,f),j,k,g,h,i)))))
 else
  some (a1,[],[],a2)
def Ct (n:Nat):Ent:=⟨207,[(.st (.pair hR (.pair hRs (.pair hRs hR)))),hR,hR,(.clo 208 (.ref hR)),(.clo 209 (.pair (.ref (.st (.pair .bool (.pair hIs (.pair hIs (.pair hRs (.pair hRs (.pair .bool (.pair hIs hIs))))))))) (.ref hR)))],[(.st (.pair hR (.pair hRs (.pair hRs hR))))],λx=>Ly n x.1 x.2.1 x.2.2.1 x.2.2.2.1 x.2.2.2.2⟩
def Iw (α:Type) (n:Nat):D3 α:={ reg:=[(5,⟨0,[],[(4,{ ent:=some (Ha n) }),(5,{ sh:=some hR }),(6,{ sh:=some hR })]⟩),(7,⟨0,[],[(4,{ ent:=some (H9 n) }),(5,{ sh:=some hR }),(6,{ sh:=some hR })]⟩)],join:=[],loop:=[(3,⟨Ee,Gt,A5 (Gs n) n⟩)],any:=[(5,Nz),(5,Lc),(7,Ny),(7,Lb)] }
set_option maxHeartbeats 8000000 in
theorem O1 (n:Nat):As TT ⟨46,[]⟩ [(4,{ ent:=some (Ha n) }),(5,{ sh:=some hR }),(6,{ sh:=some hR })] Nz (A9 ((A1 Tryz.f207).at [1,1,0,1,0,0,1,1,0,0,1,0])):=by
 refine ⟨by kernel_rfl,λw q hq=>?_⟩
 have e:WT [(4,{ ent:=some (Ha n) }),(5,{ sh:=some hR }),(6,{ sh:=some hR })] (A7 (A9 ((A1 Tryz.f207).at [1,1,0,1,0,0,1,1,0,0,1,0])).toList) q=(∃ (y0:HL (Ha n).rs) (q0:List (Nat × RV)),q=(4,.sv (Aj (Ha n).rs y0))::q0/\q0=[]):=by kernel_rfl
 rw [e] at hq;obtain ⟨y0,q0,rfl,rfl⟩:=hq
 all_goals exact .inr ⟨6,by kernel_rfl,by kernel_rfl,by kernel_rfl⟩
set_option maxHeartbeats 8000000 in
theorem Le (n:Nat):As TT ⟨46,[]⟩ [(4,{ ent:=some (Ha n) }),(5,{ sh:=some hR }),(6,{ sh:=some hR })] Lc (A9 ((A1 Tryz.f207).at [1,1,0,1,0,0,1,1,0,0,1,0])):=by
 refine ⟨by kernel_rfl,λw q hq=>?_⟩
 have e:WT [(4,{ ent:=some (Ha n) }),(5,{ sh:=some hR }),(6,{ sh:=some hR })] (A7 (A9 ((A1 Tryz.f207).at [1,1,0,1,0,0,1,1,0,0,1,0])).toList) q=(∃ (y0:HL (Ha n).rs) (q0:List (Nat × RV)),q=(4,.sv (Aj (Ha n).rs y0))::q0/\q0=[]):=by kernel_rfl
 rw [e] at hq;obtain ⟨y0,q0,rfl,rfl⟩:=hq
 all_goals exact .inr ⟨6,by kernel_rfl,by kernel_rfl,by kernel_rfl⟩
set_option maxHeartbeats 8000000 in
theorem O0 (n:Nat):As TT ⟨46,[]⟩ [(4,{ ent:=some (H9 n) }),(5,{ sh:=some hR }),(6,{ sh:=some hR })] Ny (A9 ((A1 Tryz.f207).at [1,1,0,1,0,0,1,1,0,0,1,1,1,0])):=by
 refine ⟨by kernel_rfl,λw q hq=>?_⟩
 have e:WT [(4,{ ent:=some (H9 n) }),(5,{ sh:=some hR }),(6,{ sh:=some hR })] (A7 (A9 ((A1 Tryz.f207).at [1,1,0,1,0,0,1,1,0,0,1,1,1,0])).toList) q=(∃ (y0:HL (H9 n).rs) (q0:List (Nat × RV)),q=(4,.sv (Aj (H9 n).rs y0))::q0/\q0=[]):=by kernel_rfl
 rw [e] at hq;obtain ⟨y0,q0,rfl,rfl⟩:=hq
 all_goals exact .inr ⟨6,by kernel_rfl,by kernel_rfl,by kernel_rfl⟩
set_option maxHeartbeats 8000000 in
theorem Ld (n:Nat):As TT ⟨46,[]⟩ [(4,{ ent:=some (H9 n) }),(5,{ sh:=some hR }),(6,{ sh:=some hR })] Lb (A9 ((A1 Tryz.f207).at [1,1,0,1,0,0,1,1,0,0,1,1,1,0])):=by
 refine ⟨by kernel_rfl,λw q hq=>?_⟩
 have e:WT [(4,{ ent:=some (H9 n) }),(5,{ sh:=some hR }),(6,{ sh:=some hR })] (A7 (A9 ((A1 Tryz.f207).at [1,1,0,1,0,0,1,1,0,0,1,1,1,0])).toList) q=(∃ (y0:HL (H9 n).rs) (q0:List (Nat × RV)),q=(4,.sv (Aj (H9 n).rs y0))::q0/\q0=[]):=by kernel_rfl
 rw [e] at hq;obtain ⟨y0,q0,rfl,rfl⟩:=hq
 all_goals exact .inr ⟨6,by kernel_rfl,by kernel_rfl,by kernel_rfl⟩
theorem La (α:Type) (n:Nat):Ao PP (Af (Iw α n).reg):=⟨B3o n,B3n n,trivial⟩
theorem Xv (α:Type) (n:Nat):D3.OK PP TT ⟨46,[]⟩ (Iw α n) ((A1 Tryz.f207).at [1,1,0,1,0,0]) :=
 D3.OK.mk3a (La α n) (show Aa ((A1 Tryz.f207).at [1,1,0,1,0,0])=[] by kernel_rfl) trivial (show B1 ((A1 Tryz.f207).at [1,1,0,1,0,0])=[(5,A9 ((A1 Tryz.f207).at [1,1,0,1,0,0,1,1,0,0,1,0])),(7,A9 ((A1 Tryz.f207).at [1,1,0,1,0,0,1,1,0,0,1,1,1,0]))] by kernel_rfl) ⟨⟨O1 n,Le n,trivial⟩,⟨O0 n,Ld n,trivial⟩,trivial⟩
theorem Vw (α:Type) (n:Nat):LO.Sound (α:=α) PP ⟨46,[]⟩ ⟨Ee,Gt,A5 (Gs n) n⟩ (.loop ((A1 Tryz.f207).at [1,1,0,1,0,0])):=lk (Xv α n) n
theorem A6e (α:Type) (n:Nat):D3.OK PP TT ⟨46,[]⟩ (Iw α n) (A1 Tryz.f207) :=
 D3.OK.mk3a (La α n) (show Aa (A1 Tryz.f207)=[(3,(.loop ((A1 Tryz.f207).at [1,1,0,1,0,0])))] by kernel_rfl) ⟨Ab rfl (Vw α n),trivial⟩ (show B1 (A1 Tryz.f207)=[(5,A9 ((A1 Tryz.f207).at [1,1,0,1,0,0,1,1,0,0,1,0])),(7,A9 ((A1 Tryz.f207).at [1,1,0,1,0,0,1,1,0,0,1,1,1,0]))] by kernel_rfl) ⟨⟨O1 n,Le n,trivial⟩,⟨O0 n,Ld n,trivial⟩,trivial⟩
theorem A2j (n:Nat):(Ct n).Sound PP:=fk (fn:=Tryz.f207) (A6e _ n)

abbrev Ahd:Tm:=⟨[(2,.k (.hp 2 0 0)),(3,.k (.hp 3 0 0)),(4,.k (.hp 4 0 0))],[(2,.var 91 true false [.d .bool,.d hIs,.d hIs,.d hRs,.d hRs,.d .bool,.d hIs,.d hIs]),(3,.var 54 true false [.d .bool,.d hIs,.d hIs]),(4,.var 91 true false [.d .bool,.d .nil,.d .nil,.d .nil,.d .nil,.d .bool,.d .nil,.d .nil])],[],[]⟩
def Kl (n:Nat) (a0:Rq × LR × LR × Rq) (a1:Rq):Option (Rq × LR × LR × Rq) :=
 ob (f162 n a0.1 a1) λa =>
 ob (f162 n a0.2.2.2 a1) λb =>
 ob (Ly n a0 a b a1 ((a0.1.1,a0.1.2.1,a0.1.2.2,a0.2),a1)) λc =>
 some c
def A9m (n:Nat):Ent:=⟨166,[(.st (.pair hR (.pair hRs (.pair hRs hR)))),hR],[(.st (.pair hR (.pair hRs (.pair hRs hR))))],λx=>Kl n x.1 x.2⟩
def Amg (α:Type) (n:Nat):D3 α:={ reg:=[(1,⟨0,[],[(4,{ ent:=some (Ac n) }),(8,{ ent:=some (Ac n) }),(9,{ sh:=some (.ref hR) }),(10,{ sh:=some (.pair (.ref (.st (.pair .bool (.pair hIs (.pair hIs (.pair hRs (.pair hRs (.pair .bool (.pair hIs hIs))))))))) (.ref hR)) }),(11,{ ent:=some (Ct n) })]⟩)],join:=[],loop:=[],any:=[(1,Ahd)] }
set_option maxHeartbeats 8000000 in
theorem B03 (n:Nat):As TT ⟨17,[]⟩ [(4,{ ent:=some (Ac n) }),(8,{ ent:=some (Ac n) }),(9,{ sh:=some (.ref hR) }),(10,{ sh:=some (.pair (.ref (.st (.pair .bool (.pair hIs (.pair hIs (.pair hRs (.pair hRs (.pair .bool (.pair hIs hIs))))))))) (.ref hR)) }),(11,{ ent:=some (Ct n) })] Ahd (A9 ((A1 Tryz.f166).at [1,0])):=by
 refine ⟨by kernel_rfl,λw q hq=>?_⟩
 have e:WT [(4,{ ent:=some (Ac n) }),(8,{ ent:=some (Ac n) }),(9,{ sh:=some (.ref hR) }),(10,{ sh:=some (.pair (.ref (.st (.pair .bool (.pair hIs (.pair hIs (.pair hRs (.pair hRs (.pair .bool (.pair hIs hIs))))))))) (.ref hR)) }),(11,{ ent:=some (Ct n) })] (A7 (A9 ((A1 Tryz.f166).at [1,0])).toList) q=(∃ (y0:HL (Ac n).rs) (q0:List (Nat × RV)),q=(4,.sv (Aj (Ac n).rs y0))::q0 /\ ∃ (y1:HL (Ac n).rs) (q1:List (Nat × RV)),q0=(8,.sv (Aj (Ac n).rs y1))::q1 /\ ∃ (y2:HL (Ct n).rs) (q2:List (Nat × RV)),q1=(11,.sv (Aj (Ct n).rs y2))::q2/\q2=[]):=by kernel_rfl
 rw [e] at hq;obtain ⟨y0,q0,rfl,y1,q1,rfl,y2,q2,rfl,rfl⟩:=hq
 all_goals exact .inl (Mo.mk (by kernel_rfl))
theorem Apt (α:Type) (n:Nat):Ao PP (Af (Amg α n).reg):=⟨Bd n,Bd n,A2j n,trivial⟩
theorem B4l (α:Type) (n:Nat):D3.OK PP TT ⟨17,[]⟩ (Amg α n) (A1 Tryz.f166) :=
 D3.OK.mk3a (Apt α n) (show Aa (A1 Tryz.f166)=[] by kernel_rfl) trivial (show B1 (A1 Tryz.f166)=[(1,A9 ((A1 Tryz.f166).at [1,0]))] by kernel_rfl) ⟨⟨B03 n,trivial⟩,trivial⟩
theorem Ahc (n:Nat):(A9m n).Sound PP:=fk (fn:=Tryz.f166) (B4l _ n)

def Y6 {α:Type} (n:Nat) (c:LR) (p a:Int) (d:Bool) (e g:LI) (d6 b:LR) (q:Bool) (r s:LI) (h:Bool) (i j:LI) (k l:LR) (t:Bool) (u v:LI) (w x y:Bool) (z d0:LI) (d1:Bool) (d2 d3:LI) (m o:LR) (f:LR->Int->Int->Bool->LI->LI->LR->LR->Bool->LI->LI->Bool->LI->LI->LR->LR->Bool->LI->LI->Bool->Bool->Bool->LI->LI->Bool->LI->LI->LR->LR->Option α) (k0:Bool->Bool->Bool->LI->LI->Bool->LI->LI->LR->LR->Option α):Option α :=
 bif (decide (a<p)) then
  gd (decide (0<=a)&&decide (a<(c.length:Int))) (
   let d4:=c.getD a.toNat (false,[],[])
   gd (decide (0<=a)&&decide (a<(k.length:Int))) (
    let d5:=k.getD a.toNat (false,[],[])
    ob (f162 n d4 (h,i,j)) λd7 =>
    ob (f162 n (d,e,g) d5) λd8 =>
    ob (f99 n d7 d8) λd9 =>
    gd (decide ((m.length+1)*56<=140737488355328)) (
     gd ((!b.isEmpty)) (
      gd (decide (0<=a)&&decide (a<(b.length:Int))) (
       let e0:=b.getD a.toNat (false,[],[])
       ob (f162 n e0 (h,i,j)) λe1 =>
       ob (f162 n d4 (t,u,v)) λe2 =>
       ob (f99 n e1 e2) λe3 =>
       ob (f162 n (q,r,s) d5) λe4 =>
       ob (f99 n e3 e4) λe5 =>
       gd (decide (0<=a)&&decide (a<(l.length:Int))) (
        let e6:=l.getD a.toNat (false,[],[])
        ob (f162 n (d,e,g) e6) λe7 =>
        ob (f99 n e5 e7) λe8 =>
        gd (decide ((o.length+1)*56<=140737488355328)) (
         f c p (W (a+1)) d e g d6 b q r s h i j k l t u v w x y z d0 d1 d2 d3 (m++[d9]) (o++[e8]))))))))
 else
  k0 w x y z d0 d1 d2 d3 m o
abbrev Pn:Tm:=⟨[(2,.k (.hp 2 0 0)),(3,.k (.hp 3 0 0)),(4,.k (.hp 4 0 0)),(5,.k (.hp 5 0 0)),(28,.d hRs),(29,.d hI),(30,.d hI)],[(2,.var 91 true false [.d .bool,.d hIs,.d hIs,.d hRs,.d hRs,.d .bool,.d hIs,.d hIs]),(3,.var 91 true false [.d .bool,.d hIs,.d hIs,.d hRs,.d hRs,.d .bool,.d hIs,.d hIs]),(4,.var 91 true false [.d .bool,.d .nil,.d .nil,.d .nil,.d .nil,.d .bool,.d .nil,.d .nil]),(5,.var 91 false false [.d .bool,.d hIs,.d hIs,.k (.hw 52),.k (.hw 88),.d .bool,.d hIs,.d hIs]),(52,.arr 54 hR false),(88,.arr 54 hR false)],[8,9,87],[]⟩
abbrev Aps:Tm:=⟨[(4,.k (.hp 4 0 0)),(5,.k (.hp 5 0 0))],[(4,.var 91 true false [.d .bool,.d .nil,.d .nil,.d .nil,.d .nil,.d .bool,.d .nil,.d .nil]),(5,.var 91 false false [.d .bool,.d hIs,.d hIs,.k (.hw 52),.k (.hw 88),.d .bool,.d hIs,.d hIs]),(52,.arr 54 hR false),(88,.arr 54 hR false)],[2,3],[]⟩
abbrev Y5:List (Exit × Tm):=[(.exit 0,Aps)]
def Y4 {α:Type} (n:Nat) (v:Pn.den) (f:Pn.den->Option α) (ks:KS α Y5):Option α:=Y6 n v.1.2.2.2.2.1 v.1.2.2.2.2.2.1 v.1.2.2.2.2.2.2.1 v.2.1.1 v.2.1.2.1 v.2.1.2.2.1 v.2.1.2.2.2.1 v.2.1.2.2.2.2.1 v.2.1.2.2.2.2.2.1 v.2.1.2.2.2.2.2.2.1 v.2.1.2.2.2.2.2.2.2.1 v.2.2.1.1 v.2.2.1.2.1 v.2.2.1.2.2.1 v.2.2.1.2.2.2.1 v.2.2.1.2.2.2.2.1 v.2.2.1.2.2.2.2.2.1 v.2.2.1.2.2.2.2.2.2.1 v.2.2.1.2.2.2.2.2.2.2.1 v.2.2.2.1.1 v.2.2.2.1.2.2.2.2.2.1 v.2.2.2.2.1.1 v.2.2.2.2.1.2.1 v.2.2.2.2.1.2.2.1 v.2.2.2.2.1.2.2.2.2.2.1 v.2.2.2.2.1.2.2.2.2.2.2.1 v.2.2.2.2.1.2.2.2.2.2.2.2.1 v.2.2.2.2.2.1 v.2.2.2.2.2.2.1 (λa b c d e g h i j k l m o p q r s t u w x y z d0 d1 d2 d3 d4 d5=>f (((),(),(),(),a,b,c,()),((d,e,g,h,i,j,k,l,()),(m,o,p,q,r,s,t,u,()),(w,(),(),(),(),x,(),(),()),(y,z,d0,(),(),d1,d2,d3,()),d4,d5,()))) (λw0 w1 w2 w3 w4 w5 w6 w7 w8 w9=>ks.1 (((),(),()),((w0,(),(),(),(),w1,(),(),()),(w2,w3,w4,(),(),w5,w6,w7,()),w8,w9,())))
def Tw {α:Type} (n m:Nat) (a:LR) (b c:Int) (d:Bool) (e f:LI) (g h:LR) (i:Bool) (j k:LI) (l:Bool) (o p:LI) (q r:LR) (s:Bool) (t u:LI) (v x y:Bool) (z d0:LI) (d1:Bool) (d2 d3:LI) (d4 d5:LR) (k0:Bool->Bool->Bool->LI->LI->Bool->LI->LI->LR->LR->Option α):Option α:=A5 (Y4 n) m (((),(),(),(),a,b,c,()),((d,e,f,g,h,i,j,k,()),(l,o,p,q,r,s,t,u,()),(v,(),(),(),(),x,(),(),()),(y,z,d0,(),(),d1,d2,d3,()),d4,d5,())) (λw=>k0 w.2.1.1 w.2.1.2.2.2.2.2.1 w.2.2.1.1 w.2.2.1.2.1 w.2.2.1.2.2.1 w.2.2.1.2.2.2.2.2.1 w.2.2.1.2.2.2.2.2.2.1 w.2.2.1.2.2.2.2.2.2.2.1 w.2.2.2.1 w.2.2.2.2.1,())
theorem Apq {α n m a b c d e f g h i j k l o p q r s t u v w x y z d0 d1 d2 d3 d4 k0}:Tw (α:=α) n (m+1) a b c d e f g h i j k l o p q r s t u v w x y z d0 d1 d2 d3 d4 k0=Y6 n a b c d e f g h i j k l o p q r s t u v w x y z d0 d1 d2 d3 d4 (λa b c d e f g h i j k l o p q r s t u v w x y z d0 d1 d2 d3 d4=>Tw n m a b c d e f g h i j k l o p q r s t u v w x y z d0 d1 d2 d3 d4 k0) k0:=rfl
abbrev Ah8:Tm:=⟨[(2,.k (.hp 2 0 0)),(3,.k (.hp 3 0 0)),(4,.k (.hp 4 0 0))],[(2,.var 91 true false [.d .bool,.d hIs,.d hIs,.d hRs,.d hRs,.d .bool,.d hIs,.d hIs]),(3,.var 91 true false [.d .bool,.d hIs,.d hIs,.d hRs,.d hRs,.d .bool,.d hIs,.d hIs]),(4,.var 91 true false [.d .bool,.d .nil,.d .nil,.d .nil,.d .nil,.d .bool,.d .nil,.d .nil])],[],[]⟩
abbrev Ah7:Tm:=⟨[(2,.k (.hp 2 0 0)),(3,.k (.hp 3 0 0)),(4,.k (.hp 4 0 0)),(5,.k (.hp 5 0 0)),(6,.d hI),(7,.k (.hp 7 0 0)),(8,.k (.hp 8 0 0)),(28,.d hRs),(29,.d hI),(30,.d hI)],[(2,.var 91 true false [.d .bool,.d hIs,.d hIs,.d hRs,.d hRs,.d .bool,.d hIs,.d hIs]),(3,.var 91 true false [.d .bool,.d hIs,.d hIs,.d hRs,.d hRs,.d .bool,.d hIs,.d hIs]),(4,.var 91 true false [.d .bool,.d .nil,.d .nil,.d .nil,.d .nil,.d .bool,.d .nil,.d .nil]),(5,.var 91 true false [.d .bool,.d hIs,.d hIs,.d .nil,.d .nil,.d .bool,.d hIs,.d hIs]),(7,.var 54 true false [.d .bool,.d hIs,.d hIs]),(8,.var 54 true false [.d .bool,.d hIs,.d hIs])],[],[]⟩
abbrev A6t:Tm:=⟨[(2,.k (.hp 2 0 0)),(3,.k (.hp 3 0 0)),(4,.k (.hp 4 0 0)),(5,.k (.hp 5 0 0)),(6,.d hI),(7,.k (.hp 7 0 0)),(8,.k (.hp 8 0 0)),(28,.d hRs),(29,.d hI),(30,.d hI)],[(2,.var 91 true false [.d .bool,.d hIs,.d hIs,.d hRs,.d hRs,.d .bool,.d hIs,.d hIs]),(3,.var 91 true false [.d .bool,.d hIs,.d hIs,.d hRs,.d hRs,.d .bool,.d hIs,.d hIs]),(4,.var 91 true false [.d .bool,.d .nil,.d .nil,.d .nil,.d .nil,.d .bool,.d .nil,.d .nil]),(5,.var 91 false false [.d .bool,.d hIs,.d hIs,.k (.hw 52),.k (.hw 88),.d .bool,.d hIs,.d hIs]),(7,.var 54 true false [.d .bool,.d hIs,.d hIs]),(8,.var 54 true false [.d .bool,.d hIs,.d hIs]),(52,.arr 54 hR false),(88,.arr 54 hR false)],[],[]⟩
abbrev Ah6:Tm:=⟨[(2,.k (.hp 2 0 0)),(3,.k (.hp 3 0 0)),(4,.k (.hp 4 0 0)),(5,.k (.hp 5 0 0)),(6,.d hI),(7,.k (.hp 7 0 0)),(8,.k (.hp 8 0 0)),(28,.d hRs),(29,.d hI),(30,.d hI)],[(2,.var 91 true false [.d .bool,.d hIs,.d hIs,.d hRs,.d hRs,.d .bool,.d hIs,.d hIs]),(3,.var 91 true false [.d .bool,.d hIs,.d hIs,.d hRs,.d hRs,.d .bool,.d hIs,.d hIs]),(4,.var 91 true false [.d .bool,.d .nil,.d .nil,.d .nil,.d .nil,.d .bool,.d .nil,.d .nil]),(5,.var 91 false false [.d .bool,.d hIs,.d hIs,.k (.hw 52),.d .nil,.d .bool,.d hIs,.d hIs]),(7,.var 54 true false [.d .bool,.d hIs,.d hIs]),(8,.var 54 true false [.d .bool,.d hIs,.d hIs]),(52,.arr 54 hR false)],[51],[]⟩
abbrev A6s:Tm:=⟨[(2,.k (.hp 2 0 0)),(3,.k (.hp 3 0 0)),(4,.k (.hp 4 0 0)),(5,.k (.hp 5 0 0)),(6,.d hI),(7,.k (.hp 7 0 0)),(8,.k (.hp 8 0 0)),(28,.d hRs),(29,.d hI),(30,.d hI)],[(2,.var 91 true false [.d .bool,.d hIs,.d hIs,.d hRs,.d hRs,.d .bool,.d hIs,.d hIs]),(3,.var 91 true false [.d .bool,.d hIs,.d hIs,.d hRs,.d hRs,.d .bool,.d hIs,.d hIs]),(4,.var 91 true false [.d .bool,.d .nil,.d .nil,.d .nil,.d .nil,.d .bool,.d .nil,.d .nil]),(5,.var 91 false false [.d .bool,.d hIs,.d hIs,.k (.hw 52),.k (.hw 88),.d .bool,.d hIs,.d hIs]),(7,.var 54 true false [.d .bool,.d hIs,.d hIs]),(8,.var 54 true false [.d .bool,.d hIs,.d hIs]),(52,.arr 54 hR false),(88,.arr 54 hR false)],[51],[]⟩
abbrev Ah5:Tm:=⟨[(2,.k (.hp 2 0 0)),(3,.k (.hp 3 0 0)),(4,.k (.hp 4 0 0)),(5,.k (.hp 5 0 0)),(6,.d hI),(8,.k (.hp 8 0 0)),(9,.k (.hp 9 0 0)),(28,.d hRs),(29,.d hI),(30,.d hI)],[(2,.var 91 true false [.d .bool,.d hIs,.d hIs,.d hRs,.d hRs,.d .bool,.d hIs,.d hIs]),(3,.var 91 true false [.d .bool,.d hIs,.d hIs,.d hRs,.d hRs,.d .bool,.d hIs,.d hIs]),(4,.var 91 true false [.d .bool,.d .nil,.d .nil,.d .nil,.d .nil,.d .bool,.d .nil,.d .nil]),(5,.var 91 false false [.d .bool,.d hIs,.d hIs,.k (.hw 52),.d .nil,.d .bool,.d hIs,.d hIs]),(8,.var 54 true false [.d .bool,.d hIs,.d hIs]),(9,.var 54 true false [.d .bool,.d hIs,.d hIs]),(52,.arr 54 hR false)],[7],[]⟩
abbrev A6r:Tm:=⟨[(2,.k (.hp 2 0 0)),(3,.k (.hp 3 0 0)),(4,.k (.hp 4 0 0)),(5,.k (.hp 5 0 0)),(6,.d hI),(8,.k (.hp 8 0 0)),(9,.k (.hp 9 0 0)),(28,.d hRs),(29,.d hI),(30,.d hI)],[(2,.var 91 true false [.d .bool,.d hIs,.d hIs,.d hRs,.d hRs,.d .bool,.d hIs,.d hIs]),(3,.var 91 true false [.d .bool,.d hIs,.d hIs,.d hRs,.d hRs,.d .bool,.d hIs,.d hIs]),(4,.var 91 true false [.d .bool,.d .nil,.d .nil,.d .nil,.d .nil,.d .bool,.d .nil,.d .nil]),(5,.var 91 false false [.d .bool,.d hIs,.d hIs,.k (.hw 52),.k (.hw 88),.d .bool,.d hIs,.d hIs]),(8,.var 54 true false [.d .bool,.d hIs,.d hIs]),(9,.var 54 true false [.d .bool,.d hIs,.d hIs]),(52,.arr 54 hR false),(88,.arr 54 hR false)],[7],[]⟩
def Kk (n:Nat) (a0 a1:Rq × LR × LR × Rq):Option (Rq × LR × LR × Rq) :=
 ob (f162 n a0.1 a1.1) λa =>
 ob (f162 n a0.2.2.2 a1.1) λe =>
 ob (f162 n a0.1 a1.2.2.2) λf =>
 ob (f99 n e f) λb =>
 bif (decide (0<(a0.2.1.length:Int))) then
  gd (decide (0<(a0.2.1.length:Int))) (
   let c:=a0.2.1.getD 0 (false,[],[])
   gd (decide (0<(a1.2.1.length:Int))) (
    let d:=a1.2.1.getD 0 (false,[],[])
    ob (f162 n c a1.1) λg =>
    ob (f162 n a0.1 d) λh =>
    ob (f99 n g h) λi =>
    gd ((!a0.2.2.1.isEmpty)) (
     gd (decide (0<(a0.2.2.1.length:Int))) (
      let j:=a0.2.2.1.getD 0 (false,[],[])
      ob (f162 n j a1.1) λk =>
      ob (f162 n c a1.2.2.2) λl =>
      ob (f99 n k l) λm =>
      ob (f162 n a0.2.2.2 d) λo =>
      ob (f99 n m o) λp =>
      gd (decide (0<(a1.2.2.1.length:Int))) (
       let q:=a1.2.2.1.getD 0 (false,[],[])
       ob (f162 n a0.1 q) λr =>
       ob (f99 n p r) λs =>
       Tw n n a0.2.1 (a0.2.1.length:Int) 1 a0.1.1 a0.1.2.1 a0.1.2.2 a0.2.1 a0.2.2.1 a0.2.2.2.1 a0.2.2.2.2.1 a0.2.2.2.2.2 a1.1.1 a1.1.2.1 a1.1.2.2 a1.2.1 a1.2.2.1 a1.2.2.2.1 a1.2.2.2.2.1 a1.2.2.2.2.2 false false a.1 a.2.1 a.2.2 b.1 b.2.1 b.2.2 [i] [s]
        (λd1 d2 t u v w x y z d0=>(
         some ((t,u,v),z,d0,w,x,y))))))))
 else
  some (a,[],[],b)
def A9k (n:Nat):Ent:=⟨167,[(.st (.pair hR (.pair hRs (.pair hRs hR)))),(.st (.pair hR (.pair hRs (.pair hRs hR))))],[(.st (.pair hR (.pair hRs (.pair hRs hR))))],λx=>Kk n x.1 x.2⟩
def A9l (α:Type) (n:Nat):D3 α:={ reg:=[(1,⟨0,[],[(4,{ ent:=some (Ac n) }),(9,{ ent:=some (Ac n) }),(14,{ ent:=some (Ac n) }),(15,{ ent:=some (Ak n) })]⟩),(6,⟨0,[],[(5,{ ent:=some (Ac n) }),(9,{ ent:=some (Ac n) }),(10,{ ent:=some (Ak n) }),(11,{ sh:=some hR }),(12,{ sh:=some hR })]⟩),(8,⟨0,[],[(7,{ ent:=some (Ac n) }),(11,{ ent:=some (Ac n) }),(12,{ ent:=some (Ak n) })]⟩),(9,⟨0,[],[(6,{ ent:=some (Ac n) }),(7,{ ent:=some (Ak n) }),(15,{ ent:=some (Ac n) }),(16,{ ent:=some (Ak n) }),(17,{ sh:=some hR }),(18,{ sh:=some hR })]⟩)],join:=[],loop:=[(3,⟨Pn,Y5,A5 (Y4 n) n⟩)],any:=[(1,Ah8),(6,Ah7),(6,A6t),(8,Ah6),(8,A6s),(9,Ah5),(9,A6r)] }
set_option maxHeartbeats 8000000 in
theorem B02 (n:Nat):As TT ⟨92,[]⟩ [(4,{ ent:=some (Ac n) }),(9,{ ent:=some (Ac n) }),(14,{ ent:=some (Ac n) }),(15,{ ent:=some (Ak n) })] Ah8 (A9 ((A1 Tryz.f167).at [1,0])):=by
 refine ⟨by kernel_rfl,λw q hq=>?_⟩
 have e:WT [(4,{ ent:=some (Ac n) }),(9,{ ent:=some (Ac n) }),(14,{ ent:=some (Ac n) }),(15,{ ent:=some (Ak n) })] (A7 (A9 ((A1 Tryz.f167).at [1,0])).toList) q=(∃ (y0:HL (Ac n).rs) (q0:List (Nat × RV)),q=(4,.sv (Aj (Ac n).rs y0))::q0 /\ ∃ (y1:HL (Ac n).rs) (q1:List (Nat × RV)),q0=(9,.sv (Aj (Ac n).rs y1))::q1 /\ ∃ (y2:HL (Ac n).rs) (q2:List (Nat × RV)),q1=(14,.sv (Aj (Ac n).rs y2))::q2 /\ ∃ (y3:HL (Ak n).rs) (q3:List (Nat × RV)),q2=(15,.sv (Aj (Ak n).rs y3))::q3/\q3=[]):=by kernel_rfl
 rw [e] at hq;obtain ⟨y0,q0,rfl,y1,q1,rfl,y2,q2,rfl,y3,q3,rfl,rfl⟩:=hq
 all_goals exact .inr ⟨18,by kernel_rfl,by kernel_rfl,by kernel_rfl⟩
set_option maxHeartbeats 8000000 in
theorem Ahb (n:Nat):As TT ⟨92,[]⟩ [(5,{ ent:=some (Ac n) }),(9,{ ent:=some (Ac n) }),(10,{ ent:=some (Ak n) }),(11,{ sh:=some hR }),(12,{ sh:=some hR })] Ah7 (A9 ((A1 Tryz.f167).at [1,1,0,1,0,0,1,1,0,0,1,1,0])):=by
 refine ⟨by kernel_rfl,λw q hq=>?_⟩
 have e:WT [(5,{ ent:=some (Ac n) }),(9,{ ent:=some (Ac n) }),(10,{ ent:=some (Ak n) }),(11,{ sh:=some hR }),(12,{ sh:=some hR })] (A7 (A9 ((A1 Tryz.f167).at [1,1,0,1,0,0,1,1,0,0,1,1,0])).toList) q=(∃ (y0:HL (Ac n).rs) (q0:List (Nat × RV)),q=(5,.sv (Aj (Ac n).rs y0))::q0 /\ ∃ (y1:HL (Ac n).rs) (q1:List (Nat × RV)),q0=(9,.sv (Aj (Ac n).rs y1))::q1 /\ ∃ (y2:HL (Ak n).rs) (q2:List (Nat × RV)),q1=(10,.sv (Aj (Ak n).rs y2))::q2/\q2=[]):=by kernel_rfl
 rw [e] at hq;obtain ⟨y0,q0,rfl,y1,q1,rfl,y2,q2,rfl,rfl⟩:=hq
 all_goals exact .inr ⟨12,by kernel_rfl,by kernel_rfl,by kernel_rfl⟩
set_option maxHeartbeats 8000000 in
theorem A6w (n:Nat):As TT ⟨92,[]⟩ [(5,{ ent:=some (Ac n) }),(9,{ ent:=some (Ac n) }),(10,{ ent:=some (Ak n) }),(11,{ sh:=some hR }),(12,{ sh:=some hR })] A6t (A9 ((A1 Tryz.f167).at [1,1,0,1,0,0,1,1,0,0,1,1,0])):=by
 refine ⟨by kernel_rfl,λw q hq=>?_⟩
 have e:WT [(5,{ ent:=some (Ac n) }),(9,{ ent:=some (Ac n) }),(10,{ ent:=some (Ak n) }),(11,{ sh:=some hR }),(12,{ sh:=some hR })] (A7 (A9 ((A1 Tryz.f167).at [1,1,0,1,0,0,1,1,0,0,1,1,0])).toList) q=(∃ (y0:HL (Ac n).rs) (q0:List (Nat × RV)),q=(5,.sv (Aj (Ac n).rs y0))::q0 /\ ∃ (y1:HL (Ac n).rs) (q1:List (Nat × RV)),q0=(9,.sv (Aj (Ac n).rs y1))::q1 /\ ∃ (y2:HL (Ak n).rs) (q2:List (Nat × RV)),q1=(10,.sv (Aj (Ak n).rs y2))::q2/\q2=[]):=by kernel_rfl
 rw [e] at hq;obtain ⟨y0,q0,rfl,y1,q1,rfl,y2,q2,rfl,rfl⟩:=hq
 all_goals exact .inr ⟨12,by kernel_rfl,by kernel_rfl,by kernel_rfl⟩
set_option maxHeartbeats 8000000 in
theorem Aha (n:Nat):As TT ⟨92,[]⟩ [(7,{ ent:=some (Ac n) }),(11,{ ent:=some (Ac n) }),(12,{ ent:=some (Ak n) })] Ah6 (A9 ((A1 Tryz.f167).at [1,1,0,1,0,0,1,1,0,0,1,1,1,1,0,0])):=by
 refine ⟨by kernel_rfl,λw q hq=>?_⟩
 have e:WT [(7,{ ent:=some (Ac n) }),(11,{ ent:=some (Ac n) }),(12,{ ent:=some (Ak n) })] (A7 (A9 ((A1 Tryz.f167).at [1,1,0,1,0,0,1,1,0,0,1,1,1,1,0,0])).toList) q=(∃ (y0:HL (Ac n).rs) (q0:List (Nat × RV)),q=(7,.sv (Aj (Ac n).rs y0))::q0 /\ ∃ (y1:HL (Ac n).rs) (q1:List (Nat × RV)),q0=(11,.sv (Aj (Ac n).rs y1))::q1 /\ ∃ (y2:HL (Ak n).rs) (q2:List (Nat × RV)),q1=(12,.sv (Aj (Ak n).rs y2))::q2/\q2=[]):=by kernel_rfl
 rw [e] at hq;obtain ⟨y0,q0,rfl,y1,q1,rfl,y2,q2,rfl,rfl⟩:=hq
 all_goals exact .inr ⟨14,by kernel_rfl,by kernel_rfl,by kernel_rfl⟩
set_option maxHeartbeats 8000000 in
theorem A6v (n:Nat):As TT ⟨92,[]⟩ [(7,{ ent:=some (Ac n) }),(11,{ ent:=some (Ac n) }),(12,{ ent:=some (Ak n) })] A6s (A9 ((A1 Tryz.f167).at [1,1,0,1,0,0,1,1,0,0,1,1,1,1,0,0])):=by
 refine ⟨by kernel_rfl,λw q hq=>?_⟩
 have e:WT [(7,{ ent:=some (Ac n) }),(11,{ ent:=some (Ac n) }),(12,{ ent:=some (Ak n) })] (A7 (A9 ((A1 Tryz.f167).at [1,1,0,1,0,0,1,1,0,0,1,1,1,1,0,0])).toList) q=(∃ (y0:HL (Ac n).rs) (q0:List (Nat × RV)),q=(7,.sv (Aj (Ac n).rs y0))::q0 /\ ∃ (y1:HL (Ac n).rs) (q1:List (Nat × RV)),q0=(11,.sv (Aj (Ac n).rs y1))::q1 /\ ∃ (y2:HL (Ak n).rs) (q2:List (Nat × RV)),q1=(12,.sv (Aj (Ak n).rs y2))::q2/\q2=[]):=by kernel_rfl
 rw [e] at hq;obtain ⟨y0,q0,rfl,y1,q1,rfl,y2,q2,rfl,rfl⟩:=hq
 all_goals exact .inr ⟨14,by kernel_rfl,by kernel_rfl,by kernel_rfl⟩
set_option maxHeartbeats 8000000 in
theorem Ah9 (n:Nat):As TT ⟨92,[]⟩ [(6,{ ent:=some (Ac n) }),(7,{ ent:=some (Ak n) }),(15,{ ent:=some (Ac n) }),(16,{ ent:=some (Ak n) }),(17,{ sh:=some hR }),(18,{ sh:=some hR })] Ah5 (A9 ((A1 Tryz.f167).at [1,1,0,1,0,0,1,1,0,0,1,1,1,1,0,1])):=by
 refine ⟨by kernel_rfl,λw q hq=>?_⟩
 have e:WT [(6,{ ent:=some (Ac n) }),(7,{ ent:=some (Ak n) }),(15,{ ent:=some (Ac n) }),(16,{ ent:=some (Ak n) }),(17,{ sh:=some hR }),(18,{ sh:=some hR })] (A7 (A9 ((A1 Tryz.f167).at [1,1,0,1,0,0,1,1,0,0,1,1,1,1,0,1])).toList) q=(∃ (y0:HL (Ac n).rs) (q0:List (Nat × RV)),q=(6,.sv (Aj (Ac n).rs y0))::q0 /\ ∃ (y1:HL (Ak n).rs) (q1:List (Nat × RV)),q0=(7,.sv (Aj (Ak n).rs y1))::q1 /\ ∃ (y2:HL (Ac n).rs) (q2:List (Nat × RV)),q1=(15,.sv (Aj (Ac n).rs y2))::q2 /\ ∃ (y3:HL (Ak n).rs) (q3:List (Nat × RV)),q2=(16,.sv (Aj (Ak n).rs y3))::q3/\q3=[]):=by kernel_rfl
 rw [e] at hq;obtain ⟨y0,q0,rfl,y1,q1,rfl,y2,q2,rfl,y3,q3,rfl,rfl⟩:=hq
 all_goals exact .inr ⟨18,by kernel_rfl,by kernel_rfl,by kernel_rfl⟩
set_option maxHeartbeats 8000000 in
theorem A6u (n:Nat):As TT ⟨92,[]⟩ [(6,{ ent:=some (Ac n) }),(7,{ ent:=some (Ak n) }),(15,{ ent:=some (Ac n) }),(16,{ ent:=some (Ak n) }),(17,{ sh:=some hR }),(18,{ sh:=some hR })] A6r (A9 ((A1 Tryz.f167).at [1,1,0,1,0,0,1,1,0,0,1,1,1,1,0,1])):=by
 refine ⟨by kernel_rfl,λw q hq=>?_⟩
 have e:WT [(6,{ ent:=some (Ac n) }),(7,{ ent:=some (Ak n) }),(15,{ ent:=some (Ac n) }),(16,{ ent:=some (Ak n) }),(17,{ sh:=some hR }),(18,{ sh:=some hR })] (A7 (A9 ((A1 Tryz.f167).at [1,1,0,1,0,0,1,1,0,0,1,1,1,1,0,1])).toList) q=(∃ (y0:HL (Ac n).rs) (q0:List (Nat × RV)),q=(6,.sv (Aj (Ac n).rs y0))::q0 /\ ∃ (y1:HL (Ak n).rs) (q1:List (Nat × RV)),q0=(7,.sv (Aj (Ak n).rs y1))::q1 /\ ∃ (y2:HL (Ac n).rs) (q2:List (Nat × RV)),q1=(15,.sv (Aj (Ac n).rs y2))::q2 /\ ∃ (y3:HL (Ak n).rs) (q3:List (Nat × RV)),q2=(16,.sv (Aj (Ak n).rs y3))::q3/\q3=[]):=by kernel_rfl
 rw [e] at hq;obtain ⟨y0,q0,rfl,y1,q1,rfl,y2,q2,rfl,y3,q3,rfl,rfl⟩:=hq
 all_goals exact .inr ⟨18,by kernel_rfl,by kernel_rfl,by kernel_rfl⟩
theorem A6q (α:Type) (n:Nat):Ao PP (Af (A9l α n).reg):=⟨Bd n,Bd n,Bd n,G0 n,Bd n,Bd n,G0 n,Bd n,Bd n,G0 n,Bd n,G0 n,Bd n,G0 n,trivial⟩
theorem Apr (α:Type) (n:Nat):D3.OK PP TT ⟨92,[]⟩ (A9l α n) ((A1 Tryz.f167).at [1,1,0,1,0,0]) :=
 D3.OK.mk3a (A6q α n) (show Aa ((A1 Tryz.f167).at [1,1,0,1,0,0])=[] by kernel_rfl) trivial (show B1 ((A1 Tryz.f167).at [1,1,0,1,0,0])=[(6,A9 ((A1 Tryz.f167).at [1,1,0,1,0,0,1,1,0,0,1,1,0])),(8,A9 ((A1 Tryz.f167).at [1,1,0,1,0,0,1,1,0,0,1,1,1,1,0,0])),(9,A9 ((A1 Tryz.f167).at [1,1,0,1,0,0,1,1,0,0,1,1,1,1,0,1]))] by kernel_rfl) ⟨⟨Ahb n,A6w n,trivial⟩,⟨Aha n,A6v n,trivial⟩,⟨Ah9 n,A6u n,trivial⟩,trivial⟩
theorem Ak7 (α:Type) (n:Nat):LO.Sound (α:=α) PP ⟨92,[]⟩ ⟨Pn,Y5,A5 (Y4 n) n⟩ (.loop ((A1 Tryz.f167).at [1,1,0,1,0,0])):=lk (Apr α n) n
theorem B4k (α:Type) (n:Nat):D3.OK PP TT ⟨92,[]⟩ (A9l α n) (A1 Tryz.f167) :=
 D3.OK.mk3a (A6q α n) (show Aa (A1 Tryz.f167)=[(3,(.loop ((A1 Tryz.f167).at [1,1,0,1,0,0])))] by kernel_rfl) ⟨Ab rfl (Ak7 α n),trivial⟩ (show B1 (A1 Tryz.f167)=[(1,A9 ((A1 Tryz.f167).at [1,0])),(6,A9 ((A1 Tryz.f167).at [1,1,0,1,0,0,1,1,0,0,1,1,0])),(8,A9 ((A1 Tryz.f167).at [1,1,0,1,0,0,1,1,0,0,1,1,1,1,0,0])),(9,A9 ((A1 Tryz.f167).at [1,1,0,1,0,0,1,1,0,0,1,1,1,1,0,1]))] by kernel_rfl) ⟨⟨B02 n,trivial⟩,⟨Ahb n,A6w n,trivial⟩,⟨Aha n,A6v n,trivial⟩,⟨Ah9 n,A6u n,trivial⟩,trivial⟩
theorem Ah4 (n:Nat):(A9k n).Sound PP:=fk (fn:=Tryz.f167) (B4k _ n)

def f206 (n:Nat) (a0 a1:Rq):Option Rq :=
 ob (f152 n a0.2.1 a1.2.2) λa =>
 ob (f152 n a0.2.2 a1.2.1) λb =>
 ob (f153 n (!(a0.1==a1.1)) a b) λc =>
 some c
def Qv (n:Nat):Ent:=⟨206,[hR,hR],[hR],λx=>f206 n x.1 x.2⟩
def B8q (α:Type) (n:Nat):D3 α:={ reg:=[(1,⟨15,[],[(9,{ ent:=some (Hh n) }),(14,{ ent:=some (Hh n) }),(15,{ ent:=some (R9 n) })]⟩)],join:=[],loop:=[] }
theorem B3p (n:Nat):(Qv n).Sound PP:=Au (fn:=Tryz.f206) (D:=B8q _ n) ⟨Gi n,Gi n,R8 n,trivial⟩

def f158 (n:Nat) (a0:Rq):Option Rq :=
 bif (!a0.1) then
  ob (f168 n a0) λa =>
  ob (f123 n a0.2.1) λb =>
  ob (f123 n a0.2.2) λc =>
  some ((!a),b,c)
 else
  ob (f123 n a0.2.1) λd =>
  ob (f123 n a0.2.2) λe =>
  some (false,d,e)
def Av9 (n:Nat):Ent:=⟨158,[hR],[hR],λx=>f158 n x⟩
def B9k (α:Type) (n:Nat):D3 α:={ reg:=[(1,⟨14,[],[(5,{ ent:=some (R7 n) }),(10,{ ent:=some (Li n) }),(13,{ ent:=some (Li n) })]⟩)],join:=[],loop:=[] }
theorem B4q (n:Nat):(Av9 n).Sound PP:=Au (fn:=Tryz.f158) (D:=B9k _ n) ⟨R6 n,K6 n,K6 n,trivial⟩

def f221 (n:Nat) (a0 a1:Rq):Option Rq :=
 ob (f162 n a1 a0) λa =>
 some a
def H8 (n:Nat):Ent:=⟨221,[hR,(.ref hR)],[hR],λx=>f221 n x.1 x.2⟩
def B8d (α:Type) (n:Nat):D3 α:={ reg:=[(1,⟨0,[],[(2,{ ent:=some (Ac n) })]⟩)],join:=[],loop:=[] }
theorem B3d (n:Nat):(H8 n).Sound PP:=Au (fn:=Tryz.f221) (D:=B8d _ n) ⟨Bd n,trivial⟩

def f222 (n:Nat) (a0:Int) (a1:Rq) (a2:Bool × LI × LI × LR × LR × Bool × LI × LI) (a3:Rq):Option Rq :=
 gd (decide (0<=a0)&&decide (a0<(a2.2.2.2.1.length:Int))) (
  let a:=a2.2.2.2.1.getD a0.toNat (false,[],[])
  ob (f162 n a1 a) λb =>
  ob (f162 n b a2.2.2.2.2.2) λc =>
  gd (decide (0<=a0)&&decide (a0<(a2.2.2.2.2.1.length:Int))) (
   let d:=a2.2.2.2.2.1.getD a0.toNat (false,[],[])
   ob (f162 n a3 d) λe =>
   ob (f99 n c e) λf =>
   some f))
def H7 (n:Nat):Ent:=⟨222,[hI,(.ref hR),(.ref (.st (.pair .bool (.pair hIs (.pair hIs (.pair hRs (.pair hRs (.pair .bool (.pair hIs hIs))))))))),(.ref hR)],[hR],λx=>f222 n x.1 x.2.1 x.2.2.1 x.2.2.2⟩
def B8c (α:Type) (n:Nat):D3 α:={ reg:=[(1,⟨16,[],[(6,{ ent:=some (Ac n) }),(9,{ ent:=some (Ac n) }),(16,{ ent:=some (Ac n) }),(17,{ ent:=some (Ak n) })]⟩)],join:=[],loop:=[] }
theorem B3c (n:Nat):(H7 n).Sound PP:=Au (fn:=Tryz.f222) (D:=B8c _ n) ⟨Bd n,Bd n,Bd n,G0 n,trivial⟩

def Gr {α:Type} (n:Nat) (g:Rq) (b:Rq × (Bool × LI × LI × LR × LR × Bool × LI × LI) × Rq) (c:LR) (h a:Int) (s:Bool) (t u:LI) (v i:LR) (w:Bool) (x y:LI) (j k l:Bool) (m o:LI) (p:Bool) (q r:LI) (d e:LR) (f:Rq->(Rq × (Bool × LI × LI × LR × LR × Bool × LI × LI) × Rq)->LR->Int->Int->Bool->LI->LI->LR->LR->Bool->LI->LI->Bool->Bool->Bool->LI->LI->Bool->LI->LI->LR->LR->Option α) (k0:Bool->Bool->Bool->LI->LI->Bool->LI->LI->LR->LR->Option α):Option α :=
 bif (decide (a<h)) then
  gd (decide (0<=a)&&decide (a<(c.length:Int))) (
   let z:=c.getD a.toNat (false,[],[])
   ob (f221 n z g) λd0 =>
   gd (decide ((d.length+1)*56<=140737488355328)) (
    gd ((!i.isEmpty)) (
     ob (f222 n a b.1 b.2.1 b.2.2) λd1 =>
     gd (decide ((e.length+1)*56<=140737488355328)) (
      f g b c h (W (a+1)) s t u v i w x y j k l m o p q r (d++[d0]) (e++[d1])))))
 else
  k0 j k l m o p q r d e
abbrev Ed:Tm:=⟨[(3,.d (.clo 221 (.ref hR))),(4,.d (.clo 222 (.pair (.ref hR) (.pair (.ref (.st (.pair .bool (.pair hIs (.pair hIs (.pair hRs (.pair hRs (.pair .bool (.pair hIs hIs))))))))) (.ref hR))))),(5,.k (.hp 5 0 0)),(10,.k (.hp 10 0 0)),(11,.k (.hp 11 0 0)),(18,.d hRs),(19,.d hI),(20,.d hI)],[(5,.var 91 true false [.d .bool,.d hIs,.d hIs,.d hRs,.d hRs,.d .bool,.d hIs,.d hIs]),(10,.var 91 true false [.d .bool,.d .nil,.d .nil,.d .nil,.d .nil,.d .bool,.d .nil,.d .nil]),(11,.var 91 false false [.d .bool,.d hIs,.d hIs,.k (.hw 31),.k (.hw 42),.d .bool,.d hIs,.d hIs]),(31,.arr 54 hR false),(42,.arr 54 hR false)],[41],[]⟩
abbrev Xt:Tm:=⟨[(10,.k (.hp 10 0 0)),(11,.k (.hp 11 0 0))],[(10,.var 91 true false [.d .bool,.d .nil,.d .nil,.d .nil,.d .nil,.d .bool,.d .nil,.d .nil]),(11,.var 91 false false [.d .bool,.d hIs,.d hIs,.k (.hw 31),.k (.hw 42),.d .bool,.d hIs,.d hIs]),(31,.arr 54 hR false),(42,.arr 54 hR false)],[5],[]⟩
abbrev Gq:List (Exit × Tm):=[(.exit 0,Xt)]
def Gp {α:Type} (n:Nat) (v:Ed.den) (f:Ed.den->Option α) (ks:KS α Gq):Option α:=Gr n v.1.1 v.1.2.1 v.1.2.2.2.2.2.1 v.1.2.2.2.2.2.2.1 v.1.2.2.2.2.2.2.2.1 v.2.1.1 v.2.1.2.1 v.2.1.2.2.1 v.2.1.2.2.2.1 v.2.1.2.2.2.2.1 v.2.1.2.2.2.2.2.1 v.2.1.2.2.2.2.2.2.1 v.2.1.2.2.2.2.2.2.2.1 v.2.2.1.1 v.2.2.1.2.2.2.2.2.1 v.2.2.2.1.1 v.2.2.2.1.2.1 v.2.2.2.1.2.2.1 v.2.2.2.1.2.2.2.2.2.1 v.2.2.2.1.2.2.2.2.2.2.1 v.2.2.2.1.2.2.2.2.2.2.2.1 v.2.2.2.2.1 v.2.2.2.2.2.1 (λa b c d e g h i j k l m o p q r s t u w x y z=>f ((a,b,(),(),(),c,d,e,()),((g,h,i,j,k,l,m,o,()),(p,(),(),(),(),q,(),(),()),(r,s,t,(),(),u,w,x,()),y,z,()))) (λw0 w1 w2 w3 w4 w5 w6 w7 w8 w9=>ks.1 (((),(),()),((w0,(),(),(),(),w1,(),(),()),(w2,w3,w4,(),(),w5,w6,w7,()),w8,w9,())))
def Ey {α:Type} (n m:Nat) (a:Rq) (b:Rq × (Bool × LI × LI × LR × LR × Bool × LI × LI) × Rq) (c:LR) (d e:Int) (f:Bool) (g h:LI) (i j:LR) (k:Bool) (l o:LI) (p q r:Bool) (s t:LI) (u:Bool) (v x:LI) (y z:LR) (k0:Bool->Bool->Bool->LI->LI->Bool->LI->LI->LR->LR->Option α):Option α:=A5 (Gp n) m ((a,b,(),(),(),c,d,e,()),((f,g,h,i,j,k,l,o,()),(p,(),(),(),(),q,(),(),()),(r,s,t,(),(),u,v,x,()),y,z,())) (λw=>k0 w.2.1.1 w.2.1.2.2.2.2.2.1 w.2.2.1.1 w.2.2.1.2.1 w.2.2.1.2.2.1 w.2.2.1.2.2.2.2.2.1 w.2.2.1.2.2.2.2.2.2.1 w.2.2.1.2.2.2.2.2.2.2.1 w.2.2.2.1 w.2.2.2.2.1,())
theorem Xr {α n m a b c d e f g h i j k l o p q r s t u v w x y k0}:Ey (α:=α) n (m+1) a b c d e f g h i j k l o p q r s t u v w x y k0=Gr n a b c d e f g h i j k l o p q r s t u v w x y (λa b c d e f g h i j k l o p q r s t u v w x y=>Ey n m a b c d e f g h i j k l o p q r s t u v w x y k0) k0:=rfl
abbrev Nv:Tm:=⟨[(3,.d (.clo 221 (.ref hR))),(4,.d (.clo 222 (.pair (.ref hR) (.pair (.ref (.st (.pair .bool (.pair hIs (.pair hIs (.pair hRs (.pair hRs (.pair .bool (.pair hIs hIs))))))))) (.ref hR))))),(5,.k (.hp 5 0 0)),(10,.k (.hp 10 0 0)),(11,.k (.hp 11 0 0)),(12,.d hI),(13,.k (.hp 13 0 0)),(18,.d hRs),(19,.d hI),(20,.d hI)],[(5,.var 91 true false [.d .bool,.d hIs,.d hIs,.d hRs,.d hRs,.d .bool,.d hIs,.d hIs]),(10,.var 91 true false [.d .bool,.d .nil,.d .nil,.d .nil,.d .nil,.d .bool,.d .nil,.d .nil]),(11,.var 91 true false [.d .bool,.d hIs,.d hIs,.d .nil,.d .nil,.d .bool,.d hIs,.d hIs]),(13,.var 54 true false [.d .bool,.d hIs,.d hIs])],[6,7],[]⟩
abbrev L7:Tm:=⟨[(3,.d (.clo 221 (.ref hR))),(4,.d (.clo 222 (.pair (.ref hR) (.pair (.ref (.st (.pair .bool (.pair hIs (.pair hIs (.pair hRs (.pair hRs (.pair .bool (.pair hIs hIs))))))))) (.ref hR))))),(5,.k (.hp 5 0 0)),(10,.k (.hp 10 0 0)),(11,.k (.hp 11 0 0)),(12,.d hI),(13,.k (.hp 13 0 0)),(18,.d hRs),(19,.d hI),(20,.d hI)],[(5,.var 91 true false [.d .bool,.d hIs,.d hIs,.d hRs,.d hRs,.d .bool,.d hIs,.d hIs]),(10,.var 91 true false [.d .bool,.d .nil,.d .nil,.d .nil,.d .nil,.d .bool,.d .nil,.d .nil]),(11,.var 91 false false [.d .bool,.d hIs,.d hIs,.k (.hw 31),.k (.hw 42),.d .bool,.d hIs,.d hIs]),(13,.var 54 true false [.d .bool,.d hIs,.d hIs]),(31,.arr 54 hR false),(42,.arr 54 hR false)],[],[]⟩
abbrev Nu:Tm:=⟨[(3,.d (.clo 221 (.ref hR))),(4,.d (.clo 222 (.pair (.ref hR) (.pair (.ref (.st (.pair .bool (.pair hIs (.pair hIs (.pair hRs (.pair hRs (.pair .bool (.pair hIs hIs))))))))) (.ref hR))))),(5,.k (.hp 5 0 0)),(10,.k (.hp 10 0 0)),(11,.k (.hp 11 0 0)),(12,.d hI),(18,.d hRs),(19,.d hI),(20,.d hI)],[(5,.var 91 true false [.d .bool,.d hIs,.d hIs,.d hRs,.d hRs,.d .bool,.d hIs,.d hIs]),(10,.var 91 true false [.d .bool,.d .nil,.d .nil,.d .nil,.d .nil,.d .bool,.d .nil,.d .nil]),(11,.var 91 false false [.d .bool,.d hIs,.d hIs,.k (.hw 31),.d .nil,.d .bool,.d hIs,.d hIs]),(31,.arr 54 hR false)],[13,30],[]⟩
abbrev L6:Tm:=⟨[(3,.d (.clo 221 (.ref hR))),(4,.d (.clo 222 (.pair (.ref hR) (.pair (.ref (.st (.pair .bool (.pair hIs (.pair hIs (.pair hRs (.pair hRs (.pair .bool (.pair hIs hIs))))))))) (.ref hR))))),(5,.k (.hp 5 0 0)),(10,.k (.hp 10 0 0)),(11,.k (.hp 11 0 0)),(12,.d hI),(18,.d hRs),(19,.d hI),(20,.d hI)],[(5,.var 91 true false [.d .bool,.d hIs,.d hIs,.d hRs,.d hRs,.d .bool,.d hIs,.d hIs]),(10,.var 91 true false [.d .bool,.d .nil,.d .nil,.d .nil,.d .nil,.d .bool,.d .nil,.d .nil]),(11,.var 91 false false [.d .bool,.d hIs,.d hIs,.k (.hw 31),.k (.hw 42),.d .bool,.d hIs,.d hIs]),(31,.arr 54 hR false),(42,.arr 54 hR false)],[13,30],[]⟩
def Lx (n:Nat) (a0:Rq × LR × LR × Rq) (a1 a2 a3:Rq) (a4:Rq × (Bool × LI × LI × LR × LR × Bool × LI × LI) × Rq):Option (Rq × LR × LR × Rq) :=
 bif (decide (0<(a0.2.1.length:Int))) then
  gd (decide (0<(a0.2.1.length:Int))) (
   let a:=a0.2.1.getD 0 (false,[],[])
   ob (f221 n a a3) λb =>
   gd ((!a0.2.2.1.isEmpty)) (
    ob (f222 n 0 a4.1 a4.2.1 a4.2.2) λc =>
    Ey n n a3 a4 a0.2.1 (a0.2.1.length:Int) 1 a0.1.1 a0.1.2.1 a0.1.2.2 a0.2.1 a0.2.2.1 a0.2.2.2.1 a0.2.2.2.2.1 a0.2.2.2.2.2 false false a1.1 a1.2.1 a1.2.2 a2.1 a2.2.1 a2.2.2 [b] [c]
     (λl m d e f g h i j k=>(
      some ((d,e,f),j,k,g,h,i)))))
 else
  some (a1,[],[],a2)
def Cs (n:Nat):Ent:=⟨207,[(.st (.pair hR (.pair hRs (.pair hRs hR)))),hR,hR,(.clo 221 (.ref hR)),(.clo 222 (.pair (.ref hR) (.pair (.ref (.st (.pair .bool (.pair hIs (.pair hIs (.pair hRs (.pair hRs (.pair .bool (.pair hIs hIs))))))))) (.ref hR))))],[(.st (.pair hR (.pair hRs (.pair hRs hR))))],λx=>Lx n x.1 x.2.1 x.2.2.1 x.2.2.2.1 x.2.2.2.2⟩
def Iv (α:Type) (n:Nat):D3 α:={ reg:=[(5,⟨0,[],[(4,{ ent:=some (H8 n) }),(5,{ sh:=some hR }),(6,{ sh:=some hR })]⟩),(7,⟨0,[],[(4,{ ent:=some (H7 n) }),(5,{ sh:=some hR }),(6,{ sh:=some hR })]⟩)],join:=[],loop:=[(3,⟨Ed,Gq,A5 (Gp n) n⟩)],any:=[(5,Nv),(5,L7),(7,Nu),(7,L6)] }
set_option maxHeartbeats 8000000 in
theorem Nx (n:Nat):As TT ⟨46,[]⟩ [(4,{ ent:=some (H8 n) }),(5,{ sh:=some hR }),(6,{ sh:=some hR })] Nv (A9 ((A1 Tryz.f207).at [1,1,0,1,0,0,1,1,0,0,1,0])):=by
 refine ⟨by kernel_rfl,λw q hq=>?_⟩
 have e:WT [(4,{ ent:=some (H8 n) }),(5,{ sh:=some hR }),(6,{ sh:=some hR })] (A7 (A9 ((A1 Tryz.f207).at [1,1,0,1,0,0,1,1,0,0,1,0])).toList) q=(∃ (y0:HL (H8 n).rs) (q0:List (Nat × RV)),q=(4,.sv (Aj (H8 n).rs y0))::q0/\q0=[]):=by kernel_rfl
 rw [e] at hq;obtain ⟨y0,q0,rfl,rfl⟩:=hq
 all_goals exact .inr ⟨6,by kernel_rfl,by kernel_rfl,by kernel_rfl⟩
set_option maxHeartbeats 8000000 in
theorem L9 (n:Nat):As TT ⟨46,[]⟩ [(4,{ ent:=some (H8 n) }),(5,{ sh:=some hR }),(6,{ sh:=some hR })] L7 (A9 ((A1 Tryz.f207).at [1,1,0,1,0,0,1,1,0,0,1,0])):=by
 refine ⟨by kernel_rfl,λw q hq=>?_⟩
 have e:WT [(4,{ ent:=some (H8 n) }),(5,{ sh:=some hR }),(6,{ sh:=some hR })] (A7 (A9 ((A1 Tryz.f207).at [1,1,0,1,0,0,1,1,0,0,1,0])).toList) q=(∃ (y0:HL (H8 n).rs) (q0:List (Nat × RV)),q=(4,.sv (Aj (H8 n).rs y0))::q0/\q0=[]):=by kernel_rfl
 rw [e] at hq;obtain ⟨y0,q0,rfl,rfl⟩:=hq
 all_goals exact .inr ⟨6,by kernel_rfl,by kernel_rfl,by kernel_rfl⟩
set_option maxHeartbeats 8000000 in
theorem Nw (n:Nat):As TT ⟨46,[]⟩ [(4,{ ent:=some (H7 n) }),(5,{ sh:=some hR }),(6,{ sh:=some hR })] Nu (A9 ((A1 Tryz.f207).at [1,1,0,1,0,0,1,1,0,0,1,1,1,0])):=by
 refine ⟨by kernel_rfl,λw q hq=>?_⟩
 have e:WT [(4,{ ent:=some (H7 n) }),(5,{ sh:=some hR }),(6,{ sh:=some hR })] (A7 (A9 ((A1 Tryz.f207).at [1,1,0,1,0,0,1,1,0,0,1,1,1,0])).toList) q=(∃ (y0:HL (H7 n).rs) (q0:List (Nat × RV)),q=(4,.sv (Aj (H7 n).rs y0))::q0/\q0=[]):=by kernel_rfl
 rw [e] at hq;obtain ⟨y0,q0,rfl,rfl⟩:=hq
 all_goals exact .inr ⟨6,by kernel_rfl,by kernel_rfl,by kernel_rfl⟩
set_option maxHeartbeats 8000000 in
theorem L8 (n:Nat):As TT ⟨46,[]⟩ [(4,{ ent:=some (H7 n) }),(5,{ sh:=some hR }),(6,{ sh:=some hR })] L6 (A9 ((A1 Tryz.f207).at [1,1,0,1,0,0,1,1,0,0,1,1,1,0])):=by
 refine ⟨by kernel_rfl,λw q hq=>?_⟩
 have e:WT [(4,{ ent:=some (H7 n) }),(5,{ sh:=some hR }),(6,{ sh:=some hR })] (A7 (A9 ((A1 Tryz.f207).at [1,1,0,1,0,0,1,1,0,0,1,1,1,0])).toList) q=(∃ (y0:HL (H7 n).rs) (q0:List (Nat × RV)),q=(4,.sv (Aj (H7 n).rs y0))::q0/\q0=[]):=by kernel_rfl
 rw [e] at hq;obtain ⟨y0,q0,rfl,rfl⟩:=hq
 all_goals exact .inr ⟨6,by kernel_rfl,by kernel_rfl,by kernel_rfl⟩
theorem L5 (α:Type) (n:Nat):Ao PP (Af (Iv α n).reg):=⟨B3d n,B3c n,trivial⟩
theorem Xs (α:Type) (n:Nat):D3.OK PP TT ⟨46,[]⟩ (Iv α n) ((A1 Tryz.f207).at [1,1,0,1,0,0]) :=
 D3.OK.mk3a (L5 α n) (show Aa ((A1 Tryz.f207).at [1,1,0,1,0,0])=[] by kernel_rfl) trivial (show B1 ((A1 Tryz.f207).at [1,1,0,1,0,0])=[(5,A9 ((A1 Tryz.f207).at [1,1,0,1,0,0,1,1,0,0,1,0])),(7,A9 ((A1 Tryz.f207).at [1,1,0,1,0,0,1,1,0,0,1,1,1,0]))] by kernel_rfl) ⟨⟨Nx n,L9 n,trivial⟩,⟨Nw n,L8 n,trivial⟩,trivial⟩
theorem Vv (α:Type) (n:Nat):LO.Sound (α:=α) PP ⟨46,[]⟩ ⟨Ed,Gq,A5 (Gp n) n⟩ (.loop ((A1 Tryz.f207).at [1,1,0,1,0,0])):=lk (Xs α n) n
theorem A6d (α:Type) (n:Nat):D3.OK PP TT ⟨46,[]⟩ (Iv α n) (A1 Tryz.f207) :=
 D3.OK.mk3a (L5 α n) (show Aa (A1 Tryz.f207)=[(3,(.loop ((A1 Tryz.f207).at [1,1,0,1,0,0])))] by kernel_rfl) ⟨Ab rfl (Vv α n),trivial⟩ (show B1 (A1 Tryz.f207)=[(5,A9 ((A1 Tryz.f207).at [1,1,0,1,0,0,1,1,0,0,1,0])),(7,A9 ((A1 Tryz.f207).at [1,1,0,1,0,0,1,1,0,0,1,1,1,0]))] by kernel_rfl) ⟨⟨Nx n,L9 n,trivial⟩,⟨Nw n,L8 n,trivial⟩,trivial⟩
theorem A2i (n:Nat):(Cs n).Sound PP:=fk (fn:=Tryz.f207) (A6d _ n)

abbrev Agh:Tm:=⟨[(4,.k (.hp 4 0 0)),(5,.k (.hp 5 0 0)),(6,.k (.hp 6 0 0)),(7,.k (.hp 7 0 0)),(8,.k (.hp 8 0 0))],[(4,.var 91 true false [.d .bool,.d hIs,.d hIs,.d hRs,.d hRs,.d .bool,.d hIs,.d hIs]),(5,.var 54 true false [.d .bool,.d hIs,.d hIs]),(6,.var 54 true false [.d .bool,.d hIs,.d hIs]),(7,.var 54 true false [.d .bool,.d hIs,.d hIs]),(8,.var 91 true false [.d .bool,.d .nil,.d .nil,.d .nil,.d .nil,.d .bool,.d .nil,.d .nil])],[],[]⟩
def Tb (n:Nat) (a0:Rq × LR × LR × Rq) (a1 a2 a3:Rq):Option (Rq × LR × LR × Rq) :=
 ob (f162 n a2 a0.2.2.2) λa =>
 ob (Lx n a0 a1 a a2 (a3,(a0.1.1,a0.1.2.1,a0.1.2.2,a0.2),a2)) λb =>
 some b
def A9b (n:Nat):Ent:=⟨210,[(.st (.pair hR (.pair hRs (.pair hRs hR)))),hR,hR,hR],[(.st (.pair hR (.pair hRs (.pair hRs hR))))],λx=>Tb n x.1 x.2.1 x.2.2.1 x.2.2.2⟩
def Aly (α:Type) (n:Nat):D3 α:={ reg:=[(1,⟨0,[],[(5,{ ent:=some (Ac n) }),(6,{ sh:=some (.ref hR) }),(7,{ sh:=some (.pair (.ref hR) (.pair (.ref (.st (.pair .bool (.pair hIs (.pair hIs (.pair hRs (.pair hRs (.pair .bool (.pair hIs hIs))))))))) (.ref hR))) }),(8,{ ent:=some (Cs n) })]⟩)],join:=[],loop:=[],any:=[(1,Agh)] }
set_option maxHeartbeats 8000000 in
theorem Azq (n:Nat):As TT ⟨18,[]⟩ [(5,{ ent:=some (Ac n) }),(6,{ sh:=some (.ref hR) }),(7,{ sh:=some (.pair (.ref hR) (.pair (.ref (.st (.pair .bool (.pair hIs (.pair hIs (.pair hRs (.pair hRs (.pair .bool (.pair hIs hIs))))))))) (.ref hR))) }),(8,{ ent:=some (Cs n) })] Agh (A9 ((A1 Tryz.f210).at [1,0])):=by
 refine ⟨by kernel_rfl,λw q hq=>?_⟩
 have e:WT [(5,{ ent:=some (Ac n) }),(6,{ sh:=some (.ref hR) }),(7,{ sh:=some (.pair (.ref hR) (.pair (.ref (.st (.pair .bool (.pair hIs (.pair hIs (.pair hRs (.pair hRs (.pair .bool (.pair hIs hIs))))))))) (.ref hR))) }),(8,{ ent:=some (Cs n) })] (A7 (A9 ((A1 Tryz.f210).at [1,0])).toList) q=(∃ (y0:HL (Ac n).rs) (q0:List (Nat × RV)),q=(5,.sv (Aj (Ac n).rs y0))::q0 /\ ∃ (y1:HL (Cs n).rs) (q1:List (Nat × RV)),q0=(8,.sv (Aj (Cs n).rs y1))::q1/\q1=[]):=by kernel_rfl
 rw [e] at hq;obtain ⟨y0,q0,rfl,y1,q1,rfl,rfl⟩:=hq
 all_goals exact .inl (Mo.mk (by kernel_rfl))
theorem Ap4 (α:Type) (n:Nat):Ao PP (Af (Aly α n).reg):=⟨Bd n,A2i n,trivial⟩
theorem B3m (α:Type) (n:Nat):D3.OK PP TT ⟨18,[]⟩ (Aly α n) (A1 Tryz.f210) :=
 D3.OK.mk3a (Ap4 α n) (show Aa (A1 Tryz.f210)=[] by kernel_rfl) trivial (show B1 (A1 Tryz.f210)=[(1,A9 ((A1 Tryz.f210).at [1,0]))] by kernel_rfl) ⟨⟨Azq n,trivial⟩,trivial⟩
theorem Agg (n:Nat):(A9b n).Sound PP:=fk (fn:=Tryz.f210) (B3m _ n)

abbrev Ah3:Tm:=⟨[(1,.k (.hp 1 0 0)),(2,.k (.hp 2 0 0))],[(1,.var 91 true false [.d .bool,.d hIs,.d hIs,.d hRs,.d hRs,.d .bool,.d hIs,.d hIs]),(2,.var 91 true false [.d .bool,.d .nil,.d .nil,.d .nil,.d .nil,.d .bool,.d .nil,.d .nil])],[],[]⟩
def A0a (n:Nat) (a0:Rq × LR × LR × Rq):Option (Rq × LR × LR × Rq) :=
 ob (f97 n 1) λc =>
 ob (f206 n c a0.1) λa =>
 ob (f162 n a a) λb =>
 ob (f158 n b) λd =>
 ob (f162 n b a) λe =>
 ob (f97 n 2) λf =>
 ob (f162 n e f) λg =>
 ob (Tb n a0 a d g) λh =>
 some h
def Ame (n:Nat):Ent:=⟨169,[(.st (.pair hR (.pair hRs (.pair hRs hR))))],[(.st (.pair hR (.pair hRs (.pair hRs hR))))],λx=>A0a n x⟩
def Amf (α:Type) (n:Nat):D3 α:={ reg:=[(1,⟨0,[],[(0,{ ent:=some (Bo n) }),(3,{ ent:=some (Qv n) })]⟩),(2,⟨0,[],[(2,{ ent:=some (Ac n) })]⟩),(3,⟨9,[],[(3,{ ent:=some (Av9 n) }),(6,{ ent:=some (Ac n) }),(7,{ ent:=some (Bo n) }),(8,{ ent:=some (Ac n) }),(9,{ ent:=some (A9b n) })]⟩)],join:=[],loop:=[],any:=[(1,Ah3)] }
set_option maxHeartbeats 8000000 in
theorem B01 (n:Nat):As TT ⟨22,[]⟩ [(0,{ ent:=some (Bo n) }),(3,{ ent:=some (Qv n) })] Ah3 (A9 ((A1 Tryz.f169).at [1,0])):=by
 refine ⟨by kernel_rfl,λw q hq=>?_⟩
 have e:WT [(0,{ ent:=some (Bo n) }),(3,{ ent:=some (Qv n) })] (A7 (A9 ((A1 Tryz.f169).at [1,0])).toList) q=(∃ (y0:HL (Bo n).rs) (q0:List (Nat × RV)),q=(0,.sv (Aj (Bo n).rs y0))::q0 /\ ∃ (y1:HL (Qv n).rs) (q1:List (Nat × RV)),q0=(3,.sv (Aj (Qv n).rs y1))::q1/\q1=[]):=by kernel_rfl
 rw [e] at hq;obtain ⟨y0,q0,rfl,y1,q1,rfl,rfl⟩:=hq
 all_goals exact .inr ⟨5,by kernel_rfl,by kernel_rfl,by kernel_rfl⟩
theorem App (α:Type) (n:Nat):Ao PP (Af (Amf α n).reg):=⟨Co n,B3p n,Bd n,B4q n,Bd n,Co n,Bd n,Agg n,trivial⟩
theorem B4j (α:Type) (n:Nat):D3.OK PP TT ⟨22,[]⟩ (Amf α n) (A1 Tryz.f169) :=
 D3.OK.mk3a (App α n) (show Aa (A1 Tryz.f169)=[] by kernel_rfl) trivial (show B1 (A1 Tryz.f169)=[(1,A9 ((A1 Tryz.f169).at [1,0])),(3,A9 ((A1 Tryz.f169).at [1,1,1,0]))] by kernel_rfl) ⟨⟨B01 n,trivial⟩,trivial,trivial⟩
theorem B00 (n:Nat):(Ame n).Sound PP:=fk (fn:=Tryz.f169) (B4j _ n)

def A3m {α:Type} (n:Nat) (a b:Int) (c:Bool) (d e:LI) (g h:Bool) (i j:LI) (f:Int->Int->Bool->LI->LI->Bool->Bool->LI->LI->Option α) (k0:Bool->Bool->LI->LI->Option α):Option α :=
 bif (decide (b<a)) then
  ob (f152 n i d) λk =>
  ob (f152 n j e) λl =>
  f a (W (b+1)) c d e g (!(h==c)) k l
 else
  k0 g h i j
abbrev Tv:Tm:=⟨[(2,.k (.hp 2 0 0)),(4,.k (.hp 4 0 0)),(5,.k (.hp 5 0 0)),(7,.d hI),(8,.d hI)],[(2,.var 54 true false [.d .bool,.d hIs,.d hIs]),(4,.var 54 true false [.d .bool,.d .nil,.d .nil]),(5,.var 54 true false [.d .bool,.d hIs,.d hIs])],[],[]⟩
abbrev Av6:Tm:=⟨[(4,.k (.hp 4 0 0)),(5,.k (.hp 5 0 0))],[(4,.var 54 true false [.d .bool,.d .nil,.d .nil]),(5,.var 54 true false [.d .bool,.d hIs,.d hIs])],[2],[]⟩
abbrev A3l:List (Exit × Tm):=[(.exit 0,Av6)]
def A3k {α:Type} (n:Nat) (v:Tv.den) (f:Tv.den->Option α) (ks:KS α A3l):Option α:=A3m n v.1.2.2.2.1 v.1.2.2.2.2.1 v.2.1.1 v.2.1.2.1 v.2.1.2.2.1 v.2.2.1.1 v.2.2.2.1.1 v.2.2.2.1.2.1 v.2.2.2.1.2.2.1 (λa b c d e g h i j=>f (((),(),(),a,b,()),((c,d,e,()),(g,(),(),()),(h,i,j,()),()))) (λw0 w1 w2 w3=>ks.1 (((),(),()),((w0,(),(),()),(w1,w2,w3,()),())))
def R5 {α:Type} (n m:Nat) (a b:Int) (c:Bool) (d e:LI) (f g:Bool) (h i:LI) (k0:Bool->Bool->LI->LI->Option α):Option α:=A5 (A3k n) m (((),(),(),a,b,()),((c,d,e,()),(f,(),(),()),(g,h,i,()),())) (λw=>k0 w.2.1.1 w.2.2.1.1 w.2.2.1.2.1 w.2.2.1.2.2.1,())
theorem Av5 {α n m a b c d e f g h i k0}:R5 (α:=α) n (m+1) a b c d e f g h i k0=A3m n a b c d e f g h i (λa b c d e f g h i=>R5 n m a b c d e f g h i k0) k0:=rfl
def f170 (n:Nat) (a0:Rq) (a1:Int):Option Rq :=
 ob (f97 n 1) λc =>
 R5 n n a1 0 a0.1 a0.2.1 a0.2.2 false c.1 c.2.1 c.2.2
  (λj e a b=>(
   bif e then
    ob (f168 n (e,a,b)) λd =>
    ob (f168 n ((!d),a,b)) λf =>
    bif f then
     ob (f151 n) λg =>
     some ((!d),a,g)
    else
     some ((!d),a,b)
   else
    ob (f168 n (false,a,b)) λh =>
    bif h then
     ob (f151 n) λi =>
     some (false,a,i)
    else
     some (false,a,b)))
def Y3 (n:Nat):Ent:=⟨170,[hR,hI],[hR],λx=>f170 n x.1 x.2⟩
def Ah2 (α:Type) (n:Nat):D3 α:={ reg:=[(1,⟨0,[],[(0,{ ent:=some (Bo n) })]⟩),(4,⟨15,[],[(9,{ ent:=some (Hh n) }),(14,{ ent:=some (Hh n) })]⟩),(6,⟨0,[],[(4,{ ent:=some (R7 n) })]⟩),(7,⟨0,[],[(1,{ ent:=some (R7 n) })]⟩),(8,⟨0,[],[(0,{ ent:=some (Rb n) })]⟩)],join:=[],loop:=[(3,⟨Tv,A3l,A5 (A3k n) n⟩)] }
theorem Abx (α:Type) (n:Nat):Ao PP (Af (Ah2 α n).reg):=⟨Co n,Gi n,Gi n,R6 n,R6 n,Ra n,trivial⟩
theorem Apo (α:Type) (n:Nat):LO.Sound (α:=α) PP ⟨40,[]⟩ ⟨Tv,A3l,A5 (A3k n) n⟩ (.loop ((A1 Tryz.f170).at [1,1,0,1,0,0])):=C0 (D:=Ah2 α n) (Abx α n) n
theorem B9h (α:Type) (n:Nat):D3.OK PP TT ⟨40,[]⟩ (Ah2 α n) (A1 Tryz.f170) :=
 D3.OK.mk3 (Abx α n) (show Aa (A1 Tryz.f170)=[(3,(.loop ((A1 Tryz.f170).at [1,1,0,1,0,0])))] by kernel_rfl) ⟨Ab rfl (Apo α n),trivial⟩
theorem A09 (n:Nat):(Y3 n).Sound PP:=fk (fn:=Tryz.f170) (B9h _ n)

def f98 (n:Nat) (a0:Rq):Option Bool :=
 bif (decide ((a0.2.1.length:Int)<=40)) then
  some (decide ((a0.2.2.length:Int)<=40))
 else
  some false
def A5y (n:Nat):Ent:=⟨98,[hR],[.bool],λx=>f98 n x⟩
def Bbh (α:Type) (n:Nat):D3 α:={ reg:=[],join:=[],loop:=[] }
theorem A5x (n:Nat):(A5y n).Sound PP:=Au (fn:=Tryz.f98) (D:=Bbh _ n) trivial

abbrev Aho:Tm:=⟨[(4,.k (.hp 4 0 0)),(5,.k (.hp 5 0 0)),(6,.k (.hp 6 0 0)),(7,.k (.hp 7 0 0))],[(4,.var 54 true false [.d .bool,.d .nil,.d .nil]),(5,.var 54 true false [.d .bool,.d .nil,.d .nil]),(6,.var 54 true false [.d .bool,.d hIs,.d hIs]),(7,.var 54 true false [.d .bool,.d hIs,.d hIs])],[2],[]⟩
abbrev B0b:Tm:=⟨[(1,.d hI),(2,.k (.hp 2 0 0)),(4,.k (.hp 4 0 0)),(5,.k (.hp 5 0 0)),(6,.k (.hp 6 0 0)),(7,.k (.hp 7 0 0))],[(2,.var 91 true false [.d .bool,.d hIs,.d hIs,.d hRs,.d hRs,.d .bool,.d hIs,.d hIs]),(4,.var 54 true false [.d .bool,.d .nil,.d .nil]),(5,.var 54 true false [.d .bool,.d .nil,.d .nil]),(6,.var 54 true false [.d .bool,.d hIs,.d hIs]),(7,.var 54 true false [.d .bool,.d hIs,.d hIs])],[],[]⟩
def A72 (n:Nat) (a0:Rq × LR × LR × Rq) (a1:Int):Option (Rq × Rq) :=
 ob (f97 n 0) λa =>
 ob (f97 n 0) λg =>
 let c:=λ(d:Bool) (e:LI) (f:LI)=>(
  bif (decide (a1>=2)) then
   ob (f170 n a0.1 (W (a1-2))) λh =>
   ob (f97 n (W (a1*(W (a1-1))))) λi =>
   ob (f162 n h i) λj =>
   some ((d,e,f),j)
  else
   some ((d,e,f),g))
 bif (decide (a1>=1)) then
  ob (f170 n a0.1 (W (a1-1))) λk =>
  ob (f97 n a1) λl =>
  ob (f162 n k l) λb =>
  c b.1 b.2.1 b.2.2
 else
  c a.1 a.2.1 a.2.2
def Amk (n:Nat):Ent:=⟨161,[(.st (.pair hR (.pair hRs (.pair hRs hR)))),hI],[hR,hR],λx=>A72 n x.1 x.2⟩
def Aml (α:Type) (n:Nat):D3 α:={ reg:=[(1,⟨0,[],[(0,{ ent:=some (Bo n) }),(1,{ ent:=some (Bo n) })]⟩),(3,⟨0,[],[(4,{ ent:=some (Y3 n) }),(6,{ ent:=some (Bo n) }),(7,{ ent:=some (Ac n) })]⟩),(5,⟨0,[],[(4,{ ent:=some (Y3 n) }),(9,{ ent:=some (Bo n) }),(10,{ ent:=some (Ac n) })]⟩)],join:=[(4,B0b)],loop:=[],any:=[(6,Aho)] }
set_option maxHeartbeats 8000000 in
theorem B0c (n:Nat):As TT ⟨35,[]⟩ [] Aho (A9 ((A1 Tryz.f161).at [1,1,1,1,0])):=by
 refine ⟨by kernel_rfl,λw q hq=>?_⟩
 have e:WT [] (A7 (A9 ((A1 Tryz.f161).at [1,1,1,1,0])).toList) q=(q=[]):=by kernel_rfl
 rw [e] at hq;obtain rfl:=hq
 all_goals exact .inr ⟨3,by kernel_rfl,by kernel_rfl,by kernel_rfl⟩
theorem Apy (α:Type) (n:Nat):Ao PP (Af (Aml α n).reg):=⟨Co n,Co n,A09 n,Co n,Bd n,A09 n,Co n,Bd n,trivial⟩
theorem B4p (α:Type) (n:Nat):D3.OK PP TT ⟨35,[]⟩ (Aml α n) (A1 Tryz.f161) :=
 D3.OK.mk3a (Apy α n) (show Aa (A1 Tryz.f161)=[] by kernel_rfl) trivial (show B1 (A1 Tryz.f161)=[(6,A9 ((A1 Tryz.f161).at [1,1,1,1,0]))] by kernel_rfl) ⟨⟨B0c n,trivial⟩,trivial⟩
theorem B0a (n:Nat):(Amk n).Sound PP:=fk (fn:=Tryz.f161) (B4p _ n)

def A08 (n:Nat) (a0:Rq × LR × LR × Rq) (a1:Int):Option (Rq × LR × LR × Rq) :=
 ob (A72 n a0 a1) λa =>
 ob (f170 n a0.1 a1) λb =>
 ob (Tb n a0 b a.1 a.2) λc =>
 some c
def Amd (n:Nat):Ent:=⟨171,[(.st (.pair hR (.pair hRs (.pair hRs hR)))),hI],[(.st (.pair hR (.pair hRs (.pair hRs hR))))],λx=>A08 n x.1 x.2⟩
def B4i (α:Type) (n:Nat):D3 α:={ reg:=[(1,⟨0,[],[(2,{ ent:=some (Amk n) })]⟩),(2,⟨7,[],[(4,{ ent:=some (Y3 n) }),(7,{ ent:=some (A9b n) })]⟩)],join:=[],loop:=[] }
theorem Azz (n:Nat):(Amd n).Sound PP:=Au (fn:=Tryz.f171) (D:=B4i _ n) ⟨B0a n,A09 n,Agg n,trivial⟩

abbrev Acc:Tm:=⟨[(2,.d hRs),(3,.k (.hw 1003)),(4,.k (.hp 4 0 0)),(5,.k (.hp 5 0 0)),(8,.k (.hp 8 0 0)),(10,.k (.hp 10 0 0)),(11,.k (.hp 11 0 0))],[(4,.var 94 true false [.d hI,.d hRs]),(5,.var 85 true false [.d hI,.d hI,.d hI,.d hI]),(8,.var 91 true false [.d .bool,.d .nil,.d .nil,.d .nil,.d .nil,.d .bool,.d .nil,.d .nil]),(10,.var 91 true false [.d .bool,.d .nil,.d .nil,.d .nil,.d .nil,.d .bool,.d .nil,.d .nil]),(11,.var 91 true false [.d .bool,.d .nil,.d .nil,.d .nil,.d .nil,.d .bool,.d .nil,.d .nil]),(1003,.arr 91 (.st (.pair hR (.pair hRs (.pair hRs hR)))) false)],[],[]⟩
abbrev Aws:Tm:=⟨[(2,.d hRs),(4,.k (.hp 4 0 0)),(5,.k (.hp 5 0 0)),(8,.k (.hp 8 0 0)),(10,.k (.hp 10 0 0)),(11,.k (.hp 11 0 0))],[(4,.var 94 true false [.d hI,.d hRs]),(5,.var 85 true false [.d hI,.d hI,.d hI,.d hI]),(8,.var 91 true false [.d .bool,.d .nil,.d .nil,.d .nil,.d .nil,.d .bool,.d .nil,.d .nil]),(10,.var 91 true false [.d .bool,.d hIs,.d hIs,.d hRs,.d hRs,.d .bool,.d hIs,.d hIs]),(11,.var 91 true false [.d .bool,.d hIs,.d hIs,.d hRs,.d hRs,.d .bool,.d hIs,.d hIs]),(1003,.arr 91 (.st (.pair hR (.pair hRs (.pair hRs hR)))) false)],[],[]⟩
def A7i (n:Nat) (a0:Int × LR) (a1:Nq) (a2:LR) (a3:List (Rq × LR × LR × Rq)):Option (((Rq × LR × LR × Rq) × Int) × (List (Rq × LR × LR × Rq))) :=
 let t:=λ(c:Bool) (d:LI) (e:LI) (f:LR) (g:LR) (h:Bool) (i:LI) (j:LI) (k:Bool) (l:LI) (m:LI) (o:LR) (p:LR) (q:Bool) (r:LI) (s:LI)=>(
  bif (a1.1==1) then
   ob (f97 n a1.2.2.2) λu =>
   ob (Adq n a0 u) λv =>
   some ((v,0),a3)
  else
   bif (a1.1==2) then
    gd (decide (0<=a1.2.2.2)&&decide (a1.2.2.2<(a2.length:Int))) (
     let w:=a2.getD a1.2.2.2.toNat (false,[],[])
     ob (Adp n a0 w a1.2.2.2) λx =>
     some ((x,0),a3))
   else
    bif (a1.1==3) then
     ob (Km n ((c,d,e),f,g,h,i,j) ((k,l,m),o,p,q,r,s)) λy =>
     some ((y,0),a3)
    else
     bif (a1.1==4) then
      ob (f97 n (-1)) λz =>
      ob (Kl n ((k,l,m),o,p,q,r,s) z) λd0 =>
      ob (Km n ((c,d,e),f,g,h,i,j) d0) λd1 =>
      some ((d1,0),a3)
     else
      bif (a1.1==5) then
       ob (Kk n ((c,d,e),f,g,h,i,j) ((k,l,m),o,p,q,r,s)) λd2 =>
       some ((d2,0),a3)
      else
       bif (a1.1==6) then
        ob (f168 n (k,l,m)) λd3 =>
        bif d3 then
         some ((((false,[],[]),[],[],false,[],[]),10),a3)
        else
         ob (A0a n ((k,l,m),o,p,q,r,s)) λd4 =>
         ob (Kk n ((c,d,e),f,g,h,i,j) d4) λd5 =>
         some ((d5,0),a3)
       else
        bif (a1.1==7) then
         ob (f97 n (-1)) λd6 =>
         ob (Kl n ((c,d,e),f,g,h,i,j) d6) λd7 =>
         some ((d7,0),a3)
        else
         ob (f170 n (c,d,e) a1.2.2.2) λd8 =>
         ob (f98 n d8) λd9 =>
         bif (!d9) then
          some ((((false,[],[]),[],[],false,[],[]),7),a3)
         else
          ob (A08 n ((c,d,e),f,g,h,i,j) a1.2.2.2) λe0 =>
          some ((e0,0),a3))
 ob (f61 n a1) λe1 =>
 bif (decide (e1>0)) then
  gd (decide (0<=a1.2.1)&&decide (a1.2.1<(a3.length:Int))) (
   gd (decide (a1.2.1.toNat<a3.length)) (
    let a:=a3.getD a1.2.1.toNat ((false,[],[]),[],[],(false,[],[]))
    gd (decide (0<=a1.2.2.1)&&decide (a1.2.2.1<(a3.length:Int))) (
     gd (decide (a1.2.2.1.toNat<a3.length)) (
      let b:=a3.getD a1.2.2.1.toNat ((false,[],[]),[],[],(false,[],[]))
      t a.1.1 a.1.2.1 a.1.2.2 a.2.1 a.2.2.1 a.2.2.2.1 a.2.2.2.2.1 a.2.2.2.2.2 b.1.1 b.1.2.1 b.1.2.2 b.2.1 b.2.2.1 b.2.2.2.1 b.2.2.2.2.1 b.2.2.2.2.2))))
 else
  t false [] [] [] [] false [] [] false [] [] [] [] false [] []
def Ai5 (n:Nat):Ent3:=⟨101,[.im (.st (.pair hI hRs)),.im hN,.im hRs,.one (.own 91 (.st (.pair hR (.pair hRs (.pair hRs hR)))))],[[.im (.st (.pair hR (.pair hRs (.pair hRs hR)))),.im hI]],λx=>A7i n x.1 x.2.1 x.2.2.1 x.2.2.2,[]⟩
def Ai6 (α:Type) (n:Nat):D3 α:={ reg:=[(2,⟨0,[],[(1,{ ent:=some (A64 n) })]⟩),(6,⟨4,[],[(3,{ ent:=some (Bo n) }),(4,{ ent:=some (Ami n) })]⟩),(8,⟨8,[],[(8,{ ent:=some (Amh n) })]⟩),(10,⟨0,[],[(2,{ ent:=some (A9n n) })]⟩),(12,⟨4,[],[(2,{ ent:=some (Bo n) }),(3,{ ent:=some (A9m n) }),(4,{ ent:=some (A9n n) })]⟩),(14,⟨0,[],[(2,{ ent:=some (A9k n) })]⟩),(16,⟨0,[],[(2,{ ent:=some (R7 n) })]⟩),(18,⟨3,[],[(2,{ ent:=some (Ame n) }),(3,{ ent:=some (A9k n) })]⟩),(20,⟨2,[],[(1,{ ent:=some (Bo n) }),(2,{ ent:=some (A9m n) })]⟩),(21,⟨0,[],[(4,{ ent:=some (Y3 n) }),(5,{ ent:=some (A5y n) })]⟩),(23,⟨0,[],[(3,{ ent:=some (Amd n) })]⟩)],join:=[(4,Aws)],loop:=[],any:=[(3,Acc)] }
set_option maxHeartbeats 8000000 in
theorem Awt (n:Nat):As TT ⟨89,[]⟩ [] Acc (A9 ((A1 Tryz.f101).at [1,1,0,1,0])):=by
 refine ⟨by kernel_rfl,λw q hq=>?_⟩
 have e:WT [] (A7 (A9 ((A1 Tryz.f101).at [1,1,0,1,0])).toList) q=(q=[]):=by kernel_rfl
 rw [e] at hq;obtain rfl:=hq
 all_goals exact .inr ⟨11,by kernel_rfl,by kernel_rfl,by kernel_rfl⟩
theorem Akl (α:Type) (n:Nat):Ao PP (Af (Ai6 α n).reg):=⟨A63 n,Co n,B07 n,B05 n,Ahe n,Co n,Ahc n,Ahe n,Ah4 n,R6 n,B00 n,Ah4 n,Co n,Ahc n,A09 n,A5x n,Azz n,trivial⟩
theorem B0o (α:Type) (n:Nat):D3.OK PP TT ⟨89,[]⟩ (Ai6 α n) (A1 Tryz.f101) :=
 D3.OK.mk3a (Akl α n) (show Aa (A1 Tryz.f101)=[] by kernel_rfl) trivial (show B1 (A1 Tryz.f101)=[(3,A9 ((A1 Tryz.f101).at [1,1,0,1,0])),(6,A9 ((A1 Tryz.f101).at [1,1,1,0,1,0,1,0,0])),(8,A9 ((A1 Tryz.f101).at [1,1,1,0,1,0,1,1,1,0,0])),(12,A9 ((A1 Tryz.f101).at [1,1,1,0,1,0,1,1,1,1,1,1,1,0,0])),(18,A9 ((A1 Tryz.f101).at [1,1,1,0,1,0,1,1,1,1,1,1,1,1,1,1,1,0,1,0])),(20,A9 ((A1 Tryz.f101).at [1,1,1,0,1,0,1,1,1,1,1,1,1,1,1,1,1,1,1,0,0]))] by kernel_rfl) ⟨⟨Awt n,trivial⟩,trivial,trivial,trivial,trivial,trivial,trivial⟩
theorem Awr (n:Nat):(Ai5 n).Sound PP:=fkB (fn:=Tryz.f101) (B0o _ n)

end Go.Ev
