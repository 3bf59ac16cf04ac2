/- DERIVED. What the functions compute, and that they do. -/
import Derived.Test.YtaebdcandpfmgaaGreatZa

set_option linter.all false
set_option linter.unusedVariables false
set_option linter.unusedSimpArgs false

namespace Go.Ev
open Go Go.Proofs Go.RowKit Go.Shelf
def Ml (n:Nat) (a0:LI):Option LI :=
 gd ((!a0.isEmpty)) (
  gd (decide ((0+a0.length)*8<=140737488355328)) (
   some a0))
def If (n:Nat):Ent3:=⟨117,[.im hIs],[[.one (.own 3 hI)]],λx=>Ml n x⟩
def Bcg (α:Type) (n:Nat):D3 α:={ reg:=[(3,⟨0,[],[(0,{ sh:=some hI })]⟩)],join:=[],loop:=[] }
theorem A50 (n:Nat):(If n).Sound PP:=A8r (fn:=Tryz.f117) (D:=Bcg _ n) trivial

def X5 {α:Type} (n:Nat) (s0o s0l:Nat) (c:LI) (d e g i a:Int) (b:LI) (f:Nat->Nat->LI->Int->Int->Int->Int->Int->LI->Option α) (k0:Nat->Nat->LI->Int->Int->Int->LI->Option α):Option α :=
 bif (decide (a<i)) then
  gd (decide (0<=a)&&decide (a<(s0l:Int))) (
   gd (decide ((s0o+a.toNat)<b.length)) (
    let j:=λ(h:Int)=>(
     let k:=λ(l:Int)=>(
      gd (decide (0<=a)&&decide (a<(s0l:Int))) (
       gd (decide ((s0o+a.toNat)<b.length)) (
        f s0o s0l c d e l i (W (a+1)) (b.set (s0o+a.toNat) (W (h-(W (l*10000))))))))
     bif (decide (h<0)) then
      k (W (Int.tdiv (W ((W (h-10000))+1)) 10000))
     else
      k 0)
    bif (decide (a<d)) then
     gd (decide (0<=a)&&decide (a<(c.length:Int))) (
      j (W ((W ((b.getD (s0o+a.toNat) 0)+g))-(W (e*(c.getD a.toNat 0))))))
    else
     j (W ((b.getD (s0o+a.toNat) 0)+g))))
 else
  k0 s0o s0l c d e g b
abbrev Pf:Tm:=⟨[(0,.hs 1000),(1,.d hIs),(5,.d hI),(7,.d hI),(8,.d hI),(50,.d hI),(51,.d hI)],[(1000,.arr 3 hI false)],[],[]⟩
abbrev As9:Tm:=⟨[(0,.hs 1000),(1,.d hIs),(5,.d hI),(7,.d hI),(8,.d hI)],[(1000,.arr 3 hI false)],[],[]⟩
abbrev X4:List (Exit × Tm):=[(.exit 0,As9)]
def X3 {α:Type} (n:Nat) (v:Pf.den) (f:Pf.den->Option α) (ks:KS α X4):Option α:=X5 n v.1.1.1 v.1.1.2 v.1.2.1 v.1.2.2.1 v.1.2.2.2.1 v.1.2.2.2.2.1 v.1.2.2.2.2.2.1 v.1.2.2.2.2.2.2.1 v.2.1 (λs0o s0l a b c d e g h=>f (((s0o,s0l),a,b,c,d,e,g,()),(h,()))) (λw0 w1 w2 w3 w4 w5 w6=>ks.1 (((w0,w1),w2,w3,w4,w5,()),(w6,())))
def G3 {α:Type} (n m:Nat) (s0o s0l:Nat) (a:LI) (b c d e f:Int) (g:LI) (k0:Nat->Nat->LI->Int->Int->Int->LI->Option α):Option α:=A5 (X3 n) m (((s0o,s0l),a,b,c,d,e,f,()),(g,())) (λw=>k0 w.1.1.1 w.1.1.2 w.1.2.1 w.1.2.2.1 w.1.2.2.2.1 w.1.2.2.2.2.1 w.2.1,())
theorem As8 {α n m s0o s0l a b c d e f g k0}:G3 (α:=α) n (m+1) s0o s0l a b c d e f g k0=X5 n s0o s0l a b c d e f g (λs0o s0l a b c d e f g=>G3 n m s0o s0l a b c d e f g k0) k0:=rfl
def T9 {α:Type} (n:Nat) (s0o s0l:Nat) (c:LI) (d g h e i a:Int) (b:LI) (f:Nat->Nat->LI->Int->Int->Int->Int->Int->Int->LI->Option α) (k0:Nat->Nat->LI->Int->Int->Int->Int->LI->Option α):Option α :=
 bif (decide (a<i)) then
  gd (decide (0<=a)&&decide (a<(s0l:Int))) (
   gd (decide ((s0o+a.toNat)<b.length)) (
    let j:=λ(k:Int)=>(
     gd (decide (0<=a)&&decide (a<(s0l:Int))) (
      gd (decide ((s0o+a.toNat)<b.length)) (
       f s0o s0l c d g h (W (Int.tdiv k 10000)) i (W (a+1)) (b.set (s0o+a.toNat) (Int.tmod k 10000)))))
    bif (decide (a<d)) then
     gd (decide (0<=a)&&decide (a<(c.length:Int))) (
      j (W ((W ((b.getD (s0o+a.toNat) 0)+e))+(c.getD a.toNat 0))))
    else
     j (W ((b.getD (s0o+a.toNat) 0)+e))))
 else
  k0 s0o s0l c d g h e b
abbrev Mg:Tm:=⟨[(0,.hs 1000),(1,.d hIs),(5,.d hI),(7,.d hI),(8,.d hI),(11,.d hI),(90,.d hI),(91,.d hI)],[(1000,.arr 3 hI false)],[],[]⟩
abbrev Amd:Tm:=⟨[(0,.hs 1000),(1,.d hIs),(5,.d hI),(7,.d hI),(8,.d hI),(11,.d hI)],[(1000,.arr 3 hI false)],[],[]⟩
abbrev T8:List (Exit × Tm):=[(.exit 4,Amd)]
def T7 {α:Type} (n:Nat) (v:Mg.den) (f:Mg.den->Option α) (ks:KS α T8):Option α:=T9 n v.1.1.1 v.1.1.2 v.1.2.1 v.1.2.2.1 v.1.2.2.2.1 v.1.2.2.2.2.1 v.1.2.2.2.2.2.1 v.1.2.2.2.2.2.2.1 v.1.2.2.2.2.2.2.2.1 v.2.1 (λs0o s0l a b c d e g h i=>f (((s0o,s0l),a,b,c,d,e,g,h,()),(i,()))) (λw0 w1 w2 w3 w4 w5 w6 w7=>ks.1 (((w0,w1),w2,w3,w4,w5,w6,()),(w7,())))
def Ia {α:Type} (n m:Nat) (s0o s0l:Nat) (a:LI) (b c d e f g:Int) (h:LI) (k0:Nat->Nat->LI->Int->Int->Int->Int->LI->Option α):Option α:=A5 (T7 n) m (((s0o,s0l),a,b,c,d,e,f,g,()),(h,())) (λw=>k0 w.1.1.1 w.1.1.2 w.1.2.1 w.1.2.2.1 w.1.2.2.2.1 w.1.2.2.2.2.1 w.1.2.2.2.2.2.1 w.2.1,())
theorem Amc {α n m s0o s0l a b c d e f g h k0}:Ia (α:=α) n (m+1) s0o s0l a b c d e f g h k0=T9 n s0o s0l a b c d e f g h (λs0o s0l a b c d e f g h=>Ia n m s0o s0l a b c d e f g h k0) k0:=rfl
def Tc {α:Type} (n:Nat) (s0o s0l:Nat) (d:LI) (e a b:Int) (c:LI) (f:Nat->Nat->LI->Int->Int->Int->LI->Option α) (k0:Int->LI->Option α):Option α :=
 bif (decide (b<0)) then
  Ia n n s0o s0l d e (W (a-1)) b 0 (s0l:Int) 0 c
   (λg h i j k l m o=>(
    f g h i j k (W (l+m)) o))
 else
  k0 a c
abbrev Mh:Tm:=⟨[(0,.hs 1000),(1,.d hIs),(5,.d hI),(7,.d hI),(8,.d hI)],[(1000,.arr 3 hI false)],[],[]⟩
abbrev Amg:Tm:=⟨[(7,.d hI)],[(1000,.arr 3 hI false)],[],[]⟩
abbrev Tb:List (Exit × Tm):=[(.exit 2,Amg)]
def Ta {α:Type} (n:Nat) (v:Mh.den) (f:Mh.den->Option α) (ks:KS α Tb):Option α:=Tc n v.1.1.1 v.1.1.2 v.1.2.1 v.1.2.2.1 v.1.2.2.2.1 v.1.2.2.2.2.1 v.2.1 (λs0o s0l a b c d e=>f (((s0o,s0l),a,b,c,d,()),(e,()))) (λw0 w1=>ks.1 ((w0,()),(w1,())))
def Ib {α:Type} (n m:Nat) (s0o s0l:Nat) (a:LI) (b c d:Int) (e:LI) (k0:Int->LI->Option α):Option α:=A5 (Ta n) m (((s0o,s0l),a,b,c,d,()),(e,())) (λw=>k0 w.1.1 w.2.1,())
theorem Ame {α n m s0o s0l a b c d e k0}:Ib (α:=α) n (m+1) s0o s0l a b c d e k0=Tc n s0o s0l a b c d e (λs0o s0l a b c d e=>Ib n m s0o s0l a b c d e k0) k0:=rfl
abbrev Axp:Tm:=⟨[(0,.hs 1000),(1,.d hIs),(5,.d hI),(7,.d hI),(9,.d hI),(10,.d hI),(50,.d hI),(51,.d hI)],[(1000,.arr 3 hI false)],[],[]⟩
abbrev Axo:Tm:=⟨[(0,.hs 1000),(1,.d hIs),(5,.d hI),(7,.d hI),(8,.d hI),(9,.d hI),(10,.d hI),(50,.d hI),(51,.d hI)],[(1000,.arr 3 hI false)],[],[]⟩
abbrev Axn:Tm:=⟨[(0,.hs 1000),(1,.d hIs),(5,.d hI),(7,.d hI),(8,.d hI),(12,.d hI),(13,.d hI),(90,.d hI),(91,.d hI)],[(1000,.arr 3 hI false)],[],[]⟩
def Af3 (n:Nat) (a0:LI × Nat × Nat) (a1:LI):Option (Int × LI) :=
 gd (decide (0<=(a1.length:Int))&&decide ((a1.length:Int)<(a0.2.2:Int))) (
  gd (decide ((a0.2.1+(a1.length:Int).toNat)<a0.1.length)) (
   gd (decide (0<=(W ((a1.length:Int)-1)))&&decide ((W ((a1.length:Int)-1))<(a0.2.2:Int))) (
    gd (decide ((a0.2.1+(W ((a1.length:Int)-1)).toNat)<a0.1.length)) (
     gd (decide (0<=(W ((a1.length:Int)-2)))&&decide ((W ((a1.length:Int)-2))<(a0.2.2:Int))) (
      gd (decide ((a0.2.1+(W ((a1.length:Int)-2)).toNat)<a0.1.length)) (
       gd (decide (0<=(W ((a1.length:Int)-1)))&&decide ((W ((a1.length:Int)-1))<(a1.length:Int))) (
        gd (decide (0<=(W ((a1.length:Int)-2)))&&decide ((W ((a1.length:Int)-2))<(a1.length:Int))) (
         gd (decide ((W ((W ((a1.getD ((W ((a1.length:Int)-1)).toNat) 0)*10000))+(a1.getD ((W ((a1.length:Int)-2)).toNat) 0))) ≠ 0)) (
          G3 n n a0.2.1 a0.2.2 a1 (a1.length:Int) (min (W (Int.tdiv (W ((W ((W ((W ((a0.1.getD (a0.2.1+(a1.length:Int).toNat) 0)*10000))+(a0.1.getD (a0.2.1+(W ((a1.length:Int)-1)).toNat) 0)))*10000))+(a0.1.getD (a0.2.1+(W ((a1.length:Int)-2)).toNat) 0))) (W ((W ((a1.getD ((W ((a1.length:Int)-1)).toNat) 0)*10000))+(a1.getD ((W ((a1.length:Int)-2)).toNat) 0))))) 9999) 0 (a0.2.2:Int) 0 a0.1
           (λa b c d e f g=>(
            Ib n n a b c d e f g
             (λh i=>(
              some (h,i))))))))))))))
def K2 (n:Nat):Ent3:=⟨234,[.one (.win 3 hI),.im hIs],[[.im hI]],λx=>Af3 n x.1 x.2⟩
def Qw (α:Type) (n:Nat):D3 α:={ reg:=[(2,⟨17,[],[]⟩),(3,⟨13,[],[]⟩)],join:=[(11,Axp),(14,Axo),(25,Axn)],loop:=[(6,⟨Pf,X4,A5 (X3 n) n⟩),(20,⟨Mg,T8,A5 (T7 n) n⟩),(16,⟨Mh,Tb,A5 (Ta n) n⟩)] }
theorem Mf (α:Type) (n:Nat):Ao PP (Ah (Qw α n).reg):=trivial
theorem Amb (α:Type) (n:Nat):LO.Sound (α:=α) PP ⟨121,[]⟩ ⟨Pf,X4,A5 (X3 n) n⟩ (.loop ((A0 Tryz.f234).at [1,1,1,1,1,0,1,0,0])):=Ba (D:=Qw α n) (Mf α n) n
theorem Ai7 (α:Type) (n:Nat):LO.Sound (α:=α) PP ⟨121,[]⟩ ⟨Mg,T8,A5 (T7 n) n⟩ (.loop ((A0 Tryz.f234).at [1,1,1,1,1,1,0,0,0,1,0,1,1,0,1,0,0])):=Ba (D:=Qw α n) (Mf α n) n
theorem Amf (α:Type) (n:Nat):D3.OK PP TT ⟨121,[]⟩ (Qw α n) ((A0 Tryz.f234).at [1,1,1,1,1,1,0,0,0]) :=
 D3.OK.mk3 (Mf α n) (show Ab ((A0 Tryz.f234).at [1,1,1,1,1,1,0,0,0])=[(20,(.loop ((A0 Tryz.f234).at [1,1,1,1,1,1,0,0,0,1,0,1,1,0,1,0,0])))] by kernel_rfl) ⟨Ad rfl (Ai7 α n),trivial⟩
theorem Ai8 (α:Type) (n:Nat):LO.Sound (α:=α) PP ⟨121,[]⟩ ⟨Mh,Tb,A5 (Ta n) n⟩ (.loop ((A0 Tryz.f234).at [1,1,1,1,1,1,0,0,0])):=lk (Amf α n) n
theorem B9w (α:Type) (n:Nat):D3.OK PP TT ⟨121,[]⟩ (Qw α n) (A0 Tryz.f234) :=
 D3.OK.mk3 (Mf α n) (show Ab (A0 Tryz.f234)=[(6,(.loop ((A0 Tryz.f234).at [1,1,1,1,1,0,1,0,0]))),(16,(.loop ((A0 Tryz.f234).at [1,1,1,1,1,1,0,0,0])))] by kernel_rfl) ⟨Ad rfl (Amb α n),Ad rfl (Ai8 α n),trivial⟩
theorem B4z (n:Nat):(K2 n).Sound PP:=Lz (fn:=Tryz.f234) (B9w _ n)

def A2g {α:Type} (n:Nat) (i:Nat) (z:Int) (d:LI) (a:LI) (c:Int) (b:LI) (f:LI->LI->Int->LI->Option α) (k0:Int->LI->Option α):Option α :=
 gd (decide (0<(a.length:Int))) (
  gd (decide ((a.getD 0 0) ≠ 0)) (
   gd (decide (0<(a.length:Int))) (
    gd (decide ((a.getD 0 0) ≠ 0)) (
     gd (decide (0<=(i:Int))&&decide ((i:Int)<(b.length:Int))) (
      gd (decide ((i:Int).toNat<b.length)) (
       f d a (Int.tmod (W ((W (c*10000))+z)) (a.getD 0 0)) (b.set ((i:Int).toNat) (W (Int.tdiv (W ((W (c*10000))+z)) (a.getD 0 0))))))))))
abbrev K4:Tm:=⟨[(3,.k (.hp 3 0 0)),(7,.k (.hp 7 0 0)),(8,.k (.hp 8 0 0)),(29,.d (.clo 235 (.ref hIs)))],[(3,.var 29 true false [.d hIs]),(7,.var 29 false false [.k (.hw 27)]),(8,.var 3 true false [.d hI]),(27,.arr 3 hI false)],[],[]⟩
abbrev Axv:Tm:=⟨[(7,.k (.hp 7 0 0)),(8,.k (.hp 8 0 0))],[(7,.var 29 false false [.k (.hw 27)]),(8,.var 3 true false [.d hI]),(27,.arr 3 hI false)],[3],[]⟩
abbrev Td:List (Exit × Tm):=[(.normal,Axv)]
def Nx (v:K4.den):List Int:=(λa b c d=>a) v.1.2.2.2.1 v.2.1.1 v.2.2.2.1.1 v.2.2.2.2.1
def Ny {α:Type} (n:Nat) (i:Nat) (z:Int) (v:K4.den) (f:K4.den->Option α) (ks:KS α Td):Option α:=A2g n i z v.1.2.2.2.1 v.2.1.1 v.2.2.2.1.1 v.2.2.2.2.1 (λa b c d=>f (((),(),(),a,()),((b,()),((),()),(c,()),d,()))) (λw0 w1=>ks.1 (((),(),()),(((),()),(w0,()),w1,())))
def Nz {α:Type} (v:K4.den) (ks:KS α Td):Option α:=(λc d a b=>ks.1 (((),(),()),(((),()),(a,()),b,()))) v.1.2.2.2.1 v.2.1.1 v.2.2.2.1.1 v.2.2.2.2.1
def Aoc {α:Type} (n:Nat) (a:LI) (b:LI) (c:Int) (d:LI) (k0:Int->LI->Option α):Option α:=Nh Nx (Ny n) Nz (((),(),(),a,()),((b,()),((),()),(c,()),d,())) (λw=>k0 w.2.2.1.1 w.2.2.2.1,())
def K3 {α:Type} (n:Nat) (zs:List Int) (i:Nat) (a:LI) (b:LI) (c:Int) (d:LI) (k0:Int->LI->Option α):Option α:=Ni Nx (Ny n) zs i (((),(),(),a,()),((b,()),((),()),(c,()),d,())) (λv=>Nz v (λw=>k0 w.2.2.1.1 w.2.2.2.1,())) (λw=>k0 w.2.2.1.1 w.2.2.2.1,())
theorem Axt {α:Type} (n:Nat) (a:LI) (b:LI) (c:Int) (d:LI) (k0:Int->LI->Option α):Aoc (α:=α) n a b c d k0=gd (decide (a.length<=4611686018427387904)) (K3 n a a.length a b c d k0):=rfl
theorem Axu {α:Type} (n:Nat) (zs:List Int) (c:LI) (d:LI) (a:Int) (b:LI) (k0:Int->LI->Option α):K3 (α:=α) n zs 0 c d a b k0=k0 a b:=rfl
theorem Axs {α:Type} (n:Nat) (zs:List Int) (i:Nat) (a:LI) (b:LI) (c:Int) (d:LI) (k0:Int->LI->Option α):K3 (α:=α) n zs (i+1) a b c d k0=A2g n i (zs.getD i 0) a b c d (λa b c d=>gd (decide (a=zs)) (K3 n zs i a b c d k0)) k0:=rfl
def Pi {α:Type} (n:Nat) (b a:Int) (g c d:LI) (f:Int->Int->LI->LI->LI->Option α) (k0:LI->LI->Option α):Option α :=
 bif (decide (a>=0)) then
  gd (decide (0<=a)&&decide (a<=(W ((W (a+b))+1)))&&decide ((W ((W (a+b))+1))<=(d.length:Int))) (
   ob (Af3 n (d,a.toNat,((W ((W (a+b))+1)).toNat-a.toNat)) g) λe =>
   gd (Nat.beq e.2.length d.length&&true) (
    gd (decide (0<=a)&&decide (a<(c.length:Int))) (
     gd (decide (a.toNat<c.length)) (
      f b (W (a-1)) g (c.set a.toNat e.1) e.2))))
 else
  k0 c d
abbrev Ph:Tm:=⟨[(3,.k (.hp 3 0 0)),(6,.d hI),(11,.k (.hw 310)),(12,.k (.hw 62)),(13,.d hI)],[(3,.var 29 true false [.d hIs]),(62,.arr 3 hI false),(310,.arr 3 hI false)],[55],[]⟩
abbrev Ase:Tm:=⟨[(11,.k (.hw 310)),(12,.k (.hw 62))],[(62,.arr 3 hI false),(310,.arr 3 hI false)],[3],[]⟩
abbrev X7:List (Exit × Tm):=[(.exit 2,Ase)]
def X6 {α:Type} (n:Nat) (v:Ph.den) (f:Ph.den->Option α) (ks:KS α X7):Option α:=Pi n v.1.2.1 v.1.2.2.2.2.1 v.2.1.1 v.2.2.1 v.2.2.2.1 (λa b c d e=>f (((),a,(),(),b,()),((c,()),d,e,()))) (λw0 w1=>ks.1 (((),(),()),(w0,w1,())))
def Te {α:Type} (n m:Nat) (a b:Int) (c d e:LI) (k0:LI->LI->Option α):Option α:=A5 (X6 n) m (((),a,(),(),b,()),((c,()),d,e,())) (λw=>k0 w.2.1 w.2.2.1,())
theorem A6n {α n m a b c d e k0}:Te (α:=α) n (m+1) a b c d e k0=Pi n a b c d e (λa b c d e=>Te n m a b c d e k0) k0:=rfl
abbrev Aie:Tm:=⟨[(3,.k (.hp 3 0 0)),(7,.k (.hp 7 0 0)),(8,.k (.hp 8 0 0)),(9,.d hI),(10,.d hI),(29,.d (.clo 235 (.ref hIs))),(30,.d hI),(31,.d hI)],[(3,.var 29 true false [.d hIs]),(7,.var 29 false false [.k (.hw 27)]),(8,.var 3 true false [.d hI]),(27,.arr 3 hI false)],[],[]⟩
abbrev Aid:Tm:=⟨[(7,.k (.hp 7 0 0)),(8,.k (.hp 8 0 0))],[(7,.var 29 false false [.k (.hw 27)]),(8,.var 3 true false [.d hI]),(27,.arr 3 hI false)],[],[]⟩
abbrev Aic:Tm:=⟨[(0,.d hIs),(3,.k (.hp 3 0 0)),(6,.d hI)],[(3,.var 29 true false [.d hIs])],[],[]⟩
abbrev Aib:Tm:=⟨[(3,.k (.hp 3 0 0)),(6,.d hI),(11,.k (.hw 310)),(12,.k (.hw 62)),(13,.d hI)],[(3,.var 29 true false [.d hIs]),(62,.arr 3 hI false),(310,.arr 3 hI false)],[],[]⟩
def f227 (n:Nat) (a0 a1:LI):Option (LI × LI) :=
 ob (f203 n a0 a1) λb =>
 bif (decide (b<0)) then
  ob (f117 n a0) λc =>
  some ([],c)
 else
  bif ((a1.length:Int)==1) then
   gd (decide (0<=(a0.length:Int))&&decide ((a0.length:Int)<=4611686018427387904)&&decide ((8:Int)*(a0.length:Int)<=281474976710656)) (
    ob (f228 n a0) λd =>
    Aoc n d a1 0 (List.replicate ((a0.length:Int).toNat) 0)
     (λe f=>(
      ob (f225 n f) λg =>
      ob (f179 n e) λh =>
      some (g,h))))
  else
   ob (Ml n a0) λa =>
   gd (decide ((a.length+1)*8<=140737488355328)) (
    gd (decide (0<=(W ((W ((a0.length:Int)-(a1.length:Int)))+1)))&&decide ((W ((W ((a0.length:Int)-(a1.length:Int)))+1))<=4611686018427387904)&&decide ((8:Int)*(W ((W ((a0.length:Int)-(a1.length:Int)))+1))<=281474976710656)) (
     Te n n (a1.length:Int) (W ((a0.length:Int)-(a1.length:Int))) a1 (List.replicate ((W ((W ((a0.length:Int)-(a1.length:Int)))+1)).toNat) 0) (a++[0])
      (λi j=>(
       ob (f225 n i) λk =>
       ob (f225 n j) λl =>
       some (k,l)))))
def A6o (n:Nat):Ent:=⟨227,[hIs,hIs],[hIs,hIs],λx=>f227 n x.1 x.2⟩
def X8 (α:Type) (n:Nat):D3 α:={ reg:=[(1,⟨0,[],[(2,{ ent:=some (Xn n) })]⟩),(2,⟨0,[],[(0,{ sh:=some hI }),(2,{ ent:=some (Lg n) })]⟩),(6,⟨0,[],[(1,{ ent:=some (Aia n) })]⟩),(11,⟨0,[],[(1,{ ent:=some (Hd n),fz:=[(49,hIs)] }),(3,{ ent:=some (Le n) })]⟩),(12,⟨0,[],[(1,{ entB:=some (If n),hb:=310 }),(2,{ sh:=some hI })]⟩),(16,⟨0,[],[(10,{ entB:=some (K2 n),hb:=320 })]⟩),(17,⟨0,[],[(1,{ ent:=some (Hd n),fz:=[(83,hIs)] }),(3,{ ent:=some (Hd n),fz:=[(85,hIs)] })]⟩)],join:=[],loop:=[(7,⟨K4,Td,Nh Nx (Ny n) Nz⟩),(14,⟨Ph,X7,A5 (X6 n) n⟩)],any:=[(10,Aie),(11,Aid),(12,Aic),(16,Aib)] }
set_option maxHeartbeats 8000000 in
theorem B53 (n:Nat):Al TT ⟨87,[]⟩ [] Aie (A6 ((A0 Tryz.f227).at [1,1,1,0,1,0,1,0,1,0,1,0,1])):=by
 refine ⟨by kernel_rfl,λw q hq=>?_⟩
 have e:WT [] (A7 (A6 ((A0 Tryz.f227).at [1,1,1,0,1,0,1,0,1,0,1,0,1])).toList) q=(q=[]):=by kernel_rfl
 rw [e] at hq;obtain rfl:=hq
 all_goals exact .inr ⟨14,by kernel_rfl,by kernel_rfl,by kernel_rfl⟩
set_option maxHeartbeats 8000000 in
theorem B52 (n:Nat):Al TT ⟨87,[]⟩ [(1,{ ent:=some (Hd n),fz:=[(49,hIs)] }),(3,{ ent:=some (Le n) })] Aid (A6 ((A0 Tryz.f227).at [1,1,1,0,1,0,1,1,0])):=by
 refine ⟨by kernel_rfl,λw q hq=>?_⟩
 have e:WT [(1,{ ent:=some (Hd n),fz:=[(49,hIs)] }),(3,{ ent:=some (Le n) })] (A7 (A6 ((A0 Tryz.f227).at [1,1,1,0,1,0,1,1,0])).toList) q=(∃ (y0:HL (Hd n).rs) (q0:List (Nat × RV)),q=(1,.sv (Ai (Hd n).rs y0))::q0 /\ ∃ (y1:HL (Le n).rs) (q1:List (Nat × RV)),q0=(3,.sv (Ai (Le n).rs y1))::q1/\q1=[]):=by kernel_rfl
 rw [e] at hq;obtain ⟨y0,q0,rfl,y1,q1,rfl,rfl⟩:=hq
 all_goals exact .inl (Gs.mk (by kernel_rfl))
set_option maxHeartbeats 8000000 in
theorem B51 (n:Nat):Al TT ⟨87,[]⟩ [(1,{ entB:=some (If n),hb:=310 }),(2,{ sh:=some hI })] Aic (A6 ((A0 Tryz.f227).at [1,1,1,1,0])):=by
 refine ⟨by kernel_rfl,λw q hq=>?_⟩
 have e:WT [(1,{ entB:=some (If n),hb:=310 }),(2,{ sh:=some hI })] (A7 (A6 ((A0 Tryz.f227).at [1,1,1,1,0])).toList) q=(∃ (y0:HF (Ap 1000 (If n).ts) (If n).forms) (q0:List (Nat × RV)),q=(1,.bx (If n) y0)::q0/\q0=[]):=by kernel_rfl
 rw [e] at hq;obtain ⟨y0,q0,rfl,rfl⟩:=hq
 all_goals exact .inl (Gs.mk (by kernel_rfl))
set_option maxHeartbeats 8000000 in
theorem Aif (n:Nat):Al TT ⟨87,[]⟩ [(10,{ entB:=some (K2 n),hb:=320 })] Aib (A6 ((A0 Tryz.f227).at [1,1,1,1,1,0,1,0,0,1,0,0])):=by
 refine ⟨by kernel_rfl,λw q hq=>?_⟩
 have e:WT [(10,{ entB:=some (K2 n),hb:=320 })] (A7 (A6 ((A0 Tryz.f227).at [1,1,1,1,1,0,1,0,0,1,0,0])).toList) q=(∃ (y0:HF (Ap 1000 (K2 n).ts) (K2 n).forms) (q0:List (Nat × RV)),q=(10,.bx (K2 n) y0)::q0/\q0=[]):=by kernel_rfl
 rw [e] at hq;obtain ⟨y0,q0,rfl,rfl⟩:=hq
 all_goals exact .inr ⟨11,by kernel_rfl,by kernel_rfl,by kernel_rfl⟩
theorem Pg (α:Type) (n:Nat):Ao PP (Ah (X8 α n).reg):=⟨Zu n,Kb n,Aob n,Qx n,Aal n,A50 n,B4z n,Qx n,Qx n,trivial⟩
theorem Asc (α:Type) (n:Nat):D3.OK PP TT ⟨87,[]⟩ (X8 α n) ((A0 Tryz.f227).at [1,1,1,0,1,0,1,0,1,0,0]) :=
 D3.OK.mk3a (Pg α n) (show Ab ((A0 Tryz.f227).at [1,1,1,0,1,0,1,0,1,0,0])=[] by kernel_rfl) trivial (show Au ((A0 Tryz.f227).at [1,1,1,0,1,0,1,0,1,0,0])=[] by kernel_rfl) trivial
theorem Asb (α:Type) (n:Nat):D3.OK PP TT ⟨87,[]⟩ (X8 α n) ((A0 Tryz.f227).at [1,1,1,0,1,0,1,0,1,0,1]) :=
 D3.OK.mk3a (Pg α n) (show Ab ((A0 Tryz.f227).at [1,1,1,0,1,0,1,0,1,0,1])=[] by kernel_rfl) trivial (show Au ((A0 Tryz.f227).at [1,1,1,0,1,0,1,0,1,0,1])=[(10,A6 ((A0 Tryz.f227).at [1,1,1,0,1,0,1,0,1,0,1,0,1]))] by kernel_rfl) ⟨⟨B53 n,trivial⟩,trivial⟩
theorem Asa (α:Type) (n:Nat):LO.Sound (α:=α) PP ⟨87,[]⟩ ⟨K4,Td,Nh Nx (Ny n) Nz⟩ (.rangeFunc (.tmp 29) #[30,31] ((A0 Tryz.f227).at [1,1,1,0,1,0,1,0,1,0,0]) ((A0 Tryz.f227).at [1,1,1,0,1,0,1,0,1,0,1])) :=
 Ag5 (Qi _) Nj Nx (Ny n) Nz Aq1 rfl rfl rfl rfl (Asc α n) (Asb α n) (by intro v;rfl) (by intro i z v f ks;kernel_rfl) (by intro v ks;kernel_rfl)
theorem Asd (α:Type) (n:Nat):D3.OK PP TT ⟨87,[]⟩ (X8 α n) ((A0 Tryz.f227).at [1,1,1,1,1,0,1,0,0]) :=
 D3.OK.mk3a (Pg α n) (show Ab ((A0 Tryz.f227).at [1,1,1,1,1,0,1,0,0])=[] by kernel_rfl) trivial (show Au ((A0 Tryz.f227).at [1,1,1,1,1,0,1,0,0])=[(16,A6 ((A0 Tryz.f227).at [1,1,1,1,1,0,1,0,0,1,0,0]))] by kernel_rfl) ⟨⟨Aif n,trivial⟩,trivial⟩
theorem Amh (α:Type) (n:Nat):LO.Sound (α:=α) PP ⟨87,[]⟩ ⟨Ph,X7,A5 (X6 n) n⟩ (.loop ((A0 Tryz.f227).at [1,1,1,1,1,0,1,0,0])):=lk (Asd α n) n
theorem Bfb (α:Type) (n:Nat):D3.OK PP TT ⟨87,[]⟩ (X8 α n) (A0 Tryz.f227) :=
 D3.OK.mk3a (Pg α n) (show Ab (A0 Tryz.f227)=[(7,(.rangeFunc (.tmp 29) #[30,31] ((A0 Tryz.f227).at [1,1,1,0,1,0,1,0,1,0,0]) ((A0 Tryz.f227).at [1,1,1,0,1,0,1,0,1,0,1]))),(14,(.loop ((A0 Tryz.f227).at [1,1,1,1,1,0,1,0,0])))] by kernel_rfl) ⟨Ad rfl (Asa α n),Ad rfl (Amh α n),trivial⟩ (show Au (A0 Tryz.f227)=[(11,A6 ((A0 Tryz.f227).at [1,1,1,0,1,0,1,1,0])),(12,A6 ((A0 Tryz.f227).at [1,1,1,1,0])),(16,A6 ((A0 Tryz.f227).at [1,1,1,1,1,0,1,0,0,1,0,0]))] by kernel_rfl) ⟨⟨B52 n,trivial⟩,⟨B51 n,trivial⟩,⟨Aif n,trivial⟩,trivial⟩
theorem Aa8 (n:Nat):(A6o n).Sound PP:=fk (fn:=Tryz.f227) (Bfb _ n)

def A2j {α:Type} (n:Nat) (b a:LI) (f:LI->LI->Option α) (k0:LI->Option α):Option α :=
 bif (decide ((a.length:Int)>0)) then
  ob (f227 n b a) λc =>
  f a c.2
 else
  k0 b
abbrev Tf:Tm:=⟨[(0,.d hIs),(1,.d hIs)],[],[],[]⟩
abbrev Axw:Tm:=⟨[(0,.d hIs)],[],[],[]⟩
abbrev A2i:List (Exit × Tm):=[(.exit 0,Axw)]
def A2h {α:Type} (n:Nat) (v:Tf.den) (f:Tf.den->Option α) (ks:KS α A2i):Option α:=A2j n v.1.1 v.1.2.1 (λa b=>f ((a,b,()),())) (λw0=>ks.1 ((w0,()),()))
def K5 {α:Type} (n m:Nat) (a b:LI) (k0:LI->Option α):Option α:=A5 (A2h n) m ((a,b,()),()) (λw=>k0 w.1.1,())
theorem Acm {α n m a b k0}:K5 (α:=α) n (m+1) a b k0=A2j n a b (λa b=>K5 n m a b k0) k0:=rfl
def f226 (n:Nat) (a0 a1:LI):Option LI :=
 K5 n n a0 a1
  (λa=>(
   some a))
def Aig (n:Nat):Ent:=⟨226,[hIs,hIs],[hIs],λx=>f226 n x.1 x.2⟩
def Aih (α:Type) (n:Nat):D3 α:={ reg:=[(2,⟨0,[],[(2,{ ent:=some (A6o n) })]⟩)],join:=[],loop:=[(1,⟨Tf,A2i,A5 (A2h n) n⟩)] }
theorem Acl (α:Type) (n:Nat):Ao PP (Ah (Aih α n).reg):=⟨Aa8 n,trivial⟩
theorem Asf (α:Type) (n:Nat):LO.Sound (α:=α) PP ⟨19,[]⟩ ⟨Tf,A2i,A5 (A2h n) n⟩ (.loop ((A0 Tryz.f226).at [1,0,0,0])):=Ba (D:=Aih α n) (Acl α n) n
theorem Bfc (α:Type) (n:Nat):D3.OK PP TT ⟨19,[]⟩ (Aih α n) (A0 Tryz.f226) :=
 D3.OK.mk3 (Acl α n) (show Ab (A0 Tryz.f226)=[(1,(.loop ((A0 Tryz.f226).at [1,0,0,0])))] by kernel_rfl) ⟨Ad rfl (Asf α n),trivial⟩
theorem Aod (n:Nat):(Aig n).Sound PP:=fk (fn:=Tryz.f226) (Bfc _ n)

def f180 (n:Nat)  : Option LI :=
 some [1]
def Ra (n:Nat):Ent:=⟨180,[],[hIs],λ_=>f180 n⟩
def Bge (α:Type) (n:Nat):D3 α:={ reg:=[(1,⟨0,[],[(0,{ sh:=some hI })]⟩)],join:=[],loop:=[] }
theorem R9 (n:Nat):(Ra n).Sound PP:=Ay (fn:=Tryz.f180) (D:=Bge _ n) trivial

abbrev Ba7:Tm:=⟨[(1,.k (.hp 1 0 0))],[(1,.var 31 true false [.d .bool,.d hIs,.d hIs])],[],[]⟩
def f215 (n:Nat) (a0:Rq):Option Bool :=
 let a:=λ(_:Unit)=>(
  ob (f226 n a0.2.1 a0.2.2) λb =>
  ob (f180 n) λc =>
  ob (f203 n b c) λd =>
  some (d==0))
 ob (f231 n a0.2.1) λe =>
 bif (!e) then
  some false
 else
  ob (f231 n a0.2.2) λf =>
  bif (!f) then
   some false
  else
   bif ((a0.2.2.length:Int)==0) then
    some false
   else
    bif a0.1 then
     ob (f195 n a0) λg =>
     bif g then
      some false
     else
      a ()
    else
     a ()
def Ay9 (n:Nat):Ent:=⟨215,[hR],[.bool],λx=>f215 n x⟩
def Bfm (α:Type) (n:Nat):D3 α:={ reg:=[(1,⟨0,[],[(2,{ ent:=some (Ai9 n) }),(7,{ ent:=some (Ai9 n) }),(21,{ ent:=some (Od n) })]⟩),(3,⟨0,[],[(4,{ ent:=some (Aig n) }),(5,{ ent:=some (Ra n) }),(6,{ ent:=some (Xn n) })]⟩)],join:=[(3,Ba7)],loop:=[] }
theorem Ba5 (n:Nat):(Ay9 n).Sound PP:=Ay (fn:=Tryz.f215) (D:=Bfm _ n) ⟨Ao9 n,Ao9 n,N0 n,Aod n,R9 n,Zu n,trivial⟩

def f214 (n:Nat) (a0:Rq):Option Bool :=
 ob (f215 n a0) λa =>
 some (!a)
def Aya (n:Nat):Ent:=⟨214,[hR],[.bool],λx=>f214 n x⟩
def Bfn (α:Type) (n:Nat):D3 α:={ reg:=[(1,⟨0,[],[(1,{ ent:=some (Ay9 n) })]⟩)],join:=[],loop:=[] }
theorem Ba8 (n:Nat):(Aya n).Sound PP:=Ay (fn:=Tryz.f214) (D:=Bfn _ n) ⟨Ba5 n,trivial⟩

def Oh {α:Type} (n:Nat) (b:LR) (c a:Int) (f:LR->Int->Int->Option α) (k0:Int->Option α) (k1:Unit->Option α):Option α :=
 bif (decide (a<c)) then
  gd (decide (0<=a)&&decide (a<(b.length:Int))) (
   let d:=b.getD a.toNat (false,[],[])
   ob (f214 n d) λe =>
   bif e then
    k0 a
   else
    f b c (W (a+1)))
 else
  k1 ()
abbrev J2:Tm:=⟨[(0,.d hRs),(1,.d (.fn 214)),(7,.d hI),(8,.d hI)],[],[],[]⟩
abbrev Aei:Tm:=⟨[(4,.d hI)],[],[],[]⟩
abbrev Aeh:Tm:=⟨[],[],[],[]⟩
abbrev Og:List (Exit × Tm):=[(.ret,Aei),(.exit 0,Aeh)]
def Of {α:Type} (n:Nat) (v:J2.den) (f:J2.den->Option α) (ks:KS α Og):Option α:=Oh n v.1.1 v.1.2.2.1 v.1.2.2.2.1 (λa b c=>f ((a,(),b,c,()),())) (λw0=>ks.1 ((w0,()),())) (λ_=>ks.2.1 ((),()))
def Hh {α:Type} (n m:Nat) (a:LR) (b c:Int) (k0:Int->Option α) (k1:Unit->Option α):Option α:=A5 (Of n) m ((a,(),b,c,()),()) (λw=>k0 w.1.1,λw=>k1 (),())
theorem Aeg {α n m a b c k0 k1}:Hh (α:=α) n (m+1) a b c k0 k1=Oh n a b c (λa b c=>Hh n m a b c k0 k1) k0 k1:=rfl
def A49 (n:Nat) (a0:LR) (a1:Unit):Option Int :=
 Hh n n a0 (a0.length:Int) 0
  (λa=>(
   some a))
  (λ(_:Unit)=>(
   some (-1)))
def A7d (n:Nat):Ent:=⟨182,[hRs,(.fn 214)],[hI],λx=>A49 n x.1 x.2⟩
def U3 (α:Type) (n:Nat):D3 α:={ reg:=[(4,⟨0,[],[(5,{ ent:=some (Aya n) })]⟩)],join:=[],loop:=[(2,⟨J2,Og,A5 (Of n) n⟩)] }
theorem Vo (α:Type) (n:Nat):Ao PP (Ah (U3 α n).reg):=⟨Ba8 n,trivial⟩
theorem Aaj (α:Type) (n:Nat):LO.Sound (α:=α) PP ⟨19,[]⟩ ⟨J2,Og,A5 (Of n) n⟩ (.loop ((A0 Tryz.f182).at [1,0,1,0,0])):=Ba (D:=U3 α n) (Vo α n) n
theorem Atf (α:Type) (n:Nat):D3.OK PP TT ⟨19,[]⟩ (U3 α n) (A0 Tryz.f182) :=
 D3.OK.mk3 (Vo α n) (show Ab (A0 Tryz.f182)=[(2,(.loop ((A0 Tryz.f182).at [1,0,1,0,0])))] by kernel_rfl) ⟨Ad rfl (Aaj α n),trivial⟩
theorem Amm (n:Nat):(A7d n).Sound PP:=fk (fn:=Tryz.f182) (Atf _ n)

def Ub (n:Nat) (a0:LR) (a1:Unit):Option Bool :=
 ob (A49 n a0 a1) λa =>
 some (decide (a>=0))
def A7j (n:Nat):Ent:=⟨129,[hRs,(.fn 214)],[.bool],λx=>Ub n x.1 x.2⟩
def Atp (α:Type) (n:Nat):D3 α:={ reg:=[(1,⟨0,[],[(2,{ ent:=some (A7d n) })]⟩)],join:=[],loop:=[] }
theorem Amq (n:Nat):(A7j n).Sound PP:=Ay (fn:=Tryz.f129) (D:=Atp _ n) ⟨Amm n,trivial⟩

def f173 (n:Nat) (a0:LR):Option Int :=
 ob (Ub n a0 ()) λa =>
 ob (f114 n (!a) 1) λb =>
 some b
def B05 (n:Nat):Ent:=⟨173,[hRs],[hI],λx=>f173 n x⟩
def Bgk (α:Type) (n:Nat):D3 α:={ reg:=[(1,⟨0,[],[(1,{ ent:=some (A7j n) }),(3,{ ent:=some (G6 n) })]⟩)],join:=[],loop:=[] }
theorem Bbq (n:Nat):(B05 n).Sound PP:=Ay (fn:=Tryz.f173) (D:=Bgk _ n) ⟨Amq n,N7 n,trivial⟩

def f115 (n:Nat) (a0:LR):Option Bool :=
 bif (decide ((a0.length:Int)>=1)) then
  bif (decide ((a0.length:Int)<=4)) then
   ob (f173 n a0) λa =>
   some (a==0)
  else
   some false
 else
  some false
def Om (n:Nat):Ent:=⟨115,[hRs],[.bool],λx=>f115 n x⟩
def Bhg (α:Type) (n:Nat):D3 α:={ reg:=[(1,⟨0,[],[(10,{ ent:=some (B05 n) })]⟩)],join:=[],loop:=[] }
theorem Apr (n:Nat):(Om n).Sound PP:=Ay (fn:=Tryz.f115) (D:=Bhg _ n) ⟨Bbq n,trivial⟩

def A9q {α:Type} (n:Nat) (b:LI) (c a:Int) (f:LI->Int->Int->Option α) (k0:Int->Option α) (k1:Unit->Option α):Option α :=
 bif (decide (a<c)) then
  gd (decide (0<=a)&&decide (a<(b.length:Int))) (
   bif ((b.getD a.toNat 0) != 0) then
    k0 (b.getD a.toNat 0)
   else
    f b c (W (a+1)))
 else
  k1 ()
abbrev Zf:Tm:=⟨[(5,.d hIs),(6,.d hI),(7,.d hI)],[],[],[]⟩
abbrev B4m:Tm:=⟨[(2,.d hI)],[],[],[]⟩
abbrev B4l:Tm:=⟨[],[],[],[]⟩
abbrev A9p:List (Exit × Tm):=[(.ret,B4m),(.exit 0,B4l)]
def A9o {α:Type} (n:Nat) (v:Zf.den) (f:Zf.den->Option α) (ks:KS α A9p):Option α:=A9q n v.1.1 v.1.2.1 v.1.2.2.1 (λa b c=>f ((a,b,c,()),())) (λw0=>ks.1 ((w0,()),())) (λ_=>ks.2.1 ((),()))
def A6f {α:Type} (n m:Nat) (a:LI) (b c:Int) (k0:Int->Option α) (k1:Unit->Option α):Option α:=A5 (A9o n) m ((a,b,c,()),()) (λw=>k0 w.1.1,λw=>k1 (),())
theorem B4k {α n m a b c k0 k1}:A6f (α:=α) n (m+1) a b c k0 k1=A9q n a b c (λa b c=>A6f n m a b c k0 k1) k0 k1:=rfl
def f64 (n:Nat) (a0:LI):Option Int :=
 A6f n n a0 (a0.length:Int) 0
  (λa=>(
   some a))
  (λ(_:Unit)=>(
   some 0))
def Gl (n:Nat):Ent:=⟨64,[hIs],[hI],λx=>f64 n x⟩
def Aru (α:Type) (n:Nat):D3 α:={ reg:=[],join:=[],loop:=[(2,⟨Zf,A9p,A5 (A9o n) n⟩)] }
theorem Ahn (α:Type) (n:Nat):Ao PP (Ah (Aru α n).reg):=trivial
theorem Ax2 (α:Type) (n:Nat):LO.Sound (α:=α) PP ⟨15,[]⟩ ⟨Zf,A9p,A5 (A9o n) n⟩ (.loop ((A0 Tryz.f64).at [1,0,1,0,0])):=Ba (D:=Aru α n) (Ahn α n) n
theorem Bj3 (α:Type) (n:Nat):D3.OK PP TT ⟨15,[]⟩ (Aru α n) (A0 Tryz.f64) :=
 D3.OK.mk3 (Ahn α n) (show Ab (A0 Tryz.f64)=[(2,(.loop ((A0 Tryz.f64).at [1,0,1,0,0])))] by kernel_rfl) ⟨Ad rfl (Ax2 α n),trivial⟩
theorem A6e (n:Nat):(Gl n).Sound PP:=fk (fn:=Tryz.f64) (Bj3 _ n)

def A53 {α:Type} (n:Nat) (c:Int) (b:LN) (d a:Int) (f:Int->LN->Int->Int->Option α) (k0:Int->Option α):Option α :=
 bif (decide (a<d)) then
  gd (decide (0<=a)&&decide (a<(b.length:Int))) (
   let e:=b.getD a.toNat (0,0,0,0)
   bif (e.1==2) then
    f (max c (W (e.2.2.2+1))) b d (W (a+1))
   else
    f c b d (W (a+1)))
 else
  k0 c
abbrev Ug:Tm:=⟨[(3,.d hI),(6,.d hNs),(7,.d hI),(8,.d hI)],[],[5],[]⟩
abbrev B12:Tm:=⟨[(3,.d hI)],[],[],[]⟩
abbrev A52:List (Exit × Tm):=[(.exit 0,B12)]
def A51 {α:Type} (n:Nat) (v:Ug.den) (f:Ug.den->Option α) (ks:KS α A52):Option α:=A53 n v.1.1 v.1.2.1 v.1.2.2.1 v.1.2.2.2.1 (λa b c d=>f ((a,b,c,d,()),())) (λw0=>ks.1 ((w0,()),()))
def A0a {α:Type} (n m:Nat) (a:Int) (b:LN) (c d:Int) (k0:Int->Option α):Option α:=A5 (A51 n) m ((a,b,c,d,()),()) (λw=>k0 w.1.1,())
theorem B11 {α n m a b c d k0}:A0a (α:=α) n (m+1) a b c d k0=A53 n a b c d (λa b c d=>A0a n m a b c d k0) k0:=rfl
def f116 (n:Nat) (a0:LN):Option Int :=
 A0a n n 0 a0 (a0.length:Int) 0
  (λa=>(
   some a))
def B13 (n:Nat):Ent:=⟨116,[hNs],[hI],λx=>f116 n x⟩
def Akm (α:Type) (n:Nat):D3 α:={ reg:=[],join:=[],loop:=[(3,⟨Ug,A52,A5 (A51 n) n⟩)] }
theorem Ads (α:Type) (n:Nat):Ao PP (Ah (Akm α n).reg):=trivial
theorem Atv (α:Type) (n:Nat):LO.Sound (α:=α) PP ⟨22,[]⟩ ⟨Ug,A52,A5 (A51 n) n⟩ (.loop ((A0 Tryz.f116).at [1,1,0,1,0,0])):=Ba (D:=Akm α n) (Ads α n) n
theorem Bhf (α:Type) (n:Nat):D3.OK PP TT ⟨22,[]⟩ (Akm α n) (A0 Tryz.f116) :=
 D3.OK.mk3 (Ads α n) (show Ab (A0 Tryz.f116)=[(3,(.loop ((A0 Tryz.f116).at [1,1,0,1,0,0])))] by kernel_rfl) ⟨Ad rfl (Atv α n),trivial⟩
theorem Bch (n:Nat):(B13 n).Sound PP:=fk (fn:=Tryz.f116) (Bhf _ n)

abbrev Apu:Tm:=⟨[(1,.d hRs),(2,.k (.hp 2 0 0))],[(2,.var 65 true false [.d hNs,.d hI])],[],[]⟩
def f103 (n:Nat) (a0:LN × Int) (a1:LR):Option Int :=
 ob (f65 n [a1]) λb =>
 ob (f166 n a0) λc =>
 ob (f115 n a1) λd =>
 ob (f114 n d 1) λe =>
 ob (f64 n [b,c,e]) λa =>
 bif (a != 0) then
  ob (f114 n true 8) λf =>
  ob (f64 n [a,f]) λg =>
  some g
 else
  ob (f116 n a0.1) λh =>
  ob (f114 n (decide ((a1.length:Int)>=h)) 8) λi =>
  ob (f64 n [a,i]) λj =>
  some j
def Ov (n:Nat):Ent:=⟨103,[(.st (.pair hNs hI)),hRs],[hI],λx=>f103 n x.1 x.2⟩
def B1e (α:Type) (n:Nat):D3 α:={ reg:=[(1,⟨0,[],[(1,{ sh:=some hRs }),(2,{ ent:=some (Ix n) }),(4,{ ent:=some (Re n) }),(6,{ ent:=some (Om n) }),(7,{ ent:=some (G6 n) }),(8,{ sh:=some hI }),(9,{ ent:=some (Gl n) })]⟩),(2,⟨0,[],[(8,{ ent:=some (B13 n) }),(11,{ ent:=some (G6 n) }),(12,{ sh:=some hI }),(13,{ ent:=some (Gl n) })]⟩)],join:=[],loop:=[],any:=[(1,Apu)] }
set_option maxHeartbeats 8000000 in
theorem Bco (n:Nat):Al TT ⟨30,[]⟩ [(1,{ sh:=some hRs }),(2,{ ent:=some (Ix n) }),(4,{ ent:=some (Re n) }),(6,{ ent:=some (Om n) }),(7,{ ent:=some (G6 n) }),(8,{ sh:=some hI }),(9,{ ent:=some (Gl n) })] Apu (A6 ((A0 Tryz.f103).at [1,0])):=by
 refine ⟨by kernel_rfl,λw q hq=>?_⟩
 have e:WT [(1,{ sh:=some hRs }),(2,{ ent:=some (Ix n) }),(4,{ ent:=some (Re n) }),(6,{ ent:=some (Om n) }),(7,{ ent:=some (G6 n) }),(8,{ sh:=some hI }),(9,{ ent:=some (Gl n) })] (A7 (A6 ((A0 Tryz.f103).at [1,0])).toList) q=(∃ (y0:HL (Ix n).rs) (q0:List (Nat × RV)),q=(2,.sv (Ai (Ix n).rs y0))::q0 /\ ∃ (y1:HL (Re n).rs) (q1:List (Nat × RV)),q0=(4,.sv (Ai (Re n).rs y1))::q1 /\ ∃ (y2:HL (Om n).rs) (q2:List (Nat × RV)),q1=(6,.sv (Ai (Om n).rs y2))::q2 /\ ∃ (y3:HL (G6 n).rs) (q3:List (Nat × RV)),q2=(7,.sv (Ai (G6 n).rs y3))::q3 /\ ∃ (y4:HL (Gl n).rs) (q4:List (Nat × RV)),q3=(9,.sv (Ai (Gl n).rs y4))::q4/\q4=[]):=by kernel_rfl
 rw [e] at hq;obtain ⟨y0,q0,rfl,y1,q1,rfl,y2,q2,rfl,y3,q3,rfl,y4,q4,rfl,rfl⟩:=hq
 all_goals exact .inr ⟨6,by kernel_rfl,by kernel_rfl,by kernel_rfl⟩
theorem B1d (α:Type) (n:Nat):Ao PP (Ah (B1e α n).reg):=⟨Ax0 n,Bbt n,Apr n,N7 n,A6e n,Bch n,N7 n,A6e n,trivial⟩
theorem Bhm (α:Type) (n:Nat):D3.OK PP TT ⟨30,[]⟩ (B1e α n) (A0 Tryz.f103) :=
 D3.OK.mk3a (B1d α n) (show Ab (A0 Tryz.f103)=[] by kernel_rfl) trivial (show Au (A0 Tryz.f103)=[(1,A6 ((A0 Tryz.f103).at [1,0]))] by kernel_rfl) ⟨⟨Bco n,trivial⟩,trivial⟩
theorem Apt (n:Nat):(Ov n).Sound PP:=fk (fn:=Tryz.f103) (Bhm _ n)

def f66 (n:Nat) (a0 a1:LR):Option Int :=
 ob (f115 n a1) λa =>
 ob (f114 n a 1) λb =>
 ob (f114 n ((a1.length:Int)==(a0.length:Int)) 8) λc =>
 ob (f64 n [b,c]) λd =>
 some d
def Zd (n:Nat):Ent:=⟨66,[hRs,hRs],[hI],λx=>f66 n x.1 x.2⟩
def Bj1 (α:Type) (n:Nat):D3 α:={ reg:=[(1,⟨0,[],[(1,{ ent:=some (Om n) }),(2,{ ent:=some (G6 n) }),(8,{ ent:=some (G6 n) }),(9,{ sh:=some hI }),(10,{ ent:=some (Gl n) })]⟩)],join:=[],loop:=[] }
theorem Bei (n:Nat):(Zd n).Sound PP:=Ay (fn:=Tryz.f66) (D:=Bj1 _ n) ⟨Apr n,N7 n,N7 n,A6e n,trivial⟩

def f126 (n:Nat) (a0:Int):Option Rq :=
 bif (decide (a0<0)) then
  ob (f179 n (W (0-a0))) λa =>
  ob (f180 n) λb =>
  some (true,a,b)
 else
  ob (f179 n a0) λc =>
  ob (f180 n) λd =>
  some (false,c,d)
def As (n:Nat):Ent:=⟨126,[hI],[hR],λx=>f126 n x⟩
def Bhb (α:Type) (n:Nat):D3 α:={ reg:=[(2,⟨0,[],[(2,{ ent:=some (Le n) }),(3,{ ent:=some (Ra n) })]⟩),(3,⟨0,[],[(1,{ ent:=some (Le n) }),(2,{ ent:=some (Ra n) })]⟩)],join:=[],loop:=[] }
theorem B2 (n:Nat):(As n).Sound PP:=Ay (fn:=Tryz.f126) (D:=Bhb _ n) ⟨Aal n,R9 n,Aal n,R9 n,trivial⟩

def B6a {α:Type} (n:Nat) (b c:Int) (a:LR) (f:Int->Int->LR->Option α) (k0:LR->Option α):Option α :=
 bif (decide (c<b)) then
  ob (f126 n 0) λd =>
  gd (decide ((a.length+1)*56<=140737488355328)) (
   f b (W (c+1)) (a++[d]))
 else
  k0 a
abbrev Un:Tm:=⟨[(3,.k (.hw 4)),(5,.d hI),(6,.d hI)],[(4,.arr 31 hR false)],[10],[]⟩
abbrev B1g:Tm:=⟨[(3,.k (.hw 4))],[(4,.arr 31 hR false)],[],[]⟩
abbrev A5b:List (Exit × Tm):=[(.exit 0,B1g)]
def A5a {α:Type} (n:Nat) (v:Un.den) (f:Un.den->Option α) (ks:KS α A5b):Option α:=B6a n v.1.2.1 v.1.2.2.1 v.2.1 (λa b c=>f (((),a,b,()),(c,()))) (λw0=>ks.1 (((),()),(w0,())))
def Bcr {α:Type} (n m:Nat) (a b:Int) (c:LR) (k0:LR->Option α):Option α:=A5 (A5a n) m (((),a,b,()),(c,())) (λw=>k0 w.2.1,())
def f100 (n:Nat) (a0:Int):Option LR :=
 Bcr n n a0 0 []
  (λa=>(
   some a))
def Fj (n:Nat):Ent:=⟨100,[hI],[hRs],λx=>f100 n x⟩
def Akr (α:Type) (n:Nat):D3 α:={ reg:=[(1,⟨0,[],[(0,{ sh:=some hR })]⟩),(4,⟨0,[],[(1,{ ent:=some (As n) }),(2,{ sh:=some hR })]⟩)],join:=[],loop:=[(3,⟨Un,A5b,A5 (A5a n) n⟩)] }
theorem Adx (α:Type) (n:Nat):Ao PP (Ah (Akr α n).reg):=⟨B2 n,trivial⟩
theorem Au0 (α:Type) (n:Nat):LO.Sound (α:=α) PP ⟨14,[]⟩ ⟨Un,A5b,A5 (A5a n) n⟩ (.loop ((A0 Tryz.f100).at [1,1,0,1,0,0])):=Ba (D:=Akr α n) (Adx α n) n
theorem Bho (α:Type) (n:Nat):D3.OK PP TT ⟨14,[]⟩ (Akr α n) (A0 Tryz.f100) :=
 D3.OK.mk3 (Adx α n) (show Ab (A0 Tryz.f100)=[(3,(.loop ((A0 Tryz.f100).at [1,1,0,1,0,0])))] by kernel_rfl) ⟨Ad rfl (Au0 α n),trivial⟩
theorem Aay (n:Nat):(Fj n).Sound PP:=fk (fn:=Tryz.f100) (Bho _ n)

abbrev Apa:Tm:=⟨[(2,.k (.hp 2 0 0)),(3,.k (.hp 3 0 0)),(4,.k (.hp 4 0 0))],[(2,.var 84 true false [.d hI,.d .nil]),(3,.var 31 true false [.d .bool,.d hIs,.d hIs]),(4,.var 81 true false [.d .bool,.d .nil,.d .nil,.d .nil,.d .nil,.d .bool,.d .nil,.d .nil])],[],[]⟩
def f190 (n:Nat) (a0:Int × Unit) (a1:Rq):Option (Rq × LR × Unit × Rq) :=
 ob (f100 n a0.1) λa =>
 ob (f126 n 0) λb =>
 some (a1,a,(),b)
def Azi (n:Nat):Ent:=⟨190,[(.st (.pair hI .nil)),hR],[(.st (.pair hR (.pair hRs (.pair .nil hR))))],λx=>f190 n x.1 x.2⟩
def Azj (α:Type) (n:Nat):D3 α:={ reg:=[(1,⟨0,[],[(3,{ ent:=some (Fj n) }),(4,{ ent:=some (As n) })]⟩)],join:=[],loop:=[],any:=[(1,Apa)] }
set_option maxHeartbeats 8000000 in
theorem Bba (n:Nat):Al TT ⟨20,[]⟩ [(3,{ ent:=some (Fj n) }),(4,{ ent:=some (As n) })] Apa (A6 ((A0 Tryz.f190).at [1,0])):=by
 refine ⟨by kernel_rfl,λw q hq=>?_⟩
 have e:WT [(3,{ ent:=some (Fj n) }),(4,{ ent:=some (As n) })] (A7 (A6 ((A0 Tryz.f190).at [1,0])).toList) q=(∃ (y0:HL (Fj n).rs) (q0:List (Nat × RV)),q=(3,.sv (Ai (Fj n).rs y0))::q0 /\ ∃ (y1:HL (As n).rs) (q1:List (Nat × RV)),q0=(4,.sv (Ai (As n).rs y1))::q1/\q1=[]):=by kernel_rfl
 rw [e] at hq;obtain ⟨y0,q0,rfl,y1,q1,rfl,rfl⟩:=hq
 all_goals exact .inr ⟨7,by kernel_rfl,by kernel_rfl,by kernel_rfl⟩
theorem Azh (α:Type) (n:Nat):Ao PP (Ah (Azj α n).reg):=⟨Aay n,B2 n,trivial⟩
theorem Bg6 (α:Type) (n:Nat):D3.OK PP TT ⟨20,[]⟩ (Azj α n) (A0 Tryz.f190) :=
 D3.OK.mk3a (Azh α n) (show Ab (A0 Tryz.f190)=[] by kernel_rfl) trivial (show Au (A0 Tryz.f190)=[(1,A6 ((A0 Tryz.f190).at [1,0]))] by kernel_rfl) ⟨⟨Bba n,trivial⟩,trivial⟩
theorem Bb9 (n:Nat):(Azi n).Sound PP:=fk (fn:=Tryz.f190) (Bg6 _ n)

def B1h {α:Type} (n:Nat) (b c:Int) (a:LR) (f:Int->Int->LR->Option α) (k0:LR->Option α):Option α :=
 bif (decide (c<b)) then
  ob (f126 n 0) λd =>
  gd (decide ((a.length+1)*56<=140737488355328)) (
   f b (W (c+1)) (a++[d]))
 else
  k0 a
abbrev Ps:Tm:=⟨[(3,.k (.hw 4)),(5,.d hI),(6,.d hI)],[(4,.arr 31 hR false)],[10],[]⟩
abbrev Au1:Tm:=⟨[(3,.k (.hw 4))],[(4,.arr 31 hR false)],[],[]⟩
abbrev Y4:List (Exit × Tm):=[(.exit 0,Au1)]
def Y3 {α:Type} (n:Nat) (v:Ps.den) (f:Ps.den->Option α) (ks:KS α Y4):Option α:=B1h n v.1.2.1 v.1.2.2.1 v.2.1 (λa b c=>f (((),a,b,()),(c,()))) (λw0=>ks.1 (((),()),(w0,())))
def B6b {α:Type} (n m:Nat) (a b:Int) (c:LR) (k0:LR->Option α):Option α:=A5 (Y3 n) m (((),a,b,()),(c,())) (λw=>k0 w.2.1,())
def A7q (n:Nat) (a0:Int):Option LR :=
 B6b n n a0 0 []
  (λa=>(
   some a))
def Db (n:Nat):Ent3:=⟨100,[.im hI],[[.one (.own 31 hR)]],λx=>A7q n x⟩
def Aaz (α:Type) (n:Nat):D3 α:={ reg:=[(1,⟨0,[],[(0,{ sh:=some hR })]⟩),(4,⟨0,[],[(1,{ ent:=some (As n) }),(2,{ sh:=some hR })]⟩)],join:=[],loop:=[(3,⟨Ps,Y4,A5 (Y3 n) n⟩)] }
theorem A7p (α:Type) (n:Nat):Ao PP (Ah (Aaz α n).reg):=⟨B2 n,trivial⟩
theorem Amw (α:Type) (n:Nat):LO.Sound (α:=α) PP ⟨14,[]⟩ ⟨Ps,Y4,A5 (Y3 n) n⟩ (.loop ((A0 Tryz.f100).at [1,1,0,1,0,0])):=Ba (D:=Aaz α n) (A7p α n) n
theorem Bcs (α:Type) (n:Nat):D3.OK PP TT ⟨14,[]⟩ (Aaz α n) (A0 Tryz.f100) :=
 D3.OK.mk3 (A7p α n) (show Ab (A0 Tryz.f100)=[(3,(.loop ((A0 Tryz.f100).at [1,1,0,1,0,0])))] by kernel_rfl) ⟨Ad rfl (Amw α n),trivial⟩
theorem A5c (n:Nat):(Db n).Sound PP:=Lz (fn:=Tryz.f100) (Bcs _ n)

abbrev Ajm:Tm:=⟨[(2,.k (.hp 2 0 0)),(3,.k (.hp 3 0 0)),(4,.k (.hp 4 0 0))],[(2,.var 84 true false [.d hI,.d .nil]),(3,.var 31 true false [.d .bool,.d hIs,.d hIs]),(4,.var 81 true false [.d .bool,.d .nil,.d .nil,.d .nil,.d .nil,.d .bool,.d .nil,.d .nil])],[],[]⟩
def At9 (n:Nat) (a0:Int × Unit) (a1:Rq):Option (Bool × LI × LI × LR × Unit × Bool × LI × LI) :=
 ob (A7q n a0.1) λb =>
 ob (f126 n 0) λa =>
 some (a1.1,a1.2.1,a1.2.2,b,(),a.1,a.2.1,a.2.2)
def Apb (n:Nat):Ent3:=⟨190,[.im (.st (.pair hI .nil)),.im hR],[[.mix [.im .bool,.im hIs,.im hIs,.own 31 hR,.im .nil,.im .bool,.im hIs,.im hIs]]],λx=>At9 n x.1 x.2⟩
def Apc (α:Type) (n:Nat):D3 α:={ reg:=[(1,⟨0,[],[(3,{ entB:=some (Db n),hb:=310 }),(4,{ ent:=some (As n) })]⟩)],join:=[],loop:=[],any:=[(1,Ajm)] }
set_option maxHeartbeats 8000000 in
theorem B5o (n:Nat):Al TT ⟨20,[]⟩ [(3,{ entB:=some (Db n),hb:=310 }),(4,{ ent:=some (As n) })] Ajm (A6 ((A0 Tryz.f190).at [1,0])):=by
 refine ⟨by kernel_rfl,λw q hq=>?_⟩
 have e:WT [(3,{ entB:=some (Db n),hb:=310 }),(4,{ ent:=some (As n) })] (A7 (A6 ((A0 Tryz.f190).at [1,0])).toList) q=(∃ (y0:HF (Ap 1000 (Db n).ts) (Db n).forms) (q0:List (Nat × RV)),q=(3,.bx (Db n) y0)::q0 /\ ∃ (y1:HL (As n).rs) (q1:List (Nat × RV)),q0=(4,.sv (Ai (As n).rs y1))::q1/\q1=[]):=by kernel_rfl
 rw [e] at hq;obtain ⟨y0,q0,rfl,y1,q1,rfl,rfl⟩:=hq
 all_goals exact .inl (Gs.mk (by kernel_rfl))
theorem At8 (α:Type) (n:Nat):Ao PP (Ah (Apc α n).reg):=⟨A5c n,B2 n,trivial⟩
theorem Bbb (α:Type) (n:Nat):D3.OK PP TT ⟨20,[]⟩ (Apc α n) (A0 Tryz.f190) :=
 D3.OK.mk3a (At8 α n) (show Ab (A0 Tryz.f190)=[] by kernel_rfl) trivial (show Au (A0 Tryz.f190)=[(1,A6 ((A0 Tryz.f190).at [1,0]))] by kernel_rfl) ⟨⟨B5o n,trivial⟩,trivial⟩
theorem B5n (n:Nat):(Apb n).Sound PP:=Lz (fn:=Tryz.f190) (Bbb _ n)

abbrev Bb7:Tm:=⟨[(2,.d hI),(3,.k (.hp 3 0 0)),(6,.k (.hp 6 0 0)),(7,.k (.hp 7 0 0))],[(3,.var 84 true false [.d hI,.d .nil]),(6,.var 81 true false [.d .bool,.d .nil,.d .nil,.d .nil,.d .nil,.d .bool,.d .nil,.d .nil]),(7,.var 81 false false [.d .bool,.d hIs,.d hIs,.k (.hw 313),.d .nil,.d .bool,.d hIs,.d hIs]),(313,.arr 31 hR false)],[4],[]⟩
def f191 (n:Nat) (a0:Int × Unit) (a1:Rq) (a2:Int):Option (Rq × LR × Unit × Rq) :=
 ob (At9 n a0 a1) λa =>
 let b:=λ(c:LR)=>(
  some ((a.1,a.2.1,a.2.2.1),c,(),a.2.2.2.2.2))
 bif (decide (a2<a0.1)) then
  ob (f126 n 1) λd =>
  gd (decide (0<=a2)&&decide (a2<(a.2.2.2.1.length:Int))) (
   gd (decide (a2.toNat<a.2.2.2.1.length)) (
    b (a.2.2.2.1.set a2.toNat d)))
 else
  b a.2.2.2.1
def Azg (n:Nat):Ent:=⟨191,[(.st (.pair hI .nil)),hR,hI],[(.st (.pair hR (.pair hRs (.pair .nil hR))))],λx=>f191 n x.1 x.2.1 x.2.2⟩
def Bg5 (α:Type) (n:Nat):D3 α:={ reg:=[(1,⟨0,[],[(2,{ alt:=[(Apb n)],hb:=310 })]⟩),(3,⟨4,[],[(3,{ ent:=some (As n) })]⟩)],join:=[(4,Bb7)],loop:=[] }
theorem Bb6 (n:Nat):(Azg n).Sound PP:=Ay (fn:=Tryz.f191) (D:=Bg5 _ n) ⟨B5n n,B2 n,trivial⟩

def A3g {α:Type} (n:Nat) (d:LI) (b g e a:Int) (h:LI) (i j:Int) (c:LI) (f:LI->Int->Int->Int->Int->LI->Int->Int->LI->Option α) (k0:LI->LI->Int->Int->LI->Option α):Option α :=
 let k:=λ(_:Unit)=>(
  let l:=λ(m:Int)=>(
   gd (decide (0<=(W (b+a)))&&decide ((W (b+a))<(c.length:Int))) (
    gd (decide ((W (b+a)).toNat<c.length)) (
     gd (decide (0<=(W (b+a)))&&decide ((W (b+a))<(c.length:Int))) (
      gd (decide ((W (b+a)).toNat<c.length)) (
       f d b g (W (Int.tdiv (W (m+(c.getD ((W (b+a)).toNat) 0))) 10000)) (W (a+1)) h i j (c.set ((W (b+a)).toNat) (Int.tmod (W (m+(c.getD ((W (b+a)).toNat) 0))) 10000)))))))
  bif (decide (a<(d.length:Int))) then
   gd (decide (0<=a)&&decide (a<(d.length:Int))) (
    l (W (e+(W (g*(d.getD a.toNat 0))))))
  else
   l e)
 bif (decide (a<(d.length:Int))) then
  k ()
 else
  bif (decide (e>0)) then
   k ()
  else
   k0 d h i j c
abbrev Tr:Tm:=⟨[(1,.d hIs),(5,.k (.hw 15)),(6,.d hI),(7,.d hI),(8,.d hI),(9,.d hI),(16,.d hIs),(17,.d hI),(18,.d hI)],[(15,.arr 3 hI false)],[],[]⟩
abbrev Ayu:Tm:=⟨[(1,.d hIs),(5,.k (.hw 15)),(16,.d hIs),(17,.d hI),(18,.d hI)],[(15,.arr 3 hI false)],[],[]⟩
abbrev A3f:List (Exit × Tm):=[(.exit 2,Ayu)]
def A3e {α:Type} (n:Nat) (v:Tr.den) (f:Tr.den->Option α) (ks:KS α A3f):Option α:=A3g n v.1.1 v.1.2.2.1 v.1.2.2.2.1 v.1.2.2.2.2.1 v.1.2.2.2.2.2.1 v.1.2.2.2.2.2.2.1 v.1.2.2.2.2.2.2.2.1 v.1.2.2.2.2.2.2.2.2.1 v.2.1 (λa b c d e g h i j=>f ((a,(),b,c,d,e,g,h,i,()),(j,()))) (λw0 w1 w2 w3 w4=>ks.1 ((w0,(),w1,w2,w3,()),(w4,())))
def My {α:Type} (n m:Nat) (a:LI) (b c d e:Int) (f:LI) (g h:Int) (i:LI) (k0:LI->LI->Int->Int->LI->Option α):Option α:=A5 (A3e n) m ((a,(),b,c,d,e,f,g,h,()),(i,())) (λw=>k0 w.1.1 w.1.2.2.1 w.1.2.2.2.1 w.1.2.2.2.2.1 w.2.1,())
theorem Ayt {α n m a b c d e f g h i k0}:My (α:=α) n (m+1) a b c d e f g h i k0=A3g n a b c d e f g h i (λa b c d e f g h i=>My n m a b c d e f g h i k0) k0:=rfl
def A3j {α:Type} (n:Nat) (e b:LI) (c a:Int) (d:LI) (f:LI->LI->Int->Int->LI->Option α) (k0:LI->Option α):Option α :=
 bif (decide (a<c)) then
  gd (decide (0<=a)&&decide (a<(b.length:Int))) (
   My n n e a (b.getD a.toNat 0) 0 0 b c a d
    (λg h i j k=>(
     f g h i (W (j+1)) k)))
 else
  k0 d
abbrev Ts:Tm:=⟨[(1,.d hIs),(5,.k (.hw 15)),(16,.d hIs),(17,.d hI),(18,.d hI)],[(15,.arr 3 hI false)],[],[]⟩
abbrev Ayx:Tm:=⟨[(5,.k (.hw 15))],[(15,.arr 3 hI false)],[],[]⟩
abbrev A3i:List (Exit × Tm):=[(.exit 0,Ayx)]
def A3h {α:Type} (n:Nat) (v:Ts.den) (f:Ts.den->Option α) (ks:KS α A3i):Option α:=A3j n v.1.1 v.1.2.2.1 v.1.2.2.2.1 v.1.2.2.2.2.1 v.2.1 (λa b c d e=>f ((a,(),b,c,d,()),(e,()))) (λw0=>ks.1 (((),()),(w0,())))
def Mz {α:Type} (n m:Nat) (a b:LI) (c d:Int) (e:LI) (k0:LI->Option α):Option α:=A5 (A3h n) m ((a,(),b,c,d,()),(e,())) (λw=>k0 w.2.1,())
theorem Ayv {α n m a b c d e k0}:Mz (α:=α) n (m+1) a b c d e k0=A3j n a b c d e (λa b c d e=>Mz n m a b c d e k0) k0:=rfl
abbrev Bap:Tm:=⟨[(1,.d hIs),(5,.k (.hw 15)),(6,.d hI),(7,.d hI),(8,.d hI),(9,.d hI),(16,.d hIs),(17,.d hI),(18,.d hI)],[(15,.arr 3 hI false)],[],[]⟩
abbrev B58:Tm:=⟨[(1,.d hIs),(5,.k (.hw 15)),(6,.d hI),(7,.d hI),(8,.d hI),(9,.d hI),(16,.d hIs),(17,.d hI),(18,.d hI)],[(15,.arr 3 hI false)],[],[]⟩
def f200 (n:Nat) (a0 a1:LI):Option LI :=
 gd (decide (0<=(W ((a0.length:Int)+(a1.length:Int))))&&decide ((W ((a0.length:Int)+(a1.length:Int)))<=4611686018427387904)&&decide ((8:Int)*(W ((a0.length:Int)+(a1.length:Int)))<=281474976710656)) (
  Mz n n a1 a0 (a0.length:Int) 0 (List.replicate ((W ((a0.length:Int)+(a1.length:Int))).toNat) 0)
   (λa=>(
    ob (f225 n a) λb =>
    some b)))
def Hf (n:Nat):Ent:=⟨200,[hIs,hIs],[hIs],λx=>f200 n x.1 x.2⟩
def A6y (α:Type) (n:Nat):D3 α:={ reg:=[(14,⟨0,[],[(1,{ ent:=some (Hd n),fz:=[(63,hIs)] })]⟩)],join:=[(9,Bap),(11,B58)],loop:=[(7,⟨Tr,A3f,A5 (A3e n) n⟩),(3,⟨Ts,A3i,A5 (A3h n) n⟩)] }
theorem Xo (α:Type) (n:Nat):Ao PP (Ah (A6y α n).reg):=⟨Qx n,trivial⟩
theorem Asv (α:Type) (n:Nat):LO.Sound (α:=α) PP ⟨65,[]⟩ ⟨Tr,A3f,A5 (A3e n) n⟩ (.loop ((A0 Tryz.f200).at [1,1,0,1,0,0,1,1,0,0,1,1,1,0,0])):=Ba (D:=A6y α n) (Xo α n) n
theorem Ayw (α:Type) (n:Nat):D3.OK PP TT ⟨65,[]⟩ (A6y α n) ((A0 Tryz.f200).at [1,1,0,1,0,0]) :=
 D3.OK.mk3 (Xo α n) (show Ab ((A0 Tryz.f200).at [1,1,0,1,0,0])=[(7,(.loop ((A0 Tryz.f200).at [1,1,0,1,0,0,1,1,0,0,1,1,1,0,0])))] by kernel_rfl) ⟨Ad rfl (Asv α n),trivial⟩
theorem Asw (α:Type) (n:Nat):LO.Sound (α:=α) PP ⟨65,[]⟩ ⟨Ts,A3i,A5 (A3h n) n⟩ (.loop ((A0 Tryz.f200).at [1,1,0,1,0,0])):=lk (Ayw α n) n
theorem Bfw (α:Type) (n:Nat):D3.OK PP TT ⟨65,[]⟩ (A6y α n) (A0 Tryz.f200) :=
 D3.OK.mk3 (Xo α n) (show Ab (A0 Tryz.f200)=[(3,(.loop ((A0 Tryz.f200).at [1,1,0,1,0,0])))] by kernel_rfl) ⟨Ad rfl (Asw α n),trivial⟩
theorem Gm (n:Nat):(Hf n).Sound PP:=fk (fn:=Tryz.f200) (Bfw _ n)

def A3d {α:Type} (n:Nat) (b c:LI) (d a:Int) (e:LI) (f:LI->LI->Int->Int->LI->Option α) (k0:LI->Option α):Option α :=
 let g:=λ(_:Unit)=>(
  let h:=λ(i:Int)=>(
   let j:=λ(k:Int)=>(
    gd (decide ((e.length+1)*8<=140737488355328)) (
     f b c (W (Int.tdiv k 10000)) (W (a+1)) (e++[(Int.tmod k 10000)])))
   bif (decide (a<(c.length:Int))) then
    gd (decide (0<=a)&&decide (a<(c.length:Int))) (
     j (W (i+(c.getD a.toNat 0))))
   else
    j i)
  bif (decide (a<(b.length:Int))) then
   gd (decide (0<=a)&&decide (a<(b.length:Int))) (
    h (W (d+(b.getD a.toNat 0))))
  else
   h d)
 bif (decide (a<(max (b.length:Int) (c.length:Int)))) then
  g ()
 else
  bif (decide (d>0)) then
   g ()
  else
   k0 e
abbrev Tq:Tm:=⟨[(0,.d hIs),(1,.d hIs),(5,.k (.hw 8)),(6,.d hI),(7,.d hI)],[(8,.arr 3 hI false)],[45],[]⟩
abbrev Ayr:Tm:=⟨[(5,.k (.hw 8))],[(8,.arr 3 hI false)],[],[]⟩
abbrev A3c:List (Exit × Tm):=[(.exit 0,Ayr)]
def A3b {α:Type} (n:Nat) (v:Tq.den) (f:Tq.den->Option α) (ks:KS α A3c):Option α:=A3d n v.1.1 v.1.2.1 v.1.2.2.2.1 v.1.2.2.2.2.1 v.2.1 (λa b c d e=>f ((a,b,(),c,d,()),(e,()))) (λw0=>ks.1 (((),()),(w0,())))
def Mx {α:Type} (n m:Nat) (a b:LI) (c d:Int) (e:LI) (k0:LI->Option α):Option α:=A5 (A3b n) m ((a,b,(),c,d,()),(e,())) (λw=>k0 w.2.1,())
theorem Ayq {α n m a b c d e k0}:Mx (α:=α) n (m+1) a b c d e k0=A3d n a b c d e (λa b c d e=>Mx n m a b c d e k0) k0:=rfl
abbrev Bam:Tm:=⟨[(0,.d hIs),(1,.d hIs),(5,.k (.hw 8)),(6,.d hI),(7,.d hI)],[(8,.arr 3 hI false)],[],[]⟩
abbrev Bal:Tm:=⟨[(0,.d hIs),(1,.d hIs),(5,.k (.hw 8)),(6,.d hI),(7,.d hI)],[(8,.arr 3 hI false)],[],[]⟩
abbrev Bak:Tm:=⟨[(0,.d hIs),(1,.d hIs),(5,.k (.hw 8)),(6,.d hI),(7,.d hI)],[(8,.arr 3 hI false)],[],[]⟩
def f202 (n:Nat) (a0 a1:LI):Option LI :=
 Mx n n a0 a1 0 0 []
  (λa=>(
   some a))
def Ays (n:Nat):Ent:=⟨202,[hIs,hIs],[hIs],λx=>f202 n x.1 x.2⟩
def Aiw (α:Type) (n:Nat):D3 α:={ reg:=[(1,⟨0,[],[(0,{ sh:=some hI })]⟩),(9,⟨0,[],[(3,{ sh:=some hI })]⟩)],join:=[(5,Bam),(7,Bal),(9,Bak)],loop:=[(3,⟨Tq,A3c,A5 (A3b n) n⟩)] }
theorem Acy (α:Type) (n:Nat):Ao PP (Ah (Aiw α n).reg):=trivial
theorem Asu (α:Type) (n:Nat):LO.Sound (α:=α) PP ⟨50,[]⟩ ⟨Tq,A3c,A5 (A3b n) n⟩ (.loop ((A0 Tryz.f202).at [1,1,0,1,0,0])):=Ba (D:=Aiw α n) (Acy α n) n
theorem Bfu (α:Type) (n:Nat):D3.OK PP TT ⟨50,[]⟩ (Aiw α n) (A0 Tryz.f202) :=
 D3.OK.mk3 (Acy α n) (show Ab (A0 Tryz.f202)=[(3,(.loop ((A0 Tryz.f202).at [1,1,0,1,0,0])))] by kernel_rfl) ⟨Ad rfl (Asu α n),trivial⟩
theorem Baj (n:Nat):(Ays n).Sound PP:=fk (fn:=Tryz.f202) (Bfu _ n)

abbrev Ban:Tm:=⟨[(0,.d .bool),(1,.d hIs),(2,.d hIs),(6,.k (.hp 6 0 0))],[(6,.var 31 true false [.d .bool,.d .nil,.d .nil])],[],[]⟩
def f201 (n:Nat) (a0:Bool) (a1 a2:LI):Option Rq :=
 let c:=λ(a:LI) (d:LI)=>(
  bif a0 then
   ob (f117 n a) λe =>
   ob (f117 n d) λf =>
   some ((decide ((a.length:Int)>0)),e,f)
  else
   ob (f117 n a) λg =>
   ob (f117 n d) λh =>
   some (false,g,h))
 ob (f226 n a1 a2) λb =>
 ob (f180 n) λi =>
 ob (f203 n b i) λj =>
 bif (j != 0) then
  ob (f227 n a1 b) λk =>
  ob (f227 n a2 b) λl =>
  c k.1 l.1
 else
  c a1 a2
def R2 (n:Nat):Ent:=⟨201,[.bool,hIs,hIs],[hR],λx=>f201 n x.1 x.2.1 x.2.2⟩
def Bfv (α:Type) (n:Nat):D3 α:={ reg:=[(1,⟨0,[],[(2,{ ent:=some (Aig n) })]⟩),(2,⟨0,[],[(1,{ ent:=some (Ra n) }),(2,{ ent:=some (Xn n) })]⟩),(3,⟨0,[],[(2,{ ent:=some (A6o n) })]⟩),(4,⟨0,[],[(2,{ ent:=some (A6o n) })]⟩),(5,⟨0,[],[(7,{ ent:=some (Lg n) }),(9,{ ent:=some (Lg n) })]⟩)],join:=[(5,Ban)],loop:=[] }
theorem R1 (n:Nat):(R2 n).Sound PP:=Ay (fn:=Tryz.f201) (D:=Bfv _ n) ⟨Aod n,R9 n,Zu n,Aa8 n,Aa8 n,Kb n,Kb n,trivial⟩

def A39 {α:Type} (n:Nat) (c:LI) (g d a:Int) (b:LI) (f:LI->Int->Int->Int->LI->Option α) (k0:LI->Option α):Option α :=
 bif (decide (a<d)) then
  gd (decide (0<=a)&&decide (a<(b.length:Int))) (
   gd (decide (a.toNat<b.length)) (
    let h:=λ(e:Int)=>(
     bif (decide (e<0)) then
      gd (decide (0<=a)&&decide (a<(b.length:Int))) (
       gd (decide (a.toNat<b.length)) (
        f c 1 d (W (a+1)) (b.set a.toNat (W (e+10000)))))
     else
      gd (decide (0<=a)&&decide (a<(b.length:Int))) (
       gd (decide (a.toNat<b.length)) (
        f c 0 d (W (a+1)) (b.set a.toNat e))))
    bif (decide (a<(c.length:Int))) then
     gd (decide (0<=a)&&decide (a<(c.length:Int))) (
      h (W ((W ((b.getD a.toNat 0)-g))-(c.getD a.toNat 0))))
    else
     h (W ((b.getD a.toNat 0)-g))))
 else
  k0 b
abbrev To:Tm:=⟨[(1,.d hIs),(5,.k (.hw 310)),(6,.d hI),(12,.d hI),(13,.d hI)],[(310,.arr 3 hI false)],[],[]⟩
abbrev Ayk:Tm:=⟨[(5,.k (.hw 310))],[(310,.arr 3 hI false)],[],[]⟩
abbrev A38:List (Exit × Tm):=[(.exit 0,Ayk)]
def A37 {α:Type} (n:Nat) (v:To.den) (f:To.den->Option α) (ks:KS α A38):Option α:=A39 n v.1.1 v.1.2.2.1 v.1.2.2.2.1 v.1.2.2.2.2.1 v.2.1 (λa b c d e=>f ((a,(),b,c,d,()),(e,()))) (λw0=>ks.1 (((),()),(w0,())))
def Ic {α:Type} (n m:Nat) (a:LI) (b c d:Int) (e:LI) (k0:LI->Option α):Option α:=A5 (A37 n) m ((a,(),b,c,d,()),(e,())) (λw=>k0 w.2.1,())
theorem Ayj {α n m a b c d e k0}:Ic (α:=α) n (m+1) a b c d e k0=A39 n a b c d e (λa b c d e=>Ic n m a b c d e k0) k0:=rfl
abbrev Bah:Tm:=⟨[(1,.d hIs),(5,.k (.hw 310)),(7,.d hI),(8,.d hI),(12,.d hI),(13,.d hI)],[(310,.arr 3 hI false)],[],[]⟩
def f204 (n:Nat) (a0 a1:LI):Option LI :=
 ob (Ml n a0) λa =>
 Ic n n a1 0 (a.length:Int) 0 a
  (λb=>(
   ob (f225 n b) λc =>
   some c))
def Aiu (n:Nat):Ent:=⟨204,[hIs,hIs],[hIs],λx=>f204 n x.1 x.2⟩
def Aiv (α:Type) (n:Nat):D3 α:={ reg:=[(1,⟨0,[],[(1,{ entB:=some (If n),hb:=310 })]⟩),(13,⟨0,[],[(1,{ ent:=some (Hd n),fz:=[(41,hIs)] })]⟩)],join:=[(8,Bah)],loop:=[(3,⟨To,A38,A5 (A37 n) n⟩)] }
theorem Acx (α:Type) (n:Nat):Ao PP (Ah (Aiv α n).reg):=⟨A50 n,Qx n,trivial⟩
theorem Asq (α:Type) (n:Nat):LO.Sound (α:=α) PP ⟨43,[]⟩ ⟨To,A38,A5 (A37 n) n⟩ (.loop ((A0 Tryz.f204).at [1,1,0,1,0,0])):=Ba (D:=Aiv α n) (Acx α n) n
theorem Bfs (α:Type) (n:Nat):D3.OK PP TT ⟨43,[]⟩ (Aiv α n) (A0 Tryz.f204) :=
 D3.OK.mk3 (Acx α n) (show Ab (A0 Tryz.f204)=[(3,(.loop ((A0 Tryz.f204).at [1,1,0,1,0,0])))] by kernel_rfl) ⟨Ad rfl (Asq α n),trivial⟩
theorem Aoq (n:Nat):(Aiu n).Sound PP:=fk (fn:=Tryz.f204) (Bfs _ n)

def f161 (n:Nat) (a0 a1:Rq):Option Rq :=
 ob (f200 n a0.2.1 a1.2.2) λa =>
 ob (f200 n a1.2.1 a0.2.2) λb =>
 ob (f200 n a0.2.2 a1.2.2) λc =>
 bif (a0.1==a1.1) then
  ob (f202 n a b) λd =>
  ob (f201 n a0.1 d c) λe =>
  some e
 else
  ob (f203 n a b) λf =>
  bif (decide (f>=0)) then
   ob (f204 n a b) λg =>
   ob (f201 n a0.1 g c) λh =>
   some h
  else
   ob (f204 n b a) λi =>
   ob (f201 n a1.1 i c) λj =>
   some j
def Ag (n:Nat):Ent:=⟨161,[hR,hR],[hR],λx=>f161 n x.1 x.2⟩
def Bgq (α:Type) (n:Nat):D3 α:={ reg:=[(1,⟨9,[],[(4,{ ent:=some (Hf n) }),(9,{ ent:=some (Hf n) })]⟩),(2,⟨0,[],[(4,{ ent:=some (Hf n) })]⟩),(4,⟨6,[],[(4,{ ent:=some (Ays n) }),(6,{ ent:=some (R2 n) })]⟩),(5,⟨0,[],[(2,{ ent:=some (Xn n) })]⟩),(6,⟨6,[],[(4,{ ent:=some (Aiu n) }),(6,{ ent:=some (R2 n) })]⟩),(7,⟨6,[],[(4,{ ent:=some (Aiu n) }),(6,{ ent:=some (R2 n) })]⟩)],join:=[],loop:=[] }
theorem Co (n:Nat):(Ag n).Sound PP:=Ay (fn:=Tryz.f161) (D:=Bgq _ n) ⟨Gm n,Gm n,Gm n,Baj n,R1 n,Zu n,Aoq n,R1 n,Aoq n,R1 n,trivial⟩

def B5i {α:Type} (n:Nat) (b:LR) (e a:Int) (p:Bool) (q r:LI) (s:LR) (t:Bool) (u v:LI) (w:Bool) (x y:LI) (c:LR) (z:Bool) (d0 d1:LI) (g h i:Bool) (j k:LI) (l:Bool) (m o:LI) (d:LR) (f:LR->Int->Int->Bool->LI->LI->LR->Bool->LI->LI->Bool->LI->LI->LR->Bool->LI->LI->Bool->Bool->Bool->LI->LI->Bool->LI->LI->LR->Option α) (k0:Bool->Bool->Bool->LI->LI->Bool->LI->LI->LR->Option α):Option α :=
 bif (decide (a<e)) then
  gd (decide (0<=a)&&decide (a<(b.length:Int))) (
   let d2:=b.getD a.toNat (false,[],[])
   gd (decide (0<=a)&&decide (a<(c.length:Int))) (
    let d3:=c.getD a.toNat (false,[],[])
    ob (f161 n d2 d3) λd4 =>
    gd (decide ((d.length+1)*56<=140737488355328)) (
     f b e (W (a+1)) p q r s t u v w x y c z d0 d1 g h i j k l m o (d++[d4]))))
 else
  k0 g h i j k l m o d
abbrev Tw:Tm:=⟨[(2,.k (.hp 2 0 0)),(3,.k (.hp 3 0 0)),(4,.k (.hp 4 0 0)),(5,.k (.hp 5 0 0)),(20,.d hRs),(21,.d hI),(22,.d hI)],[(2,.var 81 true false [.d .bool,.d hIs,.d hIs,.d hRs,.d .nil,.d .bool,.d hIs,.d hIs]),(3,.var 81 true false [.d .bool,.d hIs,.d hIs,.d hRs,.d .nil,.d .bool,.d hIs,.d hIs]),(4,.var 81 true false [.d .bool,.d .nil,.d .nil,.d .nil,.d .nil,.d .bool,.d .nil,.d .nil]),(5,.var 81 false false [.d .bool,.d hIs,.d hIs,.k (.hw 37),.d .nil,.d .bool,.d hIs,.d hIs]),(37,.arr 31 hR false)],[7,36],[]⟩
abbrev Azf:Tm:=⟨[(4,.k (.hp 4 0 0)),(5,.k (.hp 5 0 0))],[(4,.var 81 true false [.d .bool,.d .nil,.d .nil,.d .nil,.d .nil,.d .bool,.d .nil,.d .nil]),(5,.var 81 false false [.d .bool,.d hIs,.d hIs,.k (.hw 37),.d .nil,.d .bool,.d hIs,.d hIs]),(37,.arr 31 hR false)],[2,3],[]⟩
abbrev A3t:List (Exit × Tm):=[(.exit 0,Azf)]
def A3s {α:Type} (n:Nat) (v:Tw.den) (f:Tw.den->Option α) (ks:KS α A3t):Option α:=B5i n v.1.2.2.2.2.1 v.1.2.2.2.2.2.1 v.1.2.2.2.2.2.2.1 v.2.1.1 v.2.1.2.1 v.2.1.2.2.1 v.2.1.2.2.2.1 v.2.1.2.2.2.2.2.1 v.2.1.2.2.2.2.2.2.1 v.2.1.2.2.2.2.2.2.2.1 v.2.2.1.1 v.2.2.1.2.1 v.2.2.1.2.2.1 v.2.2.1.2.2.2.1 v.2.2.1.2.2.2.2.2.1 v.2.2.1.2.2.2.2.2.2.1 v.2.2.1.2.2.2.2.2.2.2.1 v.2.2.2.1.1 v.2.2.2.1.2.2.2.2.2.1 v.2.2.2.2.1.1 v.2.2.2.2.1.2.1 v.2.2.2.2.1.2.2.1 v.2.2.2.2.1.2.2.2.2.2.1 v.2.2.2.2.1.2.2.2.2.2.2.1 v.2.2.2.2.1.2.2.2.2.2.2.2.1 v.2.2.2.2.2.1 (λa b c d e g h i j k l m o p q r s t u w x y z d0 d1 d2=>f (((),(),(),(),a,b,c,()),((d,e,g,h,(),i,j,k,()),(l,m,o,p,(),q,r,s,()),(t,(),(),(),(),u,(),(),()),(w,x,y,(),(),z,d0,d1,()),d2,()))) (λw0 w1 w2 w3 w4 w5 w6 w7 w8=>ks.1 (((),(),()),((w0,(),(),(),(),w1,(),(),()),(w2,w3,w4,(),(),w5,w6,w7,()),w8,())))
def Bb3 {α:Type} (n m:Nat) (a:LR) (b c:Int) (d:Bool) (e f:LI) (g:LR) (h:Bool) (i j:LI) (k:Bool) (l o:LI) (p:LR) (q:Bool) (r s:LI) (t u v:Bool) (x y:LI) (z:Bool) (d0 d1:LI) (d2:LR) (k0:Bool->Bool->Bool->LI->LI->Bool->LI->LI->LR->Option α):Option α:=A5 (A3s n) m (((),(),(),(),a,b,c,()),((d,e,f,g,(),h,i,j,()),(k,l,o,p,(),q,r,s,()),(t,(),(),(),(),u,(),(),()),(v,x,y,(),(),z,d0,d1,()),d2,())) (λw=>k0 w.2.1.1 w.2.1.2.2.2.2.2.1 w.2.2.1.1 w.2.2.1.2.1 w.2.2.1.2.2.1 w.2.2.1.2.2.2.2.2.1 w.2.2.1.2.2.2.2.2.2.1 w.2.2.1.2.2.2.2.2.2.2.1 w.2.2.2.1,())
abbrev Ap5:Tm:=⟨[(2,.k (.hp 2 0 0)),(3,.k (.hp 3 0 0)),(4,.k (.hp 4 0 0))],[(2,.var 81 true false [.d .bool,.d hIs,.d hIs,.d hRs,.d .nil,.d .bool,.d hIs,.d hIs]),(3,.var 81 true false [.d .bool,.d hIs,.d hIs,.d hRs,.d .nil,.d .bool,.d hIs,.d hIs]),(4,.var 81 true false [.d .bool,.d .nil,.d .nil,.d .nil,.d .nil,.d .bool,.d .nil,.d .nil])],[],[]⟩
abbrev Ap4:Tm:=⟨[(2,.k (.hp 2 0 0)),(3,.k (.hp 3 0 0)),(4,.k (.hp 4 0 0)),(5,.k (.hp 5 0 0)),(6,.d hI),(7,.k (.hp 7 0 0)),(20,.d hRs),(21,.d hI),(22,.d hI)],[(2,.var 81 true false [.d .bool,.d hIs,.d hIs,.d hRs,.d .nil,.d .bool,.d hIs,.d hIs]),(3,.var 81 true false [.d .bool,.d hIs,.d hIs,.d hRs,.d .nil,.d .bool,.d hIs,.d hIs]),(4,.var 81 true false [.d .bool,.d .nil,.d .nil,.d .nil,.d .nil,.d .bool,.d .nil,.d .nil]),(5,.var 81 true false [.d .bool,.d hIs,.d hIs,.d .nil,.d .nil,.d .bool,.d hIs,.d hIs]),(7,.var 31 true false [.d .bool,.d hIs,.d hIs])],[],[]⟩
abbrev Ad6:Tm:=⟨[(2,.k (.hp 2 0 0)),(3,.k (.hp 3 0 0)),(4,.k (.hp 4 0 0)),(5,.k (.hp 5 0 0)),(6,.d hI),(7,.k (.hp 7 0 0)),(20,.d hRs),(21,.d hI),(22,.d hI)],[(2,.var 81 true false [.d .bool,.d hIs,.d hIs,.d hRs,.d .nil,.d .bool,.d hIs,.d hIs]),(3,.var 81 true false [.d .bool,.d hIs,.d hIs,.d hRs,.d .nil,.d .bool,.d hIs,.d hIs]),(4,.var 81 true false [.d .bool,.d .nil,.d .nil,.d .nil,.d .nil,.d .bool,.d .nil,.d .nil]),(5,.var 81 false false [.d .bool,.d hIs,.d hIs,.k (.hw 37),.d .nil,.d .bool,.d hIs,.d hIs]),(7,.var 31 true false [.d .bool,.d hIs,.d hIs]),(37,.arr 31 hR false)],[],[]⟩
def f192 (n:Nat) (a0 a1:Rq × LR × Unit × Rq):Option (Rq × LR × Unit × Rq) :=
 ob (f161 n a0.1 a1.1) λa =>
 ob (f161 n a0.2.2.2 a1.2.2.2) λb =>
 bif (decide (0<(a0.2.1.length:Int))) then
  gd (decide (0<(a0.2.1.length:Int))) (
   let c:=a0.2.1.getD 0 (false,[],[])
   gd (decide (0<(a1.2.1.length:Int))) (
    let d:=a1.2.1.getD 0 (false,[],[])
    ob (f161 n c d) λe =>
    Bb3 n n a0.2.1 (a0.2.1.length:Int) 1 a0.1.1 a0.1.2.1 a0.1.2.2 a0.2.1 a0.2.2.2.1 a0.2.2.2.2.1 a0.2.2.2.2.2 a1.1.1 a1.1.2.1 a1.1.2.2 a1.2.1 a1.2.2.2.1 a1.2.2.2.2.1 a1.2.2.2.2.2 false false a.1 a.2.1 a.2.2 b.1 b.2.1 b.2.2 [e]
     (λm o f g h i j k l=>(
      some ((f,g,h),l,(),i,j,k)))))
 else
  some (a,[],(),b)
def Ajj (n:Nat):Ent:=⟨192,[(.st (.pair hR (.pair hRs (.pair .nil hR)))),(.st (.pair hR (.pair hRs (.pair .nil hR))))],[(.st (.pair hR (.pair hRs (.pair .nil hR))))],λx=>f192 n x.1 x.2⟩
def Ajk (α:Type) (n:Nat):D3 α:={ reg:=[(1,⟨0,[],[(4,{ ent:=some (Ag n) }),(9,{ ent:=some (Ag n) })]⟩),(5,⟨0,[],[(8,{ ent:=some (Ag n) }),(9,{ sh:=some hR }),(10,{ sh:=some hR })]⟩)],join:=[],loop:=[(3,⟨Tw,A3t,A5 (A3s n) n⟩)],any:=[(1,Ap5),(5,Ap4),(5,Ad6)] }
set_option maxHeartbeats 8000000 in
theorem Bb4 (n:Nat):Al TT ⟨60,[]⟩ [(4,{ ent:=some (Ag n) }),(9,{ ent:=some (Ag n) })] Ap5 (A6 ((A0 Tryz.f192).at [1,0])):=by
 refine ⟨by kernel_rfl,λw q hq=>?_⟩
 have e:WT [(4,{ ent:=some (Ag n) }),(9,{ ent:=some (Ag n) })] (A7 (A6 ((A0 Tryz.f192).at [1,0])).toList) q=(∃ (y0:HL (Ag n).rs) (q0:List (Nat × RV)),q=(4,.sv (Ai (Ag n).rs y0))::q0 /\ ∃ (y1:HL (Ag n).rs) (q1:List (Nat × RV)),q0=(9,.sv (Ai (Ag n).rs y1))::q1/\q1=[]):=by kernel_rfl
 rw [e] at hq;obtain ⟨y0,q0,rfl,y1,q1,rfl,rfl⟩:=hq
 all_goals exact .inr ⟨12,by kernel_rfl,by kernel_rfl,by kernel_rfl⟩
set_option maxHeartbeats 8000000 in
theorem Ap6 (n:Nat):Al TT ⟨60,[]⟩ [(8,{ ent:=some (Ag n) }),(9,{ sh:=some hR }),(10,{ sh:=some hR })] Ap4 (A6 ((A0 Tryz.f192).at [1,1,0,1,0,0,1,1,0,0,1,0])):=by
 refine ⟨by kernel_rfl,λw q hq=>?_⟩
 have e:WT [(8,{ ent:=some (Ag n) }),(9,{ sh:=some hR }),(10,{ sh:=some hR })] (A7 (A6 ((A0 Tryz.f192).at [1,1,0,1,0,0,1,1,0,0,1,0])).toList) q=(∃ (y0:HL (Ag n).rs) (q0:List (Nat × RV)),q=(8,.sv (Ai (Ag n).rs y0))::q0/\q0=[]):=by kernel_rfl
 rw [e] at hq;obtain ⟨y0,q0,rfl,rfl⟩:=hq
 all_goals exact .inr ⟨10,by kernel_rfl,by kernel_rfl,by kernel_rfl⟩
set_option maxHeartbeats 8000000 in
theorem Ad7 (n:Nat):Al TT ⟨60,[]⟩ [(8,{ ent:=some (Ag n) }),(9,{ sh:=some hR }),(10,{ sh:=some hR })] Ad6 (A6 ((A0 Tryz.f192).at [1,1,0,1,0,0,1,1,0,0,1,0])):=by
 refine ⟨by kernel_rfl,λw q hq=>?_⟩
 have e:WT [(8,{ ent:=some (Ag n) }),(9,{ sh:=some hR }),(10,{ sh:=some hR })] (A7 (A6 ((A0 Tryz.f192).at [1,1,0,1,0,0,1,1,0,0,1,0])).toList) q=(∃ (y0:HL (Ag n).rs) (q0:List (Nat × RV)),q=(8,.sv (Ai (Ag n).rs y0))::q0/\q0=[]):=by kernel_rfl
 rw [e] at hq;obtain ⟨y0,q0,rfl,rfl⟩:=hq
 all_goals exact .inr ⟨10,by kernel_rfl,by kernel_rfl,by kernel_rfl⟩
theorem Ad5 (α:Type) (n:Nat):Ao PP (Ah (Ajk α n).reg):=⟨Co n,Co n,Co n,trivial⟩
theorem Aze (α:Type) (n:Nat):D3.OK PP TT ⟨60,[]⟩ (Ajk α n) ((A0 Tryz.f192).at [1,1,0,1,0,0]) :=
 D3.OK.mk3a (Ad5 α n) (show Ab ((A0 Tryz.f192).at [1,1,0,1,0,0])=[] by kernel_rfl) trivial (show Au ((A0 Tryz.f192).at [1,1,0,1,0,0])=[(5,A6 ((A0 Tryz.f192).at [1,1,0,1,0,0,1,1,0,0,1,0])),(7,A6 ((A0 Tryz.f192).at [1,1,0,1,0,0,1,1,0,0,1,1,1,0]))] by kernel_rfl) ⟨⟨Ap6 n,Ad7 n,trivial⟩,trivial,trivial⟩
theorem At6 (α:Type) (n:Nat):LO.Sound (α:=α) PP ⟨60,[]⟩ ⟨Tw,A3t,A5 (A3s n) n⟩ (.loop ((A0 Tryz.f192).at [1,1,0,1,0,0])):=lk (Aze α n) n
theorem Bg4 (α:Type) (n:Nat):D3.OK PP TT ⟨60,[]⟩ (Ajk α n) (A0 Tryz.f192) :=
 D3.OK.mk3a (Ad5 α n) (show Ab (A0 Tryz.f192)=[(3,(.loop ((A0 Tryz.f192).at [1,1,0,1,0,0])))] by kernel_rfl) ⟨Ad rfl (At6 α n),trivial⟩ (show Au (A0 Tryz.f192)=[(1,A6 ((A0 Tryz.f192).at [1,0])),(5,A6 ((A0 Tryz.f192).at [1,1,0,1,0,0,1,1,0,0,1,0])),(7,A6 ((A0 Tryz.f192).at [1,1,0,1,0,0,1,1,0,0,1,1,1,0]))] by kernel_rfl) ⟨⟨Bb4 n,trivial⟩,⟨Ap6 n,Ad7 n,trivial⟩,trivial,trivial⟩
theorem Ap3 (n:Nat):(Ajj n).Sound PP:=fk (fn:=Tryz.f192) (Bg4 _ n)

def f178 (n:Nat) (a0 a1:Rq):Option Rq :=
 ob (f200 n a0.2.1 a1.2.1) λa =>
 ob (f200 n a0.2.2 a1.2.2) λb =>
 ob (f201 n (!(a0.1==a1.1)) a b) λc =>
 some c
def Aa (n:Nat):Ent:=⟨178,[hR,hR],[hR],λx=>f178 n x.1 x.2⟩
def Bgg (α:Type) (n:Nat):D3 α:={ reg:=[(1,⟨15,[],[(9,{ ent:=some (Hf n) }),(14,{ ent:=some (Hf n) }),(15,{ ent:=some (R2 n) })]⟩)],join:=[],loop:=[] }
theorem Ax (n:Nat):(Aa n).Sound PP:=Ay (fn:=Tryz.f178) (D:=Bgg _ n) ⟨Gm n,Gm n,R1 n,trivial⟩

def f221 (n:Nat) (a0 a1:Rq):Option Rq :=
 ob (f178 n a0 a1) λa =>
 some a
def Cg (n:Nat):Ent:=⟨221,[hR,(.ref hR)],[hR],λx=>f221 n x.1 x.2⟩
def Bfh (α:Type) (n:Nat):D3 α:={ reg:=[(1,⟨0,[],[(2,{ ent:=some (Aa n) })]⟩)],join:=[],loop:=[] }
theorem Aoi (n:Nat):(Cg n).Sound PP:=Ay (fn:=Tryz.f221) (D:=Bfh _ n) ⟨Ax n,trivial⟩

def A2s {α:Type} (n:Nat) (d:Rq) (p:(Bool × LI × LI × LR × Unit × Bool × LI × LI) × Rq) (b:LR) (e a:Int) (q:Bool) (r s:LI) (t:LR) (u:Bool) (v w:LI) (g h i:Bool) (j k:LI) (l:Bool) (m o:LI) (c:LR) (f:Rq->((Bool × LI × LI × LR × Unit × Bool × LI × LI) × Rq)->LR->Int->Int->Bool->LI->LI->LR->Bool->LI->LI->Bool->Bool->Bool->LI->LI->Bool->LI->LI->LR->Option α) (k0:Bool->Bool->Bool->LI->LI->Bool->LI->LI->LR->Option α):Option α :=
 bif (decide (a<e)) then
  gd (decide (0<=a)&&decide (a<(b.length:Int))) (
   let x:=b.getD a.toNat (false,[],[])
   ob (f221 n x d) λy =>
   gd (decide ((c.length+1)*56<=140737488355328)) (
    f d p b e (W (a+1)) q r s t u v w g h i j k l m o (c++[y])))
 else
  k0 g h i j k l m o c
abbrev Fb:Tm:=⟨[(3,.d (.clo 221 (.ref hR))),(4,.d (.clo 222 (.pair (.ref (.st (.pair .bool (.pair hIs (.pair hIs (.pair hRs (.pair .nil (.pair .bool (.pair hIs hIs))))))))) (.ref hR)))),(5,.k (.hp 5 0 0)),(10,.k (.hp 10 0 0)),(11,.k (.hp 11 0 0)),(18,.d hRs),(19,.d hI),(20,.d hI)],[(5,.var 81 true false [.d .bool,.d hIs,.d hIs,.d hRs,.d .nil,.d .bool,.d hIs,.d hIs]),(10,.var 81 true false [.d .bool,.d .nil,.d .nil,.d .nil,.d .nil,.d .bool,.d .nil,.d .nil]),(11,.var 81 false false [.d .bool,.d hIs,.d hIs,.k (.hw 31),.d .nil,.d .bool,.d hIs,.d hIs]),(31,.arr 31 hR false)],[13,30],[]⟩
abbrev A0s:Tm:=⟨[(10,.k (.hp 10 0 0)),(11,.k (.hp 11 0 0))],[(10,.var 81 true false [.d .bool,.d .nil,.d .nil,.d .nil,.d .nil,.d .bool,.d .nil,.d .nil]),(11,.var 81 false false [.d .bool,.d hIs,.d hIs,.k (.hw 31),.d .nil,.d .bool,.d hIs,.d hIs]),(31,.arr 31 hR false)],[5],[]⟩
abbrev I0:List (Exit × Tm):=[(.exit 0,A0s)]
def Hz {α:Type} (n:Nat) (v:Fb.den) (f:Fb.den->Option α) (ks:KS α I0):Option α:=A2s n v.1.1 v.1.2.1 v.1.2.2.2.2.2.1 v.1.2.2.2.2.2.2.1 v.1.2.2.2.2.2.2.2.1 v.2.1.1 v.2.1.2.1 v.2.1.2.2.1 v.2.1.2.2.2.1 v.2.1.2.2.2.2.2.1 v.2.1.2.2.2.2.2.2.1 v.2.1.2.2.2.2.2.2.2.1 v.2.2.1.1 v.2.2.1.2.2.2.2.2.1 v.2.2.2.1.1 v.2.2.2.1.2.1 v.2.2.2.1.2.2.1 v.2.2.2.1.2.2.2.2.2.1 v.2.2.2.1.2.2.2.2.2.2.1 v.2.2.2.1.2.2.2.2.2.2.2.1 v.2.2.2.2.1 (λa b c d e g h i j k l m o p q r s t u w x=>f ((a,b,(),(),(),c,d,e,()),((g,h,i,j,(),k,l,m,()),(o,(),(),(),(),p,(),(),()),(q,r,s,(),(),t,u,w,()),x,()))) (λw0 w1 w2 w3 w4 w5 w6 w7 w8=>ks.1 (((),(),()),((w0,(),(),(),(),w1,(),(),()),(w2,w3,w4,(),(),w5,w6,w7,()),w8,())))
def A6u {α:Type} (n m:Nat) (a:Rq) (b:(Bool × LI × LI × LR × Unit × Bool × LI × LI) × Rq) (c:LR) (d e:Int) (f:Bool) (g h:LI) (i:LR) (j:Bool) (k l:LI) (o p q:Bool) (r s:LI) (t:Bool) (u v:LI) (x:LR) (k0:Bool->Bool->Bool->LI->LI->Bool->LI->LI->LR->Option α):Option α:=A5 (Hz n) m ((a,b,(),(),(),c,d,e,()),((f,g,h,i,(),j,k,l,()),(o,(),(),(),(),p,(),(),()),(q,r,s,(),(),t,u,v,()),x,())) (λw=>k0 w.2.1.1 w.2.1.2.2.2.2.2.1 w.2.2.1.1 w.2.2.1.2.1 w.2.2.1.2.2.1 w.2.2.1.2.2.2.2.2.1 w.2.2.1.2.2.2.2.2.2.1 w.2.2.1.2.2.2.2.2.2.2.1 w.2.2.2.1,())
abbrev Pl:Tm:=⟨[(3,.d (.clo 221 (.ref hR))),(4,.d (.clo 222 (.pair (.ref (.st (.pair .bool (.pair hIs (.pair hIs (.pair hRs (.pair .nil (.pair .bool (.pair hIs hIs))))))))) (.ref hR)))),(5,.k (.hp 5 0 0)),(10,.k (.hp 10 0 0)),(11,.k (.hp 11 0 0)),(12,.d hI),(13,.k (.hp 13 0 0)),(18,.d hRs),(19,.d hI),(20,.d hI)],[(5,.var 81 true false [.d .bool,.d hIs,.d hIs,.d hRs,.d .nil,.d .bool,.d hIs,.d hIs]),(10,.var 81 true false [.d .bool,.d .nil,.d .nil,.d .nil,.d .nil,.d .bool,.d .nil,.d .nil]),(11,.var 81 true false [.d .bool,.d hIs,.d hIs,.d .nil,.d .nil,.d .bool,.d hIs,.d hIs]),(13,.var 31 true false [.d .bool,.d hIs,.d hIs])],[6,7],[]⟩
abbrev M4:Tm:=⟨[(3,.d (.clo 221 (.ref hR))),(4,.d (.clo 222 (.pair (.ref (.st (.pair .bool (.pair hIs (.pair hIs (.pair hRs (.pair .nil (.pair .bool (.pair hIs hIs))))))))) (.ref hR)))),(5,.k (.hp 5 0 0)),(10,.k (.hp 10 0 0)),(11,.k (.hp 11 0 0)),(12,.d hI),(13,.k (.hp 13 0 0)),(18,.d hRs),(19,.d hI),(20,.d hI)],[(5,.var 81 true false [.d .bool,.d hIs,.d hIs,.d hRs,.d .nil,.d .bool,.d hIs,.d hIs]),(10,.var 81 true false [.d .bool,.d .nil,.d .nil,.d .nil,.d .nil,.d .bool,.d .nil,.d .nil]),(11,.var 81 false false [.d .bool,.d hIs,.d hIs,.k (.hw 31),.d .nil,.d .bool,.d hIs,.d hIs]),(13,.var 31 true false [.d .bool,.d hIs,.d hIs]),(31,.arr 31 hR false)],[],[]⟩
def Xg (n:Nat) (a0:Rq × LR × Unit × Rq) (a1 a2 a3:Rq) (a4:(Bool × LI × LI × LR × Unit × Bool × LI × LI) × Rq):Option (Rq × LR × Unit × Rq) :=
 bif (decide (0<(a0.2.1.length:Int))) then
  gd (decide (0<(a0.2.1.length:Int))) (
   let a:=a0.2.1.getD 0 (false,[],[])
   ob (f221 n a a3) λb =>
   A6u n n a3 a4 a0.2.1 (a0.2.1.length:Int) 1 a0.1.1 a0.1.2.1 a0.1.2.2 a0.2.1 a0.2.2.2.1 a0.2.2.2.2.1 a0.2.2.2.2.2 false false a1.1 a1.2.1 a1.2.2 a2.1 a2.2.1 a2.2.2 [b]
    (λj k c d e f g h i=>(
     some ((c,d,e),i,(),f,g,h))))
 else
  some (a1,[],(),a2)
def Dk (n:Nat):Ent:=⟨220,[(.st (.pair hR (.pair hRs (.pair .nil hR)))),hR,hR,(.clo 221 (.ref hR)),(.clo 222 (.pair (.ref (.st (.pair .bool (.pair hIs (.pair hIs (.pair hRs (.pair .nil (.pair .bool (.pair hIs hIs))))))))) (.ref hR)))],[(.st (.pair hR (.pair hRs (.pair .nil hR))))],λx=>Xg n x.1 x.2.1 x.2.2.1 x.2.2.2.1 x.2.2.2.2⟩
def K7 (α:Type) (n:Nat):D3 α:={ reg:=[(5,⟨0,[],[(4,{ ent:=some (Cg n) }),(5,{ sh:=some hR }),(6,{ sh:=some hR })]⟩)],join:=[],loop:=[(3,⟨Fb,I0,A5 (Hz n) n⟩)],any:=[(5,Pl),(5,M4)] }
set_option maxHeartbeats 8000000 in
theorem Pm (n:Nat):Al TT ⟨46,[]⟩ [(4,{ ent:=some (Cg n) }),(5,{ sh:=some hR }),(6,{ sh:=some hR })] Pl (A6 ((A0 Tryz.f220).at [1,1,0,1,0,0,1,1,0,0,1,0])):=by
 refine ⟨by kernel_rfl,λw q hq=>?_⟩
 have e:WT [(4,{ ent:=some (Cg n) }),(5,{ sh:=some hR }),(6,{ sh:=some hR })] (A7 (A6 ((A0 Tryz.f220).at [1,1,0,1,0,0,1,1,0,0,1,0])).toList) q=(∃ (y0:HL (Cg n).rs) (q0:List (Nat × RV)),q=(4,.sv (Ai (Cg n).rs y0))::q0/\q0=[]):=by kernel_rfl
 rw [e] at hq;obtain ⟨y0,q0,rfl,rfl⟩:=hq
 all_goals exact .inr ⟨6,by kernel_rfl,by kernel_rfl,by kernel_rfl⟩
set_option maxHeartbeats 8000000 in
theorem M5 (n:Nat):Al TT ⟨46,[]⟩ [(4,{ ent:=some (Cg n) }),(5,{ sh:=some hR }),(6,{ sh:=some hR })] M4 (A6 ((A0 Tryz.f220).at [1,1,0,1,0,0,1,1,0,0,1,0])):=by
 refine ⟨by kernel_rfl,λw q hq=>?_⟩
 have e:WT [(4,{ ent:=some (Cg n) }),(5,{ sh:=some hR }),(6,{ sh:=some hR })] (A7 (A6 ((A0 Tryz.f220).at [1,1,0,1,0,0,1,1,0,0,1,0])).toList) q=(∃ (y0:HL (Cg n).rs) (q0:List (Nat × RV)),q=(4,.sv (Ai (Cg n).rs y0))::q0/\q0=[]):=by kernel_rfl
 rw [e] at hq;obtain ⟨y0,q0,rfl,rfl⟩:=hq
 all_goals exact .inr ⟨6,by kernel_rfl,by kernel_rfl,by kernel_rfl⟩
theorem M3 (α:Type) (n:Nat):Ao PP (Ah (K7 α n).reg):=⟨Aoi n,trivial⟩
theorem A0r (α:Type) (n:Nat):D3.OK PP TT ⟨46,[]⟩ (K7 α n) ((A0 Tryz.f220).at [1,1,0,1,0,0]) :=
 D3.OK.mk3a (M3 α n) (show Ab ((A0 Tryz.f220).at [1,1,0,1,0,0])=[] by kernel_rfl) trivial (show Au ((A0 Tryz.f220).at [1,1,0,1,0,0])=[(5,A6 ((A0 Tryz.f220).at [1,1,0,1,0,0,1,1,0,0,1,0])),(7,A6 ((A0 Tryz.f220).at [1,1,0,1,0,0,1,1,0,0,1,1,1,0]))] by kernel_rfl) ⟨⟨Pm n,M5 n,trivial⟩,trivial,trivial⟩
theorem Xf (α:Type) (n:Nat):LO.Sound (α:=α) PP ⟨46,[]⟩ ⟨Fb,I0,A5 (Hz n) n⟩ (.loop ((A0 Tryz.f220).at [1,1,0,1,0,0])):=lk (A0r α n) n
theorem Aab (α:Type) (n:Nat):D3.OK PP TT ⟨46,[]⟩ (K7 α n) (A0 Tryz.f220) :=
 D3.OK.mk3a (M3 α n) (show Ab (A0 Tryz.f220)=[(3,(.loop ((A0 Tryz.f220).at [1,1,0,1,0,0])))] by kernel_rfl) ⟨Ad rfl (Xf α n),trivial⟩ (show Au (A0 Tryz.f220)=[(5,A6 ((A0 Tryz.f220).at [1,1,0,1,0,0,1,1,0,0,1,0])),(7,A6 ((A0 Tryz.f220).at [1,1,0,1,0,0,1,1,0,0,1,1,1,0]))] by kernel_rfl) ⟨⟨Pm n,M5 n,trivial⟩,trivial,trivial⟩
theorem A6t (n:Nat):(Dk n).Sound PP:=fk (fn:=Tryz.f220) (Aab _ n)

abbrev Ap2:Tm:=⟨[(2,.k (.hp 2 0 0)),(3,.k (.hp 3 0 0)),(4,.k (.hp 4 0 0))],[(2,.var 81 true false [.d .bool,.d hIs,.d hIs,.d hRs,.d .nil,.d .bool,.d hIs,.d hIs]),(3,.var 31 true false [.d .bool,.d hIs,.d hIs]),(4,.var 81 true false [.d .bool,.d .nil,.d .nil,.d .nil,.d .nil,.d .bool,.d .nil,.d .nil])],[],[]⟩
def f193 (n:Nat) (a0:Rq × LR × Unit × Rq) (a1:Rq):Option (Rq × LR × Unit × Rq) :=
 ob (f178 n a0.1 a1) λa =>
 ob (f178 n a0.2.2.2 a1) λb =>
 ob (Xg n (a0.1,a0.2.1,(),a0.2.2.2) a b a1 ((a0.1.1,a0.1.2.1,a0.1.2.2,a0.2.1,(),a0.2.2.2),a1)) λc =>
 some c
def Ajc (n:Nat):Ent:=⟨193,[(.st (.pair hR (.pair hRs (.pair .nil hR)))),hR],[(.st (.pair hR (.pair hRs (.pair .nil hR))))],λx=>f193 n x.1 x.2⟩
def Azc (α:Type) (n:Nat):D3 α:={ reg:=[(1,⟨0,[],[(4,{ ent:=some (Aa n) }),(8,{ ent:=some (Aa n) }),(9,{ sh:=some (.ref hR) }),(10,{ sh:=some (.pair (.ref (.st (.pair .bool (.pair hIs (.pair hIs (.pair hRs (.pair .nil (.pair .bool (.pair hIs hIs))))))))) (.ref hR)) }),(11,{ ent:=some (Dk n) })]⟩)],join:=[],loop:=[],any:=[(1,Ap2)] }
set_option maxHeartbeats 8000000 in
theorem Bb1 (n:Nat):Al TT ⟨17,[]⟩ [(4,{ ent:=some (Aa n) }),(8,{ ent:=some (Aa n) }),(9,{ sh:=some (.ref hR) }),(10,{ sh:=some (.pair (.ref (.st (.pair .bool (.pair hIs (.pair hIs (.pair hRs (.pair .nil (.pair .bool (.pair hIs hIs))))))))) (.ref hR)) }),(11,{ ent:=some (Dk n) })] Ap2 (A6 ((A0 Tryz.f193).at [1,0])):=by
 refine ⟨by kernel_rfl,λw q hq=>?_⟩
 have e:WT [(4,{ ent:=some (Aa n) }),(8,{ ent:=some (Aa n) }),(9,{ sh:=some (.ref hR) }),(10,{ sh:=some (.pair (.ref (.st (.pair .bool (.pair hIs (.pair hIs (.pair hRs (.pair .nil (.pair .bool (.pair hIs hIs))))))))) (.ref hR)) }),(11,{ ent:=some (Dk n) })] (A7 (A6 ((A0 Tryz.f193).at [1,0])).toList) q=(∃ (y0:HL (Aa n).rs) (q0:List (Nat × RV)),q=(4,.sv (Ai (Aa n).rs y0))::q0 /\ ∃ (y1:HL (Aa n).rs) (q1:List (Nat × RV)),q0=(8,.sv (Ai (Aa n).rs y1))::q1 /\ ∃ (y2:HL (Dk n).rs) (q2:List (Nat × RV)),q1=(11,.sv (Ai (Dk n).rs y2))::q2/\q2=[]):=by kernel_rfl
 rw [e] at hq;obtain ⟨y0,q0,rfl,y1,q1,rfl,y2,q2,rfl,rfl⟩:=hq
 all_goals exact .inl (Gs.mk (by kernel_rfl))
theorem Azb (α:Type) (n:Nat):Ao PP (Ah (Azc α n).reg):=⟨Ax n,Ax n,A6t n,trivial⟩
theorem Bg3 (α:Type) (n:Nat):D3.OK PP TT ⟨17,[]⟩ (Azc α n) (A0 Tryz.f193) :=
 D3.OK.mk3a (Azb α n) (show Ab (A0 Tryz.f193)=[] by kernel_rfl) trivial (show Au (A0 Tryz.f193)=[(1,A6 ((A0 Tryz.f193).at [1,0]))] by kernel_rfl) ⟨⟨Bb1 n,trivial⟩,trivial⟩
theorem Ap1 (n:Nat):(Ajc n).Sound PP:=fk (fn:=Tryz.f193) (Bg3 _ n)

def B5e {α:Type} (n:Nat) (b:LR) (e a:Int) (g:Bool) (h i:LI) (v:LR) (w:Bool) (x y:LI) (j:Bool) (k l:LI) (c:LR) (z:Bool) (d0 d1:LI) (m o p:Bool) (q r:LI) (s:Bool) (t u:LI) (d:LR) (f:LR->Int->Int->Bool->LI->LI->LR->Bool->LI->LI->Bool->LI->LI->LR->Bool->LI->LI->Bool->Bool->Bool->LI->LI->Bool->LI->LI->LR->Option α) (k0:Bool->Bool->Bool->LI->LI->Bool->LI->LI->LR->Option α):Option α :=
 bif (decide (a<e)) then
  gd (decide (0<=a)&&decide (a<(b.length:Int))) (
   let d2:=b.getD a.toNat (false,[],[])
   gd (decide (0<=a)&&decide (a<(c.length:Int))) (
    let d3:=c.getD a.toNat (false,[],[])
    ob (f178 n d2 (j,k,l)) λd4 =>
    ob (f178 n (g,h,i) d3) λd5 =>
    ob (f161 n d4 d5) λd6 =>
    gd (decide ((d.length+1)*56<=140737488355328)) (
     f b e (W (a+1)) g h i v w x y j k l c z d0 d1 m o p q r s t u (d++[d6]))))
 else
  k0 m o p q r s t u d
abbrev Tv:Tm:=⟨[(2,.k (.hp 2 0 0)),(3,.k (.hp 3 0 0)),(4,.k (.hp 4 0 0)),(5,.k (.hp 5 0 0)),(28,.d hRs),(29,.d hI),(30,.d hI)],[(2,.var 81 true false [.d .bool,.d hIs,.d hIs,.d hRs,.d .nil,.d .bool,.d hIs,.d hIs]),(3,.var 81 true false [.d .bool,.d hIs,.d hIs,.d hRs,.d .nil,.d .bool,.d hIs,.d hIs]),(4,.var 81 true false [.d .bool,.d .nil,.d .nil,.d .nil,.d .nil,.d .bool,.d .nil,.d .nil]),(5,.var 81 false false [.d .bool,.d hIs,.d hIs,.k (.hw 52),.d .nil,.d .bool,.d hIs,.d hIs]),(52,.arr 31 hR false)],[7,8,51],[]⟩
abbrev Aza:Tm:=⟨[(4,.k (.hp 4 0 0)),(5,.k (.hp 5 0 0))],[(4,.var 81 true false [.d .bool,.d .nil,.d .nil,.d .nil,.d .nil,.d .bool,.d .nil,.d .nil]),(5,.var 81 false false [.d .bool,.d hIs,.d hIs,.k (.hw 52),.d .nil,.d .bool,.d hIs,.d hIs]),(52,.arr 31 hR false)],[2,3],[]⟩
abbrev A3r:List (Exit × Tm):=[(.exit 0,Aza)]
def A3q {α:Type} (n:Nat) (v:Tv.den) (f:Tv.den->Option α) (ks:KS α A3r):Option α:=B5e n v.1.2.2.2.2.1 v.1.2.2.2.2.2.1 v.1.2.2.2.2.2.2.1 v.2.1.1 v.2.1.2.1 v.2.1.2.2.1 v.2.1.2.2.2.1 v.2.1.2.2.2.2.2.1 v.2.1.2.2.2.2.2.2.1 v.2.1.2.2.2.2.2.2.2.1 v.2.2.1.1 v.2.2.1.2.1 v.2.2.1.2.2.1 v.2.2.1.2.2.2.1 v.2.2.1.2.2.2.2.2.1 v.2.2.1.2.2.2.2.2.2.1 v.2.2.1.2.2.2.2.2.2.2.1 v.2.2.2.1.1 v.2.2.2.1.2.2.2.2.2.1 v.2.2.2.2.1.1 v.2.2.2.2.1.2.1 v.2.2.2.2.1.2.2.1 v.2.2.2.2.1.2.2.2.2.2.1 v.2.2.2.2.1.2.2.2.2.2.2.1 v.2.2.2.2.1.2.2.2.2.2.2.2.1 v.2.2.2.2.2.1 (λa b c d e g h i j k l m o p q r s t u w x y z d0 d1 d2=>f (((),(),(),(),a,b,c,()),((d,e,g,h,(),i,j,k,()),(l,m,o,p,(),q,r,s,()),(t,(),(),(),(),u,(),(),()),(w,x,y,(),(),z,d0,d1,()),d2,()))) (λw0 w1 w2 w3 w4 w5 w6 w7 w8=>ks.1 (((),(),()),((w0,(),(),(),(),w1,(),(),()),(w2,w3,w4,(),(),w5,w6,w7,()),w8,())))
def Bay {α:Type} (n m:Nat) (a:LR) (b c:Int) (d:Bool) (e f:LI) (g:LR) (h:Bool) (i j:LI) (k:Bool) (l o:LI) (p:LR) (q:Bool) (r s:LI) (t u v:Bool) (x y:LI) (z:Bool) (d0 d1:LI) (d2:LR) (k0:Bool->Bool->Bool->LI->LI->Bool->LI->LI->LR->Option α):Option α:=A5 (A3q n) m (((),(),(),(),a,b,c,()),((d,e,f,g,(),h,i,j,()),(k,l,o,p,(),q,r,s,()),(t,(),(),(),(),u,(),(),()),(v,x,y,(),(),z,d0,d1,()),d2,())) (λw=>k0 w.2.1.1 w.2.1.2.2.2.2.2.1 w.2.2.1.1 w.2.2.1.2.1 w.2.2.1.2.2.1 w.2.2.1.2.2.2.2.2.1 w.2.2.1.2.2.2.2.2.2.1 w.2.2.1.2.2.2.2.2.2.2.1 w.2.2.2.1,())
abbrev Aoy:Tm:=⟨[(2,.k (.hp 2 0 0)),(3,.k (.hp 3 0 0)),(4,.k (.hp 4 0 0))],[(2,.var 81 true false [.d .bool,.d hIs,.d hIs,.d hRs,.d .nil,.d .bool,.d hIs,.d hIs]),(3,.var 81 true false [.d .bool,.d hIs,.d hIs,.d hRs,.d .nil,.d .bool,.d hIs,.d hIs]),(4,.var 81 true false [.d .bool,.d .nil,.d .nil,.d .nil,.d .nil,.d .bool,.d .nil,.d .nil])],[],[]⟩
abbrev Aox:Tm:=⟨[(2,.k (.hp 2 0 0)),(3,.k (.hp 3 0 0)),(4,.k (.hp 4 0 0)),(5,.k (.hp 5 0 0)),(6,.d hI),(7,.k (.hp 7 0 0)),(8,.k (.hp 8 0 0)),(28,.d hRs),(29,.d hI),(30,.d hI)],[(2,.var 81 true false [.d .bool,.d hIs,.d hIs,.d hRs,.d .nil,.d .bool,.d hIs,.d hIs]),(3,.var 81 true false [.d .bool,.d hIs,.d hIs,.d hRs,.d .nil,.d .bool,.d hIs,.d hIs]),(4,.var 81 true false [.d .bool,.d .nil,.d .nil,.d .nil,.d .nil,.d .bool,.d .nil,.d .nil]),(5,.var 81 true false [.d .bool,.d hIs,.d hIs,.d .nil,.d .nil,.d .bool,.d hIs,.d hIs]),(7,.var 31 true false [.d .bool,.d hIs,.d hIs]),(8,.var 31 true false [.d .bool,.d hIs,.d hIs])],[],[]⟩
abbrev Ad3:Tm:=⟨[(2,.k (.hp 2 0 0)),(3,.k (.hp 3 0 0)),(4,.k (.hp 4 0 0)),(5,.k (.hp 5 0 0)),(6,.d hI),(7,.k (.hp 7 0 0)),(8,.k (.hp 8 0 0)),(28,.d hRs),(29,.d hI),(30,.d hI)],[(2,.var 81 true false [.d .bool,.d hIs,.d hIs,.d hRs,.d .nil,.d .bool,.d hIs,.d hIs]),(3,.var 81 true false [.d .bool,.d hIs,.d hIs,.d hRs,.d .nil,.d .bool,.d hIs,.d hIs]),(4,.var 81 true false [.d .bool,.d .nil,.d .nil,.d .nil,.d .nil,.d .bool,.d .nil,.d .nil]),(5,.var 81 false false [.d .bool,.d hIs,.d hIs,.k (.hw 52),.d .nil,.d .bool,.d hIs,.d hIs]),(7,.var 31 true false [.d .bool,.d hIs,.d hIs]),(8,.var 31 true false [.d .bool,.d hIs,.d hIs]),(52,.arr 31 hR false)],[],[]⟩
def f194 (n:Nat) (a0 a1:Rq × LR × Unit × Rq):Option (Rq × LR × Unit × Rq) :=
 ob (f178 n a0.1 a1.1) λa =>
 ob (f178 n a0.2.2.2 a1.1) λc =>
 ob (f178 n a0.1 a1.2.2.2) λd =>
 ob (f161 n c d) λb =>
 bif (decide (0<(a0.2.1.length:Int))) then
  gd (decide (0<(a0.2.1.length:Int))) (
   let e:=a0.2.1.getD 0 (false,[],[])
   gd (decide (0<(a1.2.1.length:Int))) (
    let f:=a1.2.1.getD 0 (false,[],[])
    ob (f178 n e a1.1) λg =>
    ob (f178 n a0.1 f) λh =>
    ob (f161 n g h) λi =>
    Bay n n a0.2.1 (a0.2.1.length:Int) 1 a0.1.1 a0.1.2.1 a0.1.2.2 a0.2.1 a0.2.2.2.1 a0.2.2.2.2.1 a0.2.2.2.2.2 a1.1.1 a1.1.2.1 a1.1.2.2 a1.2.1 a1.2.2.2.1 a1.2.2.2.2.1 a1.2.2.2.2.2 false false a.1 a.2.1 a.2.2 b.1 b.2.1 b.2.2 [i]
     (λr s j k l m o p q=>(
      some ((j,k,l),q,(),m,o,p)))))
 else
  some (a,[],(),b)
def Aj8 (n:Nat):Ent:=⟨194,[(.st (.pair hR (.pair hRs (.pair .nil hR)))),(.st (.pair hR (.pair hRs (.pair .nil hR))))],[(.st (.pair hR (.pair hRs (.pair .nil hR))))],λx=>f194 n x.1 x.2⟩
def Aj9 (α:Type) (n:Nat):D3 α:={ reg:=[(1,⟨0,[],[(4,{ ent:=some (Aa n) }),(9,{ ent:=some (Aa n) }),(14,{ ent:=some (Aa n) }),(15,{ ent:=some (Ag n) })]⟩),(6,⟨0,[],[(5,{ ent:=some (Aa n) }),(9,{ ent:=some (Aa n) }),(10,{ ent:=some (Ag n) }),(11,{ sh:=some hR }),(12,{ sh:=some hR })]⟩)],join:=[],loop:=[(3,⟨Tv,A3r,A5 (A3q n) n⟩)],any:=[(1,Aoy),(6,Aox),(6,Ad3)] }
set_option maxHeartbeats 8000000 in
theorem Baz (n:Nat):Al TT ⟨92,[]⟩ [(4,{ ent:=some (Aa n) }),(9,{ ent:=some (Aa n) }),(14,{ ent:=some (Aa n) }),(15,{ ent:=some (Ag n) })] Aoy (A6 ((A0 Tryz.f194).at [1,0])):=by
 refine ⟨by kernel_rfl,λw q hq=>?_⟩
 have e:WT [(4,{ ent:=some (Aa n) }),(9,{ ent:=some (Aa n) }),(14,{ ent:=some (Aa n) }),(15,{ ent:=some (Ag n) })] (A7 (A6 ((A0 Tryz.f194).at [1,0])).toList) q=(∃ (y0:HL (Aa n).rs) (q0:List (Nat × RV)),q=(4,.sv (Ai (Aa n).rs y0))::q0 /\ ∃ (y1:HL (Aa n).rs) (q1:List (Nat × RV)),q0=(9,.sv (Ai (Aa n).rs y1))::q1 /\ ∃ (y2:HL (Aa n).rs) (q2:List (Nat × RV)),q1=(14,.sv (Ai (Aa n).rs y2))::q2 /\ ∃ (y3:HL (Ag n).rs) (q3:List (Nat × RV)),q2=(15,.sv (Ai (Ag n).rs y3))::q3/\q3=[]):=by kernel_rfl
 rw [e] at hq;obtain ⟨y0,q0,rfl,y1,q1,rfl,y2,q2,rfl,y3,q3,rfl,rfl⟩:=hq
 all_goals exact .inr ⟨18,by kernel_rfl,by kernel_rfl,by kernel_rfl⟩
set_option maxHeartbeats 8000000 in
theorem Aoz (n:Nat):Al TT ⟨92,[]⟩ [(5,{ ent:=some (Aa n) }),(9,{ ent:=some (Aa n) }),(10,{ ent:=some (Ag n) }),(11,{ sh:=some hR }),(12,{ sh:=some hR })] Aox (A6 ((A0 Tryz.f194).at [1,1,0,1,0,0,1,1,0,0,1,1,0])):=by
 refine ⟨by kernel_rfl,λw q hq=>?_⟩
 have e:WT [(5,{ ent:=some (Aa n) }),(9,{ ent:=some (Aa n) }),(10,{ ent:=some (Ag n) }),(11,{ sh:=some hR }),(12,{ sh:=some hR })] (A7 (A6 ((A0 Tryz.f194).at [1,1,0,1,0,0,1,1,0,0,1,1,0])).toList) q=(∃ (y0:HL (Aa n).rs) (q0:List (Nat × RV)),q=(5,.sv (Ai (Aa n).rs y0))::q0 /\ ∃ (y1:HL (Aa n).rs) (q1:List (Nat × RV)),q0=(9,.sv (Ai (Aa n).rs y1))::q1 /\ ∃ (y2:HL (Ag n).rs) (q2:List (Nat × RV)),q1=(10,.sv (Ai (Ag n).rs y2))::q2/\q2=[]):=by kernel_rfl
 rw [e] at hq;obtain ⟨y0,q0,rfl,y1,q1,rfl,y2,q2,rfl,rfl⟩:=hq
 all_goals exact .inr ⟨12,by kernel_rfl,by kernel_rfl,by kernel_rfl⟩
set_option maxHeartbeats 8000000 in
theorem Ad4 (n:Nat):Al TT ⟨92,[]⟩ [(5,{ ent:=some (Aa n) }),(9,{ ent:=some (Aa n) }),(10,{ ent:=some (Ag n) }),(11,{ sh:=some hR }),(12,{ sh:=some hR })] Ad3 (A6 ((A0 Tryz.f194).at [1,1,0,1,0,0,1,1,0,0,1,1,0])):=by
 refine ⟨by kernel_rfl,λw q hq=>?_⟩
 have e:WT [(5,{ ent:=some (Aa n) }),(9,{ ent:=some (Aa n) }),(10,{ ent:=some (Ag n) }),(11,{ sh:=some hR }),(12,{ sh:=some hR })] (A7 (A6 ((A0 Tryz.f194).at [1,1,0,1,0,0,1,1,0,0,1,1,0])).toList) q=(∃ (y0:HL (Aa n).rs) (q0:List (Nat × RV)),q=(5,.sv (Ai (Aa n).rs y0))::q0 /\ ∃ (y1:HL (Aa n).rs) (q1:List (Nat × RV)),q0=(9,.sv (Ai (Aa n).rs y1))::q1 /\ ∃ (y2:HL (Ag n).rs) (q2:List (Nat × RV)),q1=(10,.sv (Ai (Ag n).rs y2))::q2/\q2=[]):=by kernel_rfl
 rw [e] at hq;obtain ⟨y0,q0,rfl,y1,q1,rfl,y2,q2,rfl,rfl⟩:=hq
 all_goals exact .inr ⟨12,by kernel_rfl,by kernel_rfl,by kernel_rfl⟩
theorem Ad2 (α:Type) (n:Nat):Ao PP (Ah (Aj9 α n).reg):=⟨Ax n,Ax n,Ax n,Co n,Ax n,Ax n,Co n,trivial⟩
theorem Az9 (α:Type) (n:Nat):D3.OK PP TT ⟨92,[]⟩ (Aj9 α n) ((A0 Tryz.f194).at [1,1,0,1,0,0]) :=
 D3.OK.mk3a (Ad2 α n) (show Ab ((A0 Tryz.f194).at [1,1,0,1,0,0])=[] by kernel_rfl) trivial (show Au ((A0 Tryz.f194).at [1,1,0,1,0,0])=[(6,A6 ((A0 Tryz.f194).at [1,1,0,1,0,0,1,1,0,0,1,1,0])),(8,A6 ((A0 Tryz.f194).at [1,1,0,1,0,0,1,1,0,0,1,1,1,1,0,0])),(9,A6 ((A0 Tryz.f194).at [1,1,0,1,0,0,1,1,0,0,1,1,1,1,0,1]))] by kernel_rfl) ⟨⟨Aoz n,Ad4 n,trivial⟩,trivial,trivial,trivial⟩
theorem At2 (α:Type) (n:Nat):LO.Sound (α:=α) PP ⟨92,[]⟩ ⟨Tv,A3r,A5 (A3q n) n⟩ (.loop ((A0 Tryz.f194).at [1,1,0,1,0,0])):=lk (Az9 α n) n
theorem Bg2 (α:Type) (n:Nat):D3.OK PP TT ⟨92,[]⟩ (Aj9 α n) (A0 Tryz.f194) :=
 D3.OK.mk3a (Ad2 α n) (show Ab (A0 Tryz.f194)=[(3,(.loop ((A0 Tryz.f194).at [1,1,0,1,0,0])))] by kernel_rfl) ⟨Ad rfl (At2 α n),trivial⟩ (show Au (A0 Tryz.f194)=[(1,A6 ((A0 Tryz.f194).at [1,0])),(6,A6 ((A0 Tryz.f194).at [1,1,0,1,0,0,1,1,0,0,1,1,0])),(8,A6 ((A0 Tryz.f194).at [1,1,0,1,0,0,1,1,0,0,1,1,1,1,0,0])),(9,A6 ((A0 Tryz.f194).at [1,1,0,1,0,0,1,1,0,0,1,1,1,1,0,1]))] by kernel_rfl) ⟨⟨Baz n,trivial⟩,⟨Aoz n,Ad4 n,trivial⟩,trivial,trivial,trivial⟩
theorem Aow (n:Nat):(Aj8 n).Sound PP:=fk (fn:=Tryz.f194) (Bg2 _ n)

def f223 (n:Nat) (a0 a1:Rq):Option Rq :=
 ob (f200 n a0.2.1 a1.2.2) λa =>
 ob (f200 n a0.2.2 a1.2.1) λb =>
 ob (f201 n (!(a0.1==a1.1)) a b) λc =>
 some c
def G4 (n:Nat):Ent:=⟨223,[hR,hR],[hR],λx=>f223 n x.1 x.2⟩
def Bff (α:Type) (n:Nat):D3 α:={ reg:=[(1,⟨15,[],[(9,{ ent:=some (Hf n) }),(14,{ ent:=some (Hf n) }),(15,{ ent:=some (R2 n) })]⟩)],join:=[],loop:=[] }
theorem Aoh (n:Nat):(G4 n).Sound PP:=Ay (fn:=Tryz.f223) (D:=Bff _ n) ⟨Gm n,Gm n,R1 n,trivial⟩

def f206 (n:Nat) (a0:Rq):Option Rq :=
 bif (!a0.1) then
  ob (f195 n a0) λa =>
  ob (f117 n a0.2.1) λb =>
  ob (f117 n a0.2.2) λc =>
  some ((!a),b,c)
 else
  ob (f117 n a0.2.1) λd =>
  ob (f117 n a0.2.2) λe =>
  some (false,d,e)
def Ait (n:Nat):Ent:=⟨206,[hR],[hR],λx=>f206 n x⟩
def Bfr (α:Type) (n:Nat):D3 α:={ reg:=[(1,⟨14,[],[(5,{ ent:=some (Od n) }),(10,{ ent:=some (Lg n) }),(13,{ ent:=some (Lg n) })]⟩)],join:=[],loop:=[] }
theorem Aop (n:Nat):(Ait n).Sound PP:=Ay (fn:=Tryz.f206) (D:=Bfr _ n) ⟨N0 n,Kb n,Kb n,trivial⟩

def f232 (n:Nat) (a0 a1:Rq):Option Rq :=
 ob (f178 n a1 a0) λa =>
 some a
def Cf (n:Nat):Ent:=⟨232,[hR,(.ref hR)],[hR],λx=>f232 n x.1 x.2⟩
def Bf6 (α:Type) (n:Nat):D3 α:={ reg:=[(1,⟨0,[],[(2,{ ent:=some (Aa n) })]⟩)],join:=[],loop:=[] }
theorem Ao8 (n:Nat):(Cf n).Sound PP:=Ay (fn:=Tryz.f232) (D:=Bf6 _ n) ⟨Ax n,trivial⟩

def A2p {α:Type} (n:Nat) (d:Rq) (p:Rq × (Bool × LI × LI × LR × Unit × Bool × LI × LI) × Rq) (b:LR) (e a:Int) (q:Bool) (r s:LI) (t:LR) (u:Bool) (v w:LI) (g h i:Bool) (j k:LI) (l:Bool) (m o:LI) (c:LR) (f:Rq->(Rq × (Bool × LI × LI × LR × Unit × Bool × LI × LI) × Rq)->LR->Int->Int->Bool->LI->LI->LR->Bool->LI->LI->Bool->Bool->Bool->LI->LI->Bool->LI->LI->LR->Option α) (k0:Bool->Bool->Bool->LI->LI->Bool->LI->LI->LR->Option α):Option α :=
 bif (decide (a<e)) then
  gd (decide (0<=a)&&decide (a<(b.length:Int))) (
   let x:=b.getD a.toNat (false,[],[])
   ob (f232 n x d) λy =>
   gd (decide ((c.length+1)*56<=140737488355328)) (
    f d p b e (W (a+1)) q r s t u v w g h i j k l m o (c++[y])))
 else
  k0 g h i j k l m o c
abbrev Fa:Tm:=⟨[(3,.d (.clo 232 (.ref hR))),(4,.d (.clo 233 (.pair (.ref hR) (.pair (.ref (.st (.pair .bool (.pair hIs (.pair hIs (.pair hRs (.pair .nil (.pair .bool (.pair hIs hIs))))))))) (.ref hR))))),(5,.k (.hp 5 0 0)),(10,.k (.hp 10 0 0)),(11,.k (.hp 11 0 0)),(18,.d hRs),(19,.d hI),(20,.d hI)],[(5,.var 81 true false [.d .bool,.d hIs,.d hIs,.d hRs,.d .nil,.d .bool,.d hIs,.d hIs]),(10,.var 81 true false [.d .bool,.d .nil,.d .nil,.d .nil,.d .nil,.d .bool,.d .nil,.d .nil]),(11,.var 81 false false [.d .bool,.d hIs,.d hIs,.k (.hw 31),.d .nil,.d .bool,.d hIs,.d hIs]),(31,.arr 31 hR false)],[13,30],[]⟩
abbrev A0p:Tm:=⟨[(10,.k (.hp 10 0 0)),(11,.k (.hp 11 0 0))],[(10,.var 81 true false [.d .bool,.d .nil,.d .nil,.d .nil,.d .nil,.d .bool,.d .nil,.d .nil]),(11,.var 81 false false [.d .bool,.d hIs,.d hIs,.k (.hw 31),.d .nil,.d .bool,.d hIs,.d hIs]),(31,.arr 31 hR false)],[5],[]⟩
abbrev Hy:List (Exit × Tm):=[(.exit 0,A0p)]
def Hx {α:Type} (n:Nat) (v:Fa.den) (f:Fa.den->Option α) (ks:KS α Hy):Option α:=A2p n v.1.1 v.1.2.1 v.1.2.2.2.2.2.1 v.1.2.2.2.2.2.2.1 v.1.2.2.2.2.2.2.2.1 v.2.1.1 v.2.1.2.1 v.2.1.2.2.1 v.2.1.2.2.2.1 v.2.1.2.2.2.2.2.1 v.2.1.2.2.2.2.2.2.1 v.2.1.2.2.2.2.2.2.2.1 v.2.2.1.1 v.2.2.1.2.2.2.2.2.1 v.2.2.2.1.1 v.2.2.2.1.2.1 v.2.2.2.1.2.2.1 v.2.2.2.1.2.2.2.2.2.1 v.2.2.2.1.2.2.2.2.2.2.1 v.2.2.2.1.2.2.2.2.2.2.2.1 v.2.2.2.2.1 (λa b c d e g h i j k l m o p q r s t u w x=>f ((a,b,(),(),(),c,d,e,()),((g,h,i,j,(),k,l,m,()),(o,(),(),(),(),p,(),(),()),(q,r,s,(),(),t,u,w,()),x,()))) (λw0 w1 w2 w3 w4 w5 w6 w7 w8=>ks.1 (((),(),()),((w0,(),(),(),(),w1,(),(),()),(w2,w3,w4,(),(),w5,w6,w7,()),w8,())))
def A6r {α:Type} (n m:Nat) (a:Rq) (b:Rq × (Bool × LI × LI × LR × Unit × Bool × LI × LI) × Rq) (c:LR) (d e:Int) (f:Bool) (g h:LI) (i:LR) (j:Bool) (k l:LI) (o p q:Bool) (r s:LI) (t:Bool) (u v:LI) (x:LR) (k0:Bool->Bool->Bool->LI->LI->Bool->LI->LI->LR->Option α):Option α:=A5 (Hx n) m ((a,b,(),(),(),c,d,e,()),((f,g,h,i,(),j,k,l,()),(o,(),(),(),(),p,(),(),()),(q,r,s,(),(),t,u,v,()),x,())) (λw=>k0 w.2.1.1 w.2.1.2.2.2.2.2.1 w.2.2.1.1 w.2.2.1.2.1 w.2.2.1.2.2.1 w.2.2.1.2.2.2.2.2.1 w.2.2.1.2.2.2.2.2.2.1 w.2.2.1.2.2.2.2.2.2.2.1 w.2.2.2.1,())
abbrev Pj:Tm:=⟨[(3,.d (.clo 232 (.ref hR))),(4,.d (.clo 233 (.pair (.ref hR) (.pair (.ref (.st (.pair .bool (.pair hIs (.pair hIs (.pair hRs (.pair .nil (.pair .bool (.pair hIs hIs))))))))) (.ref hR))))),(5,.k (.hp 5 0 0)),(10,.k (.hp 10 0 0)),(11,.k (.hp 11 0 0)),(12,.d hI),(13,.k (.hp 13 0 0)),(18,.d hRs),(19,.d hI),(20,.d hI)],[(5,.var 81 true false [.d .bool,.d hIs,.d hIs,.d hRs,.d .nil,.d .bool,.d hIs,.d hIs]),(10,.var 81 true false [.d .bool,.d .nil,.d .nil,.d .nil,.d .nil,.d .bool,.d .nil,.d .nil]),(11,.var 81 true false [.d .bool,.d hIs,.d hIs,.d .nil,.d .nil,.d .bool,.d hIs,.d hIs]),(13,.var 31 true false [.d .bool,.d hIs,.d hIs])],[6,7],[]⟩
abbrev M1:Tm:=⟨[(3,.d (.clo 232 (.ref hR))),(4,.d (.clo 233 (.pair (.ref hR) (.pair (.ref (.st (.pair .bool (.pair hIs (.pair hIs (.pair hRs (.pair .nil (.pair .bool (.pair hIs hIs))))))))) (.ref hR))))),(5,.k (.hp 5 0 0)),(10,.k (.hp 10 0 0)),(11,.k (.hp 11 0 0)),(12,.d hI),(13,.k (.hp 13 0 0)),(18,.d hRs),(19,.d hI),(20,.d hI)],[(5,.var 81 true false [.d .bool,.d hIs,.d hIs,.d hRs,.d .nil,.d .bool,.d hIs,.d hIs]),(10,.var 81 true false [.d .bool,.d .nil,.d .nil,.d .nil,.d .nil,.d .bool,.d .nil,.d .nil]),(11,.var 81 false false [.d .bool,.d hIs,.d hIs,.k (.hw 31),.d .nil,.d .bool,.d hIs,.d hIs]),(13,.var 31 true false [.d .bool,.d hIs,.d hIs]),(31,.arr 31 hR false)],[],[]⟩
def Xc (n:Nat) (a0:Rq × LR × Unit × Rq) (a1 a2 a3:Rq) (a4:Rq × (Bool × LI × LI × LR × Unit × Bool × LI × LI) × Rq):Option (Rq × LR × Unit × Rq) :=
 bif (decide (0<(a0.2.1.length:Int))) then
  gd (decide (0<(a0.2.1.length:Int))) (
   let a:=a0.2.1.getD 0 (false,[],[])
   ob (f232 n a a3) λb =>
   A6r n n a3 a4 a0.2.1 (a0.2.1.length:Int) 1 a0.1.1 a0.1.2.1 a0.1.2.2 a0.2.1 a0.2.2.2.1 a0.2.2.2.2.1 a0.2.2.2.2.2 false false a1.1 a1.2.1 a1.2.2 a2.1 a2.2.1 a2.2.2 [b]
    (λj k c d e f g h i=>(
     some ((c,d,e),i,(),f,g,h))))
 else
  some (a1,[],(),a2)
def Dj (n:Nat):Ent:=⟨220,[(.st (.pair hR (.pair hRs (.pair .nil hR)))),hR,hR,(.clo 232 (.ref hR)),(.clo 233 (.pair (.ref hR) (.pair (.ref (.st (.pair .bool (.pair hIs (.pair hIs (.pair hRs (.pair .nil (.pair .bool (.pair hIs hIs))))))))) (.ref hR))))],[(.st (.pair hR (.pair hRs (.pair .nil hR))))],λx=>Xc n x.1 x.2.1 x.2.2.1 x.2.2.2.1 x.2.2.2.2⟩
def K6 (α:Type) (n:Nat):D3 α:={ reg:=[(5,⟨0,[],[(4,{ ent:=some (Cf n) }),(5,{ sh:=some hR }),(6,{ sh:=some hR })]⟩)],join:=[],loop:=[(3,⟨Fa,Hy,A5 (Hx n) n⟩)],any:=[(5,Pj),(5,M1)] }
set_option maxHeartbeats 8000000 in
theorem Pk (n:Nat):Al TT ⟨46,[]⟩ [(4,{ ent:=some (Cf n) }),(5,{ sh:=some hR }),(6,{ sh:=some hR })] Pj (A6 ((A0 Tryz.f220).at [1,1,0,1,0,0,1,1,0,0,1,0])):=by
 refine ⟨by kernel_rfl,λw q hq=>?_⟩
 have e:WT [(4,{ ent:=some (Cf n) }),(5,{ sh:=some hR }),(6,{ sh:=some hR })] (A7 (A6 ((A0 Tryz.f220).at [1,1,0,1,0,0,1,1,0,0,1,0])).toList) q=(∃ (y0:HL (Cf n).rs) (q0:List (Nat × RV)),q=(4,.sv (Ai (Cf n).rs y0))::q0/\q0=[]):=by kernel_rfl
 rw [e] at hq;obtain ⟨y0,q0,rfl,rfl⟩:=hq
 all_goals exact .inr ⟨6,by kernel_rfl,by kernel_rfl,by kernel_rfl⟩
set_option maxHeartbeats 8000000 in
theorem M2 (n:Nat):Al TT ⟨46,[]⟩ [(4,{ ent:=some (Cf n) }),(5,{ sh:=some hR }),(6,{ sh:=some hR })] M1 (A6 ((A0 Tryz.f220).at [1,1,0,1,0,0,1,1,0,0,1,0])):=by
 refine ⟨by kernel_rfl,λw q hq=>?_⟩
 have e:WT [(4,{ ent:=some (Cf n) }),(5,{ sh:=some hR }),(6,{ sh:=some hR })] (A7 (A6 ((A0 Tryz.f220).at [1,1,0,1,0,0,1,1,0,0,1,0])).toList) q=(∃ (y0:HL (Cf n).rs) (q0:List (Nat × RV)),q=(4,.sv (Ai (Cf n).rs y0))::q0/\q0=[]):=by kernel_rfl
 rw [e] at hq;obtain ⟨y0,q0,rfl,rfl⟩:=hq
 all_goals exact .inr ⟨6,by kernel_rfl,by kernel_rfl,by kernel_rfl⟩
theorem M0 (α:Type) (n:Nat):Ao PP (Ah (K6 α n).reg):=⟨Ao8 n,trivial⟩
theorem A0o (α:Type) (n:Nat):D3.OK PP TT ⟨46,[]⟩ (K6 α n) ((A0 Tryz.f220).at [1,1,0,1,0,0]) :=
 D3.OK.mk3a (M0 α n) (show Ab ((A0 Tryz.f220).at [1,1,0,1,0,0])=[] by kernel_rfl) trivial (show Au ((A0 Tryz.f220).at [1,1,0,1,0,0])=[(5,A6 ((A0 Tryz.f220).at [1,1,0,1,0,0,1,1,0,0,1,0])),(7,A6 ((A0 Tryz.f220).at [1,1,0,1,0,0,1,1,0,0,1,1,1,0]))] by kernel_rfl) ⟨⟨Pk n,M2 n,trivial⟩,trivial,trivial⟩
theorem Xb (α:Type) (n:Nat):LO.Sound (α:=α) PP ⟨46,[]⟩ ⟨Fa,Hy,A5 (Hx n) n⟩ (.loop ((A0 Tryz.f220).at [1,1,0,1,0,0])):=lk (A0o α n) n
theorem Aaa (α:Type) (n:Nat):D3.OK PP TT ⟨46,[]⟩ (K6 α n) (A0 Tryz.f220) :=
 D3.OK.mk3a (M0 α n) (show Ab (A0 Tryz.f220)=[(3,(.loop ((A0 Tryz.f220).at [1,1,0,1,0,0])))] by kernel_rfl) ⟨Ad rfl (Xb α n),trivial⟩ (show Au (A0 Tryz.f220)=[(5,A6 ((A0 Tryz.f220).at [1,1,0,1,0,0,1,1,0,0,1,0])),(7,A6 ((A0 Tryz.f220).at [1,1,0,1,0,0,1,1,0,0,1,1,1,0]))] by kernel_rfl) ⟨⟨Pk n,M2 n,trivial⟩,trivial,trivial⟩
theorem A6q (n:Nat):(Dj n).Sound PP:=fk (fn:=Tryz.f220) (Aaa _ n)

abbrev Aog:Tm:=⟨[(4,.k (.hp 4 0 0)),(5,.k (.hp 5 0 0)),(6,.k (.hp 6 0 0)),(7,.k (.hp 7 0 0)),(8,.k (.hp 8 0 0))],[(4,.var 81 true false [.d .bool,.d hIs,.d hIs,.d hRs,.d .nil,.d .bool,.d hIs,.d hIs]),(5,.var 31 true false [.d .bool,.d hIs,.d hIs]),(6,.var 31 true false [.d .bool,.d hIs,.d hIs]),(7,.var 31 true false [.d .bool,.d hIs,.d hIs]),(8,.var 81 true false [.d .bool,.d .nil,.d .nil,.d .nil,.d .nil,.d .bool,.d .nil,.d .nil])],[],[]⟩
def f224 (n:Nat) (a0:Rq × LR × Unit × Rq) (a1 a2 a3:Rq):Option (Rq × LR × Unit × Rq) :=
 ob (f178 n a2 a0.2.2.2) λa =>
 ob (Xc n (a0.1,a0.2.1,(),a0.2.2.2) a1 a a2 (a3,(a0.1.1,a0.1.2.1,a0.1.2.2,a0.2.1,(),a0.2.2.2),a2)) λb =>
 some b
def Ail (n:Nat):Ent:=⟨224,[(.st (.pair hR (.pair hRs (.pair .nil hR)))),hR,hR,hR],[(.st (.pair hR (.pair hRs (.pair .nil hR))))],λx=>f224 n x.1 x.2.1 x.2.2.1 x.2.2.2⟩
def Ay0 (α:Type) (n:Nat):D3 α:={ reg:=[(1,⟨0,[],[(5,{ ent:=some (Aa n) }),(6,{ sh:=some (.ref hR) }),(7,{ sh:=some (.pair (.ref hR) (.pair (.ref (.st (.pair .bool (.pair hIs (.pair hIs (.pair hRs (.pair .nil (.pair .bool (.pair hIs hIs))))))))) (.ref hR))) }),(8,{ ent:=some (Dj n) })]⟩)],join:=[],loop:=[],any:=[(1,Aog)] }
set_option maxHeartbeats 8000000 in
theorem Ba3 (n:Nat):Al TT ⟨18,[]⟩ [(5,{ ent:=some (Aa n) }),(6,{ sh:=some (.ref hR) }),(7,{ sh:=some (.pair (.ref hR) (.pair (.ref (.st (.pair .bool (.pair hIs (.pair hIs (.pair hRs (.pair .nil (.pair .bool (.pair hIs hIs))))))))) (.ref hR))) }),(8,{ ent:=some (Dj n) })] Aog (A6 ((A0 Tryz.f224).at [1,0])):=by
 refine ⟨by kernel_rfl,λw q hq=>?_⟩
 have e:WT [(5,{ ent:=some (Aa n) }),(6,{ sh:=some (.ref hR) }),(7,{ sh:=some (.pair (.ref hR) (.pair (.ref (.st (.pair .bool (.pair hIs (.pair hIs (.pair hRs (.pair .nil (.pair .bool (.pair hIs hIs))))))))) (.ref hR))) }),(8,{ ent:=some (Dj n) })] (A7 (A6 ((A0 Tryz.f224).at [1,0])).toList) q=(∃ (y0:HL (Aa n).rs) (q0:List (Nat × RV)),q=(5,.sv (Ai (Aa n).rs y0))::q0 /\ ∃ (y1:HL (Dj n).rs) (q1:List (Nat × RV)),q0=(8,.sv (Ai (Dj n).rs y1))::q1/\q1=[]):=by kernel_rfl
 rw [e] at hq;obtain ⟨y0,q0,rfl,y1,q1,rfl,rfl⟩:=hq
 all_goals exact .inl (Gs.mk (by kernel_rfl))
theorem Axz (α:Type) (n:Nat):Ao PP (Ah (Ay0 α n).reg):=⟨Ax n,A6q n,trivial⟩
theorem Bfe (α:Type) (n:Nat):D3.OK PP TT ⟨18,[]⟩ (Ay0 α n) (A0 Tryz.f224) :=
 D3.OK.mk3a (Axz α n) (show Ab (A0 Tryz.f224)=[] by kernel_rfl) trivial (show Au (A0 Tryz.f224)=[(1,A6 ((A0 Tryz.f224).at [1,0]))] by kernel_rfl) ⟨⟨Ba3 n,trivial⟩,trivial⟩
theorem Aof (n:Nat):(Ail n).Sound PP:=fk (fn:=Tryz.f224) (Bfe _ n)

abbrev Aov:Tm:=⟨[(1,.k (.hp 1 0 0)),(2,.k (.hp 2 0 0))],[(1,.var 81 true false [.d .bool,.d hIs,.d hIs,.d hRs,.d .nil,.d .bool,.d hIs,.d hIs]),(2,.var 81 true false [.d .bool,.d .nil,.d .nil,.d .nil,.d .nil,.d .bool,.d .nil,.d .nil])],[],[]⟩
def f196 (n:Nat) (a0:Rq × LR × Unit × Rq):Option (Rq × LR × Unit × Rq) :=
 ob (f126 n 1) λc =>
 ob (f223 n c a0.1) λa =>
 ob (f178 n a a) λb =>
 ob (f206 n b) λd =>
 ob (f178 n b a) λe =>
 ob (f126 n 2) λf =>
 ob (f178 n e f) λg =>
 ob (f224 n (a0.1,a0.2.1,(),a0.2.2.2) a d g) λh =>
 some h
def Az6 (n:Nat):Ent:=⟨196,[(.st (.pair hR (.pair hRs (.pair .nil hR))))],[(.st (.pair hR (.pair hRs (.pair .nil hR))))],λx=>f196 n x⟩
def Az7 (α:Type) (n:Nat):D3 α:={ reg:=[(1,⟨0,[],[(0,{ ent:=some (As n) }),(3,{ ent:=some (G4 n) })]⟩),(2,⟨0,[],[(2,{ ent:=some (Aa n) })]⟩),(3,⟨9,[],[(3,{ ent:=some (Ait n) }),(6,{ ent:=some (Aa n) }),(7,{ ent:=some (As n) }),(8,{ ent:=some (Aa n) }),(9,{ ent:=some (Ail n) })]⟩)],join:=[],loop:=[],any:=[(1,Aov)] }
set_option maxHeartbeats 8000000 in
theorem Baw (n:Nat):Al TT ⟨22,[]⟩ [(0,{ ent:=some (As n) }),(3,{ ent:=some (G4 n) })] Aov (A6 ((A0 Tryz.f196).at [1,0])):=by
 refine ⟨by kernel_rfl,λw q hq=>?_⟩
 have e:WT [(0,{ ent:=some (As n) }),(3,{ ent:=some (G4 n) })] (A7 (A6 ((A0 Tryz.f196).at [1,0])).toList) q=(∃ (y0:HL (As n).rs) (q0:List (Nat × RV)),q=(0,.sv (Ai (As n).rs y0))::q0 /\ ∃ (y1:HL (G4 n).rs) (q1:List (Nat × RV)),q0=(3,.sv (Ai (G4 n).rs y1))::q1/\q1=[]):=by kernel_rfl
 rw [e] at hq;obtain ⟨y0,q0,rfl,y1,q1,rfl,rfl⟩:=hq
 all_goals exact .inr ⟨5,by kernel_rfl,by kernel_rfl,by kernel_rfl⟩
theorem Az5 (α:Type) (n:Nat):Ao PP (Ah (Az7 α n).reg):=⟨B2 n,Aoh n,Ax n,Aop n,Ax n,B2 n,Ax n,Aof n,trivial⟩
theorem Bg0 (α:Type) (n:Nat):D3.OK PP TT ⟨22,[]⟩ (Az7 α n) (A0 Tryz.f196) :=
 D3.OK.mk3a (Az5 α n) (show Ab (A0 Tryz.f196)=[] by kernel_rfl) trivial (show Au (A0 Tryz.f196)=[(1,A6 ((A0 Tryz.f196).at [1,0])),(3,A6 ((A0 Tryz.f196).at [1,1,1,0]))] by kernel_rfl) ⟨⟨Baw n,trivial⟩,trivial,trivial⟩
theorem Bav (n:Nat):(Az6 n).Sound PP:=fk (fn:=Tryz.f196) (Bg0 _ n)

def A3p {α:Type} (n:Nat) (a b:Int) (c:Bool) (d e:LI) (g h:Bool) (i j:LI) (f:Int->Int->Bool->LI->LI->Bool->Bool->LI->LI->Option α) (k0:Bool->Bool->LI->LI->Option α):Option α :=
 bif (decide (b<a)) then
  ob (f200 n i d) λk =>
  ob (f200 n j e) λl =>
  f a (W (b+1)) c d e g (!(h==c)) k l
 else
  k0 g h i j
abbrev Tu:Tm:=⟨[(2,.k (.hp 2 0 0)),(4,.k (.hp 4 0 0)),(5,.k (.hp 5 0 0)),(7,.d hI),(8,.d hI)],[(2,.var 31 true false [.d .bool,.d hIs,.d hIs]),(4,.var 31 true false [.d .bool,.d .nil,.d .nil]),(5,.var 31 true false [.d .bool,.d hIs,.d hIs])],[],[]⟩
abbrev Az4:Tm:=⟨[(4,.k (.hp 4 0 0)),(5,.k (.hp 5 0 0))],[(4,.var 31 true false [.d .bool,.d .nil,.d .nil]),(5,.var 31 true false [.d .bool,.d hIs,.d hIs])],[2],[]⟩
abbrev A3o:List (Exit × Tm):=[(.exit 0,Az4)]
def A3n {α:Type} (n:Nat) (v:Tu.den) (f:Tu.den->Option α) (ks:KS α A3o):Option α:=A3p n v.1.2.2.2.1 v.1.2.2.2.2.1 v.2.1.1 v.2.1.2.1 v.2.1.2.2.1 v.2.2.1.1 v.2.2.2.1.1 v.2.2.2.1.2.1 v.2.2.2.1.2.2.1 (λa b c d e g h i j=>f (((),(),(),a,b,()),((c,d,e,()),(g,(),(),()),(h,i,j,()),()))) (λw0 w1 w2 w3=>ks.1 (((),(),()),((w0,(),(),()),(w1,w2,w3,()),())))
def R4 {α:Type} (n m:Nat) (a b:Int) (c:Bool) (d e:LI) (f g:Bool) (h i:LI) (k0:Bool->Bool->LI->LI->Option α):Option α:=A5 (A3n n) m (((),(),(),a,b,()),((c,d,e,()),(f,(),(),()),(g,h,i,()),())) (λw=>k0 w.2.1.1 w.2.2.1.1 w.2.2.1.2.1 w.2.2.1.2.2.1,())
theorem Az3 {α n m a b c d e f g h i k0}:R4 (α:=α) n (m+1) a b c d e f g h i k0=A3p n a b c d e f g h i (λa b c d e f g h i=>R4 n m a b c d e f g h i k0) k0:=rfl
def f197 (n:Nat) (a0:Rq) (a1:Int):Option Rq :=
 ob (f126 n 1) λc =>
 R4 n n a1 0 a0.1 a0.2.1 a0.2.2 false c.1 c.2.1 c.2.2
  (λj e a b=>(
   bif e then
    ob (f195 n (e,a,b)) λd =>
    ob (f195 n ((!d),a,b)) λf =>
    bif f then
     ob (f180 n) λg =>
     some ((!d),a,g)
    else
     some ((!d),a,b)
   else
    ob (f195 n (false,a,b)) λh =>
    bif h then
     ob (f180 n) λi =>
     some (false,a,i)
    else
     some (false,a,b)))
def J1 (n:Nat):Ent:=⟨197,[hR,hI],[hR],λx=>f197 n x.1 x.2⟩
def Aiy (α:Type) (n:Nat):D3 α:={ reg:=[(1,⟨0,[],[(0,{ ent:=some (As n) })]⟩),(4,⟨15,[],[(9,{ ent:=some (Hf n) }),(14,{ ent:=some (Hf n) })]⟩),(6,⟨0,[],[(4,{ ent:=some (Od n) })]⟩),(7,⟨0,[],[(1,{ ent:=some (Od n) })]⟩),(8,⟨0,[],[(0,{ ent:=some (Ra n) })]⟩)],join:=[],loop:=[(3,⟨Tu,A3o,A5 (A3n n) n⟩)] }
theorem Ad1 (α:Type) (n:Nat):Ao PP (Ah (Aiy α n).reg):=⟨B2 n,Gm n,Gm n,N0 n,N0 n,R9 n,trivial⟩
theorem Asy (α:Type) (n:Nat):LO.Sound (α:=α) PP ⟨40,[]⟩ ⟨Tu,A3o,A5 (A3n n) n⟩ (.loop ((A0 Tryz.f197).at [1,1,0,1,0,0])):=Ba (D:=Aiy α n) (Ad1 α n) n
theorem Bfz (α:Type) (n:Nat):D3.OK PP TT ⟨40,[]⟩ (Aiy α n) (A0 Tryz.f197) :=
 D3.OK.mk3 (Ad1 α n) (show Ab (A0 Tryz.f197)=[(3,(.loop ((A0 Tryz.f197).at [1,1,0,1,0,0])))] by kernel_rfl) ⟨Ad rfl (Asy α n),trivial⟩
theorem Id (n:Nat):(J1 n).Sound PP:=fk (fn:=Tryz.f197) (Bfz _ n)

def f131 (n:Nat) (a0:Rq):Option Bool :=
 bif (decide ((a0.2.1.length:Int)<=40)) then
  some (decide ((a0.2.2.length:Int)<=40))
 else
  some false
def Rk (n:Nat):Ent:=⟨131,[hR],[.bool],λx=>f131 n x⟩
def Bh7 (α:Type) (n:Nat):D3 α:={ reg:=[],join:=[],loop:=[] }
theorem Rj (n:Nat):(Rk n).Sound PP:=Ay (fn:=Tryz.f131) (D:=Bh7 _ n) trivial

abbrev Aoo:Tm:=⟨[(4,.k (.hp 4 0 0)),(5,.k (.hp 5 0 0)),(6,.k (.hp 6 0 0)),(7,.k (.hp 7 0 0))],[(4,.var 31 true false [.d .bool,.d .nil,.d .nil]),(5,.var 31 true false [.d .bool,.d .nil,.d .nil]),(6,.var 31 true false [.d .bool,.d hIs,.d hIs]),(7,.var 31 true false [.d .bool,.d hIs,.d hIs])],[2],[]⟩
abbrev Baf:Tm:=⟨[(1,.d hI),(2,.k (.hp 2 0 0)),(4,.k (.hp 4 0 0)),(5,.k (.hp 5 0 0)),(6,.k (.hp 6 0 0)),(7,.k (.hp 7 0 0))],[(2,.var 81 true false [.d .bool,.d hIs,.d hIs,.d hRs,.d .nil,.d .bool,.d hIs,.d hIs]),(4,.var 31 true false [.d .bool,.d .nil,.d .nil]),(5,.var 31 true false [.d .bool,.d .nil,.d .nil]),(6,.var 31 true false [.d .bool,.d hIs,.d hIs]),(7,.var 31 true false [.d .bool,.d hIs,.d hIs])],[],[]⟩
def f209 (n:Nat) (a0:Rq × LR × Unit × Rq) (a1:Int):Option (Rq × Rq) :=
 ob (f126 n 0) λa =>
 ob (f126 n 0) λg =>
 let c:=λ(d:Bool) (e:LI) (f:LI)=>(
  bif (decide (a1>=2)) then
   ob (f197 n a0.1 (W (a1-2))) λh =>
   ob (f126 n (W (a1*(W (a1-1))))) λi =>
   ob (f178 n h i) λj =>
   some ((d,e,f),j)
  else
   some ((d,e,f),g))
 bif (decide (a1>=1)) then
  ob (f197 n a0.1 (W (a1-1))) λk =>
  ob (f126 n a1) λl =>
  ob (f178 n k l) λb =>
  c b.1 b.2.1 b.2.2
 else
  c a.1 a.2.1 a.2.2
def Ayh (n:Nat):Ent:=⟨209,[(.st (.pair hR (.pair hRs (.pair .nil hR)))),hI],[hR,hR],λx=>f209 n x.1 x.2⟩
def Ayi (α:Type) (n:Nat):D3 α:={ reg:=[(1,⟨0,[],[(0,{ ent:=some (As n) }),(1,{ ent:=some (As n) })]⟩),(3,⟨0,[],[(4,{ ent:=some (J1 n) }),(6,{ ent:=some (As n) }),(7,{ ent:=some (Aa n) })]⟩),(5,⟨0,[],[(4,{ ent:=some (J1 n) }),(9,{ ent:=some (As n) }),(10,{ ent:=some (Aa n) })]⟩)],join:=[(4,Baf)],loop:=[],any:=[(6,Aoo)] }
set_option maxHeartbeats 8000000 in
theorem Bag (n:Nat):Al TT ⟨35,[]⟩ [] Aoo (A6 ((A0 Tryz.f209).at [1,1,1,1,0])):=by
 refine ⟨by kernel_rfl,λw q hq=>?_⟩
 have e:WT [] (A7 (A6 ((A0 Tryz.f209).at [1,1,1,1,0])).toList) q=(q=[]):=by kernel_rfl
 rw [e] at hq;obtain rfl:=hq
 all_goals exact .inr ⟨3,by kernel_rfl,by kernel_rfl,by kernel_rfl⟩
theorem Ayg (α:Type) (n:Nat):Ao PP (Ah (Ayi α n).reg):=⟨B2 n,B2 n,Id n,B2 n,Ax n,Id n,B2 n,Ax n,trivial⟩
theorem Bfq (α:Type) (n:Nat):D3.OK PP TT ⟨35,[]⟩ (Ayi α n) (A0 Tryz.f209) :=
 D3.OK.mk3a (Ayg α n) (show Ab (A0 Tryz.f209)=[] by kernel_rfl) trivial (show Au (A0 Tryz.f209)=[(6,A6 ((A0 Tryz.f209).at [1,1,1,1,0]))] by kernel_rfl) ⟨⟨Bag n,trivial⟩,trivial⟩
theorem Bae (n:Nat):(Ayh n).Sound PP:=fk (fn:=Tryz.f209) (Bfq _ n)

def f198 (n:Nat) (a0:Rq × LR × Unit × Rq) (a1:Int):Option (Rq × LR × Unit × Rq) :=
 ob (f209 n a0 a1) λa =>
 ob (f197 n a0.1 a1) λb =>
 ob (f224 n a0 b a.1 a.2) λc =>
 some c
def Az2 (n:Nat):Ent:=⟨198,[(.st (.pair hR (.pair hRs (.pair .nil hR)))),hI],[(.st (.pair hR (.pair hRs (.pair .nil hR))))],λx=>f198 n x.1 x.2⟩
def Bfy (α:Type) (n:Nat):D3 α:={ reg:=[(1,⟨0,[],[(2,{ ent:=some (Ayh n) })]⟩),(2,⟨7,[],[(4,{ ent:=some (J1 n) }),(7,{ ent:=some (Ail n) })]⟩)],join:=[],loop:=[] }
theorem Bat (n:Nat):(Az2 n).Sound PP:=Ay (fn:=Tryz.f198) (D:=Bfy _ n) ⟨Bae n,Id n,Aof n,trivial⟩

abbrev Ajx:Tm:=⟨[(2,.d hRs),(3,.k (.hw 1003)),(4,.k (.hp 4 0 0)),(5,.k (.hp 5 0 0)),(8,.k (.hp 8 0 0)),(10,.k (.hp 10 0 0)),(11,.k (.hp 11 0 0))],[(4,.var 84 true false [.d hI,.d .nil]),(5,.var 125 true false [.d hI,.d hI,.d hI,.d hI]),(8,.var 81 true false [.d .bool,.d .nil,.d .nil,.d .nil,.d .nil,.d .bool,.d .nil,.d .nil]),(10,.var 81 true false [.d .bool,.d .nil,.d .nil,.d .nil,.d .nil,.d .bool,.d .nil,.d .nil]),(11,.var 81 true false [.d .bool,.d .nil,.d .nil,.d .nil,.d .nil,.d .bool,.d .nil,.d .nil]),(1003,.arr 81 (.st (.pair hR (.pair hRs (.pair .nil hR)))) false)],[],[]⟩
abbrev B5t:Tm:=⟨[(2,.d hRs),(4,.k (.hp 4 0 0)),(5,.k (.hp 5 0 0)),(8,.k (.hp 8 0 0)),(10,.k (.hp 10 0 0)),(11,.k (.hp 11 0 0))],[(4,.var 84 true false [.d hI,.d .nil]),(5,.var 125 true false [.d hI,.d hI,.d hI,.d hI]),(8,.var 81 true false [.d .bool,.d .nil,.d .nil,.d .nil,.d .nil,.d .bool,.d .nil,.d .nil]),(10,.var 81 true false [.d .bool,.d hIs,.d hIs,.d hRs,.d .nil,.d .bool,.d hIs,.d hIs]),(11,.var 81 true false [.d .bool,.d hIs,.d hIs,.d hRs,.d .nil,.d .bool,.d hIs,.d hIs]),(1003,.arr 81 (.st (.pair hR (.pair hRs (.pair .nil hR)))) false)],[],[]⟩
def Af7 (n:Nat) (a0:Int × Unit) (a1:Nq) (a2:LR) (a3:List (Rq × LR × Unit × Rq)):Option (((Rq × LR × Unit × Rq) × Int) × (List (Rq × LR × Unit × Rq))) :=
 let r:=λ(a:Bool) (b:LI) (c:LI) (f:LR) (g:Bool) (h:LI) (i:LI) (j:Bool) (k:LI) (l:LI) (m:LR) (o:Bool) (p:LI) (q:LI)=>(
  bif (a1.1==1) then
   ob (f126 n a1.2.2.2) λs =>
   ob (f190 n (a0.1,()) s) λt =>
   some ((t,0),a3)
  else
   bif (a1.1==2) then
    gd (decide (0<=a1.2.2.2)&&decide (a1.2.2.2<(a2.length:Int))) (
     let u:=a2.getD a1.2.2.2.toNat (false,[],[])
     ob (f191 n (a0.1,()) u a1.2.2.2) λv =>
     some ((v,0),a3))
   else
    bif (a1.1==3) then
     ob (f192 n ((a,b,c),f,(),g,h,i) ((j,k,l),m,(),o,p,q)) λw =>
     some ((w,0),a3)
    else
     bif (a1.1==4) then
      ob (f126 n (-1)) λx =>
      ob (f193 n ((j,k,l),m,(),o,p,q) x) λy =>
      ob (f192 n ((a,b,c),f,(),g,h,i) y) λz =>
      some ((z,0),a3)
     else
      bif (a1.1==5) then
       ob (f194 n ((a,b,c),f,(),g,h,i) ((j,k,l),m,(),o,p,q)) λd0 =>
       some ((d0,0),a3)
      else
       bif (a1.1==6) then
        ob (f195 n (j,k,l)) λd1 =>
        bif d1 then
         some ((((false,[],[]),[],(),false,[],[]),10),a3)
        else
         ob (f196 n ((j,k,l),m,(),o,p,q)) λd2 =>
         ob (f194 n ((a,b,c),f,(),g,h,i) d2) λd3 =>
         some ((d3,0),a3)
       else
        bif (a1.1==7) then
         ob (f126 n (-1)) λd4 =>
         ob (f193 n ((a,b,c),f,(),g,h,i) d4) λd5 =>
         some ((d5,0),a3)
        else
         ob (f197 n (a,b,c) a1.2.2.2) λd6 =>
         ob (f131 n d6) λd7 =>
         bif (!d7) then
          some ((((false,[],[]),[],(),false,[],[]),7),a3)
         else
          ob (f198 n ((a,b,c),f,(),g,h,i) a1.2.2.2) λd8 =>
          some ((d8,0),a3))
 ob (f109 n a1) λd9 =>
 bif (decide (d9>0)) then
  gd (decide (0<=a1.2.1)&&decide (a1.2.1<(a3.length:Int))) (
   gd (decide (a1.2.1.toNat<a3.length)) (
    let d:=a3.getD a1.2.1.toNat ((false,[],[]),[],(),(false,[],[]))
    gd (decide (0<=a1.2.2.1)&&decide (a1.2.2.1<(a3.length:Int))) (
     gd (decide (a1.2.2.1.toNat<a3.length)) (
      let e:=a3.getD a1.2.2.1.toNat ((false,[],[]),[],(),(false,[],[]))
      r d.1.1 d.1.2.1 d.1.2.2 d.2.1 d.2.2.2.1 d.2.2.2.2.1 d.2.2.2.2.2 e.1.1 e.1.2.1 e.1.2.2 e.2.1 e.2.2.2.1 e.2.2.2.2.1 e.2.2.2.2.2))))
 else
  r false [] [] [] false [] [] false [] [] [] false [] []
def Apf (n:Nat):Ent3:=⟨158,[.im (.st (.pair hI .nil)),.im hN,.im hRs,.one (.own 81 (.st (.pair hR (.pair hRs (.pair .nil hR)))))],[[.im (.st (.pair hR (.pair hRs (.pair .nil hR)))),.im hI]],λx=>Af7 n x.1 x.2.1 x.2.2.1 x.2.2.2⟩
def Apg (α:Type) (n:Nat):D3 α:={ reg:=[(2,⟨0,[],[(1,{ ent:=some (Y2 n) })]⟩),(6,⟨4,[],[(3,{ ent:=some (As n) }),(4,{ ent:=some (Azi n) })]⟩),(8,⟨8,[],[(8,{ ent:=some (Azg n) })]⟩),(10,⟨0,[],[(2,{ ent:=some (Ajj n) })]⟩),(12,⟨4,[],[(2,{ ent:=some (As n) }),(3,{ ent:=some (Ajc n) }),(4,{ ent:=some (Ajj n) })]⟩),(14,⟨0,[],[(2,{ ent:=some (Aj8 n) })]⟩),(16,⟨0,[],[(2,{ ent:=some (Od n) })]⟩),(18,⟨3,[],[(2,{ ent:=some (Az6 n) }),(3,{ ent:=some (Aj8 n) })]⟩),(20,⟨2,[],[(1,{ ent:=some (As n) }),(2,{ ent:=some (Ajc n) })]⟩),(21,⟨0,[],[(4,{ ent:=some (J1 n) }),(5,{ ent:=some (Rk n) })]⟩),(23,⟨0,[],[(3,{ ent:=some (Az2 n) })]⟩)],join:=[(4,B5t)],loop:=[],any:=[(3,Ajx)] }
set_option maxHeartbeats 8000000 in
theorem B5u (n:Nat):Al TT ⟨89,[]⟩ [] Ajx (A6 ((A0 Tryz.f158).at [1,1,0,1,0])):=by
 refine ⟨by kernel_rfl,λw q hq=>?_⟩
 have e:WT [] (A7 (A6 ((A0 Tryz.f158).at [1,1,0,1,0])).toList) q=(q=[]):=by kernel_rfl
 rw [e] at hq;obtain rfl:=hq
 all_goals exact .inr ⟨11,by kernel_rfl,by kernel_rfl,by kernel_rfl⟩
theorem Atk (α:Type) (n:Nat):Ao PP (Ah (Apg α n).reg):=⟨A0b n,B2 n,Bb9 n,Bb6 n,Ap3 n,B2 n,Ap1 n,Ap3 n,Aow n,N0 n,Bav n,Aow n,B2 n,Ap1 n,Id n,Rj n,Bat n,trivial⟩
theorem Bbx (α:Type) (n:Nat):D3.OK PP TT ⟨89,[]⟩ (Apg α n) (A0 Tryz.f158) :=
 D3.OK.mk3a (Atk α n) (show Ab (A0 Tryz.f158)=[] by kernel_rfl) trivial (show Au (A0 Tryz.f158)=[(3,A6 ((A0 Tryz.f158).at [1,1,0,1,0])),(6,A6 ((A0 Tryz.f158).at [1,1,1,0,1,0,1,0,0])),(8,A6 ((A0 Tryz.f158).at [1,1,1,0,1,0,1,1,1,0,0])),(12,A6 ((A0 Tryz.f158).at [1,1,1,0,1,0,1,1,1,1,1,1,1,0,0])),(18,A6 ((A0 Tryz.f158).at [1,1,1,0,1,0,1,1,1,1,1,1,1,1,1,1,1,0,1,0])),(20,A6 ((A0 Tryz.f158).at [1,1,1,0,1,0,1,1,1,1,1,1,1,1,1,1,1,1,1,0,0]))] by kernel_rfl) ⟨⟨B5u n,trivial⟩,trivial,trivial,trivial,trivial,trivial,trivial⟩
theorem B5s (n:Nat):(Apf n).Sound PP:=Lz (fn:=Tryz.f158) (Bbx _ n)

def f130 (n:Nat) (a0:Rq):Option Bool :=
 ob (f131 n a0) λa =>
 some (!a)
def B0p (n:Nat):Ent:=⟨130,[hR],[.bool],λx=>f130 n x⟩
def Bh8 (α:Type) (n:Nat):D3 α:={ reg:=[(1,⟨0,[],[(1,{ ent:=some (Rk n) })]⟩)],join:=[],loop:=[] }
theorem Bc6 (n:Nat):(B0p n).Sound PP:=Ay (fn:=Tryz.f130) (D:=Bh8 _ n) ⟨Rj n,trivial⟩

def Ok {α:Type} (n:Nat) (b:LR) (c a:Int) (f:LR->Int->Int->Option α) (k0:Int->Option α) (k1:Unit->Option α):Option α :=
 bif (decide (a<c)) then
  gd (decide (0<=a)&&decide (a<(b.length:Int))) (
   let d:=b.getD a.toNat (false,[],[])
   ob (f130 n d) λe =>
   bif e then
    k0 a
   else
    f b c (W (a+1)))
 else
  k1 ()
abbrev J3:Tm:=⟨[(0,.d hRs),(1,.d (.fn 130)),(7,.d hI),(8,.d hI)],[],[],[]⟩
abbrev Ael:Tm:=⟨[(4,.d hI)],[],[],[]⟩
abbrev Aek:Tm:=⟨[],[],[],[]⟩
abbrev Oj:List (Exit × Tm):=[(.ret,Ael),(.exit 0,Aek)]
def Oi {α:Type} (n:Nat) (v:J3.den) (f:J3.den->Option α) (ks:KS α Oj):Option α:=Ok n v.1.1 v.1.2.2.1 v.1.2.2.2.1 (λa b c=>f ((a,(),b,c,()),())) (λw0=>ks.1 ((w0,()),())) (λ_=>ks.2.1 ((),()))
def Hi {α:Type} (n m:Nat) (a:LR) (b c:Int) (k0:Int->Option α) (k1:Unit->Option α):Option α:=A5 (Oi n) m ((a,(),b,c,()),()) (λw=>k0 w.1.1,λw=>k1 (),())
theorem Aej {α n m a b c k0 k1}:Hi (α:=α) n (m+1) a b c k0 k1=Ok n a b c (λa b c=>Hi n m a b c k0 k1) k0 k1:=rfl
def A4a (n:Nat) (a0:LR) (a1:Unit):Option Int :=
 Hi n n a0 (a0.length:Int) 0
  (λa=>(
   some a))
  (λ(_:Unit)=>(
   some (-1)))
def A7e (n:Nat):Ent:=⟨182,[hRs,(.fn 130)],[hI],λx=>A4a n x.1 x.2⟩
def U4 (α:Type) (n:Nat):D3 α:={ reg:=[(4,⟨0,[],[(5,{ ent:=some (B0p n) })]⟩)],join:=[],loop:=[(2,⟨J3,Oj,A5 (Oi n) n⟩)] }
theorem Vq (α:Type) (n:Nat):Ao PP (Ah (U4 α n).reg):=⟨Bc6 n,trivial⟩
theorem Aak (α:Type) (n:Nat):LO.Sound (α:=α) PP ⟨19,[]⟩ ⟨J3,Oj,A5 (Oi n) n⟩ (.loop ((A0 Tryz.f182).at [1,0,1,0,0])):=Ba (D:=U4 α n) (Vq α n) n
theorem Atg (α:Type) (n:Nat):D3.OK PP TT ⟨19,[]⟩ (U4 α n) (A0 Tryz.f182) :=
 D3.OK.mk3 (Vq α n) (show Ab (A0 Tryz.f182)=[(2,(.loop ((A0 Tryz.f182).at [1,0,1,0,0])))] by kernel_rfl) ⟨Ad rfl (Aak α n),trivial⟩
theorem Amn (n:Nat):(A7e n).Sound PP:=fk (fn:=Tryz.f182) (Atg _ n)

def Ka (n:Nat) (a0:LR) (a1:Unit):Option Bool :=
 ob (A4a n a0 a1) λa =>
 some (decide (a>=0))
def Uc (n:Nat):Ent:=⟨129,[hRs,(.fn 130)],[.bool],λx=>Ka n x.1 x.2⟩
def Atq (α:Type) (n:Nat):D3 α:={ reg:=[(1,⟨0,[],[(2,{ ent:=some (A7e n) })]⟩)],join:=[],loop:=[] }
theorem A1b (n:Nat):(Uc n).Sound PP:=Ay (fn:=Tryz.f129) (D:=Atq _ n) ⟨Amn n,trivial⟩

def f76 (n:Nat) (a0:LR):Option (LR × Int) :=
 ob (Ka n a0 ()) λa =>
 bif a then
  some ([],7)
 else
  some (a0,0)
def Af1 (n:Nat):Ent:=⟨76,[hRs],[hRs,hI],λx=>f76 n x⟩
def Bj0 (α:Type) (n:Nat):D3 α:={ reg:=[(1,⟨0,[],[(1,{ ent:=some (Uc n) })]⟩)],join:=[],loop:=[] }
theorem Ahj (n:Nat):(Af1 n).Sound PP:=Ay (fn:=Tryz.f76) (D:=Bj0 _ n) ⟨A1b n,trivial⟩

def f167 (n:Nat) (a0:Rq × LR × Unit × Rq):Option Bool :=
 ob (f76 n a0.2.1) λa =>
 ob (f76 n []) λb =>
 ob (f131 n a0.1) λc =>
 bif c then
  ob (f131 n a0.2.2.2) λd =>
  bif d then
   bif (a.2==0) then
    some (b.2==0)
   else
    some false
  else
   some false
 else
  some false
def B06 (n:Nat):Ent:=⟨167,[(.st (.pair hR (.pair hRs (.pair .nil hR))))],[.bool],λx=>f167 n x⟩
def Bgm (α:Type) (n:Nat):D3 α:={ reg:=[(1,⟨0,[],[(2,{ ent:=some (Af1 n) })]⟩),(2,⟨0,[],[(2,{ ent:=some (Af1 n) })]⟩),(3,⟨0,[],[(2,{ ent:=some (Rk n) }),(6,{ ent:=some (Rk n) })]⟩)],join:=[],loop:=[] }
theorem Bbs (n:Nat):(B06 n).Sound PP:=Ay (fn:=Tryz.f167) (D:=Bgm _ n) ⟨Ahj n,Ahj n,Rj n,Rj n,trivial⟩

def A59 {α:Type} (n:Nat) (e:LR) (c:LN) (g b h:Int) (d:List (Rq × LR × Unit × Rq)) (f:LR->LN->Int->Int->Int->(List (Rq × LR × Unit × Rq))->Option α) (k0:Int->Option α) (k1:(List (Rq × LR × Unit × Rq))->Option α):Option α :=
 bif (decide (b<g)) then
  gd (decide (0<=b)&&decide (b<(c.length:Int))) (
   let i:=c.getD b.toNat (0,0,0,0)
   ob (Af7 n (h,()) i e d) λa =>
   gd (Nat.beq a.2.length d.length&&true) (
    bif (a.1.2 != 0) then
     k0 a.1.2
    else
     ob (f167 n a.1.1) λj =>
     bif (!j) then
      k0 7
     else
      gd (decide ((a.2.length+1)*160<=140737488355328)) (
       f e c g (W (b+1)) h (a.2++[a.1.1]))))
 else
  k1 d
abbrev Um:Tm:=⟨[(2,.d hRs),(3,.k (.hp 3 0 0)),(8,.k (.hw 13)),(14,.d hNs),(15,.d hI),(16,.d hI)],[(3,.var 84 true false [.d hI,.d .nil]),(13,.arr 81 (.st (.pair hR (.pair hRs (.pair .nil hR)))) false)],[10,11,36],[]⟩
abbrev B1b:Tm:=⟨[(6,.d .nil),(7,.d hI)],[],[3,10,11,13],[]⟩
abbrev B1a:Tm:=⟨[(8,.k (.hw 13))],[(13,.arr 81 (.st (.pair hR (.pair hRs (.pair .nil hR)))) false)],[3],[]⟩
abbrev A58:List (Exit × Tm):=[(.ret,B1b),(.exit 0,B1a)]
def A57 {α:Type} (n:Nat) (v:Um.den) (f:Um.den->Option α) (ks:KS α A58):Option α:=A59 n v.1.1 v.1.2.2.2.1 v.1.2.2.2.2.1 v.1.2.2.2.2.2.1 v.2.1.1 v.2.2.1 (λa b c d e g=>f ((a,(),(),b,c,d,()),((e,(),()),g,()))) (λw0=>ks.1 (((),w0,()),())) (λw0=>ks.2.1 (((),()),(w0,())))
def A0c {α:Type} (n m:Nat) (a:LR) (b:LN) (c d e:Int) (f:List (Rq × LR × Unit × Rq)) (k0:Int->Option α) (k1:(List (Rq × LR × Unit × Rq))->Option α):Option α:=A5 (A57 n) m ((a,(),(),b,c,d,()),((e,(),()),f,())) (λw=>k0 w.1.2.1,λw=>k1 w.2.1,())
theorem B19 {α n m a b c d e f k0 k1}:A0c (α:=α) n (m+1) a b c d e f k0 k1=A59 n a b c d e f (λa b c d e f=>A0c n m a b c d e f k0 k1) k0 k1:=rfl
def f104 (n:Nat) (a0:Int × Unit) (a1:LN) (a2:LR):Option ((List (Rq × LR × Unit × Rq)) × Int) :=
 A0c n n a2 a1 (a1.length:Int) 0 a0.1 []
  (λa=>(
   some ([],a)))
  (λb=>(
   some (b,0)))
def B1c (n:Nat):Ent:=⟨104,[(.st (.pair hI .nil)),hNs,hRs],[(.sl (.st (.pair hR (.pair hRs (.pair .nil hR))))),hI],λx=>f104 n x.1 x.2.1 x.2.2⟩
def Akp (α:Type) (n:Nat):D3 α:={ reg:=[(1,⟨0,[],[(0,{ sh:=some (.st (.pair hR (.pair hRs (.pair .nil hR)))) })]⟩),(5,⟨0,[],[(4,{ alt:=[(Apf n)],hb:=310 })]⟩),(8,⟨0,[],[(1,{ ent:=some (B06 n) })]⟩),(10,⟨0,[],[(2,{ sh:=some (.st (.pair hR (.pair hRs (.pair .nil hR)))) })]⟩)],join:=[],loop:=[(3,⟨Um,A58,A5 (A57 n) n⟩)] }
theorem Adw (α:Type) (n:Nat):Ao PP (Ah (Akp α n).reg):=⟨B5s n,Bbs n,trivial⟩
theorem Atz (α:Type) (n:Nat):LO.Sound (α:=α) PP ⟨40,[]⟩ ⟨Um,A58,A5 (A57 n) n⟩ (.loop ((A0 Tryz.f104).at [1,1,0,1,0,0])):=Ba (D:=Akp α n) (Adw α n) n
theorem Bhl (α:Type) (n:Nat):D3.OK PP TT ⟨40,[]⟩ (Akp α n) (A0 Tryz.f104) :=
 D3.OK.mk3 (Adw α n) (show Ab (A0 Tryz.f104)=[(3,(.loop ((A0 Tryz.f104).at [1,1,0,1,0,0])))] by kernel_rfl) ⟨Ad rfl (Atz α n),trivial⟩
theorem Bcn (n:Nat):(B1c n).Sound PP:=fk (fn:=Tryz.f104) (Bhl _ n)

def f106 (n:Nat) (a0:Int) (a1:List (Rq × LR × Unit × Rq)):Option Rq :=
 gd (decide (0<=a0)&&decide (a0<(a1.length:Int))) (
  let a:=a1.getD a0.toNat ((false,[],[]),[],(),(false,[],[]))
  some a.1)
def B18 (n:Nat):Ent:=⟨106,[hI,(.ref (.sl (.st (.pair hR (.pair hRs (.pair .nil hR))))))],[hR],λx=>f106 n x.1 x.2⟩
def Bhk (α:Type) (n:Nat):D3 α:={ reg:=[],join:=[],loop:=[] }
theorem Bck (n:Nat):(B18 n).Sound PP:=Ay (fn:=Tryz.f106) (D:=Bhk _ n) trivial

def f61 (n:Nat) (a0:Rq):Option Rq :=
 ob (f117 n a0.2.1) λa =>
 ob (f117 n a0.2.2) λb =>
 some (a0.1,a,b)
def Arv (n:Nat):Ent:=⟨61,[hR],[hR],λx=>f61 n x⟩
def Bj4 (α:Type) (n:Nat):D3 α:={ reg:=[(1,⟨8,[],[(4,{ ent:=some (Lg n) }),(7,{ ent:=some (Lg n) })]⟩)],join:=[],loop:=[] }
theorem Ax3 (n:Nat):(Arv n).Sound PP:=Ay (fn:=Tryz.f61) (D:=Bj4 _ n) ⟨Kb n,Kb n,trivial⟩

def Ou {α:Type} (n:Nat) (c:List (Rq × LR × Unit × Rq)) (d a:Int) (b:LR) (f:(List (Rq × LR × Unit × Rq))->Int->Int->LR->Option α) (k0:LR->Option α):Option α :=
 bif (decide (a<d)) then
  ob (f106 n a c) λe =>
  ob (f61 n e) λg =>
  gd (decide ((b.length+1)*56<=140737488355328)) (
   f c d (W (a+1)) (b++[g]))
 else
  k0 b
abbrev J6:Tm:=⟨[(1,.d (.clo 106 (.ref (.sl (.st (.pair hR (.pair hRs (.pair .nil hR)))))))),(5,.k (.hw 7)),(8,.d hI),(9,.d hI)],[(7,.arr 31 hR false)],[17],[]⟩
abbrev Aep:Tm:=⟨[(5,.k (.hw 7))],[(7,.arr 31 hR false)],[],[]⟩
abbrev Ot:List (Exit × Tm):=[(.exit 0,Aep)]
def Or {α:Type} (n:Nat) (v:J6.den) (f:J6.den->Option α) (ks:KS α Ot):Option α:=Ou n v.1.1 v.1.2.2.1 v.1.2.2.2.1 v.2.1 (λa b c d=>f ((a,(),b,c,()),(d,()))) (λw0=>ks.1 (((),()),(w0,())))
def Kp {α:Type} (n m:Nat) (a:List (Rq × LR × Unit × Rq)) (b c:Int) (d:LR) (k0:LR->Option α):Option α:=A5 (Or n) m ((a,(),b,c,()),(d,())) (λw=>k0 w.2.1,())
theorem Aeo {α n m a b c d k0}:Kp (α:=α) n (m+1) a b c d k0=Ou n a b c d (λa b c d=>Kp n m a b c d k0) k0:=rfl
def Ul (n:Nat) (a0:Int) (a1:List (Rq × LR × Unit × Rq)):Option LR :=
 Kp n n a1 a0 0 []
  (λa=>(
   some a))
def A7o (n:Nat):Ent:=⟨105,[hI,(.clo 106 (.ref (.sl (.st (.pair hR (.pair hRs (.pair .nil hR)))))))],[hRs],λx=>Ul n x.1 x.2⟩
def Uk (α:Type) (n:Nat):D3 α:={ reg:=[(1,⟨0,[],[(0,{ sh:=some hR })]⟩),(5,⟨0,[],[(3,{ ent:=some (B18 n) }),(4,{ ent:=some (Arv n) }),(5,{ sh:=some hR })]⟩)],join:=[],loop:=[(3,⟨J6,Ot,A5 (Or n) n⟩)] }
theorem Vs (α:Type) (n:Nat):Ao PP (Ah (Uk α n).reg):=⟨Bck n,Ax3 n,trivial⟩
theorem Aax (α:Type) (n:Nat):LO.Sound (α:=α) PP ⟨21,[]⟩ ⟨J6,Ot,A5 (Or n) n⟩ (.loop ((A0 Tryz.f105).at [1,1,0,1,0,0])):=Ba (D:=Uk α n) (Vs α n) n
theorem Aty (α:Type) (n:Nat):D3.OK PP TT ⟨21,[]⟩ (Uk α n) (A0 Tryz.f105) :=
 D3.OK.mk3 (Vs α n) (show Ab (A0 Tryz.f105)=[(3,(.loop ((A0 Tryz.f105).at [1,1,0,1,0,0])))] by kernel_rfl) ⟨Ad rfl (Aax α n),trivial⟩
theorem Amv (n:Nat):(A7o n).Sound PP:=fk (fn:=Tryz.f105) (Aty _ n)

def f52 (n:Nat) (a0:LN × Int) (a1:LR):Option (LR × Int) :=
 ob (f103 n a0 a1) λb =>
 bif (b != 0) then
  some ([],b)
 else
  ob (f104 n (0,()) a0.1 a1) λa =>
  bif (a.2 != 0) then
   some ([],a.2)
  else
   ob (Ul n (a.1.length:Int) a.1) λc =>
   some (c,0)
def B7t (n:Nat):Ent:=⟨52,[(.st (.pair hNs hI)),hRs],[hRs,hI],λx=>f52 n x.1 x.2⟩
def Bj5 (α:Type) (n:Nat):D3 α:={ reg:=[(1,⟨0,[],[(2,{ ent:=some (Ov n) })]⟩),(4,⟨0,[],[(4,{ ent:=some (B1c n) })]⟩),(7,⟨0,[],[(2,{ sh:=some (.ref (.sl (.st (.pair hR (.pair hRs (.pair .nil hR)))))) }),(3,{ ent:=some (A7o n) })]⟩)],join:=[],loop:=[] }
theorem Bel (n:Nat):(B7t n).Sound PP:=Ay (fn:=Tryz.f52) (D:=Bj5 _ n) ⟨Apt n,Bcn n,Amv n,trivial⟩

abbrev Awc:Tm:=⟨[(1,.d hRs),(2,.d hRs),(3,.k (.hp 3 0 0))],[(3,.var 65 true false [.d hNs,.d hI])],[],[]⟩
def f96 (n:Nat) (a0:LN × Int) (a1 a2:LR):Option (LR × Int) :=
 ob (f65 n [a1,a2]) λc =>
 ob (f103 n a0 a1) λd =>
 ob (f66 n a1 a2) λe =>
 ob (f64 n [c,d,e]) λa =>
 bif (a != 0) then
  some ([],a)
 else
  ob (f52 n a0 a1) λb =>
  some (b.1,b.2)
def Ar9 (n:Nat):Ent:=⟨96,[(.st (.pair hNs hI)),hRs,hRs],[hRs,hI],λx=>f96 n x.1 x.2.1 x.2.2⟩
def B7h (α:Type) (n:Nat):D3 α:={ reg:=[(1,⟨0,[],[(2,{ sh:=some hRs }),(3,{ ent:=some (Ix n) }),(6,{ ent:=some (Ov n) }),(9,{ ent:=some (Zd n) }),(10,{ sh:=some hI }),(11,{ ent:=some (Gl n) })]⟩),(4,⟨0,[],[(2,{ ent:=some (B7t n) })]⟩)],join:=[],loop:=[],any:=[(1,Awc)] }
set_option maxHeartbeats 8000000 in
theorem Bdy (n:Nat):Al TT ⟨29,[]⟩ [(2,{ sh:=some hRs }),(3,{ ent:=some (Ix n) }),(6,{ ent:=some (Ov n) }),(9,{ ent:=some (Zd n) }),(10,{ sh:=some hI }),(11,{ ent:=some (Gl n) })] Awc (A6 ((A0 Tryz.f96).at [1,0,0])):=by
 refine ⟨by kernel_rfl,λw q hq=>?_⟩
 have e:WT [(2,{ sh:=some hRs }),(3,{ ent:=some (Ix n) }),(6,{ ent:=some (Ov n) }),(9,{ ent:=some (Zd n) }),(10,{ sh:=some hI }),(11,{ ent:=some (Gl n) })] (A7 (A6 ((A0 Tryz.f96).at [1,0,0])).toList) q=(∃ (y0:HL (Ix n).rs) (q0:List (Nat × RV)),q=(3,.sv (Ai (Ix n).rs y0))::q0 /\ ∃ (y1:HL (Ov n).rs) (q1:List (Nat × RV)),q0=(6,.sv (Ai (Ov n).rs y1))::q1 /\ ∃ (y2:HL (Zd n).rs) (q2:List (Nat × RV)),q1=(9,.sv (Ai (Zd n).rs y2))::q2 /\ ∃ (y3:HL (Gl n).rs) (q3:List (Nat × RV)),q2=(11,.sv (Ai (Gl n).rs y3))::q3/\q3=[]):=by kernel_rfl
 rw [e] at hq;obtain ⟨y0,q0,rfl,y1,q1,rfl,y2,q2,rfl,y3,q3,rfl,rfl⟩:=hq
 all_goals exact .inr ⟨9,by kernel_rfl,by kernel_rfl,by kernel_rfl⟩
theorem B3t (α:Type) (n:Nat):Ao PP (Ah (B7h α n).reg):=⟨Ax0 n,Apt n,Bei n,A6e n,Bel n,trivial⟩
theorem Bij (α:Type) (n:Nat):D3.OK PP TT ⟨29,[]⟩ (B7h α n) (A0 Tryz.f96) :=
 D3.OK.mk3a (B3t α n) (show Ab (A0 Tryz.f96)=[] by kernel_rfl) trivial (show Au (A0 Tryz.f96)=[(1,A6 ((A0 Tryz.f96).at [1,0,0]))] by kernel_rfl) ⟨⟨Bdy n,trivial⟩,trivial⟩
theorem Awb (n:Nat):(Ar9 n).Sound PP:=fk (fn:=Tryz.f96) (Bij _ n)

abbrev Ajl:Tm:=⟨[(2,.k (.hp 2 0 0)),(3,.k (.hp 3 0 0)),(4,.k (.hp 4 0 0))],[(2,.var 84 true false [.d hI,.d hRs]),(3,.var 31 true false [.d .bool,.d hIs,.d hIs]),(4,.var 81 true false [.d .bool,.d .nil,.d .nil,.d .nil,.d .nil,.d .bool,.d .nil,.d .nil])],[],[]⟩
def Af6 (n:Nat) (a0:Int × LR) (a1:Rq):Option (Rq × LR × LR × Rq) :=
 ob (f100 n a0.1) λa =>
 ob (f126 n 0) λb =>
 gd ((!a0.2.isEmpty)) (
  ob (f100 n a0.1) λc =>
  some (a1,a,c,b))
def Ap8 (n:Nat):Ent:=⟨190,[(.st (.pair hI hRs)),hR],[(.st (.pair hR (.pair hRs (.pair hRs hR))))],λx=>Af6 n x.1 x.2⟩
def Ap9 (α:Type) (n:Nat):D3 α:={ reg:=[(1,⟨0,[],[(3,{ ent:=some (Fj n) }),(4,{ ent:=some (As n) })]⟩),(3,⟨0,[],[(2,{ ent:=some (Fj n) })]⟩)],join:=[],loop:=[],any:=[(1,Ajl)] }
set_option maxHeartbeats 8000000 in
theorem B5m (n:Nat):Al TT ⟨20,[]⟩ [(3,{ ent:=some (Fj n) }),(4,{ ent:=some (As n) })] Ajl (A6 ((A0 Tryz.f190).at [1,0])):=by
 refine ⟨by kernel_rfl,λw q hq=>?_⟩
 have e:WT [(3,{ ent:=some (Fj n) }),(4,{ ent:=some (As n) })] (A7 (A6 ((A0 Tryz.f190).at [1,0])).toList) q=(∃ (y0:HL (Fj n).rs) (q0:List (Nat × RV)),q=(3,.sv (Ai (Fj n).rs y0))::q0 /\ ∃ (y1:HL (As n).rs) (q1:List (Nat × RV)),q0=(4,.sv (Ai (As n).rs y1))::q1/\q1=[]):=by kernel_rfl
 rw [e] at hq;obtain ⟨y0,q0,rfl,y1,q1,rfl,rfl⟩:=hq
 all_goals exact .inr ⟨7,by kernel_rfl,by kernel_rfl,by kernel_rfl⟩
theorem At7 (α:Type) (n:Nat):Ao PP (Ah (Ap9 α n).reg):=⟨Aay n,B2 n,Aay n,trivial⟩
theorem Bb8 (α:Type) (n:Nat):D3.OK PP TT ⟨20,[]⟩ (Ap9 α n) (A0 Tryz.f190) :=
 D3.OK.mk3a (At7 α n) (show Ab (A0 Tryz.f190)=[] by kernel_rfl) trivial (show Au (A0 Tryz.f190)=[(1,A6 ((A0 Tryz.f190).at [1,0]))] by kernel_rfl) ⟨⟨B5m n,trivial⟩,trivial⟩
theorem B5l (n:Nat):(Ap8 n).Sound PP:=fk (fn:=Tryz.f190) (Bb8 _ n)

abbrev Ad8:Tm:=⟨[(2,.k (.hp 2 0 0)),(3,.k (.hp 3 0 0)),(4,.k (.hp 4 0 0))],[(2,.var 84 true false [.d hI,.d hRs]),(3,.var 31 true false [.d .bool,.d hIs,.d hIs]),(4,.var 81 true false [.d .bool,.d .nil,.d .nil,.d .nil,.d .nil,.d .bool,.d .nil,.d .nil])],[],[]⟩
def Ajp (n:Nat) (a0:Int × LR) (a1:Rq):Option (Bool × LI × LI × LR × LR × Bool × LI × LI) :=
 ob (A7q n a0.1) λb =>
 ob (f126 n 0) λa =>
 gd ((!a0.2.isEmpty)) (
  ob (A7q n a0.1) λc =>
  some (a1.1,a1.2.1,a1.2.2,b,c,a.1,a.2.1,a.2.2))
def Ajn (n:Nat):Ent3:=⟨190,[.im (.st (.pair hI hRs)),.im hR],[[.mix [.im .bool,.im hIs,.im hIs,.own 31 hR,.own 31 hR,.im .bool,.im hIs,.im hIs]]],λx=>Ajp n x.1 x.2⟩
def Ajo (α:Type) (n:Nat):D3 α:={ reg:=[(1,⟨0,[],[(3,{ entB:=some (Db n),hb:=310 }),(4,{ ent:=some (As n) })]⟩),(3,⟨0,[],[(2,{ entB:=some (Db n),hb:=320 })]⟩)],join:=[],loop:=[],any:=[(1,Ad8)] }
set_option maxHeartbeats 8000000 in
theorem Azl (n:Nat):Al TT ⟨20,[]⟩ [(3,{ entB:=some (Db n),hb:=310 }),(4,{ ent:=some (As n) })] Ad8 (A6 ((A0 Tryz.f190).at [1,0])):=by
 refine ⟨by kernel_rfl,λw q hq=>?_⟩
 have e:WT [(3,{ entB:=some (Db n),hb:=310 }),(4,{ ent:=some (As n) })] (A7 (A6 ((A0 Tryz.f190).at [1,0])).toList) q=(∃ (y0:HF (Ap 1000 (Db n).ts) (Db n).forms) (q0:List (Nat × RV)),q=(3,.bx (Db n) y0)::q0 /\ ∃ (y1:HL (As n).rs) (q1:List (Nat × RV)),q0=(4,.sv (Ai (As n).rs y1))::q1/\q1=[]):=by kernel_rfl
 rw [e] at hq;obtain ⟨y0,q0,rfl,y1,q1,rfl,rfl⟩:=hq
 all_goals exact .inl (Gs.mk (by kernel_rfl))
theorem Aml (α:Type) (n:Nat):Ao PP (Ah (Ajo α n).reg):=⟨A5c n,B2 n,A5c n,trivial⟩
theorem B5p (α:Type) (n:Nat):D3.OK PP TT ⟨20,[]⟩ (Ajo α n) (A0 Tryz.f190) :=
 D3.OK.mk3a (Aml α n) (show Ab (A0 Tryz.f190)=[] by kernel_rfl) trivial (show Au (A0 Tryz.f190)=[(1,A6 ((A0 Tryz.f190).at [1,0]))] by kernel_rfl) ⟨⟨Azl n,trivial⟩,trivial⟩
theorem Azk (n:Nat):(Ajn n).Sound PP:=Lz (fn:=Tryz.f190) (B5p _ n)

end Go.Ev
