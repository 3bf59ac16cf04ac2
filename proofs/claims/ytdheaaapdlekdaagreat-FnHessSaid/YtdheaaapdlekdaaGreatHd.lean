/- DERIVED. The plain laws: what the models compute. -/
import Derived.Test.YtdheaaapdlekdaaGreatHc

set_option linter.all false
set_option linter.unusedVariables false
set_option linter.unusedSimpArgs false

namespace Go.Ev
open Go

theorem A8 {x:Int} (h:-9223372036854775808<=x) (h':x<9223372036854775808):W x=x:=Ar9 h h'

@[simp] theorem A0 {α β:Type} (r:β) (k:β->Option α):ob (some r) k=k r:=rfl

@[simp] theorem Bd9 {α β:Type} (k:β->Option α):ob (none:Option β) k=none:=rfl

@[simp] theorem Fk {α:Type} (x:Option α):gd true x=x:=rfl

@[simp] theorem Bd0 {α:Type} (x:Option α):gd false x=none:=rfl

theorem A3 {α:Type} {g:Bool} (h:g=true) (x:Option α):gd g x=x:=by rw [h];rfl

theorem Afh (l:List Int) (a b:Int):l.foldl max a<=b ↔ a<=b /\ ∀ x ∈ l,x<=b:=by
 induction l generalizing a with
 | nil=>simp
 | cons y r ih =>
  simp only [List.foldl_cons,ih,QV,forall_eq_or_imp];constructor
  . rintro ⟨h,h'⟩;exact ⟨by omega,by omega,h'⟩
  . rintro ⟨h,h',h''⟩;exact ⟨by omega,h''⟩

theorem C8 {α:Type} {l m:List α} {i:Nat} {d:α} (h:i<l.length):(l++m).getD i d=l.getD i d:=by
 simp [QL,ZB h]

theorem C9 {α:Type} {l:List α} {x d:α}:(l++[x]).getD l.length d=x:=by
 simp [QL]

theorem Gd {α:Type} {l r:List α} {x d:α} {k:Nat} (h:l.drop k=x::r):l.getD k d=x/\k<l.length/\l.drop (k+1)=r:=by
 have hk:k<l.length:=by
  rcases ZV k l.length with h' | h'
  . exact h'
  . rw [QY h'] at h;cases h
 have:=XS hk;rw [h] at this;injection this with h1 h2
 exact ⟨by simp [QL,hk,h1],hk,h2.symm⟩

def vl:List Int->Int
 | []=>0
 | x::r=>x+10000*vl r

def Lm (l:List Int):Prop:=∀ x ∈ l,0<=x/\x<10000

def dg (n:Nat):List Int:=if n=0 then [] else ((n % 10000:Nat):Int)::dg (n / 10000)
termination_by n
decreasing_by omega

theorem Bx:dg 0=[]:=by rw [dg];rfl

theorem D9 {n:Nat} (h:n ≠ 0):dg n=((n % 10000:Nat):Int)::dg (n / 10000):=by rw [dg,QH h]

theorem Lm.nil:Lm []:=λ_ h=>by cases h

theorem Lm.cons {x:Int} {l:List Int} (hx:0<=x/\x<10000) (hl:Lm l):Lm (x::l):=λy hy=>by
 rcases QV.1 hy with rfl | hy
 . exact hx
 . exact hl y hy

theorem Lm.head {x:Int} {l:List Int} (h:Lm (x::l)):0<=x/\x<10000:=h x (by simp)

theorem Lm.tail {x:Int} {l:List Int} (h:Lm (x::l)):Lm l:=λy hy=>h y (by simp [hy])

theorem Lm.app {l m:List Int} (h:Lm l) (h':Lm m):Lm (l++m):=λy hy=>(QD.1 hy).elim (h y) (h' y)

theorem Lm.take {l:List Int} (h:Lm l) (k:Nat):Lm (l.take k):=λy hy=>h y (Qaa hy)

theorem Lm.drop {l:List Int} (h:Lm l) (k:Nat):Lm (l.drop k):=λy hy=>h y (Qbe hy)

theorem Lm.set {l:List Int} (h:Lm l) (k:Nat) {x:Int} (hx:0<=x/\x<10000):Lm (l.set k x):=λy hy=>by
 rcases JC hy with hy | rfl
 . exact h y hy
 . exact hx

theorem Lm.get {l:List Int} (h:Lm l) (k:Nat):0<=l.getD k 0/\l.getD k 0<10000:=by
 rw [QL]
 cases e:l[k]? with
 | none=>simp
 | some x=>exact h x (ZN e)

theorem Lm.rep (n:Nat):Lm (List.replicate n 0):=λy hy=>by
 obtain rfl:=(List.mem_replicate.1 hy).2;omega

theorem De (n:Nat):Lm (dg n):=by
 induction n using Nat.strongRecOn with
 | _ n ih =>
  by_cases h:n=0
  . subst h;rw [Bx];exact Lm.nil
  . rw [D9 h]
    exact Lm.cons (by omega) (ih _ (by omega))

theorem Ba (n:Nat):vl (dg n)=n:=by
 induction n using Nat.strongRecOn with
 | _ n ih =>
  by_cases h:n=0
  . subst h;rw [Bx];rfl
  . rw [D9 h,vl,ih _ (by omega)]
    omega

theorem B6 {l:List Int} (h:Lm l):0<=vl l:=by
 induction l with
 | nil=>exact JR _
 | cons x r ih =>
  have:=h.head;have:=ih h.tail;simp only [vl];omega

theorem F8 (k:Nat):(0:Int)<10000 ^ k:=Int.pow_pos (by omega)

theorem Bu (k:Nat):(10000:Int) ^ (k+1)=10000*10000 ^ k:=by rw [Qam,Int.mul_comm]

theorem Z9 {i j:Nat} (h:i<=j):(10000:Int) ^ i<=10000 ^ j:=by
 induction j with
 | zero => obtain rfl : i = 0 := by omega
           exact JR _
 | succ j ih =>
  by_cases e:i=j+1
  . subst e;exact JR _
  . have:=ih (by omega)
    have:=F8 j;rw [Bu];omega

theorem Anq {i j:Nat} (h:(10000:Int) ^ i<10000 ^ j):i<j:=by
 rcases ZV i j with h' | h'
 . exact h'
 . have:=Z9 h';omega

theorem Hl {l:List Int} (h:Lm l):vl l<10000 ^ l.length:=by
 induction l with
 | nil=>simp [vl]
 | cons x r ih =>
  have:=h.head;have:=ih h.tail;simp only [vl,ZF,Bu];omega

theorem A4z (l m:List Int):vl (l++m)=vl l+10000 ^ l.length*vl m:=by
 induction l with
 | nil=>simp [vl]
 | cons x r ih=>simp only [YF,vl,ih,ZF,Bu];grind

theorem Qi (l:List Int) (x:Int):vl (l++[x])=vl l+10000 ^ l.length*x:=by rw [A4z];simp [vl]

theorem Vy (n:Nat):vl (List.replicate n 0)=0:=by
 induction n with
 | zero=>rfl
 | succ n ih=>simp [List.replicate_succ,vl,ih]

theorem C3 {l:List Int} {k:Nat} (h:k<l.length):vl (l.take (k+1))=vl (l.take k)+10000 ^ k*l.getD k 0:=by
 rw [JG h,Qi,KK,Qah (by omega),QL,QM h]
 rfl

theorem Kw {l:List Int} {k:Nat} (x:Int) (h:k<l.length):vl (l.set k x)=vl l+10000 ^ k*(x-l.getD k 0):=by
 induction l generalizing k with
 | nil=>simp at h
 | cons y r ih =>
  cases k with
  | zero=>simp [vl];omega
  | succ k =>
   have:=ih (k:=k) (by simpa using h)
   simp only [List.set_cons_succ,vl,this,Qag,Bu];grind

def Cn (l:List Int):Prop:=Lm l/\(l ≠ []->l.getD (l.length-1) 0 ≠ 0)

theorem Fv (n:Nat):Cn (dg n):=by
 refine ⟨De n,?_⟩
 induction n using Nat.strongRecOn with
 | _ n ih =>
  by_cases h:n=0
  . subst h;rw [Bx];exact λh=>absurd rfl h
  . rw [D9 h];intro _;by_cases e:dg (n / 10000)=[]
    . rw [e]
      have h0:n / 10000=0:=by
       have:=Ba (n / 10000);rw [e] at this;simp only [vl] at this;omega
      simp;omega
    . have:=ih (n / 10000) (by omega) e
      have hl:0<(dg (n / 10000)).length:=XO.2 e;simp only [ZF,Qan]
      rw [show (dg (n / 10000)).length=((dg (n / 10000)).length-1)+1 by omega,Qag]
      exact this

theorem Cn.tail {x:Int} {l:List Int} (h:Cn (x::l)):Cn l:=by
 refine ⟨h.1.tail,λhn=>?_⟩
 have:=h.2 (by simp)
 have hl:0<l.length:=XO.2 hn;simp only [ZF,Qan] at this
 rw [show l.length=(l.length-1)+1 by omega,Qag] at this
 exact this

theorem Cn.pos {l:List Int} (h:Cn l) (hn:l ≠ []):0<vl l:=by
 induction l with
 | nil=>exact absurd rfl hn
 | cons x r ih =>
  have hx:=h.1.head;have hr:=B6 h.1.tail;by_cases e:r=[]
  . subst e
    have:=h.2 (by simp)
    simp at this;simp only [vl];omega
  . have:=ih h.tail e;simp only [vl];omega

theorem Py {l:List Int} (h:Cn l):dg (vl l).toNat=l:=by
 induction l with
 | nil=>exact Bx
 | cons x r ih =>
  have hx:=h.1.head;have hr:=B6 h.1.tail
  have hp:=h.pos (by simp)
  have ih:=ih h.tail;simp only [vl] at hp ⊢
  rw [D9 (by omega)]
  congr 1
  . omega
  . rw [<- ih];congr 1;rw [ih];omega

theorem Cn.ge {l:List Int} (h:Cn l) (hn:l ≠ []):(10000:Int) ^ (l.length-1)<=vl l:=by
 have hl:0<l.length:=XO.2 hn
 have h1:=C3 (l:=l) (k:=l.length-1) (by omega)
 rw [show l.length-1+1=l.length by omega,YI] at h1
 have h2:=h.2 hn;have h3:=h.1.get (l.length-1);have h4:=B6 (h.1.take (l.length-1));have h5:=F8 (l.length-1)
 have h6:(10000:Int) ^ (l.length-1)*1<=10000 ^ (l.length-1)*l.getD (l.length-1) 0:=XG (by omega) (by omega)
 omega

theorem Rp {n k:Nat}:(dg n).length<=k ↔ (n:Int)<10000 ^ k:=by
 constructor
 . intro h;have:=Hl (De n);rw [Ba] at this;exact Int.lt_of_lt_of_le this (Z9 h)
 . intro h;by_cases e:dg n=[]
   . rw [e];simp
   . have:=(Fv n).ge e;rw [Ba] at this;have:=Anq (Int.lt_of_le_of_lt this h);have hl:0<(dg n).length:=XO.2 e;omega

theorem Bak {n:Nat}:dg n=[] ↔ n=0:=by
 constructor
 . intro h;have:=Ba n;rw [h] at this;simp only [vl] at this;omega
 . rintro rfl;exact Bx

theorem Ax2 {a b:Nat} (h:dg a=dg b):a=b:=by
 have h1:=Ba a;rw [h,Ba] at h1;omega

theorem B5 {a b:Nat} (h:a<=b):(dg a).length<=(dg b).length:=by
 refine Rp.2 ?_;have:=Hl (De b);rw [Ba] at this;omega

def cm (x y:Int):Int:=if x<y then -1 else if x=y then 0 else 1

theorem Uq {a b:List Int} (ha:Lm a) (hb:Lm b) {k:Nat} (h1:k<a.length) (h2:k<b.length) (h:a.getD k 0<b.getD k 0):vl (a.take (k+1))<vl (b.take (k+1)):=by
 rw [C3 h1,C3 h2];have q1:=Hl (ha.take k)
 rw [KK,Qah (by omega)] at q1
 have q2:=B6 (hb.take k)
 have q3:(10000:Int) ^ k*(a.getD k 0+1)<=10000 ^ k*b.getD k 0:=XG (by omega) (by have:=F8 k;omega)
 rw [Int.mul_add,Int.mul_one] at q3;omega

theorem Cn.lt_of_len {a b:List Int} (ha:Cn a) (hb:Cn b) (h:a.length<b.length):vl a<vl b:=by
 have h1:=Hl ha.1
 have h2:=hb.ge (by intro e;subst e;simp at h)
 have h3:(10000:Int) ^ a.length<=10000 ^ (b.length-1):=Z9 (by omega)
 omega

theorem Cn.of_take {l:List Int} (h:Lm l) {t:Nat} (ht:t<=l.length) (hl:t=0 \/ l.getD (t-1) 0 ≠ 0):Cn (l.take t):=by
 refine ⟨h.take t,λhn=>?_⟩
 have hlen:(l.take t).length=t:=by simp;omega
 rcases hl with rfl | hl
 . simp at hn
 . have ht0:t ≠ 0:=by rintro rfl;simp at hn
   rw [hlen,QL,XH,QJ (by omega),<- QL]
   exact hl

theorem tdv {x:Int} (h:0<=x):Int.tdiv x 10000=x / 10000:=YQ h

theorem tmd {x:Int} (h:0<=x):Int.tmod x 10000=x % 10000:=Qac h

theorem Akx {α:Type} {n:Nat} {l:List Int} (hN:l.length<=1099511627776) {k0:List Int->Int->Option α}:∀ (m k:Nat),k<m->k<=l.length ->
  ∃ t,t<=k/\Zz n m l (k:Int) k0=k0 l (t:Int)/\vl (l.take t)=vl (l.take k)/\(t=0 \/ l.getD (t-1) 0 ≠ 0)
 | 0,k,h,_=>by omega
 | m+1,k,h,hk=>by
  rw [Atw];unfold A2b;dsimp only;by_cases h0:k=0
  . subst h0;exact ⟨0,QZ _,rfl,rfl,.inl rfl⟩
  . rw [QK,QJ (by omega),A8 (by omega) (by omega),A3 (by simp;omega)]
    have e:((k:Int)-1).toNat=k-1:=by omega
    rw [e,XC];by_cases hz:l.getD (k-1) 0=0
    . rw [QJ (by rw [hz];rfl)]
      obtain ⟨t,h1,h2,h3,h4⟩:=Akx (n:=n) hN (k0:=k0) m (k-1) (by omega) (by omega)
      refine ⟨t,by omega,?_,?_,h4⟩
      . rw [show (k:Int)-1=((k-1:Nat):Int) by omega];exact h2
      . rw [h3]
        have:=C3 (l:=l) (k:=k-1) (by omega)
        rw [show k-1+1=k by omega,hz] at this
        rw [this];simp
    . rw [QH (by simpa using hz)]
      exact ⟨k,QZ _,rfl,rfl,.inr hz⟩

theorem Zy {n:Nat} {l:List Int} (hl:Lm l) (hN:l.length<=1099511627776) (hn:l.length<n):f216 n l=some (dg (vl l).toNat):=by
 unfold f216;obtain ⟨t,h1,h2,h3,h4⟩:=Akx (n:=n) hN (k0:=λz_1 z_2=>gd (decide (0<=z_2)&&decide (z_2<=(z_1.length:Int))) (gd (decide ((0+((z_1.drop 0).take (z_2.toNat-0)).length)*8<=140737488355328)) (some ((z_1.drop 0).take (z_2.toNat-0))))) n l.length hn (QZ _)
 rw [h2,A3 (by simp;omega),A3 (by simp;omega)]
 simp only [ZQ,QP,Qba];rw [YI] at h3
 rw [<- h3,Py (Cn.of_take hl (by omega) h4)]

theorem Akw {α:Type} {n:Nat} {l:List Int} (hN:l.length<=1099511627776) {k0:List Int->Int->Option α}:∀ (m k:Nat),k<m->k<=l.length ->
  ∃ t,t<=k/\A00 n m l (k:Int) k0=k0 l (t:Int)/\vl (l.take t)=vl (l.take k)/\(t=0 \/ l.getD (t-1) 0 ≠ 0)
 | 0,k,h,_=>by omega
 | m+1,k,h,hk=>by
  rw [Aua];unfold A2q;dsimp only;by_cases h0:k=0
  . subst h0;exact ⟨0,QZ _,rfl,rfl,.inl rfl⟩
  . rw [QK,QJ (by omega),A8 (by omega) (by omega),A3 (by simp;omega)]
    have e:((k:Int)-1).toNat=k-1:=by omega
    rw [e,XC];by_cases hz:l.getD (k-1) 0=0
    . rw [QJ (by rw [hz];rfl)]
      obtain ⟨t,h1,h2,h3,h4⟩:=Akw (n:=n) hN (k0:=k0) m (k-1) (by omega) (by omega)
      refine ⟨t,by omega,?_,?_,h4⟩
      . rw [show (k:Int)-1=((k-1:Nat):Int) by omega];exact h2
      . rw [h3]
        have:=C3 (l:=l) (k:=k-1) (by omega)
        rw [show k-1+1=k by omega,hz] at this
        rw [this];simp
    . rw [QH (by simpa using hz)]
      exact ⟨k,QZ _,rfl,rfl,.inr hz⟩

theorem Qx {n:Nat} {l:List Int} (hl:Lm l) (hN:l.length<=1099511627776) (hn:l.length<n):f202 n l=some (dg (vl l).toNat):=by
 unfold f202;obtain ⟨t,h1,h2,h3,h4⟩:=Akw (n:=n) hN (k0:=λz_1 z_2=>gd (decide (0<=z_2)&&decide (z_2<=(z_1.length:Int))) (some ((z_1.drop 0).take (z_2.toNat-0)))) n l.length hn (QZ _)
 rw [h2,A3 (by simp;omega)]
 simp only [ZQ,QP,Qba];rw [YI] at h3
 rw [<- h3,Py (Cn.of_take hl (by omega) h4)]

theorem Aed {α:Type} {n:Nat} {k0:List Int->Option α}:∀ (m x:Nat) (o:List Int),(x:Int)<=9223372036854775807->(dg x).length<m->o.length+(dg x).length<=1099511627776->A04 n m (x:Int) o k0=k0 (o++dg x)
 | 0,x,o,_,h,_=>by omega
 | m+1,x,o,hx,h,hN=>by
  rw [Aup];unfold A39;dsimp only;by_cases h0:x=0
  . subst h0;rw [Bx];simp
  . rw [D9 h0] at h hN ⊢;simp only [ZF] at h hN
    rw [QK,QJ (by omega),A3 (by simp;omega),tdv (by omega),tmd (by omega),A8 (by omega) (by omega),show (x:Int) / 10000=((x / 10000:Nat):Int) by omega,show (x:Int) % 10000=((x % 10000:Nat):Int) by omega]
    rw [Aed (n:=n) m (x / 10000) _ (by omega) (by omega) (by simp;omega)]
    simp

theorem Qz {n:Nat} {x:Nat} (hx:(x:Int)<=9223372036854775807) (hn:10<n):f194 n (x:Int)=some (dg x):=by
 have hl:(dg x).length<=5:=Rp.2 (by rw [show (10000:Int) ^ 5=100000000000000000000 from rfl];omega)
 unfold f194
 rw [Aed (n:=n) n x [] hx (by omega) (by simp;omega)]
 simp

theorem Aee {α:Type} {n:Nat} {k0:List Int->Option α}:∀ (m x:Nat) (o:List Int),(x:Int)<=9223372036854775807->(dg x).length<m->o.length+(dg x).length<=1099511627776->A0c n m (x:Int) o k0=k0 (o++dg x)
 | 0,x,o,_,h,_=>by omega
 | m+1,x,o,hx,h,hN=>by
  rw [Avp];unfold A42;dsimp only;by_cases h0:x=0
  . subst h0;rw [Bx];simp
  . rw [D9 h0] at h hN ⊢;simp only [ZF] at h hN
    rw [QK,QJ (by omega),A3 (by simp;omega),tdv (by omega),tmd (by omega),A8 (by omega) (by omega),show (x:Int) / 10000=((x / 10000:Nat):Int) by omega,show (x:Int) % 10000=((x % 10000:Nat):Int) by omega]
    rw [Aee (n:=n) m (x / 10000) _ (by omega) (by omega) (by simp;omega)]
    simp

theorem Rd {n:Nat} {x:Nat} (hx:(x:Int)<=9223372036854775807) (hn:10<n):f150 n (x:Int)=some (dg x):=by
 have hl:(dg x).length<=5:=Rp.2 (by rw [show (10000:Int) ^ 5=100000000000000000000 from rfl];omega)
 unfold f150
 rw [Aee (n:=n) n x [] hx (by omega) (by simp;omega)]
 simp

theorem My {n:Nat} {b:Bool}:f174 n b=some (if b=true then 1 else 0):=by cases b <;> rfl

theorem J6 {x y:Int} (h:x<y):cm x y = -1:=by unfold cm;rw [QJ h]

theorem J7 {x y:Int} (h:y<x):cm x y=1:=by unfold cm;rw [QH (by omega),QH (by omega)]

theorem Ku {x y:Int} (h:x=y):cm x y=0:=by unfold cm;rw [QH (by omega),QJ h]

theorem Ax5 (x y z:Int):cm (x+z) (y+z)=cm x y:=by
 rcases Int.lt_trichotomy x y with h | h | h
 . rw [J6 h,J6 (by omega)]
 . rw [Ku h,Ku (by omega)]
 . rw [J7 h,J7 (by omega)]

theorem Ax4 {α:Type} {n:Nat} {a b:List Int} (ha:Lm a) (hb:Lm b) (hab:a.length=b.length) (hN:a.length<=1099511627776) {k0:Int->Option α} {k1:Unit->Option α}:∀ (m k:Nat),k<m->k<=a.length ->
  A02 n m a b ((k:Int)-1) k0 k1=if vl (a.take k)=vl (b.take k) then k1 () else k0 (cm (vl (a.take k)) (vl (b.take k)))
 | 0,k,h,_=>by omega
 | m+1,k,h,hk=>by
  rw [Aue];unfold A2w;dsimp only;by_cases h0:k=0
  . subst h0;simp
  . rw [QK,QJ (by omega),A3 (by simp;omega),A3 (by simp;omega)]
    have e:((k:Int)-1).toNat=k-1:=by omega
    rw [e,XC]
    have ta:=C3 (l:=a) (k:=k-1) (by omega)
    have tb:=C3 (l:=b) (k:=k-1) (by omega)
    rw [show k-1+1=k by omega] at ta tb
    by_cases hz:a.getD (k-1) 0=b.getD (k-1) 0
    . rw [QH (by simpa using hz),A8 (by omega) (by omega)]
      rw [show (k:Int)-1-1=((k-1:Nat):Int)-1 by omega,Ax4 (n:=n) ha hb hab hN m (k-1) (by omega) (by omega)]
      rw [ta,tb,hz];by_cases h1:vl (a.take (k-1))=vl (b.take (k-1))
      . rw [QJ h1,QJ (by omega)]
      . rw [QH h1,QH (by omega)]
        rw [Ax5]
    . rw [QJ (by simpa using hz),A3 (by simp;omega),A3 (by simp;omega),My,A0]
      rcases Int.lt_or_gt_of_ne hz with h1 | h1
      . have:=Uq ha hb (k:=k-1) (by omega) (by omega) h1
        rw [show k-1+1=k by omega] at this
        rw [show (if vl (a.take k)=vl (b.take k) then k1 () else k0 (cm (vl (a.take k)) (vl (b.take k))))=k0 (-1) by rw [QH (by omega),J6 this],QH (by rw [QO];omega)]
        rfl
      . have:=Uq hb ha (k:=k-1) (by omega) (by omega) h1
        rw [show k-1+1=k by omega] at this
        rw [show (if vl (a.take k)=vl (b.take k) then k1 () else k0 (cm (vl (a.take k)) (vl (b.take k))))=k0 1 by rw [QH (by omega),J7 this],QJ (by rw [QO];omega)]
        rfl

theorem B3s {n:Nat} {a b:List Int} (ha:Cn a) (hb:Cn b) (hN:a.length<=1099511627776) (hn:a.length<n):f199 n a b=some (cm (vl a) (vl b)):=by
 unfold f199;rw [XC];by_cases h:a.length=b.length
 . rw [QH (by simp [h]),A8 (by omega) (by omega),Ax4 (n:=n) ha.1 hb.1 h hN n a.length hn (QZ _)]
   rw [YI,h,YI];by_cases h1:vl a=vl b
   . rw [QJ h1,Ku h1]
   . rw [QH h1]
 . rw [QJ (by simp;omega),My,A0]
   rcases Nat.lt_or_gt_of_ne h with h1 | h1
   . rw [J6 (ha.lt_of_len hb h1),QH (by simp;omega)];rfl
   . rw [J7 (hb.lt_of_len ha h1),QJ (by simp;omega)];rfl

theorem Ax3 {α:Type} {n:Nat} {a b:List Int} (ha:Lm a) (hb:Lm b) (hab:a.length=b.length) {k0 k1:Int->Option α}:∀ (k:Nat),k<=a.length ->
  Oi n a k a b 0 k0 k1=if vl (a.take k)=vl (b.take k) then k0 0 else k1 (cm (vl (a.take k)) (vl (b.take k)))
 | 0,_=>by rw [Ave];simp
 | k+1,hk=>by
  rw [Avc];unfold A3q;dsimp only
  rw [A3 (by simp;omega),XC]
  have ta:=C3 (l:=a) (k:=k) (by omega)
  have tb:=C3 (l:=b) (k:=k) (by omega)
  simp only [QP];by_cases hz:a.getD k 0=b.getD k 0
  . rw [QH (by simpa using hz),A3 (by simp),Ax3 ha hb hab k (by omega)]
    rw [ta,tb,hz];by_cases h1:vl (a.take k)=vl (b.take k)
    . rw [QJ h1,QJ (by omega)]
    . rw [QH h1,QH (by omega)]
      rw [Ax5]
  . rw [QJ (by simpa using hz),A3 (by simp;omega),QK]
    rcases Int.lt_or_gt_of_ne hz with h1 | h1
    . have:=Uq ha hb (k:=k) (by omega) (by omega) h1
      rw [show (if vl (a.take (k+1))=vl (b.take (k+1)) then k0 0 else k1 (cm (vl (a.take (k+1))) (vl (b.take (k+1)))))=k1 (-1) by rw [QH (by omega),J6 this],QJ h1]
    . have:=Uq hb ha (k:=k) (by omega) (by omega) h1
      rw [show (if vl (a.take (k+1))=vl (b.take (k+1)) then k0 0 else k1 (cm (vl (a.take (k+1))) (vl (b.take (k+1)))))=k1 1 by rw [QH (by omega),J7 this],QH (by omega)]

theorem B4s {n:Nat} {a b:List Int} (ha:Cn a) (hb:Cn b) (hN:a.length<=1099511627776):f155 n a b=some (cm (vl a) (vl b)):=by
 unfold f155;rw [XC];by_cases h:a.length=b.length
 . rw [QH (by simp [h])]
   rw [show f205 n a=some a from rfl,A0,Avd,A3 (by simp;omega),Ax3 ha.1 hb.1 h a.length (QZ _)]
   rw [YI,h,YI];by_cases h1:vl a=vl b
   . rw [QJ h1,Ku h1]
   . rw [QH h1]
 . rw [QJ (by simp;omega),QK]
   rcases Nat.lt_or_gt_of_ne h with h1 | h1
   . rw [J6 (ha.lt_of_len hb h1),QJ (by omega)]
   . rw [J7 (hb.lt_of_len ha h1),QH (by omega)]

theorem B7 (l:List Int) (k:Nat):vl (l.take (k+1))=vl (l.take k)+10000 ^ k*l.getD k 0:=by
 rcases ZV k l.length with h | h
 . exact C3 h
 . rw [YK (by omega),YK (by omega),QL,KL h]
   simp

theorem Bc {l:List Int} {k:Nat} (h:l.length<=k):l.getD k 0=0:=by
 rw [QL,KL h];rfl

theorem Cn.of_ge {l:List Int} (h:Lm l) (hg:l ≠ []->(10000:Int) ^ (l.length-1)<=vl l):Cn l:=by
 refine ⟨h,λhn e=>?_⟩;have hl:0<l.length:=XO.2 hn;have h1:=B7 l (l.length-1)
 rw [show l.length-1+1=l.length by omega,YI,e] at h1
 have h2:=Hl (h.take (l.length-1))
 rw [KK,Qah (by omega)] at h2
 have:=hg hn;omega

theorem Jk (l:List Int) {k:Nat} (h:l.length<=k):l.take k=l:=YK h

theorem Axl {α:Type} {n:Nat} {a b:List Int} (ha:Cn a) (hb:Cn b) (hN:a.length<=1099511627776) (hNb:b.length<=1099511627776) {k0:List Int->Option α}:∀ (m i:Nat) (c:Int) (o:List Int),o.length=i->Lm o->0<=c->c<=1 ->
  vl o+10000 ^ i*c=vl (a.take i)+vl (b.take i)->(i<=max a.length b.length \/ (i=max a.length b.length+1/\c=0/\o.getD (i-1) 0 ≠ 0))->max a.length b.length+2<=i+m ->
  Qy n m a b c (i:Int) o k0=k0 (dg (vl a+vl b).toNat)
 | 0,i,c,o,ho,hlo,hc0,hc1,hv,hq,hm=>by omega
 | m+1,i,c,o,ho,hlo,hc0,hc1,hv,hq,hm=>by
  rw [Auh];unfold A2z;dsimp only
  have fin:a.length<=i->b.length<=i->c=0->o=dg (vl a+vl b).toNat:=λh1 h2 h3=>by
   rw [Jk a h1,Jk b h2,h3] at hv
   have hv':vl o=vl a+vl b:=by simpa using hv
   have:Cn o:=Cn.of_ge hlo λhn=>by
    have hl:0<o.length:=XO.2 hn;rcases hq with hq | ⟨hq1,_,hq3⟩
    . have hmx:i=max a.length b.length:=by omega
      rw [ho,hv'];rcases Nat.le_total a.length b.length with hab | hab
      . have h4:=hb.ge (XO.1 (by omega))
        have h5:=B6 ha.1
        rw [show i-1=b.length-1 by omega];omega
      . have h4:=ha.ge (XO.1 (by omega))
        have h5:=B6 hb.1
        rw [show i-1=a.length-1 by omega];omega
    . have h1:=B7 o (o.length-1)
      rw [show o.length-1+1=o.length by omega,YI] at h1
      have h2:=B6 (hlo.take (o.length-1));have h3:=hlo.get (o.length-1);rw [<- ho] at hq3;have h4:=F8 (o.length-1)
      have h5:(10000:Int) ^ (o.length-1)*1<=10000 ^ (o.length-1)*o.getD (o.length-1) 0:=XG (by omega) (by omega)
      omega
   rw [<- hv',Py this]
  have go:∀ (y:Int),y=c+a.getD i 0+b.getD i 0->(i<max a.length b.length \/ (i=max a.length b.length/\0<c))->Qy n m a b (W (Int.tdiv y 10000)) (W ((i:Int)+1)) (o++[Int.tmod y 10000]) k0=k0 (dg (vl a+vl b).toNat):=by
   intro y hy hi;have h1:=ha.1.get i;have h2:=hb.1.get i
   rw [tdv (by omega),tmd (by omega),A8 (by omega) (by omega),A8 (by omega) (by omega)]
   have ta:=B7 a i;have tb:=B7 b i
   have hyy:y=10000*(y / 10000)+y % 10000:=by omega
   refine Axl (n:=n) ha hb hN hNb m (i+1) _ _ (by simp [ho]) (hlo.app (Lm.cons (by omega) Lm.nil)) (by omega) (by omega) ?_ ?_ (by omega)
   . rw [Qi,ho,ta,tb,Bu];generalize y / 10000=q at *;generalize y % 10000=r at *;generalize (10000:Int) ^ i=P at *;grind
   . rcases hi with hi | ⟨hi,hc⟩
     . exact .inl (by omega)
     . right
       have e1:a.getD i 0=0:=Bc (by omega)
       have e2:b.getD i 0=0:=Bc (by omega)
       have e3:y=1:=by omega
       subst e3
       refine ⟨by omega,by rfl,?_⟩
       rw [Qan,<- ho,QL];simp
  have hcases:(i<a.length \/ i<b.length \/ 0<c)->(i<max a.length b.length \/ (i=max a.length b.length/\0<c)):=λh=>by
   rcases h with h | h | h
   . exact .inl (by omega)
   . exact .inl (by omega)
   . rcases hq with hq | ⟨_,h0,_⟩
     . omega
     . omega
  have ho2:(decide ((o.length+1)*8<=140737488355328))=true:=by
   rw [QO];rcases hq with hq | ⟨hq,_⟩ <;> omega
  have h1:=ha.1.get i;have h2:=hb.1.get i;by_cases hA:i<a.length
  . have dA:decide ((i:Int)<(a.length:Int))=true:=by rw [QO];omega
    simp only [dA,ZR,QP]
    rw [A3 (by simp;try omega),A8 (x:=c+a.getD i 0) (by omega) (by omega)]
    by_cases hB:i<b.length
    . have dB:decide ((i:Int)<(b.length:Int))=true:=by rw [QO];omega
      simp only [dB,ZR]
      rw [A3 (by simp;try omega),A3 ho2,A8 (x:=c+a.getD i 0+b.getD i 0) (by omega) (by omega)]
      exact go _ rfl (hcases (.inl hA))
    . have dB:decide ((i:Int)<(b.length:Int))=false:=by rw [ZU];omega
      simp only [dB,QU];rw [A3 ho2]
      exact go _ (by rw [Bc (l:=b) (by omega)];omega) (hcases (.inl hA))
  . have dA:decide ((i:Int)<(a.length:Int))=false:=by rw [ZU];omega
    simp only [dA,QU,QP];by_cases hB:i<b.length
    . have dB:decide ((i:Int)<(b.length:Int))=true:=by rw [QO];omega
      simp only [dB,ZR]
      rw [A3 (by simp;try omega),A3 ho2,A8 (x:=c+b.getD i 0) (by omega) (by omega)]
      exact go _ (by rw [Bc (l:=a) (by omega)];omega) (hcases (.inr (.inl hB)))
    . have dB:decide ((i:Int)<(b.length:Int))=false:=by rw [ZU];omega
      simp only [dB,QU];rw [QK];by_cases hc:0<c
      . rw [QJ (by omega),A3 ho2]
        exact go _ (by rw [Bc (l:=a) (by omega),Bc (l:=b) (by omega)];omega) (hcases (.inr (.inr hc)))
      . rw [QH (by omega),fin (by omega) (by omega) (by omega)]

theorem B3u {n:Nat} {a b:List Int} (ha:Cn a) (hb:Cn b) (hN:a.length<=1099511627776) (hNb:b.length<=1099511627776) (hn:max a.length b.length+2<=n):f198 n a b=some (dg (vl a+vl b).toNat):=by
 unfold f198
 have:=Axl (n:=n) ha hb hN hNb (k0:=λz_6=>some z_6) n 0 0 [] rfl Lm.nil (by omega) (by omega) (by simp [vl]) (.inl (by omega)) (by omega)
 exact this

theorem Are {α:Type} {n:Nat} {a b:List Int} (ha:Lm a) (hb:Lm b) (hN:a.length<=1099511627776) {k0:List Int->Option α}:∀ (m i:Nat) (c:Int) (o:List Int),o.length=i->Lm o->0<=c->c<=1->i<=a.length ->
  vl o-10000 ^ i*c=vl (a.take i)-vl (b.take i)->a.length+1<=i+m ->
  ∃ o' c',Mu n m a b c (i:Int) o k0=k0 o'/\o'.length=a.length/\Lm o'/\0<=c'/\c'<=1/\vl o'-10000 ^ a.length*c'=vl a-vl (b.take a.length)
 | 0,i,c,o,ho,hlo,hc0,hc1,hi,hv,hm=>by omega
 | m+1,i,c,o,ho,hlo,hc0,hc1,hi,hv,hm=>by
  rw [Auc];unfold A2t;dsimp only;by_cases hA:i<a.length
  . rw [QK,QJ (by omega),A3 (by simp;try omega)]
    have h1:=ha.get i;have h2:=hb.get i;have ta:=B7 a i;have tb:=B7 b i
    have ho2:(decide ((o.length+1)*8<=140737488355328))=true:=by
     rw [QO];omega
    have go:∀ y:Int,y=a.getD i 0-c-b.getD i 0->∃ o' c',Mu n m a b (if y<0 then 1 else 0) (W ((i:Int)+1)) (o++[W (y+W ((if y<0 then 1 else 0)*10000))]) k0=k0 o'/\o'.length=a.length/\Lm o'/\0<=c'/\c'<=1/\vl o'-10000 ^ a.length*c'=vl a-vl (b.take a.length):=by
     intro y hy
     obtain ⟨d,hd⟩:∃ d:Int,d=if y<0 then 1 else 0:=⟨_,rfl⟩
     have hd1:0<=d/\d<=1/\0<=y+d*10000/\y+d*10000<10000:=by
      rw [hd];split <;> omega
     rw [<- hd,A8 (x:=d*10000) (by omega) (by omega),A8 (x:=y+d*10000) (by omega) (by omega),A8 (x:=(i:Int)+1) (by omega) (by omega)]
     refine Are (n:=n) ha hb hN m (i+1) d _ (by simp [ho]) (hlo.app (Lm.cons (by omega) Lm.nil)) (by omega) (by omega) (by omega) ?_ (by omega)
     rw [Qi,ho,ta,tb,Bu];generalize (10000:Int) ^ i=P at *;grind
    simp only [QP];by_cases hB:i<b.length
    . have dB:decide ((i:Int)<(b.length:Int))=true:=by rw [QO];omega
      simp only [dB,ZR]
      rw [A3 (by simp;try omega)]
      simp only [A8 (x:=a.getD i 0-c) (by omega) (by omega),A8 (x:=a.getD i 0-c-b.getD i 0) (by omega) (by omega)]
      rw [My,A0,A3 ho2];simp only [QO];exact go _ rfl
    . have dB:decide ((i:Int)<(b.length:Int))=false:=by rw [ZU];omega
      simp only [dB,QU]
      simp only [A8 (x:=a.getD i 0-c) (by omega) (by omega)]
      rw [My,A0,A3 ho2];simp only [QO]
      exact go _ (by rw [Bc (l:=b) (by omega)];omega)
  . rw [QK,QH (by omega)]
    obtain rfl:i=a.length:=by omega
    rw [YI] at hv;exact ⟨o,c,rfl,ho,hlo,hc0,hc1,hv⟩

theorem B3q {n:Nat} {a b:List Int} (ha:Cn a) (hb:Cn b) (hN:a.length<=1099511627776) (hn:a.length+1<=n) (hab:vl b<=vl a):f200 n a b=some (dg (vl a-vl b).toNat):=by
 have hl:b.length<=a.length:=by
  rcases ZV a.length b.length with h | h
  . have:=ha.lt_of_len hb h;omega
  . exact h
 unfold f200
 obtain ⟨o,c,h1,h2,h3,h4,h5,h6⟩:=Are (n:=n) ha.1 hb.1 hN (k0:=λz_4=>ob (f216 n z_4) λr_5=>some r_5) n 0 0 [] rfl Lm.nil (by omega) (by omega) (by omega) (by simp [vl]) (by omega)
 have h1:Mu n n a b 0 0 [] (λz_4=>ob (f216 n z_4) λr_5=>some r_5)=_:=h1
 rw [h1,Zy h3 (by omega) (by omega),A0]
 rw [Jk b hl] at h6;have h7:=Hl h3;rw [h2] at h7
 have:c=0:=by
  rcases Int.lt_or_eq_of_le h4 with h | h
  . have:c=1:=by omega
    rw [this] at h6;omega
  . exact h.symm
 rw [this] at h6
 rw [show vl o=vl a-vl b by simpa using h6]

theorem Mp {l:List Int} {k:Nat} (h:k<l.length):vl (l.drop k)=l.getD k 0+10000*vl (l.drop (k+1)):=by
 rw [XS h,vl,QL,QM h];rfl

theorem Aez {P o ok y q r c ai bk v' T:Int} (h:o+P*(c+ai*(bk+10000*v'))=T) (hy:y=ok+c+ai*bk) (hq:y=10000*q+r):o+P*(r-ok)+10000*P*(q+ai*v')=T:=by
 grind

theorem A1x {x y:Int} (hx:0<=x/\x<10000) (hy:0<=y/\y<10000):0<=x*y/\x*y<=99980001:=by
 have h1:=Int.mul_nonneg hx.1 hy.1
 have h2:x*y<=9999*y:=JL (by omega) hy.1
 omega

theorem As7 {α:Type} {n:Nat} {a b:List Int} (ha:Lm a) (hb:Lm b) (i:Nat) (hi:i<a.length) {S:Nat} (hS:a.length+b.length<S) (hN:S<=1099511627776) {T:Int} (hT:T<10000 ^ S) {k0:List Int->List Int->Int->List Int->Option α} :
  ∀ (m k:Nat) (c:Int) (o:List Int),Lm o->o.length=S->0<=c->c<10000->i+k<=S->vl o+10000 ^ (i+k)*(c+a.getD i 0*vl (b.drop k))=T->S+1<=i+k+m ->
  ∃ o',Lm o'/\o'.length=S/\vl o'=T/\Mw n m a b (i:Int) c (k:Int) o k0=k0 a b (i:Int) o'
 | 0,k,c,o,hlo,ho,hc0,hc1,hik,hv,hm=>by omega
 | m+1,k,c,o,hlo,ho,hc0,hc1,hik,hv,hm=>by
  rw [Auk];unfold A32;dsimp only;have h1:=ha.get i;have h2:=hb.get k;have h3:=hlo.get (i+k);have h4:=A1x h1 h2;have hvo:=B6 hlo
  have go:∀ y:Int,i+k<S->(k<b.length \/ b.length<=k)->y=o.getD (i+k) 0+c+a.getD i 0*b.getD k 0 ->
    ∃ o',Lm o'/\o'.length=S/\vl o'=T/\Mw n m a b (i:Int) (W (Int.tdiv y 10000)) (W ((k:Int)+1)) (o.set (i+k) (Int.tmod y 10000)) k0=k0 a b (i:Int) o':=by
   intro y hlt hk hy
   rw [tdv (by omega),tmd (by omega),A8 (by omega) (by omega),A8 (by omega) (by omega)]
   refine As7 (n:=n) ha hb i hi hS hN hT m (k+1) _ _ (hlo.set _ (by omega)) (by simpa using ho) (by omega) (by omega) (by omega) ?_ (by omega)
   rw [Kw _ (by omega),show i+(k+1)=(i+k)+1 by omega,Bu]
   have hyy:y=10000*(y / 10000)+y % 10000:=by omega
   refine Aez (bk:=b.getD k 0) ?_ hy hyy;rcases hk with hk | hk
   . rw [<- Mp hk];exact hv
   . rw [QY (by omega)] at hv ⊢
     rw [Bc hk];simpa [vl] using hv
  by_cases hB:k<b.length
  . have dB:decide ((k:Int)<(b.length:Int))=true:=by rw [QO];omega
    simp only [dB,ZR,QP]
    rw [A8 (x:=(i:Int)+(k:Int)) (by omega) (by omega)]
    have e:((i:Int)+(k:Int)).toNat=i+k:=by omega
    simp only [e]
    rw [A3 (by simp;try omega),A3 (by simp;try omega),A3 (by simp;try omega),A3 (by simp;try omega),A8 (x:=a.getD i 0*b.getD k 0) (by omega) (by omega),A8 (x:=o.getD (i+k) 0+c) (by omega) (by omega),A8 (x:=o.getD (i+k) 0+c+a.getD i 0*b.getD k 0) (by omega) (by omega),A3 (by simp;try omega),A3 (by simp;try omega)]
    exact go _ (by omega) (.inl hB) rfl
  . have dB:decide ((k:Int)<(b.length:Int))=false:=by rw [ZU];omega
    simp only [dB,QU];rw [QK]
    rw [QY (by omega)] at hv
    by_cases hc:0<c
    . have hlt : i + k < S := by
       refine Anq ?_
       have h5:(10000:Int) ^ (i+k)*1<=10000 ^ (i+k)*c:=XG (by omega) (by have:=F8 (i+k);omega)
       simp only [vl,Qao,Qbg] at hv;omega
      rw [QJ (by omega),A8 (x:=(i:Int)+(k:Int)) (by omega) (by omega)]
      have e:((i:Int)+(k:Int)).toNat=i+k:=by omega
      simp only [e]
      rw [A3 (by simp;try omega),A3 (by simp;try omega),A3 (by simp;try omega),A3 (by simp;try omega),A8 (x:=o.getD (i+k) 0+c) (by omega) (by omega)]
      exact go _ hlt (.inr (by omega)) (by rw [Bc (l:=b) (by omega)];omega)
    . rw [QH (by omega)]
      obtain rfl:c=0:=by omega
      exact ⟨o,hlo,ho,by simpa [vl] using hv,rfl⟩

theorem As6 {a b:List Int} (ha:Lm a) (hb:Lm b) {i S:Nat} (hS:i+b.length<=S):vl (a.take i)*vl b<10000 ^ S:=by
 have h1:=Hl (ha.take i);have h2:=Hl hb;have h3:=B6 (ha.take i);have h4:=B6 hb
 have h5:(10000:Int) ^ (a.take i).length<=10000 ^ i:=Z9 (by simp;omega)
 have h6:=F8 i;have h7:=F8 b.length
 have h8:vl (a.take i)*vl b<=vl (a.take i)*10000 ^ b.length:=XG (by omega) h3
 have h9:vl (a.take i)*10000 ^ b.length<10000 ^ i*10000 ^ b.length:=Int.mul_lt_mul_of_pos_right (by omega) h7
 rw [<- Int.pow_add] at h9;have h10:(10000:Int) ^ (i+b.length)<=10000 ^ S:=Z9 hS;omega

theorem Al9 {α:Type} {n:Nat} {a b:List Int} (ha:Lm a) (hb:Lm b) {S:Nat} (hS:a.length+b.length<S) (hN:S<=1099511627776) (hn:S+1<=n) {k0:List Int->Option α} :
  ∀ (m i:Nat) (o:List Int),Lm o->o.length=S->i<=a.length->vl o=vl (a.take i)*vl b->a.length+1<=i+m ->
  ∃ o',Lm o'/\o'.length=S/\vl o'=vl a*vl b/\Mx n m a b (i:Int) o k0=k0 o'
 | 0,i,o,hlo,ho,hi,hv,hm=>by omega
 | m+1,i,o,hlo,ho,hi,hv,hm=>by
  rw [Aum];unfold A35;dsimp only;rw [QK];by_cases hA:i<a.length
  . rw [QJ (by omega)]
    have hT:vl (a.take (i+1))*vl b<10000 ^ S:=As6 ha hb (by omega)
    obtain ⟨o',q1,q2,q3,q4⟩:=As7 (n:=n) ha hb i hA hS hN hT (k0:=λz_1 z_2 z_3 z_4=>Mx n m z_1 z_2 (W (z_3+1)) z_4 k0) n 0 0 o hlo ho (by omega) (by omega) (by omega) (by
     rw [hv,B7,ZQ,KC];generalize (10000:Int) ^ i=P
     grind) (by omega)
    have q4:Mw n n a b (i:Int) 0 0 o _=_:=q4
    rw [q4,A8 (by omega) (by omega)]
    exact Al9 (n:=n) ha hb hS hN hn m (i+1) o' q1 q2 (by omega) q3 (by omega)
  . rw [QH (by omega)]
    obtain rfl:i=a.length:=by omega
    rw [YI] at hv;exact ⟨o,hlo,ho,hv,rfl⟩

theorem B3x {n:Nat} {a b:List Int} (ha:Lm a) (hb:Lm b) (hN:a.length+b.length<=1099511627770) (hn:a.length+b.length+2<=n):f196 n a b=some (dg (vl a*vl b).toNat):=by
 unfold f196
 rw [A8 (x:=(a.length:Int)+(b.length:Int)) (by omega) (by omega),A8 (x:=(a.length:Int)+(b.length:Int)+1) (by omega) (by omega),A3 (by simp;try omega)]
 have e:((a.length:Int)+(b.length:Int)+1).toNat=a.length+b.length+1:=by omega
 rw [e]
 obtain ⟨o,q1,q2,q3,q4⟩:=Al9 (n:=n) ha hb (S:=a.length+b.length+1) (by omega) (by omega) (by omega) (k0:=λz_5=>ob (f216 n z_5) λr_6=>some r_6) n 0 (List.replicate (a.length+b.length+1) 0) (Lm.rep _) (by simp) (by omega) (by rw [Vy];simp [vl]) (by omega)
 have q4:Mx n n a b 0 _ _=_:=q4
 rw [q4,Zy q1 (by omega) (by omega),A0,q3]

theorem As8 {α:Type} {n:Nat} {a b:List Int} (ha:Lm a) (hb:Lm b) (i:Nat) (hi:i<a.length) {S:Nat} (hS:a.length+b.length<=S) (hN:S<=1099511627776) {T:Int} (hT:T<10000 ^ S) (q1:List Int) (q2 q3:Int) {k0:List Int->List Int->Int->Int->List Int->Option α} :
  ∀ (m k:Nat) (c:Int) (o:List Int),Lm o->o.length=S->0<=c->c<10000->i+k<=S->vl o+10000 ^ (i+k)*(c+a.getD i 0*vl (b.drop k))=T->S+1<=i+k+m ->
  ∃ o',Lm o'/\o'.length=S/\vl o'=T/\N0 n m b (i:Int) (a.getD i 0) c (k:Int) q1 q2 q3 o k0=k0 b q1 q2 q3 o'
 | 0,k,c,o,hlo,ho,hc0,hc1,hik,hv,hm=>by omega
 | m+1,k,c,o,hlo,ho,hc0,hc1,hik,hv,hm=>by
  rw [Avk];unfold A3w;dsimp only;have h1:=ha.get i;have h2:=hb.get k;have h3:=hlo.get (i+k);have h4:=A1x h1 h2;have hvo:=B6 hlo
  have go:∀ y:Int,i+k<S->(k<b.length \/ b.length<=k)->y=o.getD (i+k) 0+c+a.getD i 0*b.getD k 0 ->
    ∃ o',Lm o'/\o'.length=S/\vl o'=T/\N0 n m b (i:Int) (a.getD i 0) (W (Int.tdiv y 10000)) (W ((k:Int)+1)) q1 q2 q3 (o.set (i+k) (Int.tmod y 10000)) k0=k0 b q1 q2 q3 o':=by
   intro y hlt hk hy
   rw [tdv (by omega),tmd (by omega),A8 (by omega) (by omega),A8 (by omega) (by omega)]
   refine As8 (n:=n) ha hb i hi hS hN hT q1 q2 q3 m (k+1) _ _ (hlo.set _ (by omega)) (by simpa using ho) (by omega) (by omega) (by omega) ?_ (by omega)
   rw [Kw _ (by omega),show i+(k+1)=(i+k)+1 by omega,Bu]
   have hyy:y=10000*(y / 10000)+y % 10000:=by omega
   refine Aez (bk:=b.getD k 0) ?_ hy hyy;rcases hk with hk | hk
   . rw [<- Mp hk];exact hv
   . rw [QY (by omega)] at hv ⊢
     rw [Bc hk];simpa [vl] using hv
  by_cases hB:k<b.length
  . have dB:decide ((k:Int)<(b.length:Int))=true:=by rw [QO];omega
    simp only [dB,ZR,QP]
    rw [A8 (x:=(i:Int)+(k:Int)) (by omega) (by omega)]
    have e:((i:Int)+(k:Int)).toNat=i+k:=by omega
    simp only [e]
    rw [A3 (by simp;try omega),A8 (x:=a.getD i 0*b.getD k 0) (by omega) (by omega),A8 (x:=c+a.getD i 0*b.getD k 0) (by omega) (by omega),A3 (by simp;try omega),A3 (by simp;try omega),A3 (by simp;try omega),A3 (by simp;try omega),A8 (x:=c+a.getD i 0*b.getD k 0+o.getD (i+k) 0) (by omega) (by omega)]
    exact go _ (by omega) (.inl hB) (by omega)
  . have dB:decide ((k:Int)<(b.length:Int))=false:=by rw [ZU];omega
    simp only [dB,QU];rw [QK]
    rw [QY (by omega)] at hv
    by_cases hc:0<c
    . have hlt : i + k < S := by
       refine Anq ?_
       have h5:(10000:Int) ^ (i+k)*1<=10000 ^ (i+k)*c:=XG (by omega) (by have:=F8 (i+k);omega)
       simp only [vl,Qao,Qbg] at hv;omega
      rw [QJ (by omega),A8 (x:=(i:Int)+(k:Int)) (by omega) (by omega)]
      have e:((i:Int)+(k:Int)).toNat=i+k:=by omega
      simp only [e]
      rw [A3 (by simp;try omega),A3 (by simp;try omega),A3 (by simp;try omega),A3 (by simp;try omega),A8 (x:=c+o.getD (i+k) 0) (by omega) (by omega)]
      exact go _ hlt (.inr (by omega)) (by rw [Bc (l:=b) (by omega)];omega)
    . rw [QH (by omega)]
      obtain rfl:c=0:=by omega
      exact ⟨o,hlo,ho,by simpa [vl] using hv,rfl⟩

theorem Ala {α:Type} {n:Nat} {a b:List Int} (ha:Lm a) (hb:Lm b) {S:Nat} (hS:a.length+b.length<=S) (hN:S<=1099511627776) (hn:S+1<=n) {k0:List Int->Option α} :
  ∀ (m i:Nat) (o:List Int),Lm o->o.length=S->i<=a.length->vl o=vl (a.take i)*vl b->a.length+1<=i+m ->
  ∃ o',Lm o'/\o'.length=S/\vl o'=vl a*vl b/\N1 n m b a (a.length:Int) (i:Int) o k0=k0 o'
 | 0,i,o,hlo,ho,hi,hv,hm=>by omega
 | m+1,i,o,hlo,ho,hi,hv,hm=>by
  rw [Avm];unfold A3z;dsimp only;rw [QK];by_cases hA:i<a.length
  . rw [QJ (by omega),A3 (by simp;try omega)]
    simp only [QP]
    have hT:vl (a.take (i+1))*vl b<10000 ^ S:=As6 ha hb (by omega)
    obtain ⟨o',q1,q2,q3,q4⟩:=As8 (n:=n) ha hb i hA hS hN hT a (a.length:Int) (i:Int) (k0:=λz_1 z_2 z_3 z_4 z_5=>N1 n m z_1 z_2 z_3 (W (z_4+1)) z_5 k0) n 0 0 o hlo ho (by omega) (by omega) (by omega) (by
     rw [hv,B7,ZQ,KC];generalize (10000:Int) ^ i=P
     grind) (by omega)
    have q4:N0 n n b (i:Int) (a.getD i 0) 0 0 a (a.length:Int) (i:Int) o _=_:=q4
    rw [q4,A8 (by omega) (by omega)]
    exact Ala (n:=n) ha hb hS hN hn m (i+1) o' q1 q2 (by omega) q3 (by omega)
  . rw [QH (by omega)]
    obtain rfl:i=a.length:=by omega
    rw [YI] at hv;exact ⟨o,hlo,ho,hv,rfl⟩

theorem B4y {n:Nat} {a b:List Int} (ha:Lm a) (hb:Lm b) (hN:a.length+b.length<=1099511627770) (hn:a.length+b.length+2<=n):f152 n a b=some (dg (vl a*vl b).toNat):=by
 unfold f152
 rw [A8 (x:=(a.length:Int)+(b.length:Int)) (by omega) (by omega),A3 (by simp;try omega)]
 have e:((a.length:Int)+(b.length:Int)).toNat=a.length+b.length:=by omega
 rw [e]
 obtain ⟨o,q1,q2,q3,q4⟩:=Ala (n:=n) ha hb (S:=a.length+b.length) (by omega) (by omega) (by omega) (k0:=λz_5=>ob (f202 n z_5) λr_6=>some r_6) n 0 (List.replicate (a.length+b.length) 0) (Lm.rep _) (by simp) (by omega) (by rw [Vy];simp [vl]) (by omega)
 have q4:N1 n n b a (a.length:Int) 0 _ _=_:=q4
 rw [q4,Qx q1 (by omega) (by omega),A0,q3]

theorem pwc (k:Nat):((10000 ^ k:Nat):Int)=(10000:Int) ^ k:=by rw [Int.natCast_pow];rfl

theorem B6u (Q:Nat):((10000*Q:Nat):Int)=10000*(Q:Int):=by omega

theorem A5f (Q q:Nat):((10000*Q+q:Nat):Int)=10000*(Q:Int)+q:=by omega

theorem Adj (Q q:Nat):((q+10000*Q:Nat):Int)=q+10000*(Q:Int):=by omega

theorem Cx {n k:Nat} (h:n<10000 ^ k):(dg n).length<=k:=Rp.2 (by rw [<- pwc];omega)

theorem A5i (n:Nat):n<10000 ^ (dg n).length:=by
 have:=Rp.1 (QZ (dg n).length);rw [<- pwc] at this;omega

theorem Hx {n k:Nat} (h:(dg n).length<=k):n<10000 ^ k:=by
 have:=Rp.1 h;rw [<- pwc] at this;omega

theorem B0 (a b:Nat):(dg (a*b)).length<=(dg a).length+(dg b).length:=by
 refine Cx ?_;rw [Nat.pow_add];exact Nat.mul_lt_mul'' (A5i a) (A5i b)

theorem Ze (a b:Nat):(dg (a+b)).length<=max (dg a).length (dg b).length+1:=by
 refine Cx ?_
 have h1:a<10000 ^ max (dg a).length (dg b).length:=Hx (by omega)
 have h2:b<10000 ^ max (dg a).length (dg b).length:=Hx (by omega)
 rw [YE];omega

theorem A8g {a:Nat} (h:a<10000):(dg a).length<=1:=Cx (by simpa using h)

theorem B2q (a:Nat) (x:Nat) (h:x<10000):(dg (x+10000*a)).length<=(dg a).length+1:=by
 refine Cx ?_;have:=A5i a;rw [YE];omega

theorem Adf {n a b:Nat} (h:(dg a).length<=1099511627776) (hn:(dg a).length<n):f199 n (dg a) (dg b)=some (cm a b):=by
 rw [B3s (Fv a) (Fv b) h hn,Ba,Ba]

theorem M5 {n a b:Nat} (h:(dg a).length+(dg b).length<=1099511627770) (hn:(dg a).length+(dg b).length+2<=n):f196 n (dg a) (dg b)=some (dg (a*b)):=by
 rw [B3x (De a) (De b) h hn,Ba,Ba];congr 1

theorem Bb1 {n a b:Nat} (h:(dg a).length<=1099511627776) (h':(dg b).length<=1099511627776) (hn:max (dg a).length (dg b).length+2<=n):f198 n (dg a) (dg b)=some (dg (a+b)):=by
 rw [B3u (Fv a) (Fv b) h h' hn,Ba,Ba];congr 1

theorem Anj {n a b:Nat} (h:(dg a).length<=1099511627776) (hn:(dg a).length+1<=n) (hab:b<=a):f200 n (dg a) (dg b)=some (dg (a-b)):=by
 rw [B3q (Fv a) (Fv b) h hn (by rw [Ba,Ba];omega),Ba,Ba]
 congr 2;omega

theorem Mb {n a b:Nat} (h:(dg a).length+(dg b).length<=1099511627770) (hn:(dg a).length+(dg b).length+2<=n):f152 n (dg a) (dg b)=some (dg (a*b)):=by
 rw [B4y (De a) (De b) h hn,Ba,Ba];congr 1

theorem Adl {n a b:Nat} (h:(dg a).length<=1099511627776):f155 n (dg a) (dg b)=some (cm a b):=by
 rw [B4s (Fv a) (Fv b) h,Ba,Ba]

theorem Ais {α:Type} {n B R:Nat} (hBl:(dg B).length<=1099511627700) (hn:(dg B).length+20<=n) (s0:List Int) (s8:Int) (b14:List Int) {k0:List Int->List Int->List Int->Int->Int->List Int->Option α} :
  ∀ (m lo hi:Nat),lo<hi->hi<=10000->lo*B<=R->R<hi*B->hi<=lo+m ->
  Nt n m s0 (dg B) (dg R) s8 (lo:Int) (hi:Int) b14 k0=k0 s0 (dg B) (dg R) s8 ((R / B:Nat):Int) b14
 | 0,lo,hi,h1,h2,h3,h4,h5=>by omega
 | m+1,lo,hi,h1,h2,h3,h4,h5=>by
  rw [Aoz];unfold Xp;dsimp only
  rw [A8 (x:=(hi:Int)-(lo:Int)) (by omega) (by omega),A8 (x:=(lo:Int)+(hi:Int)) (by omega) (by omega)]
  have e:Int.tdiv ((lo:Int)+(hi:Int)) 2=(((lo+hi) / 2:Nat):Int):=by
   rw [YQ (by omega)];omega
  rw [e,A8 (x:=(((lo+hi) / 2:Nat):Int)) (by omega) (by omega)]
  generalize hmid:(lo+hi) / 2=mid;by_cases hc:lo+1<hi
  . rw [QK,QJ (by omega),Qz (by omega) (by omega),A0]
    have hl:=A8g (a:=mid) (by omega)
    have hm:=B0 B mid
    rw [M5 (by omega) (by omega),A0,Adf (by omega) (by omega),A0,QK]
    by_cases hle:B*mid<=R
    . have : cm ((B * mid : Nat) : Int) (R : Int) <= 0 := by
       rcases JM hle with h | h
       . rw [J6 (by omega)];omega
       . rw [Ku (by omega)];omega
      rw [QJ this]
      exact Ais hBl hn s0 s8 b14 m mid hi (by omega) h2 (by rw [KD];exact hle) h4 (by omega)
    . have : ¬ cm ((B * mid : Nat) : Int) (R : Int) <= 0 := by
       rw [J7 (by omega)];omega
      rw [QH this]
      exact Ais hBl hn s0 s8 b14 m lo mid (by omega) (by omega) h3 (by rw [KD];omega) (by omega)
  . rw [QK,QH (by omega)]
    obtain rfl:hi=lo+1:=by omega
    have:R / B=lo:=by
     rw [Nat.div_eq_iff (XA (by rintro rfl;simp at h4))]
     rw [YO] at h4;omega
    rw [this]

theorem Aid {α:Type} {n L A B:Nat} (hB:0<B) (hA:(dg A).length<=L) (hBl:(dg B).length<=L) (hL:L<=1099511627000) (hn:L+10040<=n) {k0:List Int->List Int->Option α} :
  ∀ (k m Q R:Nat) (o:List Int),k<m->k<=(dg A).length->R<B->o.length=(dg A).length->Lm o->(∀ i,i<k->o.getD i 0=0)->vl o=10000 ^ k*(Q:Int)->(Q:Int)*B+R=vl ((dg A).drop k) ->
  ∃ o',Lm o'/\o'.length=(dg A).length/\vl o'=((A / B:Nat):Int)/\Qt n m (dg A) (dg B) (dg R) ((k:Int)-1) o k0=k0 (dg (A % B)) o'
 | _,0,_,_,_,h1,_,_,_,_,_,_,_=>by omega
 | 0,m+1,Q,R,o,h1,h2,h3,h4,h5,h6,h7,h8=>by
  rw [Abf];unfold T7;dsimp only
  rw [QK,QH (by omega)]
  rw [ZQ,Ba] at h8
  have h8:Q*B+R=A:=by
   have:((Q*B+R:Nat):Int)=A:=by rw [KY,XW];exact h8
   omega
  have h9:A / B=Q:=by rw [<- h8,Nat.add_comm,Qaz _ _ hB,JF h3,YM]
  have h10:A % B=R:=by rw [<- h8,Qad,KP h3]
  exact ⟨o,h5,h4,by rw [h7,h9];simp,by rw [h10]⟩
 | k+1,m+1,Q,R,o,h1,h2,h3,h4,h5,h6,h7,h8=>by
  rw [Abf];unfold T7;dsimp only
  rw [QK,QJ (by omega)]
  rw [show (((k+1:Nat):Int)-1)=(k:Int) by omega]
  simp only [QP];have hg:=(De A).get k
  obtain ⟨x,hx⟩:∃ x:Nat,(dg A).getD k 0=(x:Int):=⟨((dg A).getD k 0).toNat,by omega⟩
  have hlR:(dg R).length<=L:=ZK (B5 (by omega)) hBl
  have hlRx:=B2q R x (by omega)
  have hRx:vl ((dg A).drop k)=(x:Int)+10000*((Q:Int)*B+R):=by
   rw [Mp (by omega),hx,<- h8]
  have hR':x+10000*R<10000*B:=by omega
  rw [hx,A3 (by simp;try omega),A3 (by simp;try omega),Zy (Lm.app (Lm.cons (by omega) Lm.nil) (De R)) (by simp;omega) (by simp;omega),A0]
  have e1:(vl ([(x:Int)]++dg R)).toNat=x+10000*R:=by
   rw [YF,JJ,vl,Ba];omega
  rw [e1,Adf (by omega) (by omega),A0,A8 (x:=(k:Int)-1) (by omega) (by omega),QK]
  by_cases hlt:x+10000*R<B
  . rw [QJ (by rw [J6 (by omega)];omega)]
    refine Aid hB hA hBl hL hn k m (10000*Q) (x+10000*R) o (by omega) (by omega) hlt h4 h5 (λi hi=>h6 i (by omega)) ?_ ?_
    . rw [h7,Bu,B6u];grind
    . rw [hRx,B6u,Adj];grind
  . rw [QH (by
     rcases JM (Nat.le_of_not_lt hlt) with h | h
     . rw [J7 (by omega)];omega
     . rw [Ku (by omega)];omega)]
    have hbis := Ais (n := n) (B := B) (R := x + 10000 * R) (by omega) (by omega) (dg A) (k : Int) o (k0 := fun z_3 z_4 z_5 z_6 z_7 z_8 => (
            gd (decide (0<=z_6)&&decide (z_6<(z_8.length:Int))) (
             gd (decide (z_6.toNat<z_8.length)) (
              ob (f194 n z_7) λr_9 =>
              ob (f196 n z_4 r_9) λr_10 =>
              ob (f200 n z_5 r_10) λr_11 =>
              Qt n m z_3 z_4 r_11 (W (z_6-1)) (z_8.set z_6.toNat z_7) k0)))) n 0 10000 (by omega) (by omega) (by omega) hR' (by omega)
    have hbis:Nt n n (dg A) (dg B) (dg (x+10000*R)) (k:Int) 0 10000 o _=_:=hbis;rw [hbis];simp only [QP]
    have hq:(x+10000*R) / B<10000:=by
     rw [KZ hB];omega
    have hqr:=Qak (x+10000*R) B;have hqm:=KJ (x+10000*R) hB;generalize hqq:(x+10000*R) / B=q at *;generalize hrr:(x+10000*R) % B=r at *;have hl1:=A8g hq;have hl2:=B0 B q
    rw [A3 (by simp;try omega),A3 (by simp;try omega),Qz (by omega) (by omega),A0,M5 (by omega) (by omega),A0,Anj (by omega) (by omega) (by omega),A0,A8 (x:=(k:Int)-1) (by omega) (by omega),show x+10000*R-B*q=r by omega]
    refine Aid hB hA hBl hL hn k m (10000*Q+q) r _ (by omega) (by omega) hqm (by simpa using h4) (h5.set _ (by omega)) (λi hi=>?_) ?_ ?_
    . rw [QL,Qbc (by omega),<- QL]
      exact h6 i (by omega)
    . rw [Kw _ (by omega),h7,h6 k (by omega),Bu,A5f]
      generalize (10000:Int) ^ k=P;grind
    . rw [hRx]
      have:(B:Int)*q+r=x+10000*R:=by
       rw [<- Adj,<- hqr,KY,XW]
      rw [A5f];grind

theorem Ank {n L A B:Nat} (hB:0<B) (hA:(dg A).length<=L) (hBl:(dg B).length<=L) (hL:L<=1099511627000) (hn:L+10040<=n):f217 n (dg A) (dg B)=some (dg (A / B),dg (A % B)):=by
 unfold f217
 rw [A3 (by simp;try omega),A8 (x:=((dg A).length:Int)-1) (by omega) (by omega)]
 simp only [QP]
 obtain ⟨o, h1, h2, h3, h4⟩ := Aid (n := n) hB hA hBl hL hn (k0 := fun z_12 z_13 => (
       ob (f216 n z_13) λr_14 =>
       some (r_14,z_12))) (dg A).length n 0 0 (List.replicate (dg A).length 0) (by omega) (QZ _) hB (by simp) (Lm.rep _) (λi hi=>by simp [QL,XQ,hi]) (by rw [Vy];simp) (by simp [vl])
 rw [Bx] at h4
 rw [h4,Zy h1 (by omega) (by omega),A0,h3]
 rfl

theorem Aff {a b:Nat} (hb:0<b) (hr:0<a % b) {j:Nat} (h:b<2 ^ (j+1)):b % (a % b)<2 ^ j:=by
 have h1:=KJ a hb;have h2:=KJ b hr;have h3:=Qak b (a % b);generalize a % b=r at *
 have h4:1<=b / r:=by rw [Nat.le_div_iff_mul_le hr];omega
 have h5:r*1<=r*(b / r):=YB r h4;rw [YE] at h;omega

theorem B79 {α:Type} {n L:Nat} (hL:L<=1099511627000) (hn:L+10040<=n) {k0:List Int->Option α} :
  ∀ (j m a b:Nat),b<2 ^ j->2*j+1<=m->(dg a).length<=L->(dg b).length<=L->Jy n m (dg a) (dg b) k0=k0 (dg (Nat.gcd b a)):=by
 have stop:∀ (m a:Nat),0<m->Jy n m (dg a) (dg 0) k0=k0 (dg (Nat.gcd 0 a)):=λm a hm=>by
  obtain ⟨m,rfl⟩:∃ m',m=m'+1:=⟨m-1,by omega⟩
  rw [Abi,Qaw,Bx];rfl
 have step:∀ (m a b:Nat),0<b->(dg a).length<=L->(dg b).length<=L->Jy n (m+1) (dg a) (dg b) k0=Jy n m (dg b) (dg (a % b)) k0:=λm a b hb ha hbl=>by
  rw [Abi];unfold A2e
  have:0<(dg b).length:=by rw [D9 (by omega)];simp
  rw [QK,QJ (by omega),Ank hb ha hbl hL hn,A0]
 intro j
 induction j with
 | zero =>
  intro m a b h1 h2 h3 h4
  obtain rfl:b=0:=by simpa using h1
  exact stop m a (by omega)
 | succ j ih =>
  intro m a b h1 h2 h3 h4;rcases YR b with rfl | hb
  . exact stop m a (by omega)
  obtain ⟨m,rfl⟩:∃ m',m=m'+2:=⟨m-2,by omega⟩
  have h5:(dg (a % b)).length<=L:=ZK (B5 (Nat.le_of_lt (KJ a hb))) h4;rw [step _ _ _ hb h3 h4,Nat.gcd_rec b a];rcases YR (a % b) with hr | hr
  . rw [hr];exact stop _ _ (by omega)
  have h6:(dg (b % (a % b))).length<=L:=ZK (B5 (Nat.le_of_lt (KJ b hr))) h5;rw [step _ _ _ hr h4 h5,Nat.gcd_rec (a % b) b]
  exact ih m _ _ (Aff hb hr h1) (by omega) h5 h6

theorem Al4 {b L:Nat} (h:b<10000 ^ L):b<2 ^ (14*L):=by
 rw [Nat.pow_mul]
 exact ZT h (Nat.pow_le_pow_left (by decide) L)

theorem B16 {n L a b:Nat} (hL:L<=1099511627000) (hn:28*L+10040<=n) (ha:(dg a).length<=L) (hb:(dg b).length<=L):f213 n (dg a) (dg b)=some (dg (Nat.gcd a b)):=by
 unfold f213
 have h1:(dg (Nat.gcd b a)).length<=L:=by
  rcases YR b with rfl | h
  . rw [Qaw];exact ha
  . exact ZK (B5 (Nat.gcd_le_left a h)) hb
 rw [B79 hL (by omega) (14*L) n a b (Al4 (Hx hb)) (by omega) ha hb,A3 (by simp;try omega),Nat.gcd_comm]

theorem Qp {pre w post:List Int} {i:Nat} (h:i<w.length):(pre++w++post).getD (pre.length+i) 0=w.getD i 0:=by
 rw [ZO,QL,ZC (by omega),KO,ZB h,<- QL]

theorem Alb {pre w post:List Int} {i:Nat} (h:i<w.length) (x:Int):(pre++w++post).set (pre.length+i) x=pre++w.set i x++post:=by
 rw [ZO,List.set_append_right _ _ (by omega),KO,List.set_append_left _ _ h,ZO]

theorem Axa {y:Int} (h:y<0) (h':-1099511627776<y):W (Int.tdiv (W (W (y-10000)+1)) 10000)=y / 10000:=by
 rw [A8 (x:=y-10000) (by omega) (by omega),A8 (x:=y-10000+1) (by omega) (by omega)]
 have:Int.tdiv (y-10000+1) 10000=y / 10000:=by
  rw [show y-10000+1 = -(9999-y) by omega,Int.neg_tdiv,YQ (by omega)]
  omega
 rw [this,A8 (by omega) (by omega)]

theorem Axy {o P q c wi bi v' T y d r:Int} (h:o+P*(c-q*(bi+10000*v'))=T) (hy:y=wi+c-q*bi) (hd:y=10000*d+r):o+P*(r-wi)+10000*P*(d-q*v')=T:=by
 grind

theorem Arz {o P c wi bi v' T y d r:Int} (h:o+P*(c+(bi+10000*v'))=T) (hy:y=wi+c+bi) (hd:y=10000*d+r):o+P*(r-wi)+10000*P*(d+v')=T:=by
 grind

theorem A1o {l:List Int} (k:Nat):vl (l.drop k)=l.getD k 0+10000*vl (l.drop (k+1)):=by
 rcases ZV k l.length with h | h
 . exact Mp h
 . rw [QY h,QY (by omega),Bc h];rfl

theorem Ard {α:Type} {n N:Nat} {b pre post:List Int} (hb:Lm b) (hbN:b.length=N) (hN:pre.length+N+1+post.length<=1099511627776) {q:Int} (hq:0<=q/\q<10000) {T:Int} {k0:Nat->Nat->List Int->Int->Int->Int->List Int->Option α} :
  ∀ (m i:Nat) (c:Int) (w:List Int),Lm w->w.length=N+1->-9999<=c->c<=0->i<=N+1->vl w+10000 ^ i*(c-q*vl (b.drop i))=T->N+2<=i+m ->
  ∃ w' c',Lm w'/\w'.length=N+1/\c'<=0/\vl w'+10000 ^ (N+1)*c'=T/\G1 n m pre.length (N+1) b (b.length:Int) q c ((N+1:Nat):Int) (i:Int) (pre++w++post) k0=k0 pre.length (N+1) b (b.length:Int) q c' (pre++w'++post)
 | 0,i,c,w,h1,h2,h3,h4,h5,h6,h7=>by omega
 | m+1,i,c,w,h1,h2,h3,h4,h5,h6,h7=>by
  rw [Aow];unfold Xl;dsimp only;by_cases hi:i<N+1
  . rw [QK,QJ (by omega)]
    simp only [QP]
    rw [A3 (by simp;try omega),A3 (by simp;try omega)]
    simp only [Qp (pre:=pre) (post:=post) (w:=w) (i:=i) (by omega)]
    have g1:=h1.get i;have g2:=hb.get i;have g3:=A1x hq g2
    have go:∀ y:Int,y=w.getD i 0+c-q*b.getD i 0 ->
      ∃ w' c',Lm w'/\w'.length=N+1/\c'<=0/\vl w'+10000 ^ (N+1)*c'=T /\
      (bif (decide (y<0)) then (gd (decide (0<=(i:Int))&&decide ((i:Int)<((N+1:Nat):Int))) (
        gd (decide ((pre.length+i)<(pre++w++post).length)) (
         G1 n m pre.length (N+1) b (b.length:Int) q (W (Int.tdiv (W ((W (y-10000))+1)) 10000)) ((N+1:Nat):Int) (W ((i:Int)+1)) ((pre++w++post).set (pre.length+i) (W (y-(W ((W (Int.tdiv (W ((W (y-10000))+1)) 10000))*10000))))) k0)))
       else (gd (decide (0<=(i:Int))&&decide ((i:Int)<((N+1:Nat):Int))) (
        gd (decide ((pre.length+i)<(pre++w++post).length)) (
         G1 n m pre.length (N+1) b (b.length:Int) q 0 ((N+1:Nat):Int) (W ((i:Int)+1)) ((pre++w++post).set (pre.length+i) (W (y-(W (0*10000))))) k0))))=k0 pre.length (N+1) b (b.length:Int) q c' (pre++w'++post):=by
     intro y hy
     have hd:y=10000*(y / 10000)+y % 10000:=by omega
     have go2 : ∀ d : Int, d = y / 10000 -> ∃ w' c', Lm w' /\ w'.length = N + 1 /\ c' <= 0 /\ vl w' + 10000 ^ (N + 1) * c' = T /\ (gd (decide (0 <= (i : Int)) && decide ((i : Int) < ((N + 1 : Nat) : Int))) (
           gd (decide ((pre.length+i)<(pre++w++post).length)) (
            G1 n m pre.length (N+1) b (b.length:Int) q d ((N+1:Nat):Int) (W ((i:Int)+1)) ((pre++w++post).set (pre.length+i) (W (y-(W (d*10000))))) k0)))=k0 pre.length (N+1) b (b.length:Int) q c' (pre++w'++post):=by
      intro d hdd
      rw [A3 (by simp;try omega),A3 (by simp;try omega),Alb (by omega),A8 (x:=d*10000) (by omega) (by omega),A8 (x:=y-d*10000) (by omega) (by omega),A8 (x:=(i:Int)+1) (by omega) (by omega)]
      refine Ard (n:=n) hb hbN hN hq m (i+1) d _ (h1.set _ (by omega)) (by simpa using h2) (by omega) (by omega) (by omega) ?_ (by omega)
      rw [Kw _ (by omega),Bu]
      refine Axy (bi:=b.getD i 0) ?_ hy (by omega)
      rw [<- A1o];exact h6
     rw [QK];by_cases hneg:y<0
     . rw [QJ hneg]
       simp only [Axa hneg (by omega)]
       exact go2 _ rfl
     . rw [QH hneg]
       exact go2 0 (by omega)
    by_cases hB:i<b.length
    . have dB:decide ((i:Int)<(b.length:Int))=true:=by rw [QO];omega
      simp only [dB,ZR]
      rw [A3 (by simp;try omega)]
      simp only [A8 (x:=q*b.getD i 0) (by omega) (by omega),A8 (x:=w.getD i 0+c) (by omega) (by omega),A8 (x:=w.getD i 0+c-q*b.getD i 0) (by omega) (by omega)]
      exact go _ rfl
    . have dB:decide ((i:Int)<(b.length:Int))=false:=by rw [ZU];omega
      simp only [dB,QU]
      simp only [A8 (x:=w.getD i 0+c) (by omega) (by omega)]
      exact go _ (by rw [Bc (l:=b) (by omega)];omega)
  . rw [QK,QH (by omega)]
    obtain rfl:i=N+1:=by omega
    rw [QY (by omega)] at h6
    exact ⟨w,c,h1,h2,h4,by simpa [vl] using h6,rfl⟩

theorem Al5 {α:Type} {n N:Nat} {b pre post:List Int} (hb:Lm b) (hbN:b.length=N) (hN:pre.length+N+1+post.length<=1099511627776) {q z:Int} {T:Int} {k0:Nat->Nat->List Int->Int->Int->Int->Int->List Int->Option α} :
  ∀ (m i:Nat) (c:Int) (w:List Int),Lm w->w.length=N+1->0<=c->c<=1->i<=N+1->vl w+10000 ^ i*(c+vl (b.drop i))=T->N+2<=i+m ->
  ∃ w' c',Lm w'/\w'.length=N+1/\0<=c'/\c'<=1/\vl w'+10000 ^ (N+1)*c'=T/\I0 n m pre.length (N+1) b (b.length:Int) q z c ((N+1:Nat):Int) (i:Int) (pre++w++post) k0=k0 pre.length (N+1) b (b.length:Int) q z c' (pre++w'++post)
 | 0,i,c,w,h1,h2,h3,h4,h5,h6,h7=>by omega
 | m+1,i,c,w,h1,h2,h3,h4,h5,h6,h7=>by
  rw [Ajx];unfold T2;dsimp only;by_cases hi:i<N+1
  . rw [QK,QJ (by omega)]
    simp only [QP]
    rw [A3 (by simp;try omega),A3 (by simp;try omega),Qp (by omega)]
    have g1:=h1.get i;have g2:=hb.get i
    have go : ∀ y : Int, y = w.getD i 0 + c + b.getD i 0 -> ∃ w' c', Lm w' /\ w'.length = N + 1 /\ 0 <= c' /\ c' <= 1 /\ vl w' + 10000 ^ (N + 1) * c' = T /\ (gd (decide (0 <= (i : Int)) && decide ((i : Int) < ((N + 1 : Nat) : Int))) (
            gd (decide ((pre.length+i)<(pre++w++post).length)) (
             I0 n m pre.length (N+1) b (b.length:Int) q z (W (Int.tdiv y 10000)) ((N+1:Nat):Int) (W ((i:Int)+1)) ((pre++w++post).set (pre.length+i) (Int.tmod y 10000)) k0)))=k0 pre.length (N+1) b (b.length:Int) q z c' (pre++w'++post):=by
     intro y hy
     have hd:y=10000*(y / 10000)+y % 10000:=by omega
     rw [A3 (by simp;try omega),A3 (by simp;try omega),Alb (by omega),tdv (by omega),tmd (by omega),A8 (x:=y / 10000) (by omega) (by omega),A8 (x:=(i:Int)+1) (by omega) (by omega)]
     refine Al5 (n:=n) hb hbN hN m (i+1) _ _ (h1.set _ (by omega)) (by simpa using h2) (by omega) (by omega) (by omega) ?_ (by omega)
     rw [Kw _ (by omega),Bu]
     refine Arz (bi:=b.getD i 0) ?_ hy hd;rw [<- A1o];exact h6
    by_cases hB:i<b.length
    . have dB:decide ((i:Int)<(b.length:Int))=true:=by rw [QO];omega
      simp only [dB,ZR]
      rw [A3 (by simp;try omega)]
      simp only [A8 (x:=w.getD i 0+c) (by omega) (by omega),A8 (x:=w.getD i 0+c+b.getD i 0) (by omega) (by omega)]
      exact go _ rfl
    . have dB:decide ((i:Int)<(b.length:Int))=false:=by rw [ZU];omega
      simp only [dB,QU]
      simp only [A8 (x:=w.getD i 0+c) (by omega) (by omega)]
      exact go _ (by rw [Bc (l:=b) (by omega)];omega)
  . rw [QK,QH (by omega)]
    obtain rfl:i=N+1:=by omega
    rw [QY (by omega)] at h6
    exact ⟨w,c,h1,h2,h3,h4,by simpa [vl] using h6,rfl⟩

theorem B0u {P v c R qB:Int} (h1:v<P) (hP:0<P) (h:v+P*c=R-qB) (hc:c<0):R-qB<0:=by
 have:P*c<=P*(-1):=XG (by omega) (by omega)
 omega

theorem B0v {P v c R q B:Int} (h0:v<P) (h:v+P*c=R-q*B) (hB:0<=B) (hBP:B<P) (hR:0<=R) (hq:q<10000) (hq0:0<=q):-10000<=c:=by
 have h9:q*B<=10000*B:=JL (by omega) (by omega)
 rcases Int.lt_or_le c (-10000) with h1 | h1
 . have h8:P*c<=P*(-10001):=XG (by omega) (by omega)
   exfalso;omega
 . exact h1

theorem B0t {v v' x x' R qB B:Int} (h:v+x=R-qB) (h':v'+x'=v+B):v'+(x+x')=R-(qB-B):=by omega

theorem An0 {α:Type} {n N R B:Nat} {pre post:List Int} (hB:0<B) (hbN:(dg B).length=N) (hN:pre.length+N+1+post.length<=1099511627776) (hn:N+2<=n) {k0:Int->List Int->Option α} :
  ∀ (m q:Nat) (c:Int) (w:List Int),Lm w->w.length=N+1->c<=0->vl w+10000 ^ (N+1)*c=(R:Int)-q*B->R / B<=q->q<10000->q<m ->
  ∃ w',Lm w'/\w'.length=N+1/\vl w'=((R % B:Nat):Int)/\I1 n m pre.length (N+1) (dg B) ((dg B).length:Int) (q:Int) c (pre++w++post) k0=k0 ((R / B:Nat):Int) (pre++w'++post)
 | 0,q,c,w,h1,h2,h3,h4,h5,h6,h7=>by omega
 | m+1,q,c,w,h1,h2,h3,h4,h5,h6,h7=>by
  rw [Ajz];unfold T5;dsimp only;have hw:=Hl h1;have hw0:=B6 h1;rw [h2] at hw;rw [QK];have hP:=F8 (N+1);have hBP:=A5i B;rw [hbN] at hBP;have hdm:=Qak R B;have hml:=KJ R hB;by_cases hc:c<0
  . rw [QJ hc];have hneg:=B0u hw hP h4 hc
    have hlt:R / B<q:=by
     rw [KZ hB];have:((q*B:Nat):Int)=(q:Int)*B:=XW q B;omega
    have hq0:0<q:=JN (KM _) hlt
    have hBi:(B:Int)<10000 ^ N:=by rw [<- pwc];omega
    have hBP':(B:Int)<10000 ^ (N+1):=by
     have:=Z9 (show N<=N+1 by omega)
     omega
    have hcm:=B0v (q:=(q:Int)) hw h4 (by omega) hBP' (by omega) (by omega) (by omega)
    rw [A8 (x:=(q:Int)-1) (by omega) (by omega),show (q:Int)-1=((q-1:Nat):Int) by omega]
    obtain ⟨w',c',q1,q2,q3,q4,q5,q6⟩:=Al5 (n:=n) (De B) hbN hN (q:=((q-1:Nat):Int)) (z:=c) (T:=vl w+B) (k0:=λz_12 z_13 z_14 z_15 z_16 z_17 z_18 z_19=>(
     I1 n m z_12 z_13 z_14 z_15 z_16 (W (z_17+z_18)) z_19 k0)) n 0 0 w h1 h2 (by omega) (by omega) (by omega) (by rw [ZQ,Ba,Int.pow_zero,Int.one_mul,Int.zero_add]) (by omega)
    have q6:I0 n n pre.length (N+1) (dg B) ((dg B).length:Int) ((q-1:Nat):Int) c 0 ((N+1:Nat):Int) 0 (pre++w++post) _=_:=q6;rw [q6]
    have hq1:((q-1:Nat):Int)*B=q*B-B:=by
     rw [show ((q-1:Nat):Int)=(q:Int)-1 by omega,Int.sub_mul,Int.one_mul]
    have hnew:vl w'+10000 ^ (N+1)*(c+c')=(R:Int)-((q-1:Nat):Int)*B:=by
     rw [Int.mul_add,hq1];exact B0t h4 q5
    rw [A8 (x:=c+c') (by omega) (by omega)]
    exact An0 hB hbN hN hn m (q-1) (c+c') w' q1 q2 (by omega) hnew (by omega) (by omega) (by omega)
  . rw [QH hc]
    obtain rfl:c=0:=by omega
    rw [Qao,Qbg] at h4
    have e:R / B=q:=by
     refine Nat.le_antisymm h5 ?_;rw [Nat.le_div_iff_mul_le hB];have:((q*B:Nat):Int)=(q:Int)*B:=XW q B;omega
    refine ⟨w,h1,h2,?_,by rw [e]⟩
    have:((B*q:Nat):Int)=(q:Int)*B:=by rw [XW,Int.mul_comm]
    rw [e] at hdm;omega

theorem Bbd {P lowR lowB high top t R B:Int} (hR:R=lowR+P*high) (hB:B=lowB+P*top) (h1:lowR<P) (h2:0<=lowB) (hP:0<P) (ht:0<=t) (hle:t*B<=R):t*top<=high:=by
 have h3:t*(P*top)<=t*B:=XG (by omega) ht
 have h4:P*(t*top)<P*(high+1):=by
  rw [Int.mul_add,Int.mul_one,show P*(t*top)=t*(P*top) by grind];omega
 have:=Int.lt_of_mul_lt_mul_left h4 (by omega)
 omega

theorem Azp {n M R B:Nat} {pre w post:List Int} (hbN:(dg B).length=M+2) (hN:pre.length+(M+2)+1+post.length<=1099511627776) (hn:M+10010<=n) (hw:Lm w) (hwl:w.length=M+3) (hv:vl w=(R:Int)) (hR:R<10000*B) :
  ∃ w',Lm w'/\w'.length=M+3/\vl w'=((R % B:Nat):Int)/\Ado n (pre++w++post,pre.length,M+3) (dg B)=some (((R / B:Nat):Int),pre++w'++post):=by
 have hB:0<B:=by omega
 unfold Ado;dsimp only;rw [hbN]
 rw [A8 (x:=((M+2:Nat):Int)-1) (by omega) (by omega),A8 (x:=((M+2:Nat):Int)-2) (by omega) (by omega),show ((M+2:Nat):Int)-1=((M+1:Nat):Int) by omega,show ((M+2:Nat):Int)-2=(M:Int) by omega]
 simp only [QP];have hb:=De B;have g0:=hw.get (M+2);have g1:=hw.get (M+1);have g2:=hw.get M;have b1:=hb.get (M+1);have b2:=hb.get M
 have bt:(dg B).getD (M+1) 0 ≠ 0:=by
  have:=(Fv B).2 (XO.1 (by omega))
  rw [hbN] at this;exact this
 rw [A3 (by simp;try omega),A3 (by simp;try omega),A3 (by simp;try omega),A3 (by simp;try omega),A3 (by simp;try omega),A3 (by simp;try omega),A3 (by simp;try omega),A3 (by simp;try omega)]
 simp only [Qp (pre:=pre) (post:=post) (w:=w) (i:=M+2) (by omega),Qp (pre:=pre) (post:=post) (w:=w) (i:=M+1) (by omega),Qp (pre:=pre) (post:=post) (w:=w) (i:=M) (by omega)]
 simp only [A8 (x:=(dg B).getD (M+1) 0*10000) (by omega) (by omega),A8 (x:=(dg B).getD (M+1) 0*10000+(dg B).getD M 0) (by omega) (by omega),A8 (x:=w.getD (M+2) 0*10000) (by omega) (by omega),A8 (x:=w.getD (M+2) 0*10000+w.getD (M+1) 0) (by omega) (by omega),A8 (x:=(w.getD (M+2) 0*10000+w.getD (M+1) 0)*10000) (by omega) (by omega),A8 (x:=(w.getD (M+2) 0*10000+w.getD (M+1) 0)*10000+w.getD M 0) (by omega) (by omega)]
 rw [A3 (by simp only [QO];omega)]
 have vw:(R:Int)=vl (w.take M)+10000 ^ M*((w.getD (M+2) 0*10000+w.getD (M+1) 0)*10000+w.getD M 0):=by
  have t1:=B7 w (M+2);have t2:=B7 w (M+1);have t3:=B7 w M
  rw [Jk w (by omega),hv] at t1
  rw [t1,t2,t3,Bu,Bu];grind
 have vb:(B:Int)=vl ((dg B).take M)+10000 ^ M*((dg B).getD (M+1) 0*10000+(dg B).getD M 0):=by
  have t2:=B7 (dg B) (M+1);have t3:=B7 (dg B) M
  rw [Jk (dg B) (by omega),Ba] at t2
  rw [t2,t3,Bu];grind
 have lw:=Hl (hw.take M)
 rw [KK,Qah (by omega)] at lw
 have lb:=B6 (hb.take M);generalize hhigh:(w.getD (M+2) 0*10000+w.getD (M+1) 0)*10000+w.getD M 0=high at *;generalize htop:(dg B).getD (M+1) 0*10000+(dg B).getD M 0=top at *
 have htop0:0<top:=by omega
 have hh0:0<=high/\high<1000000000000:=by omega
 rw [YQ (by omega)]
 have hd0:0<=high / top:=Int.ediv_nonneg (by omega) (by omega)
 have hd1:high / top<=high:=Int.ediv_le_self _ (by omega)
 rw [A8 (x:=high / top) (by omega) (by omega)]
 obtain ⟨q,hq⟩:∃ q:Nat,min (high / top) 9999=(q:Int):=⟨(min (high / top) 9999).toNat,by omega⟩
 have hql:q<10000:=by omega
 have hqr:R / B<=q:=by
  have h1:(((R / B:Nat):Int))*top<=high:=by
   refine Bbd vw vb lw lb (F8 M) (Int.natCast_nonneg _) ?_;have:=Nat.div_mul_le_self R B;rw [<- XW];omega
  have h2:((R / B:Nat):Int)<=high / top:=by rw [Int.le_ediv_iff_mul_le htop0];exact h1
  have h3:R / B<10000:=by rw [KZ hB];omega
  omega
 rw [hq]
 obtain ⟨w1, c1, r1, r2, r3, r4, r5⟩ := Ard (n := n) (N := M + 2) (b := dg B) (pre := pre) (post := post) hb hbN hN (q := (q : Int)) (by omega) (T := (R : Int) - q * B) (k0 := fun z_5 z_6 z_7 z_8 z_9 z_10 z_11 => (
                       I1 n n z_5 z_6 z_7 z_8 z_9 z_10 z_11
                        (λz_20 z_21=>(
                         some (z_20,z_21))))) n 0 0 w hw hwl (by omega) (by omega) (by omega) (by rw [ZQ,Ba,hv,Int.pow_zero,Int.one_mul,Int.zero_sub,Int.sub_eq_add_neg]) (by omega)
 obtain ⟨w2,s1,s2,s3,s4⟩:=An0 (n:=n) (N:=M+2) (R:=R) (B:=B) (pre:=pre) (post:=post) hB hbN hN (by omega) (k0:=λz_20 z_21=>(some (z_20,z_21))) n q c1 w1 r1 r2 r3 r4 hqr hql (by omega)
 refine ⟨w2,s1,s2,s3,?_⟩;rw [hbN] at r5 s4;have r5:G1 n n pre.length (M+3) (dg B) ((M+2:Nat):Int) (q:Int) 0 ((M+3:Nat):Int) 0 (pre++w++post) _=_:=r5;rw [r5];exact s4

theorem Baw (y b:Nat):Int.tdiv (y:Int) (b:Int)=((y / b:Nat):Int):=by
 rw [YQ (by omega),Int.natCast_ediv]

theorem Bav (y b:Nat):Int.tmod (y:Int) (b:Int)=((y % b:Nat):Int):=by
 rw [Qac (by omega),Int.natCast_emod]

theorem Akz {o:List Int} {k i:Nat} {x:Int} (h:∀ i,i<k+1->o.getD i 0=0) (hi:i<k):(o.set k x).getD i 0=0:=by
 rw [QL,Qbc (by omega),<- QL]
 exact h i (by omega)

theorem Aeb {Q B R x q r y:Nat} (hy:x+10000*R=y) (hqr:B*q+r=y) {V:Int} (hV:(Q:Int)*B+R=V):((10000*Q+q:Nat):Int)*B+r=x+10000*V:=by
 have:(B:Int)*q+r=x+10000*R:=by
  rw [<- Adj,hy,<- hqr,KY,XW]
 rw [A5f,<- hV];grind

theorem As2 {α:Type} {n A B:Nat} (hB:0<B) (hB1:B<10000) (hlA:(dg A).length<=1099511627000) {k0:Int->List Int->Option α} :
  ∀ (k Q R:Nat) (o:List Int),k<=(dg A).length->R<B->o.length=(dg A).length->Lm o->(∀ i,i<k->o.getD i 0=0)->vl o=10000 ^ k*(Q:Int)->(Q:Int)*B+R=vl ((dg A).drop k) ->
  ∃ o',Lm o'/\o'.length=(dg A).length/\vl o'=((A / B:Nat):Int)/\Jz n (dg A) k (dg A) [(B:Int)] (R:Int) o k0=k0 ((A % B:Nat):Int) o'
 | 0,Q,R,o,h2,h3,h4,h5,h6,h7,h8=>by
  rw [Au7];rw [ZQ,Ba] at h8
  have h8:Q*B+R=A:=by
   have:((Q*B+R:Nat):Int)=A:=by rw [KY,XW];exact h8
   omega
  have h9:A / B=Q:=by rw [<- h8,Nat.add_comm,Qaz _ _ hB,JF h3,YM]
  have h10:A % B=R:=by rw [<- h8,Qad,KP h3]
  exact ⟨o,h5,h4,by rw [h7,h9];simp,by rw [h10]⟩
 | k+1,Q,R,o,h2,h3,h4,h5,h6,h7,h8=>by
  rw [Au5];unfold A2k;dsimp only;have hg:=(De A).get k
  obtain ⟨x,hx⟩:∃ x:Nat,(dg A).getD k 0=(x:Int):=⟨((dg A).getD k 0).toNat,by omega⟩
  have hRx:vl ((dg A).drop k)=(x:Int)+10000*vl ((dg A).drop (k+1)):=by
   rw [Mp (by omega),hx]
  simp only [QP]
  rw [A3 (by simp;try omega),A3 (by simp;omega),A3 (by simp;try omega),A3 (by simp;omega),A3 (by simp;try omega),A3 (by simp;try omega),A3 (by simp),hx]
  rw [A8 (x:=(R:Int)*10000) (by omega) (by omega),A8 (x:=(R:Int)*10000+(x:Int)) (by omega) (by omega),show (R:Int)*10000+(x:Int)=((x+10000*R:Nat):Int) by omega]
  have e0:([(B:Int)]).getD 0 0=(B:Int):=rfl;rw [e0,Baw,Bav]
  have hq:(x+10000*R) / B<10000:=by
   rw [KZ hB];omega
  have hqr:=Qak (x+10000*R) B;have hqm:=KJ (x+10000*R) hB;generalize (x+10000*R) / B=q at *;generalize (x+10000*R) % B=r at *
  rw [A8 (x:=(q:Int)) (by omega) (by omega)]
  refine As2 hB hB1 hlA k (10000*Q+q) r _ (by omega) hqm (by simpa using h4) (h5.set _ (by omega)) (λi hi=>Akz h6 hi) ?_ ?_
  . rw [Kw _ (by omega),h7,h6 k (by omega),Bu,A5f]
    generalize (10000:Int) ^ k=P;grind
  . rw [hRx,<- h8];exact Aeb rfl hqr rfl

theorem Ale {α:Type} {n A B M:Nat} (hM:(dg B).length=M+2) (hla:(dg B).length<=(dg A).length) (hlA:(dg A).length<=1099511627000) (hn:(dg A).length+10040<=n) {k0:List Int->List Int->Option α} :
  ∀ (k m Q R:Nat) (o u:List Int),k<m->k<=(dg A).length-(M+1)->R<B->o.length=(dg A).length-(M+1)->Lm o->(∀ i,i<k->o.getD i 0=0)->vl o=10000 ^ k*(Q:Int) ->
  Lm u->u.length+k=(dg A).length+1->vl u=(R:Int)->(Q:Int)*B+R=vl ((dg A).drop k) ->
  ∃ o' u',Lm o'/\o'.length=(dg A).length-(M+1)/\vl o'=((A / B:Nat):Int)/\Lm u'/\u'.length=(dg A).length+1/\vl u'=((A % B:Nat):Int) /\
   Td n m ((dg B).length:Int) ((k:Int)-1) (dg B) o ((dg A).take k++u) k0=k0 o' u'
 | _,0,_,_,_,_,h1,_,_,_,_,_,_,_,_,_,_=>by omega
 | 0,m+1,Q,R,o,u,h1,h2,h3,h4,h5,h6,h7,u1,u2,u3,h8=>by
  rw [A6f];unfold Pm;dsimp only
  rw [QK,QH (by omega)]
  rw [ZQ,Ba] at h8
  have h8:Q*B+R=A:=by
   have:((Q*B+R:Nat):Int)=A:=by rw [KY,XW];exact h8
   omega
  have hB:0<B:=by omega
  have h9:A / B=Q:=by rw [<- h8,Nat.add_comm,Qaz _ _ hB,JF h3,YM]
  have h10:A % B=R:=by rw [<- h8,Qad,KP h3]
  exact ⟨o,u,h5,h4,by rw [h7,h9];simp,u1,by omega,by rw [u3,h10],by simp⟩
 | k+1,m+1,Q,R,o,u,h1,h2,h3,h4,h5,h6,h7,u1,u2,u3,h8=>by
  rw [A6f];unfold Pm;dsimp only
  have hB:0<B:=by omega
  rw [QK,QJ (by omega)]
  rw [show (((k+1:Nat):Int)-1)=(k:Int) by omega]
  have hg:=(De A).get k
  obtain ⟨x,hx⟩:∃ x:Nat,(dg A).getD k 0=(x:Int):=⟨((dg A).getD k 0).toNat,by omega⟩
  have hRx:vl ((dg A).drop k)=(x:Int)+10000*vl ((dg A).drop (k+1)):=by
   rw [Mp (by omega),hx]
  have htk:(dg A).take (k+1)++u=(dg A).take k++((x:Int)::u):=by
   rw [JG (by omega),ZO]
   congr 1
   rw [<- hx,QL,QM (by omega)]
   rfl
  have hL:Lm ((x:Int)::u):=Lm.cons (by omega) u1
  have hv:vl ((x:Int)::u)=((x+10000*R:Nat):Int):=by rw [vl,u3,Adj]
  have hlt:x+10000*R<10000*B:=by omega
  obtain ⟨w,post,hwp,hw,hp,hwl⟩:∃ w post,(x:Int)::u=w++post/\Lm w/\Lm post/\w.length=M+3 :=
   ⟨((x:Int)::u).take (M+3),((x:Int)::u).drop (M+3),(KX _ _).symm,hL.take _,hL.drop _,by rw [KK,ZF];omega⟩
  have hlp:w.length+post.length=u.length+1:=by
   have:=XB List.length hwp;simpa using this.symm
  have hvp:vl post=0:=by
   have e:=hv;rw [hwp,A4z,hwl] at e
   have h10:B<10000 ^ (M+2):=Hx (by omega)
   have h11:((x+10000*R:Nat):Int)<10000 ^ (M+3):=by
    rw [Bu,<- pwc];omega
   have h12:=B6 hw;have h13:=B6 hp;rcases Int.lt_or_eq_of_le h13 with h | h
   . exfalso
     have h14:(10000:Int) ^ (M+3)*1<=10000 ^ (M+3)*vl post:=XG (by omega) (by have:=F8 (M+3);omega)
     generalize (10000:Int) ^ (M+3)*vl post=z at *;generalize (10000:Int) ^ (M+3)=P at *;omega
   . exact h.symm
  have hvw:vl w=((x+10000*R:Nat):Int):=by
   rw [<- hv,hwp,A4z,hvp];simp
  rw [htk,hwp,<- ZO]
  have hpl:((dg A).take k).length=k:=by rw [KK];omega
  obtain ⟨w',q1,q2,q3,q4⟩:=Azp (n:=n) (pre:=(dg A).take k) (post:=post) hM (by omega) (by omega) hw hwl hvw hlt
  rw [hpl] at q4
  rw [A8 (x:=(k:Int)+((dg B).length:Int)) (by omega) (by omega),A8 (x:=(k:Int)+((dg B).length:Int)+1) (by omega) (by omega)]
  rw [A3 (by simp only [QF,QO,ZI,hpl];omega)]
  rw [show ((k:Int)+((dg B).length:Int)+1).toNat-(k:Int).toNat=M+3 by omega]
  simp only [QP];rw [q4,A0];dsimp only;have hqm:=KJ (x+10000*R) hB;have hqr:=Qak (x+10000*R) B
  have hq:(x+10000*R) / B<10000:=by
   rw [KZ hB];omega
  generalize (x+10000*R) / B=q at *;generalize (x+10000*R) % B=r at *
  rw [A3 (by simp [hwl,q2]),A3 (by simp;try omega),A3 (by simp;try omega),A8 (x:=(k:Int)-1) (by omega) (by omega),ZO]
  refine Ale hM hla hlA hn k m (10000*Q+q) r _ _ (by omega) (by omega) hqm (by simpa using h4) (h5.set _ (by omega)) (λi hi=>Akz h6 hi) ?_ (q1.app hp) ?_ ?_ ?_
  . rw [Kw _ (by omega),h7,h6 k (by omega),Bu,A5f]
    generalize (10000:Int) ^ k=P;grind
  . rw [ZI];omega
  . rw [A4z,hvp,q3];simp
  . rw [hRx,<- h8];exact Aeb rfl hqr rfl

theorem K7 (n:Nat) {l:List Int} (h:l.length<=17592186044416):f123 n l=some l:=by
 unfold f123
 cases l with
 | nil=>rfl
 | cons x r =>
  unfold Aqe
  rw [XC,QH (by simp),A3 (by rfl),A3 (by simp only [QO];simp only [ZF] at *;omega)]

theorem Ahx (n:Nat) {l:List Int} (h:l.length<=17592186044416) (h0:l ≠ []):A79 n l=some l:=by
 unfold A79
 cases l with
 | nil=>exact absurd rfl h0
 | cons x r=>rw [A3 (by rfl),A3 (by simp only [QO];simp only [ZF] at *;omega)]

theorem Ao6 {n L A B:Nat} (hB:0<B) (hA:(dg A).length<=L) (hBl:(dg B).length<=L) (hL:L<=1099511627000) (hn:L+10040<=n):f204 n (dg A) (dg B)=some (dg (A / B),dg (A % B)):=by
 unfold f204
 rw [Adl (by omega),A0,QK]
 by_cases hlt:A<B
 . rw [QJ (by rw [J6 (by omega)];omega),K7 n (by omega),A0,JF hlt,KP hlt,Bx]
 . rw [QH (by
    rcases JM (Nat.le_of_not_lt hlt) with h | h
    . rw [J7 (by omega)];omega
    . rw [Ku (by omega)];omega)]
   have hmn:(dg B).length<=(dg A).length:=B5 (by omega)
   have hb0:0<(dg B).length:=by rw [D9 (by omega)];simp
   rw [XC];by_cases h1:(dg B).length=1
   . rw [QJ (by simp [h1])]
     have hB1:B<10000:=by have:=Hx (n:=B) (k:=1) (by omega);simpa using this
     have hBd:dg B=[(B:Int)]:=by
      rw [D9 (by omega),KP hB1,JF hB1,Bx]
     rw [A3 (by simp;try omega),show f205 n (dg A)=some (dg A) from rfl,A0,Au6,A3 (by simp;try omega),hBd]
     simp only [QP]
     obtain ⟨o, q1, q2, q3, q4⟩ := As2 (n := n) (A := A) hB hB1 (by omega) (k0 := fun z_4 z_5 => (
           ob (f202 n z_5) λr_6 =>
           ob (f150 n z_4) λr_7 =>
           some (r_6,r_7))) (dg A).length 0 0 (List.replicate (dg A).length 0) (QZ _) hB (by simp) (Lm.rep _) (λi hi=>by simp [QL,XQ,hi]) (by rw [Vy];simp) (by simp [vl])
     have q4:Jz n (dg A) (dg A).length (dg A) [(B:Int)] 0 _ _=_:=q4;have hm:=KJ A hB
     rw [q4,Qx q1 (by omega) (by omega),A0,Rd (by omega) (by omega),A0,q3]
     rfl
   . rw [QH (by simp;omega)]
     obtain ⟨M,hM⟩:∃ M,(dg B).length=M+2:=⟨(dg B).length-2,by omega⟩
     rw [Ahx n (by omega) (XO.1 (by omega)),A0,A3 (by simp;try omega)]
     rw [A8 (x:=((dg A).length:Int)-((dg B).length:Int)) (by omega) (by omega),A8 (x:=((dg A).length:Int)-((dg B).length:Int)+1) (by omega) (by omega),A3 (by simp;try omega)]
     rw [show (((dg A).length:Int)-((dg B).length:Int)+1).toNat=(dg A).length-(M+1) by omega]
     have hR0:=B6 ((De A).drop ((dg A).length-(M+1)));obtain ⟨R,hR⟩:∃ R:Nat,vl ((dg A).drop ((dg A).length-(M+1)))=(R:Int):=⟨_,(Int.toNat_of_nonneg hR0).symm⟩
     have hRB:R<B:=by
      have:=Hl ((De A).drop ((dg A).length-(M+1)))
      rw [List.length_drop,show (dg A).length-((dg A).length-(M+1))=M+1 by omega,hR] at this
      have h2:=(Fv B).ge (XO.1 (by omega))
      rw [hM,Ba] at h2;have h2:(10000:Int) ^ (M+1)<=B:=h2;generalize (10000:Int) ^ (M+1)=P at *;omega
     obtain ⟨o, u, q1, q2, q3, q4, q5, q6, q7⟩ := Ale (n := n) (A := A) (B := B) hM hmn (by omega) (by omega) (k0 := fun z_10 z_11 => (
             ob (f202 n z_10) λr_12 =>
             ob (f202 n z_11) λr_13 =>
             some (r_12,r_13))) ((dg A).length-(M+1)) n 0 R (List.replicate ((dg A).length-(M+1)) 0) ((dg A).drop ((dg A).length-(M+1))++[0]) (by omega) (QZ _) hRB (by simp) (Lm.rep _) (λi hi=>by simp [QL,XQ,hi]) (by rw [Vy];simp) (((De A).drop _).app (Lm.cons (by omega) Lm.nil)) (by simp;omega) (by rw [Qi,hR];simp) (by rw [hR];simp)
     rw [<- ZO,KX] at q7
     rw [show ((dg A).length:Int)-((dg B).length:Int)=(((dg A).length-(M+1):Nat):Int)-1 by omega,q7,Qx q1 (by omega) (by omega),A0,Qx q4 (by omega) (by omega),A0,q3,q6]
     rfl

theorem B78 {α:Type} {n L:Nat} (hL:L<=1099511627000) (hn:L+10040<=n) {k0:List Int->Option α} :
  ∀ (j m a b:Nat),b<2 ^ j->2*j+1<=m->(dg a).length<=L->(dg b).length<=L->K1 n m (dg a) (dg b) k0=k0 (dg (Nat.gcd b a)):=by
 have stop:∀ (m a:Nat),0<m->K1 n m (dg a) (dg 0) k0=k0 (dg (Nat.gcd 0 a)):=λm a hm=>by
  obtain ⟨m,rfl⟩:∃ m',m=m'+1:=⟨m-1,by omega⟩
  rw [Abm,Qaw,Bx];rfl
 have step:∀ (m a b:Nat),0<b->(dg a).length<=L->(dg b).length<=L->K1 n (m+1) (dg a) (dg b) k0=K1 n m (dg b) (dg (a % b)) k0:=λm a b hb ha hbl=>by
  rw [Abm];unfold A2n
  have:0<(dg b).length:=by rw [D9 (by omega)];simp
  rw [QK,QJ (by omega),Ao6 hb ha hbl hL hn,A0]
 intro j
 induction j with
 | zero =>
  intro m a b h1 h2 h3 h4
  obtain rfl:b=0:=by simpa using h1
  exact stop m a (by omega)
 | succ j ih =>
  intro m a b h1 h2 h3 h4;rcases YR b with rfl | hb
  . exact stop m a (by omega)
  obtain ⟨m,rfl⟩:∃ m',m=m'+2:=⟨m-2,by omega⟩
  have h5:(dg (a % b)).length<=L:=ZK (B5 (Nat.le_of_lt (KJ a hb))) h4;rw [step _ _ _ hb h3 h4,Nat.gcd_rec b a];rcases YR (a % b) with hr | hr
  . rw [hr];exact stop _ _ (by omega)
  have h6:(dg (b % (a % b))).length<=L:=ZK (B5 (Nat.le_of_lt (KJ b hr))) h5;rw [step _ _ _ hr h4 h5,Nat.gcd_rec (a % b) b]
  exact ih m _ _ (Aff hb hr h1) (by omega) h5 h6

theorem B1i {n L a b:Nat} (hL:L<=1099511627000) (hn:28*L+10040<=n) (ha:(dg a).length<=L) (hb:(dg b).length<=L):f203 n (dg a) (dg b)=some (dg (Nat.gcd a b)):=by
 unfold f203
 rw [B78 hL (by omega) (14*L) n a b (Al4 (Hx hb)) (by omega) ha hb,Nat.gcd_comm]

abbrev Rt:=Bool × List Int × List Int

abbrev rt0:Rt:=(false,[],[])

def Sm (x:Rt):Prop:=x.2.1.length<=1048576/\x.2.2.length<=1048576

theorem Sm.get {l:List Rt} (h:∀ x ∈ l,Sm x) (i:Nat):Sm (l.getD i rt0):=by
 rw [QL]
 cases e:l[i]? with
 | none=>exact ⟨by simp,by simp⟩
 | some x=>exact h x (ZN e)

def Gn (x:Int):Bool:=decide (0<=x/\x<=9999)

def Pe (l:List Int):Bool:=decide (l.length<=40)&&l.all Gn&&(l.isEmpty || decide (0<l.getD (l.length-1) 0))

theorem A5d {l:List Int} (h:Pe l=true):Cn l/\l.length<=40:=by
 unfold Pe at h;simp only [QF,QO,XJ,QG,YT] at h;obtain ⟨⟨h1,h2⟩,h3⟩:=h;refine ⟨⟨λx hx=>?_,λhn=>?_⟩,h1⟩
 . have:=h2 x hx;unfold Gn at this;rw [QO] at this;omega
 . rcases h3 with h3 | h3
   . exact absurd h3 hn
   . omega

theorem Rz {α:Type} {l:List α} {p:α->Bool} {i:Nat} (h:i<l.length) (d:α):(l.drop i).all p=(p (l.getD i d)&&(l.drop (i+1)).all p):=by
 rw [XS h,XK,QL,QM h];rfl

theorem K2 {n:Nat} {a lo hi:Int}:f181 n a lo hi=some (decide (lo<=a/\a<=hi)):=by
 unfold f181;by_cases h:lo<=a <;> simp [h]

theorem R0 {n:Nat} {a lo hi:Int}:f177 n a lo hi=some (decide (lo<=a/\a<=hi)):=by
 unfold f177;by_cases h:lo<=a <;> simp [h]

theorem Abj {α:Type} {n:Nat} {l:List Int} (hl:l.length<=1048576) {k0:Bool->Option α} {k1:List Int->Option α}:∀ (m i:Nat),i<=l.length->l.length<i+m->Qu n m l (i:Int) k0 k1=if (l.drop i).all Gn=true then k1 l else k0 false
 | 0,i,hi,hm=>by omega
 | m+1,i,hi,hm=>by
  rw [Au1];unfold A2h;dsimp only;rw [QK];by_cases h:i<l.length
  . rw [QJ (by omega),A3 (by simp;try omega)]
    simp only [QP];rw [K2,A0,Rz h 0]
    cases hp:Gn (l.getD i 0) with
    | true =>
     unfold Gn at hp
     rw [hp,A8 (x:=(i:Int)+1) (by omega) (by omega)]
     simp only [ZS,QU,ZY]
     exact Abj hl m (i+1) (by omega) (by omega)
    | false =>
     unfold Gn at hp;rw [hp];simp
  . rw [QH (by omega),QY (by omega)]
    rfl

theorem Alx {n:Nat} {l:List Int} (hn:1048577<=n):f212 n l=some (Pe l):=by
 unfold f212 Pe;rw [QK];by_cases h:l.length<=4096
 . rw [QH (by omega)]
   have:=Abj (n:=n) (l:=l) (by omega) (k0:=λz_2=>some z_2) (k1:=λz_3=>(
     bif (decide ((z_3.length:Int)<=40)) then
      bif ((z_3.length:Int)==0) then
       some true
      else
       gd (decide (0<=(W ((z_3.length:Int)-1)))&&decide ((W ((z_3.length:Int)-1))<(z_3.length:Int))) (
        some (decide ((z_3.getD ((W ((z_3.length:Int)-1)).toNat) 0)>0)))
     else
      some false)) n 0 (by omega) (by omega)
   have this:Qu n n l 0 _ _=_:=this;rw [this,ZQ]
   cases l.all Gn with
   | false=>simp
   | true =>
    rw [QJ rfl,QK];by_cases h40:l.length<=40
    . rw [QJ (by omega)]
      cases l with
      | nil=>rfl
      | cons x r =>
       rw [XC,QH (by simp;omega),A8 (x:=((x::r).length:Int)-1) (by omega) (by omega),A3 (by simp;omega),show (((x::r).length:Int)-1).toNat=(x::r).length-1 by omega]
       have h41:r.length<=39:=by simpa using h40
       simp [h41]
    . rw [QH (by omega)]
      simp [h40]
 . rw [QJ (by omega),QR (by omega)]
   rfl

theorem Vi {n:Nat} {l:List Int} (hl:l.length<=1048576):∀ (m i:Nat),i<=l.length->l.length<i+m->∃ r,H6 n m l (l.length:Int) (i:Int) (λz=>some z) (λ(_:Unit)=>some (-1))=some r/\decide (r>=0) = !(l.drop i).all Gn
 | 0,i,hi,hm=>by omega
 | m+1,i,hi,hm=>by
  rw [Acr];unfold Nr;dsimp only;rw [QK];by_cases h:i<l.length
  . rw [QJ (by omega),A3 (by simp;try omega)]
    simp only [QP]
    have e:f227 n (l.getD i 0)=some (!Gn (l.getD i 0)):=by
     unfold f227 Gn;rw [QK];generalize l.getD i 0=x;by_cases h1:x<0
     . rw [QJ h1,QR (by omega)];rfl
     . rw [QH h1];by_cases h2:x<=9999
       . rw [QR (by omega),QX (by omega)];rfl
       . rw [QX (by omega),QR (by omega)];rfl
    rw [e,A0,Rz h 0]
    cases hp:Gn (l.getD i 0) with
    | true =>
     rw [A8 (x:=(i:Int)+1) (by omega) (by omega)]
     simp only [ZS,QU,ZY]
     exact Vi hl m (i+1) (by omega) (by omega)
    | false =>
     exact ⟨i,rfl,by simp⟩
  . rw [QH (by omega),QY (by omega)]
    exact ⟨-1,rfl,rfl⟩

theorem A1d {n:Nat} {l:List Int} (hl:l.length<=1048576) (hn:1048577<=n):Ns n l ()=some (!l.all Gn):=by
 unfold Ns A26
 obtain ⟨r,h1,h2⟩:=Vi (n:=n) hl n 0 (by omega) (by omega)
 have h1:H6 n n l (l.length:Int) 0 _ _=_:=h1;rw [h1,A0,h2,ZQ]

theorem Alt {n:Nat} {l:List Int} (hn:1048577<=n):f225 n l=some (Pe l):=by
 unfold f225 Pe;rw [QK];by_cases h:l.length<=40
 . rw [QH (by omega),QX h,ZY,QK]
   cases l with
   | nil=>rw [QH (by simp),A1d (by omega) hn];rfl
   | cons x r =>
    rw [QJ (by simp),A8 (x:=((x::r).length:Int)-1) (by omega) (by omega),A3 (by simp;omega),show (((x::r).length:Int)-1).toNat=(x::r).length-1 by omega]
    rw [A1d (by omega) hn,A0,Bool.not_not,XC]
    by_cases hz:(x::r).getD ((x::r).length-1) 0=0
    . rw [QJ (by rw [hz];rfl),hz];simp
    . rw [QH (by rw [KR];exact hz)]
      cases ha:(x::r).all Gn with
      | false=>rfl
      | true =>
       have:Gn ((x::r).getD ((x::r).length-1) 0)=true:=by
        rw [QG] at ha;apply ha
        rw [QL,QM (by simp)]
        simp only [YL];exact KQ _
       unfold Gn at this;rw [QO] at this
       rw [QX (by omega)]
       simp
 . rw [QJ (by omega),QR h];rfl

theorem Ao0 {α:Type} (l:List α):((l.length:Int)==0)=l.isEmpty:=by
 cases l with
 | nil=>rfl
 | cons x r=>rw [beq_eq_false_iff_ne.2 (by simp;omega)];rfl

def Ie (x:Rt):Bool:=Pe x.2.1&&Pe x.2.2 && !x.2.2.isEmpty && !(x.2.1.isEmpty&&x.1)&&decide (Nat.gcd (vl x.2.1).toNat (vl x.2.2).toNat=1)

theorem G3:dg 1=[1]:=by rw [D9 (by omega),show 1 / 10000=0 from rfl,Bx];rfl

theorem Ain {g:Nat}:(cm (g:Int) ((1:Nat):Int)==0)=decide (g=1):=by
 unfold cm;by_cases h:g=1
 . subst h;rfl
 . rw [QR h];by_cases h2:(g:Int)<(1:Nat)
   . rw [QJ h2];rfl
   . rw [QH h2,QH (by omega)];rfl

theorem Aln {a b:Nat} (ha:(dg a).length<=40) (hb:(dg b).length<=40):(dg (Nat.gcd a b)).length<=40:=by
 rcases YR a with rfl | h
 . rw [Qaw];exact hb
 . exact ZK (B5 (Nat.gcd_le_left b h)) ha

theorem B47 {n:Nat} {x:Rt} (hn:1048577<=n):f184 n x=some (Ie x):=by
 obtain ⟨s,a,b⟩:=x;unfold f184 Ie;dsimp only;simp only [Ao0];rw [Alx hn,A0,Alx hn,A0]
 cases ha:Pe a with
 | false=>rfl
 | true =>
  cases hb:Pe b with
  | false=>rfl
  | true =>
   obtain ⟨ca,la⟩:=A5d ha;obtain ⟨cb,lb⟩:=A5d hb;have ea:=Py ca;have eb:=Py cb
   have hg:f213 n a b=some (dg (Nat.gcd (vl a).toNat (vl b).toNat)):=by
    conv=>lhs;rw [<- ea,<- eb]
    exact B16 (L:=40) (by omega) (by omega) (by rw [ea];exact la) (by rw [eb];exact lb)
   have hgl:=Aln (a:=(vl a).toNat) (b:=(vl b).toNat) (by rw [ea];exact la) (by rw [eb];exact lb)
   rw [hg,A0,<- G3,Adf (by omega) (by omega),A0,Ain]
   cases b <;> cases a <;> cases s <;> simp

theorem B3h {n:Nat} {x:Rt} (hn:1048577<=n):f215 n x=some (Ie x):=by
 obtain ⟨s,a,b⟩:=x;unfold f215 Ie;dsimp only;rw [Alt hn,A0,Alt hn,A0]
 cases ha:Pe a with
 | false=>rfl
 | true =>
  cases hb:Pe b with
  | false=>rfl
  | true =>
   obtain ⟨ca,la⟩:=A5d ha;obtain ⟨cb,lb⟩:=A5d hb;have ea:=Py ca;have eb:=Py cb
   have hg:f203 n a b=some (dg (Nat.gcd (vl a).toNat (vl b).toNat)):=by
    conv=>lhs;rw [<- ea,<- eb]
    exact B1i (L:=40) (by omega) (by omega) (by rw [ea];exact la) (by rw [eb];exact lb)
   have hgl:=Aln (a:=(vl a).toNat) (b:=(vl b).toNat) (by rw [ea];exact la) (by rw [eb];exact lb)
   rw [hg,A0,show f151 n=some [1] from rfl,A0,<- G3,Adl (by omega),A0,Ain,show f168 n (s,a,b)=some ((a.length:Int)==0) from rfl,A0,Ao0,Ao0]
   cases b <;> cases a <;> cases s <;> simp

theorem Vm {n:Nat} {l:List Rt} (hl:l.length<=1048576) (hn:1048577<=n):∀ (m i:Nat),i<=l.length->l.length<i+m->∃ r,Hf n m l (l.length:Int) (i:Int) (λz=>some z) (λ(_:Unit)=>some (-1))=some r/\decide (r>=0) = !(l.drop i).all Ie
 | 0,i,hi,hm=>by omega
 | m+1,i,hi,hm=>by
  rw [Acy];unfold Oc;dsimp only;rw [QK];by_cases h:i<l.length
  . rw [QJ (by omega),A3 (by simp;try omega)]
    simp only [QP]
    have e:f214 n (l.getD i rt0)=some (!Ie (l.getD i rt0)):=by
     unfold f214;rw [B3h hn,A0]
    rw [e,A0,Rz h rt0]
    cases hp:Ie (l.getD i rt0) with
    | true =>
     rw [A8 (x:=(i:Int)+1) (by omega) (by omega)]
     simp only [ZS,QU,ZY]
     exact Vm hl hn m (i+1) (by omega) (by omega)
    | false=>exact ⟨i,rfl,by simp⟩
  . rw [QH (by omega),QY (by omega)]
    exact ⟨-1,rfl,rfl⟩

theorem Akg {n:Nat} {l:List Rt} (hl:l.length<=1048576) (hn:1048577<=n):Ug n l ()=some (!l.all Ie):=by
 unfold Ug A3i
 obtain ⟨r,h1,h2⟩:=Vm (n:=n) hl hn n 0 (by omega) (by omega)
 have h1:Hf n n l (l.length:Int) 0 _ _=_:=h1;rw [h1,A0,h2,ZQ]

theorem Am9 {n:Nat} {l:List Rt} (hl:l.length<=1048576) (hn:1048577<=n):f185 n l=some (if l.all Ie=true then 0 else 1):=by
 unfold f185;rw [Akg hl hn,A0]
 cases l.all Ie <;> rfl

theorem Baz {a:Int} (h:1<=a/\a<=4):0<=a*a/\a*a<=16:=by
 obtain ⟨h1,h2⟩:=h
 have h3:=Int.mul_nonneg (a:=a) (b:=a) (by omega) (by omega)
 have h4:a*a<=4*a:=JL (by omega) (by omega)
 omega

def Qo (l:List Rt) (a:Int):Bool:=decide (1<=a/\a<=4)&&((l.length:Int)==a*a)&&l.all Ie

theorem B56 {n:Nat} {l:List Rt} {a:Int} (hn:1048577<=n):f135 n l a=some (Qo l a):=by
 unfold f135 Qo;rw [R0,A0];by_cases ha:1<=a/\a<=4
 . rw [QX ha];have:=Baz ha
   rw [A8 (x:=a*a) (by omega) (by omega)]
   by_cases hl:(l.length:Int)=a*a
   . rw [Am9 (by omega) hn,hl]
     cases l.all Ie <;> simp
   . have:((l.length:Int)==a*a)=false:=by rw [beq_eq_false_iff_ne];exact hl
     rw [this];rfl
 . rw [QR ha];rfl

def P8 (l:List Rt):Bool:=decide (1<=l.length/\l.length<=4)&&l.all Ie

theorem Aca {α:Type} {n:Nat} {l:List Rt} (hl:l.length<=1048576) (hn:1048577<=n) {k0:Bool->Option α} {k1:List Rt->Option α}:∀ (m i:Nat),i<=l.length->l.length<i+m->Rj n m l (i:Int) k0 k1=if (l.drop i).all Ie=true then k1 l else k0 false
 | 0,i,hi,hm=>by omega
 | m+1,i,hi,hm=>by
  rw [Awm];unfold A4l;dsimp only;rw [QK];by_cases h:i<l.length
  . rw [QJ (by omega),A3 (by simp;try omega)]
    simp only [QP];rw [B47 hn,A0,Rz h rt0]
    cases hp:Ie (l.getD i rt0) with
    | true =>
     rw [A8 (x:=(i:Int)+1) (by omega) (by omega)]
     simp only [ZS,QU,ZY]
     exact Aca hl hn m (i+1) (by omega) (by omega)
    | false=>simp
  . rw [QH (by omega),QY (by omega)]
    rfl

theorem A9z {n:Nat} {l:List Rt} (hn:1048577<=n):f116 n l=some (P8 l):=by
 unfold f116 P8;rw [QK];by_cases h:l.length<=4096
 . rw [QH (by omega)]
   have h1:=Aca (n:=n) (l:=l) (by omega) hn (k0:=λz_3=>some z_3) (k1:=λz_4=>(
     ob (f181 n (z_4.length:Int) 1 4) λr_5 =>
     some r_5)) n 0 (by omega) (by omega)
   have h1:Rj n n l 0 _ _=_:=h1;rw [h1,ZQ,K2,A0]
   have e:decide ((1:Int)<=(l.length:Int)/\(l.length:Int)<=4)=decide (1<=l.length/\l.length<=4):=by
    apply decide_eq_decide.2;omega
   rw [e]
   cases l.all Ie <;> simp
 . rw [QJ (by omega),QR (by omega)];rfl

theorem A9w {n:Nat} {l:List Rt} (hn:1048577<=n):f119 n l=some (P8 l):=by
 unfold f119 P8;rw [QK,QK];by_cases h:1<=l.length/\l.length<=4
 . rw [QJ (by omega),QJ (by omega),Am9 (by omega) hn,QX h,A0]
   cases l.all Ie <;> rfl
 . rw [QR h];split
   . rw [QH (by omega)];rfl
   . rfl

theorem Ac7 {n:Nat} {l:List Int} (hl:l.length<=1048576):∀ (m i:Nat),i<=l.length->l.length<i+m->∃ c,Rh n m 4096 l (l.length:Int) (i:Int) (λz=>some z) (λ(_:Unit)=>some 0)=some c/\((c=0 /\ ∀ x ∈ l.drop i,x<=4096) \/ (c=2 /\ ∃ x ∈ l,4096<x))
 | 0,i,hi,hm=>by omega
 | m+1,i,hi,hm=>by
  rw [Awe];unfold A4f;dsimp only;rw [QK];by_cases h:i<l.length
  . rw [QJ (by omega),A3 (by simp;try omega)]
    simp only [QP];rw [QK];by_cases hx:4096<l.getD i 0
    . rw [QJ hx];refine ⟨2,rfl,.inr ⟨rfl,l.getD i 0,?_,hx⟩⟩;rw [QL,QM h];exact KQ h
    . rw [QH hx,A8 (x:=(i:Int)+1) (by omega) (by omega)]
      obtain ⟨c,h1,h2⟩:=Ac7 (n:=n) hl m (i+1) (by omega) (by omega)
      refine ⟨c,h1,h2.imp (λ⟨e,h3⟩=>⟨e,λx hx'=>?_⟩) (λh=>h)⟩;rw [XS h] at hx';rcases QV.1 hx' with rfl | hx'
      . rw [QL,QM h] at hx;exact Int.not_lt.1 hx
      . exact h3 x hx'
  . rw [QH (by omega)]
    refine ⟨0,rfl,.inl ⟨rfl,λx hx=>?_⟩⟩
    rw [QY (by omega)] at hx
    cases hx

theorem Afq {α:Type} {n:Nat} {L:List (List Rt)} (hl:L.length<=1048576) {k0:List Int->Option α}:∀ (m i:Nat) (o:List Int),o.length<=i->i<=L.length->L.length<i+m->Xh n m L (L.length:Int) (i:Int) o k0=k0 (o++(L.drop i).map λv=>(v.length:Int))
 | 0,i,o,ho,hi,hm=>by omega
 | m+1,i,o,ho,hi,hm=>by
  rw [Az7];unfold A8t;dsimp only;rw [QK];by_cases h:i<L.length
  . rw [QJ (by omega),A3 (by simp;try omega),A3 (by simp only [QO];omega)]
    simp only [QP]
    rw [A8 (x:=(i:Int)+1) (by omega) (by omega),show (i:Int)+1=((i+1:Nat):Int) from rfl,Afq hl m (i+1) _ (by simp;omega) (by omega) (by omega),XS h,QL,QM h,ZO]
    rfl
  . rw [QH (by omega),QY (by omega)]
    simp

theorem B7q {n:Nat} {L:List (List Rt)} (hl:L.length<=1048576) (hn:1048577<=n):∃ c,f71 n L=some c/\((c=0 /\ ∀ v ∈ L,v.length<=4096) \/ (c=2 /\ ∃ v ∈ L,4096<v.length)):=by
 unfold f71
 have h1:=Afq (n:=n) (L:=L) hl (k0:=λz_1=>(
   ob (f122 n 4096 z_1) λr_2 =>
   some r_2)) n 0 [] (by simp) (by omega) (by omega)
 have h1:Xh n n L (L.length:Int) 0 [] _=_:=h1;rw [h1,ZQ,JJ];unfold f122
 obtain ⟨c,h2,h3⟩:=Ac7 (n:=n) (l:=L.map λv=>(v.length:Int)) (by simpa using hl) n 0 (by omega) (by simp;omega)
 have h2:Rh n n 4096 _ _ 0 _ _=_:=h2
 refine ⟨c,by rw [h2,A0],h3.imp (λ⟨e,h⟩=>⟨e,λv hv=>by have:=h _ (by rw [ZQ];exact ZG.2 ⟨v,hv,rfl⟩);omega⟩) λ⟨e,x,hx,hx'⟩=>⟨e,?_⟩⟩
 obtain ⟨v,hv,rfl⟩:=ZG.1 hx
 exact ⟨v,hv,by omega⟩

abbrev Nod:=Int × Int × Int × Int

def Dq (op:Int):Int:=if op=3 \/ op=4 \/ op=5 \/ op=6 then 2 else if op=7 \/ op=8 then 1 else 0

theorem Afw {n:Nat} {x:Nod}:f61 n x=some (Dq x.1):=by
 unfold f61 Dq;simp only [XC,KR];grind

def Nh (x:Nod):Prop:=if x.1=1 then 0<=x.2.2.2/\x.2.2.2<=999999999 else if x.1=2 then 0<=x.2.2.2/\x.2.2.2<=3 else if x.1=8 then 0<=x.2.2.2/\x.2.2.2<=8 else x.2.2.2=0

instance (x:Nod):Decidable (Nh x):=by unfold Nh;infer_instance

theorem B3b {n:Nat} {x:Nod}:f223 n x=some (decide (Nh x)):=by
 unfold f223 Nh;simp only [XC,KR,R0,A0];grind

theorem B39 {n:Nat} {h:Bool} {k i:Int} (hi:0<=i/\i<1152921504606846976):f224 n h k i=some (decide (if h=true then 0<=k/\k<=i-1 else k=0)):=by
 unfold f224
 simp only [R0,A0,A8 (x:=i-1) (by omega) (by omega),XC]
 cases h <;> grind

def Dp (x:Nod) (i:Int):Prop:=(1<=x.1/\x.1<=8)/\Nh x/\(if Dq x.1>0 then 0<=x.2.1/\x.2.1<=i-1 else x.2.1=0)/\(if Dq x.1>1 then 0<=x.2.2.1/\x.2.2.1<=i-1 else x.2.2.1=0)

instance (x:Nod) (i:Int):Decidable (Dp x i):=by unfold Dp;infer_instance

theorem B3l {n:Nat} {x:Nod} {i:Int} (hi:0<=i/\i<1152921504606846976):f211 n x i=some (decide (Dp x i)):=by
 unfold f211 Dp;simp only [R0,B3b,Afw,A0,B39 hi,XC,QO];grind

theorem A9t {n:Nat} {a:Int}:f146 n a=some (decide (3<=a/\a<=6)):=by
 unfold f146;simp [K2]

theorem A9r {n:Nat} {a:Int}:f147 n a=some (decide (a=7 \/ a=8)):=by
 unfold f147;simp only [XC,KR];grind

def Eb (x:Nod) (i:Int):Prop:=(1<=x.1/\x.1<=8)/\(if 3<=x.1/\x.1<=6 then (0<=x.2.1/\x.2.1<=i-1)/\(x.2.1+1<=x.2.2.1/\x.2.2.1<=i-1)/\x.2.2.2=0
 else if x.1=7 \/ x.1=8 then x.2.1=i-1/\0<i/\x.2.2.1=0/\0<=x.2.2.2/\x.2.2.2<=(if x.1=8 then 8 else 0)
 else if x.1=2 then x.2.1=0/\x.2.2.1=0/\0<=x.2.2.2/\x.2.2.2<=3 else x.2.1=0/\x.2.2.1=0/\0<=x.2.2.2/\x.2.2.2<=999999999)

instance (x:Nod) (i:Int):Decidable (Eb x i):=by unfold Eb;infer_instance

theorem B45 {n:Nat} {x:Nod} {i:Int} (hi:0<=i/\i<1152921504606846976):f186 n x i=some (decide (Eb x i)):=by
 unfold f186 Eb
 simp only [K2,A9t,A9r,My,A0,A8 (x:=i-1) (by omega) (by omega),XC,QO,KR]
 by_cases h0:1<=x.1/\x.1<=8
 . by_cases h1:3<=x.1/\x.1<=6
   . by_cases h2:0<=x.2.1/\x.2.1<=i-1
     . rw [A8 (x:=x.2.1+1) (by omega) (by omega)]
       simp only [h0,h1,h2];by_cases h3:x.2.1+1<=x.2.2.1/\x.2.2.1<=i-1
       . simp [h3];rfl
       . simp [h3]
     . simp [h0,h1,h2]
   . by_cases h2:x.1=7 \/ x.1=8
     . have e : W (8 * (if (x.1 == 8) = true then 1 else 0)) = if x.1 = 8 then 8 else 0 := by
        by_cases h:x.1=8 <;> simp [h] <;> exact A8 (by omega) (by omega)
       simp only [KR] at e;simp only [h0,h1,h2,e];grind
     . grind
 . simp [h0]

def okP (bs:List Int) (x:Nod) (i:Int):Prop:=Eb x i/\(3<=x.1/\x.1<=6->x.2.2.1=i-1/\bs.getD x.2.2.1.toNat 0=x.2.1+1)

instance (bs:List Int) (x:Nod) (i:Int):Decidable (okP bs x i):=by unfold okP;infer_instance

def nb (bs:List Int) (x:Nod) (i:Int):Int:=if 3<=x.1/\x.1<=8 then bs.getD x.2.1.toNat 0 else i

def nd (ds:List Int) (x:Nod):Int:=if 3<=x.1/\x.1<=6 then 1+max (ds.getD x.2.1.toNat 0) (ds.getD x.2.2.1.toNat 0) else if x.1=7 \/ x.1=8 then 1+ds.getD x.2.1.toNat 0 else 1

def C7:List Int->List Int->List Nod->Option (List Int × List Int)
 | bs,ds,[]=>some (bs,ds)
 | bs,ds,x::r=>if okP bs x bs.length then C7 (bs++[nb bs x bs.length]) (ds++[nd ds x]) r else none

structure Qg (bs ds:List Int):Prop where
 len:ds.length=bs.length
 small:bs.length<=1048576
 b:∀ j,j<bs.length->0<=bs.getD j 0/\bs.getD j 0<=j
 d:∀ j,j<ds.length->1<=ds.getD j 0/\ds.getD j 0<=j+1

theorem N7 {a:Int} {k:Nat} (h0:0<=a) (h:a<=(k:Int)-1):a.toNat<k:=by omega

theorem Qg.step {bs ds:List Int} (h:Qg bs ds) {x:Nod} (hx:okP bs x bs.length) (hs:bs.length+1<=1048576):Qg (bs++[nb bs x bs.length]) (ds++[nd ds x]):=by
 obtain ⟨h1,h2,h3,h4⟩:=h;have hn:=hx.1;unfold Eb at hn
 refine ⟨by simp [h1],by simpa using hs,λj hj=>?_,λj hj=>?_⟩
 . simp only [ZI,ZF,XI] at hj;rcases ZV j bs.length with hlt | hge
   . rw [C8 hlt];exact h3 j hlt
   . obtain rfl:j=bs.length:=by omega
     rw [C9];unfold nb;split
     . have ha : 0 <= x.2.1 /\ x.2.1 <= (bs.length : Int) - 1 := by
        split at hn
        . omega
        . split at hn
          . omega
          . omega
       have:=h3 _ (N7 ha.1 ha.2);omega
     . omega
 . simp only [ZI,ZF,XI] at hj;rcases ZV j ds.length with hlt | hge
   . rw [C8 hlt];exact h4 j hlt
   . obtain rfl:j=ds.length:=by omega
     rw [C9];unfold nd;split
     . rename_i h2';rw [QJ h2'] at hn
       have ha:=h4 _ (by rw [h1];exact N7 (k:=bs.length) (a:=x.2.1) (by omega) (by omega))
       have hb:=h4 _ (by rw [h1];exact N7 (k:=bs.length) (a:=x.2.2.1) (by omega) (by omega))
       omega
     . rename_i h2';rw [QH h2'] at hn;split
       . rename_i h3';rw [QJ h3'] at hn
         have ha:=h4 _ (by rw [h1];exact N7 (k:=bs.length) (a:=x.2.1) (by omega) (by omega))
         omega
       . omega

theorem Ayb {bs ds:List Int} (h:Qg bs ds) {x:Nod}:okP bs x bs.length ↔ Dp x bs.length/\(Dq x.1=1->x.2.1=(bs.length:Int)-1)/\(Dq x.1=2->x.2.2.1=(bs.length:Int)-1/\x.2.1=bs.getD x.2.2.1.toNat 0-1):=by
 obtain ⟨h1,h2,h3,h4⟩:=h;unfold okP Eb Dp Nh Dq;by_cases h2:3<=x.1/\x.1<=6
 . have e:x.1=3 \/ x.1=4 \/ x.1=5 \/ x.1=6:=by omega
   have e1:¬ x.1=1:=by omega
   have e2:¬ x.1=2:=by omega
   have e3:¬ x.1=8:=by omega
   simp only [QJ e,QJ h2,QH e1,QH e2,QH e3];constructor
   . rintro ⟨⟨ha,hb,hc,hd⟩,hf⟩
     obtain ⟨hf1,hf2⟩:=hf h2
     refine ⟨⟨ha,hd,by rw [QJ (by decide)];omega,by rw [QJ (by decide)];omega⟩,λh=>absurd h (by decide),λ_=>by omega⟩
   . rintro ⟨⟨ha,hb,hc,hd⟩,_,hf⟩
     obtain ⟨hf1,hf2⟩:=hf trivial
     rw [QJ (by decide)] at hc hd
     have:=h3 _ (N7 hd.1 hd.2)
     refine ⟨⟨ha,hc,?_,hb⟩,λ_=>⟨hf1,by omega⟩⟩
     omega
 . have e:¬ (x.1=3 \/ x.1=4 \/ x.1=5 \/ x.1=6):=by omega
   simp only [QH e,QH h2];by_cases h5:x.1=7 \/ x.1=8
   . have e1:¬ x.1=1:=by omega
     have e2:¬ x.1=2:=by omega
     simp only [QJ h5,QH e1,QH e2];constructor
     . rintro ⟨⟨ha,hb,hc,hd,hn⟩,_⟩
       refine ⟨⟨ha,?_,by rw [QJ (by decide)];omega,by rw [QH (by decide)];exact hd⟩,λ_=>hb,λh=>absurd h (by decide)⟩
       split <;> (split at hn <;> omega)
     . rintro ⟨⟨ha,hb,hc,hd⟩,hf,_⟩
       rw [QJ (by decide)] at hc
       rw [QH (by decide)] at hd
       have hf:=hf trivial
       refine ⟨⟨ha,hf,by omega,hd,?_⟩,λh=>absurd h h2⟩
       split at hb <;> split <;> omega
   . have e3:¬ x.1=8:=by omega
     simp only [QH h5,QH e3];constructor
     . rintro ⟨⟨ha,hb⟩,_⟩
       refine ⟨⟨ha,?_,?_,?_⟩,λh=>absurd h (by decide),λh=>absurd h (by decide)⟩
       . have hb1:x.1=1 \/ x.1=2:=by omega
         rcases hb1 with h1' | h1'
         . rw [QH (by omega)] at hb;rw [QJ h1'];omega
         . rw [QJ h1'] at hb;rw [QH (by omega),QJ h1'];omega
       . rw [QH (by decide)];split at hb <;> omega
       . rw [QH (by decide)];split at hb <;> omega
     . rintro ⟨⟨ha,hb,hc,hd⟩,_,_⟩
       rw [QH (by decide)] at hc hd
       refine ⟨⟨ha,?_⟩,λh=>absurd h h2⟩
       have hb1:x.1=1 \/ x.1=2:=by omega
       rcases hb1 with h1' | h1'
       . rw [QJ h1'] at hb;rw [QH (by omega)];omega
       . rw [QH (by omega),QJ h1'] at hb;rw [QJ h1'];omega

theorem Ajk {α:Type} {n k:Nat} {e:List Nod} {bs ds:List Int} {f} {k0:Bool->Option α} {k1} (hi:Qg bs ds) (hk:bs.length=k) (hlt:k<e.length) (hN:e.length<=1048576) :
  O9 n e (e.length:Int) (k:Int) bs ds f k0 k1=if okP bs (e.getD k (0,0,0,0)) (bs.length:Nat) then f e (e.length:Int) ((k+1:Nat):Int) (bs++[nb bs (e.getD k (0,0,0,0)) (bs.length:Nat)]) (ds++[nd ds (e.getD k (0,0,0,0))]) else k0 false:=by
 have hp:=Ayb hi (x:=e.getD k (0,0,0,0));obtain ⟨h1,h2,h3,h4⟩:=hi;subst hk;unfold O9;generalize hx:e.getD bs.length (0,0,0,0)=x at hp ⊢
 rw [QK,QJ (by omega),A3 (by simp;omega)]
 simp only [QP,hx,B3l (x:=x) (i:=(bs.length:Int)) (by omega),Afw,A0,A8 (x:=(bs.length:Int)-1) (by omega) (by omega),A8 (x:=(bs.length:Int)+1) (by omega) (by omega)]
 by_cases hpl:Dp x bs.length
 . simp only [hpl,decide_true,ZS,QU];have hpl':=hpl;unfold Dp at hpl';by_cases k1':Dq x.1=1
   . have hop:x.1=7 \/ x.1=8:=by unfold Dq at k1';grind
     simp only [k1',beq_self_eq_true,ZR]
     rw [QJ (by rw [k1'];decide)] at hpl'
     by_cases ha:x.2.1=(bs.length:Int)-1
     . have hok:okP bs x bs.length:=hp.2 ⟨hpl,λ_=>ha,λh=>by omega⟩
       have hd:=h4 x.2.1.toNat (by omega)
       rw [QJ hok]
       have e1:(x.2.1 != (bs.length:Int)-1)=false:=by simp [ha]
       rw [e1,QU,A3 (by simp;omega),A3 (by simp;omega),A3 (by simp;omega),A3 (by simp;omega),A3 (by simp;omega),A3 (by simp;omega),A8 (by omega) (by omega)]
       have e2:nb bs x bs.length=bs.getD x.2.1.toNat 0:=by unfold nb;rw [QJ (by omega)]
       have e3:nd ds x=ds.getD x.2.1.toNat 0+1:=by unfold nd;rw [QH (by omega),QJ hop];omega
       rw [e2,e3];rfl
     . have hok:¬ okP bs x bs.length:=λh=>ha ((hp.1 h).2.1 k1');rw [QH hok]
       have e1:(x.2.1 != (bs.length:Int)-1)=true:=by simp [ha]
       rw [e1,ZR]
   . have e0:(Dq x.1==1)=false:=by simp [k1']
     rw [e0,QU];by_cases k2':Dq x.1=2
     . have hop:3<=x.1/\x.1<=6:=by unfold Dq at k2';grind
       simp only [k2',beq_self_eq_true,ZR]
       rw [QJ (by rw [k2'];decide),QJ (by rw [k2'];decide)] at hpl'
       by_cases hb:x.2.2.1=(bs.length:Int)-1
       . have e1:(x.2.2.1 != (bs.length:Int)-1)=false:=by simp [hb]
         have hbb:=h3 x.2.2.1.toNat (by omega)
         rw [e1,QU,A3 (by simp;omega),A3 (by simp;omega),A8 (x:=bs.getD x.2.2.1.toNat 0-1) (by omega) (by omega)]
         by_cases ha:x.2.1=bs.getD x.2.2.1.toNat 0-1
         . have hok:okP bs x bs.length:=hp.2 ⟨hpl,λh=>by omega,λ_=>⟨hb,ha⟩⟩
           have hd:=h4 x.2.1.toNat (by omega)
           have hd':=h4 x.2.2.1.toNat (by omega)
           rw [QJ hok]
           have e1:(x.2.1 != bs.getD x.2.2.1.toNat 0-1)=false:=by rw [<- ha];simp
           rw [e1,QU,A3 (by simp;omega),A3 (by simp;omega),A3 (by simp;omega),A3 (by simp;omega),A3 (by simp;omega),A3 (by simp;omega),A3 (by simp;omega),A3 (by simp;omega),A8 (by omega) (by omega)]
           have e2:nb bs x bs.length=bs.getD x.2.1.toNat 0:=by unfold nb;rw [QJ (by omega)]
           have e3:nd ds x=max (ds.getD x.2.1.toNat 0) (ds.getD x.2.2.1.toNat 0)+1:=by unfold nd;rw [QJ hop];omega
           rw [e2,e3];rfl
         . have hok:¬ okP bs x bs.length:=λh=>ha ((hp.1 h).2.2 k2').2;rw [QH hok]
           have e1:(x.2.1 != bs.getD x.2.2.1.toNat 0-1)=true:=by simp only [bne_iff_ne,ne_eq];exact ha
           rw [e1,ZR]
       . have hok:¬ okP bs x bs.length:=λh=>hb ((hp.1 h).2.2 k2').1;rw [QH hok]
         have e1:(x.2.2.1 != (bs.length:Int)-1)=true:=by simp [hb]
         rw [e1,ZR]
     . have e0:(Dq x.1==2)=false:=by simp [k2']
       rw [e0,QU];have hok:okP bs x bs.length:=hp.2 ⟨hpl,λh=>absurd h k1',λh=>absurd h k2'⟩
       have hop:x.1=1 \/ x.1=2:=by unfold Dq at k1' k2';grind
       rw [QJ hok,A3 (by simp;omega),A3 (by simp;omega)]
       have e2:nb bs x bs.length=bs.length:=by unfold nb;rw [QH (by omega)]
       have e3:nd ds x=1:=by unfold nd;rw [QH (by omega),QH (by omega)]
       rw [e2,e3];rfl
 . have hok:¬ okP bs x bs.length:=λh=>hpl (hp.1 h).1;rw [QH hok];simp only [hpl,decide_false,XD,ZR]

theorem Sd:∀ (r:List Nod) (bs ds bs' ds':List Int),Qg bs ds->bs.length+r.length<=1048576->C7 bs ds r=some (bs',ds')->Qg bs' ds'/\bs'.length=bs.length+r.length/\(∀ j,j<bs.length->bs'.getD j 0=bs.getD j 0)/\(∀ j,j<ds.length->ds'.getD j 0=ds.getD j 0)
 | [],bs,ds,bs',ds',hi,_,h=>by
  simp only [C7,QC,QI] at h;obtain ⟨rfl,rfl⟩:=h
  exact ⟨hi,by simp,λ_ _=>rfl,λ_ _=>rfl⟩
 | x::r,bs,ds,bs',ds',hi,hl,h=>by
  simp only [C7] at h;simp only [ZF] at hl;split at h
  . rename_i hok
    obtain ⟨h1,h2,h3,h4⟩:=Sd r _ _ bs' ds' (hi.step hok (by omega)) (by simp;omega) h
    refine ⟨h1,by rw [h2];simp;omega,λj hj=>?_,λj hj=>?_⟩
    . rw [h3 j (by simp;omega),C8 hj]
    . rw [h4 j (by simp;omega),C8 hj]
  . cases h

theorem A54 {α:Type} {n:Nat} {e:List Nod} (hN:e.length<=1048576) {k0:Bool->Option α} {k1:List Int->List Int->Option α}:∀ (r:List Nod) (m:Nat) (bs ds:List Int),Qg bs ds->e.drop bs.length=r->bs.length+r.length=e.length->r.length<m ->
  A07 n m e (e.length:Int) (bs.length:Int) bs ds k0 k1=match C7 bs ds r with
   | some (bs',ds')=>k1 bs' ds'
   | none=>k0 false
 | [],m+1,bs,ds,hi,hd,hl,hm=>by
  rw [Abw];unfold O9;simp only [XI] at hl
  rw [QK,QH (by omega)]
  rfl
 | x::r,m+1,bs,ds,hi,hd,hl,hm=>by
  obtain ⟨hx,hlt,hd'⟩:=Gd (d:=(0,0,0,0)) hd;rw [Abw,Ajk hi rfl hlt hN,hx];simp only [C7];by_cases hok:okP bs x bs.length
  . rw [QJ hok,QJ hok]
    have ih:=A54 hN r m (bs++[nb bs x bs.length]) (ds++[nd ds x]) (hi.step hok (by omega)) (by simpa using hd') (by simp;simp at hl;omega) (by simp at hm;omega) (n:=n) (k0:=k0) (k1:=k1)
    simp only [ZI,ZF,XI,YM] at ih;exact ih
  . rw [QH hok,QH hok]

theorem Ao4:Qg [] []:=⟨rfl,by simp,λj hj=>by simp at hj,λj hj=>by simp at hj⟩

theorem B4d {n:Nat} {e:List Nod} (hN:e.length<=1048576) (hn:1048577<=n):f178 n e=some (match C7 [] [] e with
  | some (bs,ds)=>(bs,ds,true)
  | none=>([],[],false)):=by
 unfold f178
 have:=A54 (n:=n) hN (k0:=λz=>some ([],[],z)) (k1:=λa b=>some (a,b,true)) e n [] [] Ao4 rfl (by simp) (by omega)
 simp only [XI] at this;refine Eq.trans this ?_
 cases C7 [] [] e with
 | none=>rfl
 | some p=>rfl

theorem Af4 {α:Type} {n:Nat} {l:List Int} (hN:l.length<=1048576) {k0:Int->Option α}:∀ (r:List Int) (m k:Nat) (a:Int),l.drop k=r->k+r.length=l.length->r.length<m->A06 n m l a (k:Int) k0=k0 (r.foldl max a)
 | [],m+1,k,a,hd,hl,hm=>by
  rw [Abu];unfold Tq;simp only [XI] at hl
  rw [QK,QH (by omega)]
  rfl
 | x::r,m+1,k,a,hd,hl,hm=>by
  obtain ⟨hx,hlt,hd'⟩:=Gd (d:=0) hd;rw [Abu];unfold Tq
  rw [QK,QJ (by omega),A3 (by simp;omega),A8 (by omega) (by omega)]
  simp only [QP,hx];simp only [ZF] at hl hm
  exact Af4 hN r m (k+1) (max a x) hd' (by omega) (by omega)

theorem B4b {n:Nat} {l:List Int} (hN:l.length<=1048576) (hn:1048577<=n) (h0:0<l.length):∃ r,f179 n l=some r/\(r<=12 ↔ ∀ x ∈ l,x<=12):=by
 cases l with
 | nil=>cases h0
 | cons x r =>
  refine ⟨r.foldl max x,?_,?_⟩
  . unfold f179
    rw [QK,QH (by simp only [ZF];omega),A3 (by simp)]
    have:=Af4 (n:=n) (k0:=λz=>some z) hN r n 1 x rfl (by simp only [ZF];omega) (by simp at hN;omega)
    exact this
  . rw [Afh];simp

def Dr (e:List Nod):Prop:=(1<=e.length/\e.length<=60) /\ ∃ bs ds,C7 [] [] e=some (bs,ds)/\bs.getD (e.length-1) 0=0 /\ ∀ x ∈ ds,x<=12

open Classical in
theorem B5s {n:Nat} {e:List Nod} (hN:e.length<=1048576) (hn:1048577<=n):f112 n e=some (decide (Dr e)):=by
 unfold f112;rw [R0,A0];by_cases h1:(1:Int)<=(e.length:Int)/\(e.length:Int)<=60
 . simp only [h1,JS,decide_true,ZS,QU];rw [B4d hN hn,A0]
   cases hr:C7 [] [] e with
   | none =>
    have:¬ Dr e:=λ⟨_,_,_,h,_⟩=>by rw [hr] at h;cases h
    simp [this]
   | some p =>
    obtain ⟨bs,ds⟩:=p
    obtain ⟨hi,hl,_,_⟩:=Sd e [] [] bs ds Ao4 (by simpa using hN) hr
    simp only [XI,YM] at hl;simp only [ZR]
    rw [A8 (x:=(e.length:Int)-1) (by omega) (by omega),A3 (by simp;omega)]
    have et:((e.length:Int)-1).toNat=e.length-1:=by omega
    rw [et];by_cases hb:bs.getD (e.length-1) 0=0
    . obtain ⟨r,hr1,hr2⟩:=B4b (n:=n) (l:=ds) (by rw [hi.len];omega) hn (by rw [hi.len];omega)
      rw [hr1,A0]
      have e1:(bs.getD (e.length-1) 0==0)=true:=by rw [hb];rfl
      rw [e1,ZR];congr 1;rw [decide_eq_decide,hr2];constructor
      . intro h;exact ⟨by omega,bs,ds,hr,hb,h⟩
      . rintro ⟨_,bs',ds',h,_,h'⟩
        rw [hr] at h;simp only [QC,QI] at h;obtain ⟨rfl,rfl⟩:=h;exact h'
    . have e1:(bs.getD (e.length-1) 0==0)=false:=by simp only [beq_eq_false_iff_ne,ne_eq];exact hb
      have:¬ Dr e:=λ⟨_,bs',ds',h,hb',_⟩=>by
       rw [hr] at h;simp only [QC,QI] at h;obtain ⟨rfl,rfl⟩:=h;exact hb hb'
      rw [e1,QU];simp [this]
 . have:¬ Dr e:=λ⟨h,_⟩=>h1 (by omega)
   simp only [h1,decide_false,XD,ZR,this]

theorem Aoa {α:Type} {n:Nat} {e:List Nod} {bs:List Int} (hN:e.length<=1048576)
  (hb:∀ j,j<bs.length->okP (bs.take j) (e.getD j (0,0,0,0)) j/\bs.getD j 0=nb (bs.take j) (e.getD j (0,0,0,0)) j) (hl:bs.length<=e.length) {k0:Int->Option α} :
  ∀ (j m:Nat),j<bs.length->j<m->A05 n m (j:Int) e (e.getD j (0,0,0,0)).1 (e.getD j (0,0,0,0)).2.1 (e.getD j (0,0,0,0)).2.2.1 (e.getD j (0,0,0,0)).2.2.2 k0=k0 (bs.getD j 0):=by
 intro j
 induction j using Nat.strongRecOn with
 | ind j ih =>
  intro m hj hm
  obtain ⟨m,rfl⟩:∃ m',m=m'+1:=⟨m-1,by omega⟩
  obtain ⟨hok,hv⟩:=hb j hj;rw [Auv];unfold A3c;rw [hv];generalize hx:e.getD j (0,0,0,0)=x at hok hv ⊢;have hn:=hok.1;unfold Eb at hn;simp only [A9t,A9r,A0,QK];by_cases h1:3<=x.1/\x.1<=8
  . have ha : 0 <= x.2.1 /\ x.2.1 <= (j : Int) - 1 := by
     split at hn
     . omega
     . split at hn
       . omega
       . omega
    have hlt:x.2.1.toNat<j:=by omega
    have e1:nb (bs.take j) x j=bs.getD x.2.1.toNat 0:=by
     unfold nb;rw [QJ h1];simp [QL,XH,hlt]
    have key:=ih x.2.1.toNat hlt m (by omega) (by omega)
    have et:((x.2.1.toNat:Nat):Int)=x.2.1:=by omega
    rw [et] at key
    rw [e1,A3 (by simp;omega)]
    by_cases h2:3<=x.1/\x.1<=6
    . rw [QJ h2];exact key
    . rw [QH h2,QJ (by omega)];exact key
  . rw [QH (by omega),QH (by omega)]
    unfold nb;rw [QH h1]

def Ran (e:List Nod) (bs:List Int):Prop:=∀ j,j<bs.length->okP (bs.take j) (e.getD j (0,0,0,0)) j/\bs.getD j 0=nb (bs.take j) (e.getD j (0,0,0,0)) j

theorem Am7 {n:Nat} {e:List Nod} {bs:List Int} (hN:e.length<=1048576) (hn:1048577<=n) (hb:Ran e bs) (hl:bs.length<=e.length) {j:Int} (hj:0<=j/\j<(bs.length:Int)):f187 n e j=some (bs.getD j.toNat 0):=by
 unfold f187
 rw [A3 (by simp;omega)]
 have:=Aoa (n:=n) hN hb hl (k0:=λz=>some z) j.toNat n (by omega) (by omega)
 rw [show ((j.toNat:Nat):Int)=j by omega] at this
 exact this

theorem Ran.step {e:List Nod} {bs:List Int} (h:Ran e bs) {x:Nod} (hx:e.getD bs.length (0,0,0,0)=x) (hok:okP bs x bs.length):Ran e (bs++[nb bs x bs.length]):=by
 intro j hj;simp only [ZI,ZF,XI] at hj;rcases ZV j bs.length with hlt | hge
 . rw [C8 hlt,List.take_append_of_le_length (by omega)]
   exact h j hlt
 . obtain rfl:j=bs.length:=by omega
   rw [C9,List.take_left',hx]
   . exact ⟨hok,rfl⟩
   . rfl

theorem Aav {α:Type} {n:Nat} {e:List Nod} (hN:e.length<=1048576) (hn:1048577<=n) {k0:Bool->Option α} {k1:List Nod->Option α}:∀ (r:List Nod) (m:Nat) (bs ds:List Int),Qg bs ds->Ran e bs->(∀ x ∈ ds,x<=12)->e.drop bs.length=r->bs.length+r.length=e.length->r.length<m ->
  A0g n m (bs.length:Int) e ds k0 k1=match C7 bs ds r with
   | some (_,ds')=>if ∀ x ∈ ds',x<=12 then k1 e else k0 false
   | none=>k0 false
 | [],m+1,bs,ds,hi,hr,h12,hd,hl,hm=>by
  rw [Ac6];unfold Ol;simp only [XI] at hl
  rw [QK,QH (by omega)]
  simp only [C7];rw [QJ h12]
 | x::r,m+1,bs,ds,hi,hr,h12,hd,hl,hm=>by
  obtain ⟨hx,hlt,hd'⟩:=Gd (d:=(0,0,0,0)) hd;have hi0:=hi;obtain ⟨h1,h2,h3,h4⟩:=hi;simp only [ZF] at hl hm
  have round:∀ f:Int->List Nod->List Int->Option α,Ol n (bs.length:Int) e ds f k0 k1=if okP bs x bs.length/\nd ds x<=12 then f ((bs.length+1:Nat):Int) e (ds++[nd ds x]) else k0 false:=by
   intro f;unfold Ol
   rw [QK,QJ (by omega),A3 (by simp;omega)]
   simp only [QP,hx,B45 (x:=x) (i:=(bs.length:Int)) (by omega),A9t,A9r,A0,A8 (x:=(bs.length:Int)-1) (by omega) (by omega),A8 (x:=(bs.length:Int)+1) (by omega) (by omega)]
   by_cases hno:Eb x bs.length
   . simp only [hno,decide_true,ZS,QU];have hno':=hno;unfold Eb at hno';by_cases h5:3<=x.1/\x.1<=6
     . have h6:¬ (x.1=7 \/ x.1=8):=by omega
       rw [QJ h5] at hno';simp only [h5,h6,JS,decide_true,ZR,decide_false,QU];by_cases hb:x.2.2.1=(bs.length:Int)-1
       . have e1:(x.2.2.1 != (bs.length:Int)-1)=false:=by simp [hb]
         rw [e1,QU,Am7 hN hn hr (by omega) (by omega),A0,A8 (x:=x.2.1+1) (by omega) (by omega)]
         by_cases ha:bs.getD x.2.2.1.toNat 0=x.2.1+1
         . have hok:okP bs x bs.length:=⟨hno,λ_=>⟨hb,ha⟩⟩
           have e1:(bs.getD x.2.2.1.toNat 0 != x.2.1+1)=false:=by rw [ha];simp
           have da:=h4 x.2.1.toNat (by omega)
           have db:=h4 x.2.2.1.toNat (by omega)
           have e3:nd ds x=1+max (ds.getD x.2.1.toNat 0) (ds.getD x.2.2.1.toNat 0):=by unfold nd;rw [QJ h5]
           rw [e1,QU,A3 (by simp;omega),A3 (by simp;omega),A3 (by simp;omega),A3 (by simp;omega),A8 (by omega) (by omega),<- e3,QK]
           by_cases h12':nd ds x<=12
           . rw [QH (by omega),A3 (by simp;omega),QJ ⟨hok,h12'⟩]
             rfl
           . rw [QJ (by omega),QH (λh=>h12' h.2)]
         . have hok:¬ okP bs x bs.length:=λh=>ha (h.2 h5).2
           have e1:(bs.getD x.2.2.1.toNat 0 != x.2.1+1)=true:=by simp only [bne_iff_ne,ne_eq];exact ha
           rw [e1,ZR,QH (λh=>hok h.1)]
       . have hok:¬ okP bs x bs.length:=λh=>hb (h.2 h5).1
         have e1:(x.2.2.1 != (bs.length:Int)-1)=true:=by simp [hb]
         rw [e1,ZR,QH (λh=>hok h.1)]
     . rw [QH h5] at hno';have hok:okP bs x bs.length:=⟨hno,λh=>absurd h h5⟩;simp only [h5,decide_false,QU];by_cases h6:x.1=7 \/ x.1=8
       . rw [QJ h6] at hno'
         have da:=h4 x.2.1.toNat (by omega)
         have e3:nd ds x=1+ds.getD x.2.1.toNat 0:=by unfold nd;rw [QH h5,QJ h6]
         simp only [h6,decide_true,ZR]
         rw [A3 (by simp;omega),A3 (by simp;omega),A8 (by omega) (by omega),<- e3,QK]
         by_cases h12':nd ds x<=12
         . rw [QH (by omega),A3 (by simp;omega),QJ ⟨hok,h12'⟩]
           rfl
         . rw [QJ (by omega),QH (λh=>h12' h.2)]
       . simp only [h6,decide_false,QU]
         have e3:nd ds x=1:=by unfold nd;rw [QH h5,QH h6]
         rw [QK,QH (by omega),A3 (by simp;omega),QJ ⟨hok,by omega⟩,e3]
         rfl
   . have hok:¬ okP bs x bs.length:=λh=>hno h.1;simp only [hno,decide_false,XD,ZR];rw [QH (λh=>hok h.1)]
  rw [Ac6,round];simp only [C7];by_cases hok:okP bs x bs.length
  . rw [QJ hok];by_cases h12':nd ds x<=12
    . rw [QJ ⟨hok,h12'⟩]
      have ih:=Aav hN hn r m (bs++[nb bs x bs.length]) (ds++[nd ds x]) (hi0.step hok (by omega)) (hr.step hx hok) (λy hy=>by
       rcases QD.1 hy with hy | hy
       . exact h12 y hy
       . simp only [QQ] at hy;subst hy;exact h12') (by simpa using hd') (by simp;omega) (by omega) (k0:=k0) (k1:=k1)
      simp only [ZI,ZF,XI,YM] at ih;exact ih
    . rw [QH (λh=>h12' h.2)]
      cases hrun:C7 (bs++[nb bs x bs.length]) (ds++[nd ds x]) r with
      | none=>rfl
      | some p =>
       obtain ⟨bs',ds'⟩:=p
       obtain ⟨q1,q2,_,q4⟩:=Sd r _ _ bs' ds' (hi0.step hok (by omega)) (by simp;omega) hrun
       have hlt':ds.length<ds'.length:=by rw [q1.len,q2];simp;omega
       have hv:=q4 ds.length (by simp)
       rw [C9] at hv
       have hm':nd ds x ∈ ds':=by
        rw [<- hv];simp only [QL,QM hlt',YL];exact KQ hlt'
       simp only;rw [QH (λh=>h12' (h _ hm'))]
  . rw [QH hok,QH (λh=>hok h.1)]

theorem Aej {e:List Nod}:∀ (r:List Nod) (bs ds bs' ds':List Int),Ran e bs->e.drop bs.length=r->C7 bs ds r=some (bs',ds')->Ran e bs'
 | [],bs,ds,bs',ds',hr,_,h=>by
  simp only [C7,QC,QI] at h;obtain ⟨rfl,_⟩:=h;exact hr
 | x::r,bs,ds,bs',ds',hr,hd,h=>by
  obtain ⟨hx,_,hd'⟩:=Gd (d:=(0,0,0,0)) hd;simp only [C7] at h;split at h
  . rename_i hok
    exact Aej r _ _ bs' ds' (hr.step hx hok) (by simpa using hd') h
  . cases h

open Classical in
theorem B5h {n:Nat} {e:List Nod} (hN:e.length<=1048576) (hn:1048577<=n):f124 n e=some (decide (Dr e)):=by
 unfold f124;rw [K2,A0];by_cases h1:(1:Int)<=(e.length:Int)/\(e.length:Int)<=60
 . simp only [h1,JS,decide_true,ZS,QU]
   have:=Aav (n:=n) hN hn (k0:=λz=>some z) (k1:=λz=>ob (f187 n z (W ((z.length:Int)-1))) λr=>some (r==0)) e n [] [] Ao4 (λj hj=>by simp at hj) (by simp) rfl (by simp) (by omega)
   simp only [XI] at this;refine Eq.trans this ?_
   cases hr:C7 [] [] e with
   | none =>
    have:¬ Dr e:=λ⟨_,_,_,h,_⟩=>by rw [hr] at h;cases h
    simp [this]
   | some p =>
    obtain ⟨bs,ds⟩:=p
    obtain ⟨hi,hl,_,_⟩:=Sd e [] [] bs ds Ao4 (by simpa using hN) hr
    simp only [XI,YM] at hl
    have hran:=Aej e [] [] bs ds (λj hj=>by simp at hj) rfl hr
    simp only;by_cases h12:∀ x ∈ ds,x<=12
    . rw [QJ h12,A8 (by omega) (by omega),Am7 hN hn hran (by omega) (by omega),A0]
      have et:((e.length:Int)-1).toNat=e.length-1:=by omega
      rw [et];by_cases hb:bs.getD (e.length-1) 0=0
      . have:Dr e:=⟨by omega,bs,ds,hr,hb,h12⟩
        rw [hb];simp [this]
      . have : ¬ Dr e := fun ⟨_, bs', ds', h, hb', _⟩ => by
         rw [hr] at h;simp only [QC,QI] at h;obtain ⟨rfl,rfl⟩:=h;exact hb hb'
        have e1:(bs.getD (e.length-1) 0==0)=false:=by simp only [beq_eq_false_iff_ne,ne_eq];exact hb
        rw [e1];simp [this]
    . have : ¬ Dr e := fun ⟨_, bs', ds', h, _, h'⟩ => by
       rw [hr] at h;simp only [QC,QI] at h;obtain ⟨rfl,rfl⟩:=h;exact h12 h'
      rw [QH h12];simp [this]
 . have:¬ Dr e:=λ⟨h,_⟩=>h1 (by omega)
   simp only [h1,decide_false,XD,ZR,this]

theorem A7l {m:Nat}:(((dg m).length:Int)==0)=decide (m=0):=by
 rw [Ao0];by_cases h:m=0
 . subst h;rw [Bx];rfl
 . rw [QR h,D9 h];rfl

theorem Aif {m:Nat}:decide (((dg m).length:Int)>0)=decide (m ≠ 0):=by
 by_cases h:m=0
 . subst h;rw [Bx];rfl
 . rw [D9 h];simp [h]

def Oz (s:Int) (l:List Nod):Int:=l.foldl (λs x=>if x.1=2 then max s (W (x.2.2.2+1)) else s) s

abbrev nd0:Nod:=(0,0,0,0)

theorem Aie {l:List Nod} {i:Nat} (h:i<l.length) (s:Int):Oz s (l.drop i)=Oz (if (l.getD i nd0).1=2 then max s (W ((l.getD i nd0).2.2.2+1)) else s) (l.drop (i+1)):=by
 rw [XS h,QL,QM h];rfl

theorem Yi {α:Type} {n:Nat} {l:List Nod} (hl:l.length<=1048576) {k0:Int->Option α}:∀ (m i:Nat) (s:Int),i<=l.length->l.length<i+m->A0f n m s (i:Int) l k0=k0 (Oz s (l.drop i))
 | 0,i,s,hi,hm=>by omega
 | m+1,i,s,hi,hm=>by
  rw [Aw8];unfold A4a;dsimp only;rw [QK];by_cases h:i<l.length
  . rw [QJ (by omega),A3 (by simp;try omega),A3 (by simp;try omega),Aie h]
    simp only [QP]
    rw [XC,A8 (x:=(i:Int)+1) (by omega) (by omega)]
    by_cases hv:(l.getD i nd0).1=2
    . rw [QJ (by rw [KR];exact hv),QJ hv]
      exact Yi hl m (i+1) _ (by omega) (by omega)
    . rw [QH (by rw [KR];exact hv),QH hv]
      exact Yi hl m (i+1) _ (by omega) (by omega)
  . rw [QH (by omega),QY (by omega)]
    rfl

theorem Yj {α:Type} {n:Nat} {l:List Nod} (hl:l.length<=1048576) {k0:Int->Option α}:∀ (m i:Nat) (s:Int),i<=l.length->l.length<i+m->A0h n m s l (l.length:Int) (i:Int) k0=k0 (Oz s (l.drop i))
 | 0,i,s,hi,hm=>by omega
 | m+1,i,s,hi,hm=>by
  rw [Awj];unfold A4i;dsimp only;rw [QK];by_cases h:i<l.length
  . rw [QJ (by omega),A3 (by simp;try omega),Aie h]
    simp only [QP]
    rw [XC,A8 (x:=(i:Int)+1) (by omega) (by omega)]
    by_cases hv:(l.getD i nd0).1=2
    . rw [QJ (by rw [KR];exact hv),QJ hv]
      exact Yj hl m (i+1) _ (by omega) (by omega)
    . rw [QH (by rw [KR];exact hv),QH hv]
      exact Yj hl m (i+1) _ (by omega) (by omega)
  . rw [QH (by omega),QY (by omega)]
    rfl

theorem B5f {n:Nat} {l:List Nod} (hl:l.length<=1048576) (hn:1048577<=n):f125 n l=some (Oz 0 l):=by
 unfold f125
 have:=Yi (n:=n) hl (k0:=λz_3=>some z_3) n 0 0 (by omega) (by omega)
 simpa using this

theorem B5o {n:Nat} {l:List Nod} (hl:l.length<=1048576) (hn:1048577<=n):f120 n l=some (Oz 0 l):=by
 unfold f120
 have:=Yj (n:=n) hl (k0:=λz_2=>some z_2) n 0 0 (by omega) (by omega)
 simpa using this

theorem Axm {α:Type} {n:Nat} {a b:List Int} (ha:Cn a) (hb:Cn b) (hN:a.length<=1099511627776) (hNb:b.length<=1099511627776) {k0:List Int->Option α}:∀ (m i:Nat) (c:Int) (o:List Int),o.length=i->Lm o->0<=c->c<=1 ->
  vl o+10000 ^ i*c=vl (a.take i)+vl (b.take i)->(i<=max a.length b.length \/ (i=max a.length b.length+1/\c=0/\o.getD (i-1) 0 ≠ 0))->max a.length b.length+2<=i+m ->
  Mz n m a b c (i:Int) o k0=k0 (dg (vl a+vl b).toNat)
 | 0,i,c,o,ho,hlo,hc0,hc1,hv,hq,hm=>by omega
 | m+1,i,c,o,ho,hlo,hc0,hc1,hv,hq,hm=>by
  rw [Avh];unfold A3t;dsimp only
  have fin:a.length<=i->b.length<=i->c=0->o=dg (vl a+vl b).toNat:=λh1 h2 h3=>by
   rw [Jk a h1,Jk b h2,h3] at hv
   have hv':vl o=vl a+vl b:=by simpa using hv
   have:Cn o:=Cn.of_ge hlo λhn=>by
    have hl:0<o.length:=XO.2 hn;rcases hq with hq | ⟨hq1,_,hq3⟩
    . have hmx:i=max a.length b.length:=by omega
      rw [ho,hv'];rcases Nat.le_total a.length b.length with hab | hab
      . have h4:=hb.ge (XO.1 (by omega))
        have h5:=B6 ha.1
        rw [show i-1=b.length-1 by omega];omega
      . have h4:=ha.ge (XO.1 (by omega))
        have h5:=B6 hb.1
        rw [show i-1=a.length-1 by omega];omega
    . have h1:=B7 o (o.length-1)
      rw [show o.length-1+1=o.length by omega,YI] at h1
      have h2:=B6 (hlo.take (o.length-1));have h3:=hlo.get (o.length-1);rw [<- ho] at hq3;have h4:=F8 (o.length-1)
      have h5:(10000:Int) ^ (o.length-1)*1<=10000 ^ (o.length-1)*o.getD (o.length-1) 0:=XG (by omega) (by omega)
      omega
   rw [<- hv',Py this]
  have go:∀ (y:Int),y=c+a.getD i 0+b.getD i 0->(i<max a.length b.length \/ (i=max a.length b.length/\0<c))->Mz n m a b (W (Int.tdiv y 10000)) (W ((i:Int)+1)) (o++[Int.tmod y 10000]) k0=k0 (dg (vl a+vl b).toNat):=by
   intro y hy hi;have h1:=ha.1.get i;have h2:=hb.1.get i
   rw [tdv (by omega),tmd (by omega),A8 (by omega) (by omega),A8 (by omega) (by omega)]
   have ta:=B7 a i;have tb:=B7 b i
   have hyy:y=10000*(y / 10000)+y % 10000:=by omega
   refine Axm (n:=n) ha hb hN hNb m (i+1) _ _ (by simp [ho]) (hlo.app (Lm.cons (by omega) Lm.nil)) (by omega) (by omega) ?_ ?_ (by omega)
   . rw [Qi,ho,ta,tb,Bu];generalize y / 10000=q at *;generalize y % 10000=r at *;generalize (10000:Int) ^ i=P at *;grind
   . rcases hi with hi | ⟨hi,hc⟩
     . exact .inl (by omega)
     . right
       have e1:a.getD i 0=0:=Bc (by omega)
       have e2:b.getD i 0=0:=Bc (by omega)
       have e3:y=1:=by omega
       subst e3
       refine ⟨by omega,by rfl,?_⟩
       rw [Qan,<- ho,QL];simp
  have hcases:(i<a.length \/ i<b.length \/ 0<c)->(i<max a.length b.length \/ (i=max a.length b.length/\0<c)):=λh=>by
   rcases h with h | h | h
   . exact .inl (by omega)
   . exact .inl (by omega)
   . rcases hq with hq | ⟨_,h0,_⟩
     . omega
     . omega
  have ho2:(decide ((o.length+1)*8<=140737488355328))=true:=by
   rw [QO];rcases hq with hq | ⟨hq,_⟩ <;> omega
  have h1:=ha.1.get i;have h2:=hb.1.get i;by_cases hA:i<a.length
  . have dA:decide ((i:Int)<(a.length:Int))=true:=by rw [QO];omega
    have dM:decide ((i:Int)<max (a.length:Int) (b.length:Int))=true:=by rw [QO];omega
    simp only [dM,dA,ZR,QP]
    rw [A3 (by simp;try omega),A8 (x:=c+a.getD i 0) (by omega) (by omega)]
    by_cases hB:i<b.length
    . have dB:decide ((i:Int)<(b.length:Int))=true:=by rw [QO];omega
      simp only [dB,ZR]
      rw [A3 (by simp;try omega),A3 ho2,A8 (x:=c+a.getD i 0+b.getD i 0) (by omega) (by omega)]
      exact go _ rfl (hcases (.inl hA))
    . have dB:decide ((i:Int)<(b.length:Int))=false:=by rw [ZU];omega
      simp only [dB,QU];rw [A3 ho2]
      exact go _ (by rw [Bc (l:=b) (by omega)];omega) (hcases (.inl hA))
  . have dA:decide ((i:Int)<(a.length:Int))=false:=by rw [ZU];omega
    by_cases hB:i<b.length
    . have dB:decide ((i:Int)<(b.length:Int))=true:=by rw [QO];omega
      have dM:decide ((i:Int)<max (a.length:Int) (b.length:Int))=true:=by rw [QO];omega
      simp only [dM,dA,dB,ZR,QU,QP]
      rw [A3 (by simp;try omega),A3 ho2,A8 (x:=c+b.getD i 0) (by omega) (by omega)]
      exact go _ (by rw [Bc (l:=a) (by omega)];omega) (hcases (.inr (.inl hB)))
    . have dB:decide ((i:Int)<(b.length:Int))=false:=by rw [ZU];omega
      have dM:decide ((i:Int)<max (a.length:Int) (b.length:Int))=false:=by rw [ZU];omega
      simp only [dM,dA,dB,QU];rw [QK];by_cases hc:0<c
      . rw [QJ (by omega),A3 ho2]
        exact go _ (by rw [Bc (l:=a) (by omega),Bc (l:=b) (by omega)];omega) (hcases (.inr (.inr hc)))
      . rw [QH (by omega),fin (by omega) (by omega) (by omega)]

theorem Bbb {n a b:Nat} (h:(dg a).length<=1099511627776) (h':(dg b).length<=1099511627776) (hn:max (dg a).length (dg b).length+2<=n):f154 n (dg a) (dg b)=some (dg (a+b)):=by
 unfold f154
 have:=Axm (n:=n) (Fv a) (Fv b) h h' (k0:=λz_6=>some z_6) n 0 0 [] rfl Lm.nil (by omega) (by omega) (by simp [vl]) (.inl (by omega)) (by omega)
 have this:Mz n n (dg a) (dg b) 0 0 [] _=_:=this;rw [this,Ba,Ba];congr 1

theorem Ash {o P c wi bi v' T y d r:Int} (h:o-P*(c+(bi+10000*v'))=T) (hy:y=wi-c-bi) (hd:y=r-10000*d):o+P*(r-wi)-10000*P*(d+v')=T:=by
 grind

theorem Arf {α:Type} {n:Nat} {b:List Int} (hb:Lm b) {N:Nat} (hN:N<=1099511627776) {T:Int} {k0:List Int->Option α}:∀ (m i:Nat) (c:Int) (o:List Int),o.length=N->Lm o->0<=c->c<=1->i<=N ->
  vl o-10000 ^ i*(c+vl (b.drop i))=T->N+1<=i+m ->
  ∃ o' c',I2 n m b c (N:Int) (i:Int) o k0=k0 o'/\o'.length=N/\Lm o'/\0<=c'/\c'<=1/\vl o'-10000 ^ N*(c'+vl (b.drop N))=T
 | 0,i,c,o,ho,hlo,hc0,hc1,hi,hv,hm=>by omega
 | m+1,i,c,o,ho,hlo,hc0,hc1,hi,hv,hm=>by
  rw [Ava];unfold A3p;dsimp only;by_cases hA:i<N
  . rw [QK,QJ (by omega),A3 (by simp;try omega),A3 (by simp;try omega)]
    have h1:=hlo.get i;have h2:=hb.get i;simp only [QP]
    have go:∀ (d r:Int),d=(if o.getD i 0-c-b.getD i 0<0 then 1 else 0)->r=o.getD i 0-c-b.getD i 0+10000*d->∃ o' c',I2 n m b d (N:Int) (W ((i:Int)+1)) (o.set i r) k0=k0 o'/\o'.length=N/\Lm o'/\0<=c'/\c'<=1/\vl o'-10000 ^ N*(c'+vl (b.drop N))=T:=by
     intro d r hd hr
     have hd1:0<=d/\d<=1/\0<=r/\r<10000:=by
      rw [hr,hd];split <;> omega
     rw [A8 (x:=(i:Int)+1) (by omega) (by omega)]
     refine Arf (n:=n) hb hN m (i+1) d _ (by simpa using ho) (hlo.set _ (by omega)) (by omega) (by omega) (by omega) ?_ (by omega)
     rw [Kw _ (by omega),Bu]
     refine Ash (bi:=b.getD i 0) (y:=o.getD i 0-c-b.getD i 0) ?_ rfl (by omega)
     rw [<- A1o];exact hv
    have go2 : ∀ y : Int, y = o.getD i 0 - c - b.getD i 0 -> ∃ o' c', (bif (decide (y < 0)) then
          gd (decide (0<=(i:Int))&&decide ((i:Int)<(o.length:Int))) (
           gd (decide (i<o.length)) (
            I2 n m b 1 (N:Int) (W ((i:Int)+1)) (o.set i (W (y+10000))) k0))
      else
       gd (decide (0<=(i:Int))&&decide ((i:Int)<(o.length:Int))) (
        gd (decide (i<o.length)) (
         I2 n m b 0 (N:Int) (W ((i:Int)+1)) (o.set i y) k0)))=k0 o'/\o'.length=N/\Lm o'/\0<=c'/\c'<=1/\vl o'-10000 ^ N*(c'+vl (b.drop N))=T:=by
     intro y hy;rw [QK];by_cases hneg:y<0
     . rw [QJ hneg,A3 (by simp;try omega),A3 (by simp;try omega),A8 (x:=y+10000) (by omega) (by omega)]
       exact go 1 _ (by rw [QJ (by omega)]) (by omega)
     . rw [QH hneg,A3 (by simp;try omega),A3 (by simp;try omega)]
       exact go 0 _ (by rw [QH (by omega)]) (by omega)
    by_cases hB:i<b.length
    . have dB:decide ((i:Int)<(b.length:Int))=true:=by rw [QO];omega
      simp only [dB,ZR]
      rw [A3 (by simp;try omega)]
      simp only [A8 (x:=o.getD i 0-c) (by omega) (by omega),A8 (x:=o.getD i 0-c-b.getD i 0) (by omega) (by omega)]
      exact go2 _ rfl
    . have dB:decide ((i:Int)<(b.length:Int))=false:=by rw [ZU];omega
      simp only [dB,QU]
      simp only [A8 (x:=o.getD i 0-c) (by omega) (by omega)]
      exact go2 _ (by rw [Bc (l:=b) (by omega)];omega)
  . rw [QK,QH (by omega)]
    obtain rfl:i=N:=by omega
    exact ⟨o,c,rfl,ho,hlo,hc0,hc1,hv⟩

theorem B1h {n a b:Nat} (h:(dg a).length<=1099511627000) (hn:(dg a).length+1<=n) (hab:b<=a) (ha:0<a):f156 n (dg a) (dg b)=some (dg (a-b)):=by
 have hlab:=B5 hab;unfold f156
 rw [Ahx n (by omega) (λe=>by have:=Bak.1 e;omega),A0]
 obtain ⟨o,c,h1,h2,h3,h4,h5,h6⟩:=Arf (n:=n) (De b) (N:=(dg a).length) (by omega) (T:=(a:Int)-b) (k0:=λz_4=>(
   ob (f202 n z_4) λr_5 =>
   some r_5)) n 0 0 (dg a) rfl (De a) (by omega) (by omega) (by omega) (by rw [ZQ,Ba,Ba,Int.pow_zero,Int.one_mul,Int.zero_add]) (by omega)
 have h1:I2 n n (dg b) 0 ((dg a).length:Int) 0 (dg a) _=_:=h1
 rw [QY (by omega)] at h6
 have h7:=Hl h3;rw [h2] at h7;have h8:=B6 h3
 have:c=0:=by
  rcases Int.lt_or_eq_of_le h4 with h | h
  . have:c=1:=by omega
    rw [this] at h6;simp only [vl,Qbg,Int.mul_one] at h6;generalize (10000:Int) ^ (dg a).length=P at *;omega
  . exact h.symm
 rw [this] at h6;simp only [vl,Qbg,Qao,Int.sub_zero] at h6
 rw [h1,Qx h3 (by omega) (by omega),A0,h6,show ((a:Int)-(b:Int)).toNat=a-b by omega]

def rq (x:Rat):Rt:=(decide (x.num<0),dg x.num.natAbs,dg x.den)

def mq (s:Bool) (a d:Nat):Rat:=mkRat (if s=true then -(a:Int) else a) d

def Sz (x:Rat) (L:Nat):Prop:=(dg x.num.natAbs).length<=L/\(dg x.den).length<=L

theorem Ws (s:Bool) (a:Nat):(if s=true then -(a:Int) else a).natAbs=a:=by cases s <;> simp

theorem Af0 {s:Bool} {a d:Nat} (hd:0<d):(mq s a d).num=if s=true then -((a / Nat.gcd a d:Nat):Int) else ((a / Nat.gcd a d:Nat):Int):=by
 unfold mq
 rw [Rat.num_mkRat,QH (by omega),Ws,Nat.gcd_comm d a]
 cases s with
 | false=>simp
 | true =>
  simp only [if_true]
  rw [Int.neg_ediv_of_dvd (by exact_mod_cast Nat.gcd_dvd_left a d)]
  simp

theorem Af1 {s:Bool} {a d:Nat} (hd:0<d):(mq s a d).den=d / Nat.gcd a d:=by
 unfold mq
 rw [Rat.den_mkRat,QH (by omega),Ws,Nat.gcd_comm d a]

theorem B17 {s:Bool} {a d:Nat} (hd:0<d):rq (mq s a d)=(s&&decide (a / Nat.gcd a d ≠ 0),dg (a / Nat.gcd a d),dg (d / Nat.gcd a d)):=by
 unfold rq;rw [Af0 hd,Af1 hd];generalize a / Nat.gcd a d=q
 cases s with
 | false=>simp
 | true =>
  simp only [if_true,ZY,Qbm,YA];congr 1;apply decide_eq_decide.2;omega

theorem Mn {s:Bool} {a d L:Nat} (hd:0<d) (h1:(dg a).length<=L) (h2:(dg d).length<=L):Sz (mq s a d) L:=by
 unfold Sz;rw [Af0 hd,Af1 hd,Ws];exact ⟨ZK (B5 (JO _ _)) h1,ZK (B5 (JO _ _)) h2⟩

theorem Qm {n L x d:Nat} {s:Bool} (hd:0<d) (hx:(dg x).length<=L) (hdl:(dg d).length<=L) (hL:L<=1099511627000) (hn:28*L+10040<=n):f197 n s (dg x) (dg d)=some (rq (mq s x d)):=by
 have hg:0<Nat.gcd x d:=Nat.gcd_pos_of_pos_right x hd;have hgl:(dg (Nat.gcd x d)).length<=L:=ZK (B5 (Nat.gcd_le_right x hd)) hdl;rw [B17 hd];unfold f197
 rw [B16 hL hn hx hdl,A0,Ank hg hx hgl hL (by omega),A0,Ank hg hdl hgl hL (by omega),A0]
 dsimp only;rw [Aif]
 cases s <;> rfl

theorem Xa {n L x d:Nat} {s:Bool} (hd:0<d) (hx:(dg x).length<=L) (hdl:(dg d).length<=L) (hL:L<=1099511627000) (hn:28*L+10040<=n):f153 n s (dg x) (dg d)=some (rq (mq s x d)):=by
 have hg:0<Nat.gcd x d:=Nat.gcd_pos_of_pos_right x hd;have hgl:(dg (Nat.gcd x d)).length<=L:=ZK (B5 (Nat.gcd_le_right x hd)) hdl;have hq1:(dg (x / Nat.gcd x d)).length<=L:=ZK (B5 (JO _ _)) hx;have hq2:(dg (d / Nat.gcd x d)).length<=L:=ZK (B5 (JO _ _)) hdl;rw [B17 hd];unfold f153;dsimp only
 rw [B1i hL hn hx hdl,A0,show f151 n=some [1] from rfl,A0,<- G3,Adl (by omega),A0]
 have fin:∀ y z:List Int,y=dg (x / Nat.gcd x d)->z=dg (d / Nat.gcd x d)->(bif s then
   ob (f123 n y) λr_8 =>
   ob (f123 n z) λr_9 =>
   some ((decide ((y.length:Int)>0)),r_8,r_9)
  else
   ob (f123 n y) λr_10 =>
   ob (f123 n z) λr_11 =>
   some (false,r_10,r_11))=some (s&&decide (x / Nat.gcd x d ≠ 0),dg (x / Nat.gcd x d),dg (d / Nat.gcd x d)):=by
  rintro y z rfl rfl
  rw [K7 n (by omega),A0,K7 n (by omega),A0,Aif]
  cases s <;> rfl
 by_cases h1:Nat.gcd x d=1
 . have e:(cm ((Nat.gcd x d:Nat):Int) ((1:Nat):Int) != 0)=false:=by rw [h1,Ku rfl];rfl
   rw [e,QU]
   exact fin _ _ (by rw [h1,Nat.div_one]) (by rw [h1,Nat.div_one])
 . have e : (cm ((Nat.gcd x d : Nat) : Int) ((1 : Nat) : Int) != 0) = true := by
    rw [bne,Ain,QR h1];rfl
   rw [e,ZR,Ao6 hg hx hgl hL (by omega),A0,Ao6 hg hdl hgl hL (by omega),A0]
   exact fin _ _ rfl rfl

theorem H2 (x:Rat):x.num=if decide (x.num<0)=true then -(x.num.natAbs:Int) else x.num.natAbs:=by
 by_cases h:x.num<0
 . rw [QX h,QJ rfl];omega
 . rw [QR h,QH (by decide)];omega

theorem V6 {x y:Rat} (h:decide (x.num<0)=decide (y.num<0)):x+y=mq (decide (x.num<0)) (x.num.natAbs*y.den+y.num.natAbs*x.den) (x.den*y.den):=by
 rw [Rat.add_def'];unfold mq;congr 1;have hx:=H2 x;have hy:=H2 y;rw [<- h] at hy;generalize decide (x.num<0)=s at *;generalize x.num.natAbs=p at *;generalize y.num.natAbs=q at *;rw [hx,hy]
 cases s with
 | true=>simp only [if_true,KY,XW];grind
 | false=>simp

theorem Ln {x y:Rat} (h:decide (x.num<0) ≠ decide (y.num<0)) (hle:y.num.natAbs*x.den<=x.num.natAbs*y.den):x+y=mq (decide (x.num<0)) (x.num.natAbs*y.den-y.num.natAbs*x.den) (x.den*y.den):=by
 rw [Rat.add_def'];unfold mq;congr 1;have hx:=H2 x;have hy:=H2 y
 have h':decide (y.num<0) = !decide (x.num<0):=by
  generalize decide (x.num<0)=s at h;generalize decide (y.num<0)=t at h
  cases s <;> cases t <;> first | rfl | exact absurd rfl h
 rw [h'] at hy;generalize decide (x.num<0)=s at *;generalize x.num.natAbs=p at *;generalize y.num.natAbs=q at *;rw [hx,hy,Int.natCast_sub hle]
 cases s with
 | true=>simp only [if_true,XW,ZS];simp;grind
 | false=>simp only [XW,XD,if_true];simp;grind

theorem Arl {n L:Nat} {x y:Rat} (hx:Sz x L) (hy:Sz y L) (hL:2*L+1<=1099511627000) (hn:28*(2*L+1)+10040<=n):f138 n (rq x) (rq y)=some (rq (x+y)):=by
 obtain ⟨x1,x2⟩:=hx;obtain ⟨y1,y2⟩:=hy;have l1:=B0 x.num.natAbs y.den;have l2:=B0 y.num.natAbs x.den;have l3:=B0 x.den y.den;have l4:=Ze (x.num.natAbs*y.den) (y.num.natAbs*x.den);have hd:0<x.den*y.den:=YZ (XA x.den_nz) (XA y.den_nz);unfold f138 rq;dsimp only
 rw [M5 (by omega) (by omega),A0,M5 (by omega) (by omega),A0,M5 (by omega) (by omega),A0,XC]
 by_cases hs:decide (x.num<0)=decide (y.num<0)
 . rw [QJ (by rw [hs];simp),Bb1 (by omega) (by omega) (by omega),A0,Qm hd (L:=2*L+1) (by omega) (by omega) hL hn,A0,V6 hs];rfl
 . rw [QH (by simpa using hs),Adf (by omega) (by omega),A0,QK]
   by_cases hle:y.num.natAbs*x.den<=x.num.natAbs*y.den
   . have l5:=B5 (Qab (x.num.natAbs*y.den) (y.num.natAbs*x.den))
     rw [QJ (by
      rcases JM hle with h | h
      . rw [J7 (by omega)];omega
      . rw [Ku (by omega)];omega),Anj (by omega) (by omega) hle,A0,Qm hd (L:=2*L+1) (by omega) (by omega) hL hn,A0,Ln hs hle];rfl
   . have l5:=B5 (Qab (y.num.natAbs*x.den) (x.num.natAbs*y.den))
     rw [QH (by rw [J6 (by omega)];omega),Anj (by omega) (by omega) (by omega),A0,Qm hd (L:=2*L+1) (by omega) (by omega) hL hn,A0,Rat.add_comm,Ln (λe=>hs e.symm) (by omega),KD y.den x.den];rfl

theorem Asq {n L:Nat} {x y:Rat} (hx:Sz x L) (hy:Sz y L) (hL:2*L+1<=1099511627000) (hn:28*(2*L+1)+10040<=n):f99 n (rq x) (rq y)=some (rq (x+y)):=by
 obtain ⟨x1,x2⟩:=hx;obtain ⟨y1,y2⟩:=hy;have l1:=B0 x.num.natAbs y.den;have l2:=B0 y.num.natAbs x.den;have l3:=B0 x.den y.den;have l4:=Ze (x.num.natAbs*y.den) (y.num.natAbs*x.den);have hd:0<x.den*y.den:=YZ (XA x.den_nz) (XA y.den_nz);unfold f99 rq;dsimp only
 rw [Mb (by omega) (by omega),A0,Mb (by omega) (by omega),A0,Mb (by omega) (by omega),A0,XC]
 by_cases hs:decide (x.num<0)=decide (y.num<0)
 . rw [QJ (by rw [hs];simp),Bbb (by omega) (by omega) (by omega),A0,Xa hd (L:=2*L+1) (by omega) (by omega) hL hn,A0,V6 hs];rfl
 . rw [QH (by simpa using hs),Adl (by omega),A0,QK]
   by_cases hle:y.num.natAbs*x.den<=x.num.natAbs*y.den
   . have l5:=B5 (Qab (x.num.natAbs*y.den) (y.num.natAbs*x.den))
     have hp:0<x.num.natAbs*y.den:=by
      rcases YR (x.num.natAbs*y.den) with h | h
      . exfalso;have hyd:=y.den_nz;have hxd:=x.den_nz
        have h2:y.num.natAbs*x.den=0:=by omega
        have e1:x.num=0:=by rcases Qbb.1 h with h | h <;> omega
        have e2:y.num=0:=by rcases Qbb.1 h2 with h | h <;> omega
        exact hs (by rw [e1,e2])
      . exact h
     rw [QJ (by
      rcases JM hle with h | h
      . rw [J7 (by omega)];omega
      . rw [Ku (by omega)];omega),B1h (by omega) (by omega) hle hp,A0,Xa hd (L:=2*L+1) (by omega) (by omega) hL hn,A0,Ln hs hle];rfl
   . have l5:=B5 (Qab (y.num.natAbs*x.den) (x.num.natAbs*y.den))
     rw [QH (by rw [J6 (by omega)];omega),B1h (by omega) (by omega) (by omega) (by omega),A0,Xa hd (L:=2*L+1) (by omega) (by omega) hL hn,A0,Rat.add_comm,Ln (λe=>hs e.symm) (by omega),KD y.den x.den];rfl

theorem A5g (x y:Rat):x*y=mq (!(decide (x.num<0)==decide (y.num<0))) (x.num.natAbs*y.num.natAbs) (x.den*y.den):=by
 rw [Rat.mul_def'];unfold mq;congr 1;have hx:=H2 x;have hy:=H2 y;generalize decide (x.num<0)=s at *;generalize decide (y.num<0)=t at *;generalize x.num.natAbs=p at *;generalize y.num.natAbs=q at *;rw [hx,hy]
 cases s <;> cases t <;> simp [Int.neg_mul,Int.mul_neg]

theorem B2a {n L:Nat} {x y:Rat} (hx:Sz x L) (hy:Sz y L) (hL:2*L+1<=1099511627000) (hn:28*(2*L+1)+10040<=n):f140 n (rq x) (rq y)=some (rq (x*y)):=by
 obtain ⟨x1,x2⟩:=hx;obtain ⟨y1,y2⟩:=hy;have l1:=B0 x.num.natAbs y.num.natAbs;have l3:=B0 x.den y.den;have hd:0<x.den*y.den:=YZ (XA x.den_nz) (XA y.den_nz);unfold f140 rq;dsimp only
 rw [M5 (by omega) (by omega),A0,M5 (by omega) (by omega),A0,Qm hd (L:=2*L+1) (by omega) (by omega) hL hn,A0,A5g];rfl

theorem Alk {n L:Nat} {x y:Rat} (hx:Sz x L) (hy:Sz y L) (hL:2*L+1<=1099511627000) (hn:28*(2*L+1)+10040<=n):f162 n (rq x) (rq y)=some (rq (x*y)):=by
 obtain ⟨x1,x2⟩:=hx;obtain ⟨y1,y2⟩:=hy;have l1:=B0 x.num.natAbs y.num.natAbs;have l3:=B0 x.den y.den;have hd:0<x.den*y.den:=YZ (XA x.den_nz) (XA y.den_nz);unfold f162 rq;dsimp only
 rw [Mb (by omega) (by omega),A0,Mb (by omega) (by omega),A0,Xa hd (L:=2*L+1) (by omega) (by omega) hL hn,A0,A5g];rfl

theorem Aic {x y:Rat} (hy:y ≠ 0):x / y=mq (!(decide (x.num<0)==decide (y.num<0))) (x.num.natAbs*y.den) (x.den*y.num.natAbs):=by
 have hyn:y.num ≠ 0:=λe=>hy (JA.1 e)
 have key:mq (!(decide (x.num<0)==decide (y.num<0))) (x.num.natAbs*y.den) (x.den*y.num.natAbs)*y=x:=by
  conv=>lhs;rhs;rw [<- Rat.mkRat_self y]
  conv=>rhs;rw [<- Rat.mkRat_self x]
  unfold mq
  rw [Rat.mkRat_mul_mkRat,Rat.mkRat_eq_iff (Nat.mul_ne_zero (Nat.mul_ne_zero x.den_nz (by omega)) y.den_nz) x.den_nz]
  have hx:=H2 x;have hy:=H2 y;generalize decide (x.num<0)=s at *;generalize decide (y.num<0)=t at *;generalize x.num.natAbs=p at *;generalize y.num.natAbs=q at *;rw [hx,hy];simp only [XW]
  cases s <;> cases t <;> simp <;> grind
 conv=>lhs;rw [<- key]
 exact Rat.mul_div_cancel hy

theorem B6g {n L:Nat} {x y:Rat} (hx:Sz x L) (hy:Sz y L) (hy0:y ≠ 0) (hL:2*L+1<=1099511627000) (hn:28*(2*L+1)+10040<=n):f142 n (rq x) (rq y)=some (rq (x / y)):=by
 obtain ⟨x1,x2⟩:=hx;obtain ⟨y1,y2⟩:=hy;have l1:=B0 x.num.natAbs y.den;have l3:=B0 x.den y.num.natAbs;have hyn:y.num ≠ 0:=λe=>hy0 (JA.1 e)
 have hd:0<x.den*y.num.natAbs:=YZ (XA x.den_nz) (by omega)
 unfold f142 rq;dsimp only
 rw [M5 (by omega) (by omega),A0,M5 (by omega) (by omega),A0,Qm hd (L:=2*L+1) (by omega) (by omega) hL hn,A0,Aic hy0];rfl

theorem B73 {n L:Nat} {x y:Rat} (hx:Sz x L) (hy:Sz y L) (hy0:y ≠ 0) (hL:2*L+1<=1099511627000) (hn:28*(2*L+1)+10040<=n):f206 n (rq x) (rq y)=some (rq (x / y)):=by
 obtain ⟨x1,x2⟩:=hx;obtain ⟨y1,y2⟩:=hy;have l1:=B0 x.num.natAbs y.den;have l3:=B0 x.den y.num.natAbs;have hyn:y.num ≠ 0:=λe=>hy0 (JA.1 e)
 have hd:0<x.den*y.num.natAbs:=YZ (XA x.den_nz) (by omega)
 unfold f206 rq;dsimp only
 rw [Mb (by omega) (by omega),A0,Mb (by omega) (by omega),A0,Xa hd (L:=2*L+1) (by omega) (by omega) hL hn,A0,Aic hy0];rfl

theorem Sc {n:Nat} {x:Rat}:f143 n (rq x)=some (rq (-x)):=by
 unfold f143 rq;dsimp only;rw [Rat.neg_num,Rat.neg_den,Qbm,Aif];by_cases h:x.num<0
 . rw [QX h,QR (show ¬ -x.num<0 by omega)];rfl
 . rw [QR h]
   have:decide (x.num.natAbs ≠ 0)=decide (-x.num<0):=decide_eq_decide.2 (by omega)
   rw [this];rfl

theorem Bb8 {n L:Nat} {x:Rat} (hx:Sz x L) (hL:L<=1099511627000):f158 n (rq x)=some (rq (-x)):=by
 obtain ⟨x1,x2⟩:=hx;unfold f158 rq;dsimp only
 rw [Rat.neg_num,Rat.neg_den,Qbm,show f168 n (decide (x.num<0),dg x.num.natAbs,dg x.den)=some (((dg x.num.natAbs).length:Int)==0) from rfl,A0,K7 n (by omega),A0,K7 n (by omega),A0,A7l]
 by_cases h:x.num<0
 . rw [QX h,QR (show ¬ -x.num<0 by omega)];rfl
 . rw [QR h]
   have:(!decide (x.num.natAbs=0))=decide (-x.num<0):=by
    by_cases h2:x.num.natAbs=0
    . rw [QX h2,QR (by omega)];rfl
    . rw [QR h2,QX (by omega)];rfl
   rw [this];rfl

theorem Fe {x:Rat} {L:Nat} (h:Sz x L):Sz (-x) L:=by
 unfold Sz at *;rw [Rat.neg_num,Rat.neg_den,Qbm];exact h

theorem Sz.mono {x:Rat} {L M:Nat} (h:Sz x L) (hLM:L<=M):Sz x M:=⟨ZK h.1 hLM,ZK h.2 hLM⟩

theorem B6h {n L:Nat} {x y:Rat} (hx:Sz x L) (hy:Sz y L) (hL:2*L+1<=1099511627000) (hn:28*(2*L+1)+10040<=n):f139 n (rq x) (rq y)=some (rq (x-y)):=by
 unfold f139;rw [Sc,A0,Arl hx (Fe hy) hL hn,A0,Rat.sub_eq_add_neg]

theorem Axp {x y:Rat} {L:Nat} (hx:Sz x L) (hy:Sz y L):Sz (x+y) (2*L+1):=by
 obtain ⟨x1,x2⟩:=hx;obtain ⟨y1,y2⟩:=hy;have l1:=B0 x.num.natAbs y.den;have l2:=B0 y.num.natAbs x.den;have l3:=B0 x.den y.den;have l4:=Ze (x.num.natAbs*y.den) (y.num.natAbs*x.den);have hd:0<x.den*y.den:=YZ (XA x.den_nz) (XA y.den_nz);by_cases hs:decide (x.num<0)=decide (y.num<0)
 . rw [V6 hs];exact Mn hd (by omega) (by omega)
 . by_cases hle:y.num.natAbs*x.den<=x.num.natAbs*y.den
   . have l5:=B5 (Qab (x.num.natAbs*y.den) (y.num.natAbs*x.den))
     rw [Ln hs hle];exact Mn hd (by omega) (by omega)
   . have l5:=B5 (Qab (y.num.natAbs*x.den) (x.num.natAbs*y.den))
     rw [Rat.add_comm,Ln (λe=>hs e.symm) (by omega),KD y.den x.den];exact Mn hd (by omega) (by omega)

theorem Axo {x y:Rat} {L:Nat} (hx:Sz x L) (hy:Sz y L):Sz (x*y) (2*L+1):=by
 obtain ⟨x1,x2⟩:=hx;obtain ⟨y1,y2⟩:=hy;have l1:=B0 x.num.natAbs y.num.natAbs;have l3:=B0 x.den y.den;rw [A5g]
 exact Mn (YZ (XA x.den_nz) (XA y.den_nz)) (by omega) (by omega)

theorem B6f {n:Nat} {x:Rat}:f141 n (rq x)=some (decide (x=0)):=by
 unfold f141 rq;dsimp only;rw [A7l];congr 1
 exact decide_eq_decide.2 ⟨λh=>JA.1 (by omega),λh=>by rw [h];rfl⟩

theorem B72 {n:Nat} {x:Rat}:f168 n (rq x)=some (decide (x=0)):=by
 unfold f168 rq;dsimp only;rw [A7l];congr 1
 exact decide_eq_decide.2 ⟨λh=>JA.1 (by omega),λh=>by rw [h];rfl⟩

theorem B6l {x y:Rat} (h:rq x=rq y):x=y:=by
 unfold rq at h;simp only [QI] at h;obtain ⟨h1,h2,h3⟩:=h;have e2:=Ax2 h2;have e3:=Ax2 h3;refine Rat.ext ?_ e3;rw [H2 x,H2 y,h1,e2]

abbrev Jj:=List Int × Int × Int

def D2 (P:Int) (s:Jj):Prop:=(∀ x ∈ s.1,0<=x/\x<=255)/\s.1.length<=1048576/\(0<=s.2.1/\s.2.1<=P)/\0<=s.2.2/\s.2.2<2147483648

theorem Aiq {l:List Int} (h:∀ x ∈ l,0<=x/\x<=255) (k:Nat):0<=l.getD k 0/\l.getD k 0<=255:=by
 rw [QL]
 cases e:l[k]? with
 | none=>simp
 | some x=>exact h x (ZN e)

theorem Fq {x m:Int} (h:0<=x):Int.tmod x m=x % m:=Qac h

theorem A9h {n:Nat} {P:Int} {s:Jj} (h:D2 P s) (hP:P<=1099511627776):∃ b s',Mg n s=some (b,s')/\(0<=b/\b<=255)/\D2 (P+1) s':=by
 obtain ⟨l,p,d⟩:=s;obtain ⟨h1,h2,⟨h3,h4⟩,h5,h6⟩:=h;dsimp only at h1 h2 h3 h4 h5 h6;unfold Mg;dsimp only
 rw [A8 (x:=p+1) (by omega) (by omega),A8 (x:=p+1-1) (by omega) (by omega),QK]
 have hb:=Aiq h1 (p+1-1).toNat;by_cases hc:p+1<=(l.length:Int)
 . rw [QJ hc,A3 (by simp;omega),A3 (by simp;omega)]
   generalize l.getD (p+1-1).toNat 0=b at *
   rw [A8 (x:=b) (by omega) (by omega),A8 (x:=d*31) (by omega) (by omega),A8 (x:=d*31+b) (by omega) (by omega),A8 (x:=d*31+b+7) (by omega) (by omega),Fq (by omega)]
   exact ⟨_,_,rfl,by omega,h1,h2,by dsimp only;omega,by dsimp only;omega,by dsimp only;omega⟩
 . rw [QH hc,QK];by_cases hc2:p+1>3000
   . rw [QJ hc2]
     exact ⟨_,_,rfl,by omega,h1,h2,by dsimp only;omega,h5,h6⟩
   . rw [QH hc2,A8 (x:=d*1103515245) (by omega) (by omega),A8 (x:=d*1103515245+12345) (by omega) (by omega),Fq (x:=d*1103515245+12345) (by omega)]
     generalize hz:(d*1103515245+12345) % 2147483648=z
     have hz2:0<=z/\z<2147483648:=by omega
     rw [YQ (a:=z) (by omega),A8 (x:=z / 65536) (by omega) (by omega),Fq (x:=z / 65536) (by omega)]
     exact ⟨_,_,rfl,by omega,h1,h2,by dsimp only;omega,by dsimp only;omega,by dsimp only;omega⟩

theorem A0i {n:Nat} {P k:Int} {s:Jj} (h:D2 P s) (hP:P<=1099511627000) (hk:1<k) (hk':k<=1048576):∃ v s',Dd n s k=some (v,s')/\(0<=v/\v<k)/\D2 (P+3) s':=by
 unfold Dd
 rw [QK,QH (by omega),QK]
 obtain ⟨b1,s1,e1,r1,o1⟩:=A9h (n:=n) h (by omega)
 rw [e1];by_cases hc:k<=256
 . rw [QJ hc,A0,A3 (by simp;omega),Fq r1.1]
   have:=Qbh b1 (show k ≠ 0 by omega)
   have:=Qap b1 (show 0<k by omega)
   exact ⟨_,_,rfl,by omega,o1.1,o1.2.1,⟨o1.2.2.1.1,by have:=o1.2.2.1.2;show s1.2.1<=P+3;omega⟩,o1.2.2.2⟩
 . rw [QH hc,A0]
   obtain ⟨b2,s2,e2,r2,o2⟩:=A9h (n:=n) o1 (by omega)
   rw [e2,A0]
   obtain ⟨b3,s3,e3,r3,o3⟩:=A9h (n:=n) o2 (by omega)
   rw [e3,A0];dsimp only
   rw [A3 (by simp;omega),A8 (x:=b1*65536) (by omega) (by omega),A8 (x:=b2*256) (by omega) (by omega),A8 (x:=b1*65536+b2*256) (by omega) (by omega),A8 (x:=b1*65536+b2*256+b3) (by omega) (by omega),Fq (by omega)]
   have:=Qbh (b1*65536+b2*256+b3) (show k ≠ 0 by omega)
   have:=Qap (b1*65536+b2*256+b3) (show 0<k by omega)
   exact ⟨_,_,rfl,by omega,o3.1,o3.2.1,⟨o3.2.2.1.1,by have:=o3.2.2.1.2;show s3.2.1<=P+3;omega⟩,o3.2.2.2⟩

theorem B4g {n:Nat} {P k:Int} {s:Jj} (h:D2 P s) (hP:P<=1099511627000) (hk:1<k) (hk':k<=1048576):∃ v s',A6n n s k=some (v,s')/\D2 (P+3) s':=by
 unfold A6n;obtain ⟨v,s',e,_,o⟩:=A0i (n:=n) h hP hk hk';rw [e,A0];exact ⟨_,_,rfl,o⟩

theorem A9u {n:Nat} {a:Int} (h:-1000000000<=a/\a<=1000000000) (hn:1048577<=n):f131 n a=some (decide (a<0),dg a.natAbs,dg 1):=by
 unfold f131;rw [QK,G3];by_cases hc:a<0
 . rw [QJ hc,A8 (x:=0-a) (by omega) (by omega),show 0-a=(a.natAbs:Int) by omega,Qz (by omega) (by omega),A0,QX hc]
 . rw [QH hc]
   conv=>lhs;rw [show a=(a.natAbs:Int) by omega]
   rw [Qz (by omega) (by omega),A0,QR hc]

theorem As5 {N:Nat} (h:(dg N).length<=40):Pe (dg N)=true:=by
 unfold Pe;have hc:=Fv N;rw [QX h,ZY,QF,QG];refine ⟨λx hx=>?_,?_⟩
 . have:=hc.1 x hx;unfold Gn;rw [QO];omega
 . by_cases hn:dg N=[]
   . rw [hn];rfl
   . have h1:=hc.2 hn;have h2:=hc.1.get ((dg N).length-1);rw [XJ];right;rw [QO];omega

theorem Aem {x:Rat} (h:Sz x 40):Ie (rq x)=true:=by
 obtain ⟨h1,h2⟩:=h;unfold Ie rq;dsimp only
 have hd:(dg x.den).isEmpty=false:=by
  rw [D9 x.den_nz];rfl
 rw [As5 h1,As5 h2,hd,Ba,Ba]
 have hg:Nat.gcd (x.num.natAbs:Int).toNat (x.den:Int).toNat=1:=by
  rw [QP,QP];exact x.reduced
 rw [QX hg];by_cases hz:x.num.natAbs=0
 . rw [hz,Bx,QR (by omega)];rfl
 . rw [D9 hz];rfl

theorem Afn {α:Type} {n:Nat} {a b:List Int} (hab:a.length=b.length) (hl:a.length<=1048576) {k0:Bool->Option α} {k1:Unit->Option α}:∀ (m i:Nat),i<=a.length->a.length<i+m->Xg n m a b (i:Int) k0 k1=if a.drop i=b.drop i then k1 () else k0 false
 | 0,i,hi,hm=>by omega
 | m+1,i,hi,hm=>by
  rw [Az4];unfold A8p;rw [QK];by_cases h:i<a.length
  . rw [QJ (by omega),A3 (by simp;omega),A3 (by simp;omega)]
    simp only [QP]
    have da:a.drop i=a.getD i 0::a.drop (i+1):=by
     rw [XS h,QL,QM h];rfl
    have db:b.drop i=b.getD i 0::b.drop (i+1):=by
     rw [XS (by omega),QL,QM (by omega)];rfl
    rw [da,db];by_cases hz:a.getD i 0=b.getD i 0
    . rw [hz,XM,QU,A8 (x:=(i:Int)+1) (by omega) (by omega),show (i:Int)+1=((i+1:Nat):Int) from rfl,Afn hab hl m (i+1) (by omega) (by omega)]
      simp
    . rw [show (a.getD i 0 != b.getD i 0)=true by rw [bne_iff_ne];exact hz,ZR,QH (λe=>hz (List.cons.inj e).1)]
  . rw [QH (by omega),QY (by omega),QY (by omega),QJ rfl]

theorem At4 {n:Nat} {a b:List Int} (hl:a.length<=1048576) (hn:1048577<=n):f77 n a b=some (decide (a=b)):=by
 unfold f77;rw [XC];by_cases h:a.length=b.length
 . rw [QH (by simp [h])]
   have h1:=Afn (n:=n) h hl (k0:=λz_1=>some z_1) (k1:=λ(_:Unit)=>some true) n 0 (by omega) (by omega)
   have h1:Xg n n a b 0 _ _=_:=h1;rw [h1,ZQ,ZQ];by_cases e:a=b
   . rw [QJ e,QX e]
   . rw [QH e,QR e]
 . rw [QJ (by rw [bne_iff_ne];omega),QR (λe=>h (by rw [e]))]

theorem B86 {n:Nat} {x y:Rat} (hx:Sz x 1000) (hn:1048577<=n):f32 n (rq x) (rq y)=some (decide (x=y)):=by
 obtain ⟨h1,h2⟩:=hx;unfold f32
 have key:(rq x).1=(rq y).1->(rq x).2.1=(rq y).2.1->(rq x).2.2=(rq y).2.2->x=y:=λa b c=>B6l (by
  rw [show rq x=((rq x).1,(rq x).2.1,(rq x).2.2) from rfl,a,b,c])
 rw [XC];by_cases e1:(rq x).1=(rq y).1
 . rw [QJ (by rw [e1];simp),At4 (by show (dg x.num.natAbs).length<=_;omega) hn,A0,QK]
   by_cases e2:(rq x).2.1=(rq y).2.1
   . rw [QJ e2,At4 (by show (dg x.den).length<=_;omega) hn,A0]
     by_cases e3:(rq x).2.2=(rq y).2.2
     . rw [QX e3,QX (key e1 e2 e3)]
     . rw [QR e3,QR (λe=>e3 (by rw [e]))]
   . rw [QH e2,QR (λe=>e2 (by rw [e]))]
 . rw [QH (by simpa using e1),QR (λe=>e1 (by rw [e]))]

def vq (x:List Rat):List Rt:=x.map rq

def Sv (x:List Rat) (L:Nat):Prop:=∀ a ∈ x,Sz a L

def Bk (acc:Rat):List Rat->List Rat->Rat
 | a::x,b::y=>Bk (acc+a*b) x y
 | _,_=>acc

def Bn (x:Rat):Bool:=decide ((dg x.num.natAbs).length<=40)&&decide ((dg x.den).length<=40)

theorem Nm {x:Rat}:Bn x=true ↔ Sz x 40:=by unfold Bn Sz;simp

@[simp] theorem Aw (x:List Rat):(vq x).length=x.length:=by simp [vq]

theorem F6 {x:List Rat} {i:Nat} (h:i<x.length):(vq x).getD i (false,[],[])=rq (x.getD i 0):=by
 unfold vq;rw [QL,QN,QL,QM h];rfl

theorem A5a {x:List Rat} {i:Nat} (h:i<x.length):x.drop i=x.getD i 0::x.drop (i+1):=by
 rw [XS h,QL,QM h];rfl

theorem Sv.get {x:List Rat} {L i:Nat} (hs:Sv x L) (h:i<x.length):Sz (x.getD i 0) L:=by
 refine hs _ ?_;rw [QL,QM h];exact KQ h

theorem Sv.mono {x:List Rat} {L M:Nat} (h:Sv x L) (hLM:L<=M):Sv x M:=λa ha=>(h a ha).mono hLM

theorem Vx {x:List Rat} (h:Sv x 40) (h1:1<=x.length) (h4:x.length<=4):P8 (vq x)=true:=by
 unfold P8
 rw [QX (by rw [Aw];omega),ZY,QG]
 intro r hr;obtain ⟨a,ha,rfl⟩:=ZG.1 hr;exact Aem (h a ha)

theorem Ac2 {α:Type} {n:Nat} {x y:List Rat} (hx:Sv x 40) (hy:Sv y 40) (hl:x.length=y.length) (h4:x.length<=4) (hn:1048577<=n) {f:Bool} {k0:Bool->Bool->List Int->List Int->Option α}:∀ (m i:Nat) (acc:Rat),Sz acc (82*2 ^ i-1)->i<=x.length->x.length<i+m ->
  Rf n m (vq y) (vq x) (x.length:Int) (i:Int) f (rq acc).1 (rq acc).2.1 (rq acc).2.2 k0=k0 f (rq (Bk acc (x.drop i) (y.drop i))).1 (rq (Bk acc (x.drop i) (y.drop i))).2.1 (rq (Bk acc (x.drop i) (y.drop i))).2.2
 | 0,i,acc,ho,hi,hm=>by omega
 | m+1,i,acc,ho,hi,hm=>by
  rw [Avy];unfold A45;dsimp only;rw [QK];by_cases h:i<x.length
  . rw [QJ (by omega),A3 (by simp;omega),A3 (by simp;omega)]
    have hp:2 ^ i<=2 ^ 3:=XP (by omega) (by omega)
    have hp1:1<=2 ^ i:=JP;rw [show (2:Nat) ^ 3=8 from rfl] at hp
    have h1:Sz (x.getD i 0*y.getD i 0) 81:=Axo (hx.get h) (hy.get (by omega))
    have h2:Sz (acc+x.getD i 0*y.getD i 0) (82*2 ^ (i+1)-1):=(Axp ho (h1.mono (by omega))).mono (by rw [YE];omega)
    have e2:=Asq (n:=n) ho (h1.mono (show 81<=82*2 ^ i-1 by omega)) (by omega) (by omega)
    have e2:f99 n ((rq acc).1,(rq acc).2.1,(rq acc).2.2) _=_:=e2
    rw [QP,F6 h,F6 (by omega),Alk (hx.get h) (hy.get (by omega)) (by omega) (by omega),A0,e2,A0,A8 (x:=(i:Int)+1) (by omega) (by omega)]
    have:=Ac2 hx hy hl h4 hn (f:=f) (k0:=k0) m (i+1) _ h2 (by omega) (by omega)
    rw [A5a h,A5a (x:=y) (by omega)]
    rw [show (i:Int)+1=((i+1:Nat):Int) from rfl,this];rfl
  . rw [QH (by omega),QY (by omega),QY (by omega)]
    rfl

theorem Al1:rq 0=(false,[],dg 1):=by
 unfold rq;rw [show (0:Rat).num=0 from rfl,show (0:Rat).den=1 from rfl,show (0:Int).natAbs=0 from rfl,Bx];rfl

theorem Cc:Sz 0 1:=by
 refine ⟨?_,?_⟩
 . rw [show (0:Rat).num=0 from rfl,show (0:Int).natAbs=0 from rfl,Bx];simp
 . rw [show (0:Rat).den=1 from rfl,G3];simp

theorem Bba {n:Nat} {x y:List Rat} (hx:Sv x 40) (hy:Sv y 40) (hl:x.length=y.length) (h4:x.length<=4) (hn:1048577<=n):f130 n (vq x) (vq y)=some (rq (Bk 0 x y)):=by
 unfold f130
 have e0:f97 n 0=some (rq 0):=by
  unfold f97
  rw [QR (by omega),QU,show (0:Int)=((0:Nat):Int) from rfl,Rd (by omega) (by omega),A0,Al1,Bx,G3]
  rfl
 rw [e0,A0]
 have h1:=Ac2 (n:=n) hx hy hl h4 hn (f:=false) (k0:=λz_6 z_7 z_8 z_9=>some (z_7,z_8,z_9)) n 0 0 (Cc.mono (by simp)) (by omega) (by omega)
 have h1:Rf n n (vq y) (vq x) (x.length:Int) 0 _ _ _ _ _=_:=h1;rw [Aw,h1,ZQ,ZQ]

theorem Vo {n:Nat} {x:List Rat} (hl:x.length<=1048576):∀ (m i:Nat),i<=x.length->x.length<i+m ->
  ∃ r,Hg n m (vq x) (x.length:Int) (i:Int) (λz_3=>some z_3) (λ(_:Unit)=>some (-1))=some r/\decide (r>=0) = !(x.drop i).all Bn
 | 0,i,hi,hm=>by omega
 | m+1,i,hi,hm=>by
  rw [Ad1];unfold Of;dsimp only;rw [QK];by_cases h:i<x.length
  . rw [QJ (by omega),A3 (by simp;omega),QP,F6 h,A5a h,XK]
    have e:f105 n (rq (x.getD i 0))=some (!Bn (x.getD i 0)):=by
     unfold f105 f98 rq Bn;dsimp only;generalize (dg (x.getD i 0).num.natAbs).length=p;generalize (dg (x.getD i 0).den).length=q;rw [QK];by_cases c:p<=40
     . rw [QJ (by omega),A0,QX c,ZY];congr 2;exact decide_eq_decide.2 (by omega)
     . rw [QH (by omega),A0,QR c,Bool.false_and]
    rw [e,A0]
    cases hf:Bn (x.getD i 0) with
    | false=>exact ⟨(i:Int),by simp,by simp⟩
    | true =>
     rw [ZS,QU,A8 (x:=(i:Int)+1) (by omega) (by omega),ZY]
     exact Vo hl m (i+1) (by omega) (by omega)
  . rw [QH (by omega),QY (by omega)]
    exact ⟨-1,rfl,rfl⟩

theorem Asr {n:Nat} {x:List Rat} (hl:x.length<=1048576) (hn:1048577<=n):f51 n (vq x)=some (if x.all Bn=true then (vq x,0) else ([],7)):=by
 unfold f51 A4m A3j
 obtain ⟨r,h1,h2⟩:=Vo (n:=n) hl n 0 (by omega) (by omega)
 have h1:Hg n n (vq x) (x.length:Int) 0 _ _=_:=h1;rw [Aw,h1,A0,A0,h2,ZQ]
 cases x.all Bn <;> rfl

theorem Ag5 {α:Type} {n:Nat} {x y:List Rat} (hl:x.length=y.length) (h4:x.length<=4096) (hs:Sv x 1000) (hn:1048577<=n) {k0:Bool->Option α} {k1:Unit->Option α}:∀ (m i:Nat),i<=x.length->x.length<i+m ->
  Xi n m (vq x) (vq y) (i:Int) k0 k1=if x.drop i=y.drop i then k1 () else k0 false
 | 0,i,hi,hm=>by omega
 | m+1,i,hi,hm=>by
  rw [Azl];unfold A98;dsimp only;rw [QK,Aw];by_cases h:i<x.length
  . rw [QJ (by omega),A3 (by simp;omega),A3 (by simp;omega),QP,F6 h,F6 (by omega),B86 (hs.get h) hn,A0,A5a h,A5a (x:=y) (by omega)]
    by_cases e:x.getD i 0=y.getD i 0
    . rw [QX e,ZS,QU,A8 (x:=(i:Int)+1) (by omega) (by omega),e]
      rw [show (i:Int)+1=((i+1:Nat):Int) from rfl,Ag5 hl h4 hs hn m (i+1) (by omega) (by omega)]
      simp
    . rw [QR e,XD,ZR,QH (λq=>e (List.cons.inj q).1)]
  . rw [QH (by omega),QY (by omega),QY (by omega),QJ rfl]

theorem Wz {n:Nat} {x y:List Rat} (hl:x.length=y.length) (h4:x.length<=4096) (hs:Sv x 1000) (hn:1048577<=n):f25 n (vq x) (vq y)=some (decide (x=y)):=by
 unfold f25
 have h1:=Ag5 (n:=n) hl h4 hs hn (k0:=λz_4=>some z_4) (k1:=λ(_:Unit)=>some true) n 0 (by omega) (by omega)
 have h1:Xi n n (vq x) (vq y) 0 _ _=_:=h1;rw [Aw,Aw,hl,XM,QU,h1,ZQ,ZQ];by_cases e:x=y
 . rw [QJ e,QX e]
 . rw [QH e,QR e]

theorem Bap {x:List Rat} (h:Sv x 40):x.all Bn=true:=QG.2 λa ha=>Nm.2 (h a ha)

theorem Bd6 {n:Nat} {x y:List Rat} (hx:Sv x 40) (hy:Sv y 40) (h1:1<=x.length) (h4:x.length<=4) (hl:x.length=y.length) (hn:1048577<=n):f92 n (vq x) (vq y)=some 0:=by
 unfold f92;dsimp only
 rw [Aw,Aw,QR (by omega),QR (by omega),QU,QU,A9z hn,A0,Vx hx h1 h4,ZS,QU,A9z hn,A0,Vx hy (by omega) (by omega),ZS,QU,hl,XM,QU]

def Bq (x:Rat) (N D:Nat):Prop:=x.num.natAbs<=N/\x.den<=D

def Bv (x:List Rat) (N D:Nat):Prop:=∀ a ∈ x,Bq a N D

theorem Bq.sz {x:Rat} {N D:Nat} (h:Bq x N D) {L:Nat} (h1:N<10000 ^ L) (h2:D<10000 ^ L):Sz x L:=⟨Cx (by have:=h.1;omega),Cx (by have:=h.2;omega)⟩

theorem Bv.sz {x:List Rat} {N D:Nat} (h:Bv x N D) {L:Nat} (h1:N<10000 ^ L) (h2:D<10000 ^ L):Sv x L:=λa ha=>(h a ha).sz h1 h2

theorem Bq.mono {x:Rat} {N D N' D':Nat} (h:Bq x N D) (h1:N<=N') (h2:D<=D'):Bq x N' D':=⟨ZK h.1 h1,ZK h.2 h2⟩

theorem Bcl {s:Bool} {a d N D:Nat} (hd:0<d) (h1:a<=N) (h2:d<=D):Bq (mq s a d) N D:=by
 unfold Bq;rw [Af0 hd,Af1 hd];have e1:a / Nat.gcd a d<=a:=JO _ _;have e2:d / Nat.gcd a d<=d:=JO _ _;generalize a / Nat.gcd a d=q at *
 refine ⟨?_,by omega⟩
 cases s <;> simp <;> omega

theorem Bv.get {x:List Rat} {N D i:Nat} (hs:Bv x N D) (h:i<x.length):Bq (x.getD i 0) N D:=by
 refine hs _ ?_;rw [QL,QM h];exact KQ h

theorem Amb {n:Nat} {a b:Int} (ha:-10<=a/\a<=10) (hb:1<=b/\b<=9) (hn:1048577<=n):∃ x:Rat,f176 n a b=some (rq x,0)/\Bq x 10 9:=by
 unfold f176
 have la:(dg a.natAbs).length<=4:=Cx (by omega)
 have lb:(dg b.natAbs).length<=4:=Cx (by omega)
 rw [K2,A0,QX (by omega),K2,A0,QX (by omega),show (b==0)=false by rw [beq_eq_false_iff_ne];omega,A9u (by omega) hn,A0,A9u (by omega) hn,A0]
 dsimp only
 rw [Qm (L:=4) (show 0<b.natAbs by omega) la lb (by omega) (by omega),A0]
 exact ⟨_,rfl,Bcl (by omega) (by omega) (by omega)⟩

theorem B5t {n:Nat} {P:Int} {s:Jj} (h:D2 P s) (hP:P<=1099511620000) (hn:1048577<=n):∃ (x:Rat) (s':Jj),Ps n s=some (rq x,s')/\Bq x 10 9/\D2 (P+6) s':=by
 unfold Ps
 obtain ⟨a,s1,e1,r1,o1⟩:=A0i (n:=n) (k:=21) h (by omega) (by omega) (by omega)
 rw [e1,A0]
 obtain ⟨b,s2,e2,r2,o2⟩:=A0i (n:=n) (k:=6) o1 (by omega) (by omega) (by omega)
 rw [e2,A0];dsimp only
 rw [A8 (x:=a-10) (by omega) (by omega),A8 (x:=1+b) (by omega) (by omega)]
 obtain ⟨x,e3,z⟩:=Amb (n:=n) (a:=a-10) (b:=1+b) (by omega) (by omega) hn
 rw [e3,A0]
 exact ⟨x,s2,rfl,z,o2.1,o2.2.1,⟨o2.2.2.1.1,by have:=o2.2.2.1.2;show s2.2.1<=P+6;omega⟩,o2.2.2.2⟩

theorem B6d {l:List Int} (h:∀ x ∈ l,0<=x/\x<=255) (hl:l.length<=1048576):D2 0 (l,0,Int.tmod (l.length:Int) 1000) :=
 ⟨h,hl,⟨Int.le_refl _,Int.le_refl _⟩,by rw [Fq (by omega)];dsimp only;omega,by rw [Fq (by omega)];dsimp only;omega⟩

theorem Afx {α:Type} {n k:Nat} (hk:k<=1000) (hn:1048577<=n) {k0:List Rt->List Int->Int->Int->Option α}:∀ (m i:Nat) (P:Int) (o:List Rat) (s:Jj),D2 P s->P+6*(k-i:Nat)<=1099511620000->o.length=i->i<=k->k<i+m->Bv o 10 9 ->
  ∃ (x:List Rat) (s':Jj),x.length=k/\Bv x 10 9/\D2 (P+6*(k-i:Nat)) s'/\Jv n m (k:Int) (i:Int) (vq o) s.1 s.2.1 s.2.2 k0=k0 (vq x) s'.1 s'.2.1 s'.2.2
 | 0,i,P,o,s,h1,h2,h3,h4,h5,h6=>by omega
 | m+1,i,P,o,s,h1,h2,h3,h4,h5,h6=>by
  rw [Abe];unfold Sx;rw [QK];by_cases h:i<k
  . rw [QJ (by omega)]
    obtain ⟨a,s1,e1,r1,o1⟩:=B5t (n:=n) h1 (by omega) hn
    have e1:Ps n (s.1,s.2.1,s.2.2)=_:=e1
    rw [e1,A0,A3 (by simp;omega),A8 (x:=(i:Int)+1) (by omega) (by omega)]
    dsimp only
    obtain ⟨x,s',q1,q2,q3,q4⟩:=Afx hk hn (k0:=k0) m (i+1) (P+6) (o++[a]) s1 o1 (by omega) (by simp;omega) (by omega) (by omega) (λc hc=>by
     rcases QD.1 hc with hc | hc
     . exact h6 c hc
     . rw [QQ.1 hc];exact r1)
    refine ⟨x,s',q1,q2,?_,?_⟩
    . rw [show P+6*((k-i:Nat):Int)=P+6+6*((k-(i+1):Nat):Int) by omega];exact q3
    . rw [<- q4];simp [vq]
  . rw [QH (by omega)]
    exact ⟨o,s,by omega,h6,by rw [show ((k-i:Nat):Int)=0 by omega];simpa using h1,rfl⟩

theorem B8e {n k:Nat} {l:List Int} (h:∀ x ∈ l,0<=x/\x<=255) (hl:l.length<=1048576) (hk:k<=1000) (hn:1048577<=n):∃ x:List Rat,f21 n l (k:Int)=some (vq x)/\x.length=k/\Bv x 10 9:=by
 unfold f21 A91;rw [A0];unfold Aoo
 obtain ⟨x,s',q1,q2,_,q4⟩:=Afx (k:=k) hk hn (k0:=λz_2 z_3 z_4 z_5=>some (z_2,(z_3,z_4,z_5))) n 0 0 [] _ (B6d h hl) (by omega) rfl (by omega) (by omega) (λc hc=>by simp at hc)
 have q4:Jv n n (k:Int) 0 [] _ _ _ _=_:=q4;rw [q4,A0];exact ⟨x,rfl,q1,q2⟩

theorem Arp (c:Nat):rq (c:Rat)=(false,dg c,dg 1):=by
 unfold rq
 rw [Rat.num_natCast,Rat.den_natCast,YA,QR (by omega)]

theorem B7e {n c:Nat} (hc:c<=100) (hn:1048577<=n):f97 n (c:Int)=some (rq (c:Rat)):=by
 unfold f97
 rw [QR (by omega),QU,Rd (by omega) (by omega),A0,Arp,G3]
 rfl

theorem A7w {c:Nat} (hc:c<=100):Sz (c:Rat) 1:=by
 unfold Sz;rw [Rat.num_natCast,Rat.den_natCast,YA]
 exact ⟨Cx (by omega),Cx (by omega)⟩

def Fz:List Int->Int
 | []=>0
 | c::r=>if c=0 then Fz r else c

theorem Afs {n:Nat} {l:List Int} (hl:l.length<=1048576):∀ (m i:Nat),i<=l.length->l.length<i+m->A61 n m l (l.length:Int) (i:Int) (λz=>some z) (λ(_:Unit)=>some 0)=some (Fz (l.drop i))
 | 0,i,hi,hm=>by omega
 | m+1,i,hi,hm=>by
  rw [Az9];unfold A8w;rw [QK];by_cases h:i<l.length
  . have hx : l.drop i = l.getD i 0 :: l.drop (i + 1) := by
     rw [XS h];simp [QL,h]
    rw [QJ (by omega),A3 (by simp;try omega),QP,hx]
    unfold Fz;by_cases c:l.getD i 0=0
    . rw [c,XM,QU,QJ rfl,A8 (x:=(i:Int)+1) (by omega) (by omega)]
      exact Afs hl m (i+1) (by omega) (by omega)
    . rw [QH c,show (l.getD i 0 != 0)=true by rw [bne_iff_ne];exact c,ZR]
  . rw [QH (by omega),QY (by omega)];rfl

theorem Is {n:Nat} {l:List Int} (hl:l.length<=1048576) (hn:1048577<=n):f70 n l=some (Fz l):=by
 unfold f70
 have:=Afs (n:=n) hl n 0 (by omega) (by omega)
 simpa using this

def Im (L:List (List Rt)):Bool:=L.any λv=>decide (4096<v.length)

theorem Zm {n:Nat} {L:List (List Rt)} (hl:L.length<=1048576) (hn:1048577<=n):f71 n L=some (if Im L=true then 2 else 0):=by
 obtain ⟨c,h1,h2⟩:=B7q (n:=n) hl hn;rw [h1];rcases h2 with ⟨rfl,h⟩ | ⟨rfl,v,hv,h⟩
 . rw [QH];intro c;obtain ⟨v,hv,h3⟩:=ZH.1 c;have:=h v hv;have:=Qat h3;omega
 . rw [QJ];exact ZH.2 ⟨v,hv,QX h⟩

theorem A8q {n:Nat} {x:Rat} (h:Sz x 1000000):f73 n (rq x)=some (rq x):=by
 obtain ⟨h1,h2⟩:=h;unfold f73 rq;dsimp only
 rw [K7 n (by omega),A0,K7 n (by omega),A0]

theorem Rl {α:Type} {n:Nat} {s1:List Rt × Int} {g:Nat->Rat} {N:Nat} (hN:N<=4096) (hg:∀ i,i<N->f136 n (i:Int) s1.1 s1.2=some (rq (g i))/\Sz (g i) 1000000) {k0:List Rt->Option α}:∀ (m i:Nat),i<=N->N<i+m ->
  Kn n m s1 (N:Int) (i:Int) (vq ((List.range i).map g)) k0=k0 (vq ((List.range N).map g))
 | 0,i,hi,hm=>by omega
 | m+1,i,hi,hm=>by
  rw [Ad4];unfold Oo;rw [QK];by_cases h:i<N
  . rw [QJ (by omega),(hg i h).1,A0,A8q (hg i h).2,A0,A3 (by simp [vq];omega)]
    have e:vq ((List.range i).map g)++[rq (g i)]=vq ((List.range (i+1)).map g):=by simp [vq,KB]
    rw [e,A8 (x:=(i:Int)+1) (by omega) (by omega)]
    exact Rl hN hg m (i+1) (by omega) (by omega)
  . obtain rfl:i=N:=by omega
    rw [QH (by omega)]

theorem Ai3 {n:Nat} {s1:List Rt × Int} {g:Nat->Rat} {N:Nat} (hN:N<=4096) (hg:∀ i,i<N->f136 n (i:Int) s1.1 s1.2=some (rq (g i))/\Sz (g i) 1000000) (hn:1048577<=n):Ui n (N:Int) s1=some (vq ((List.range N).map g)):=by
 unfold Ui
 exact Rl (n:=n) hN hg n 0 (by omega) (by omega)

theorem Rm {α:Type} {n:Nat} {s1:List Rt × Int × List Rt} {g:Nat->Rat} {N:Nat} (hN:N<=4096) (hg:∀ i,i<N->f132 n (i:Int) s1.1 s1.2.1 s1.2.2=some (rq (g i))/\Sz (g i) 1000000) {k0:List Rt->Option α}:∀ (m i:Nat),i<=N->N<i+m ->
  Ko n m s1 (N:Int) (i:Int) (vq ((List.range i).map g)) k0=k0 (vq ((List.range N).map g))
 | 0,i,hi,hm=>by omega
 | m+1,i,hi,hm=>by
  rw [Ad6];unfold Ot;rw [QK];by_cases h:i<N
  . rw [QJ (by omega),(hg i h).1,A0,A8q (hg i h).2,A0,A3 (by simp [vq];omega)]
    have e:vq ((List.range i).map g)++[rq (g i)]=vq ((List.range (i+1)).map g):=by simp [vq,KB]
    rw [e,A8 (x:=(i:Int)+1) (by omega) (by omega)]
    exact Rm hN hg m (i+1) (by omega) (by omega)
  . obtain rfl:i=N:=by omega
    rw [QH (by omega)]

theorem Ai4 {n:Nat} {s1:List Rt × Int × List Rt} {g:Nat->Rat} {N:Nat} (hN:N<=4096) (hg:∀ i,i<N->f132 n (i:Int) s1.1 s1.2.1 s1.2.2=some (rq (g i))/\Sz (g i) 1000000) (hn:1048577<=n):Uk n (N:Int) s1=some (vq ((List.range N).map g)):=by
 unfold Uk
 exact Rm (n:=n) hN hg n 0 (by omega) (by omega)

theorem B7a {c d:Int}:Fz [c,d]=if c=0 then d else c:=by
 unfold Fz Fz Fz;split
 . split
   . rename_i h;exact h.symm
   . rfl
 . rfl

theorem Vk {n:Nat} {L:List (List Rt)} {a:Int} (hl:L.length<=1048576) (hn:1048577<=n):∀ (m i:Nat),i<=L.length->L.length<i+m->∃ r,He n m L a (L.length:Int) (i:Int) (λz=>some z) (λ(_:Unit)=>some (-1))=some r/\decide (r>=0) = !((L.drop i).all λv=>Qo v a)
 | 0,i,hi,hm=>by omega
 | m+1,i,hi,hm=>by
  rw [Acv];unfold O8;dsimp only;rw [QK];by_cases h:i<L.length
  . rw [QJ (by omega),A3 (by simp;try omega)]
    simp only [QP]
    have e:f134 n (L.getD i []) a=some (!Qo (L.getD i []) a):=by
     unfold f134;rw [B56 hn,A0]
    rw [e,A0,Rz h []]
    cases hp:Qo (L.getD i []) a with
    | true =>
     rw [A8 (x:=(i:Int)+1) (by omega) (by omega)]
     simp only [ZS,QU,ZY]
     exact Vk hl hn m (i+1) (by omega) (by omega)
    | false=>exact ⟨i,rfl,by simp⟩
  . rw [QH (by omega),QY (by omega)]
    exact ⟨-1,rfl,rfl⟩

theorem Akb {n:Nat} {L:List (List Rt)} {a:Int} (hl:L.length<=1048576) (hn:1048577<=n):U5 n L a=some (!(L.all λv=>Qo v a)):=by
 unfold U5 A36
 obtain ⟨r,h1,h2⟩:=Vk (n:=n) (L:=L) (a:=a) hl hn n 0 (by omega) (by omega)
 have h1:He n n L a (L.length:Int) 0 _ _=_:=h1;rw [h1,A0,h2,ZQ]

def Af5 (a:Int) (L:List (List Rt)):Int:=if Im L=true then 2 else if (L.all λv=>Qo v a)=true then 0 else 1

theorem E7 {n:Nat} {b:Bool} {c:Int}:f111 n b c=some (if b=true then 0 else c):=by
 unfold f111;cases b <;> rfl

theorem Alo {n:Nat} {L:List (List Rt)} {a:Int} (hl:L.length<=1048576) (hn:1048577<=n):f85 n a L=some (Af5 a L):=by
 unfold f85 Af5
 rw [Zm hl hn,A0,Akb hl hn,A0,E7,A0,Is (by simp) hn,A0,B7a]
 by_cases e:Im L=true
 . rw [QJ e,QJ e];rfl
 . rw [QH e,QH e,QJ rfl]
   cases L.all λv=>Qo v a <;> rfl

theorem Wn {a:Nat} (h:a<=1000000):W (a:Int)=(a:Int):=A8 (by omega) (by omega)

theorem Wm {a b:Nat} (h:a*b<=1000000):W ((a:Int)*(b:Int))=((a*b:Nat):Int):=by
 rw [<- XW];exact Wn h

theorem Wa {a b:Nat} (h:a+b<=1000000):W ((a:Int)+(b:Int))=((a+b:Nat):Int):=by
 rw [<- KY];exact Wn h

theorem W1 {a:Nat} (h:a<=1000000):W ((a:Int)+1)=((a+1:Nat):Int):=A8 (by omega) (by omega)

theorem B71 {k i j:Nat} (hi:i<k) (hj:j<k):j*k+i<k*k:=by
 have h1:(j+1)*k<=k*k:=XF k hj;rw [JH] at h1;omega

theorem Ao1 {k:Nat} (h:k<=4):k*k<=16:=by have:=ZZ h h;omega

theorem Bd5 {k p:Nat} (h:p<k*k):p % k<k/\p / k<k:=by
 have hk:0<k:=by
  rcases YR k with h0 | h0
  . subst h0;omega
  . exact h0
 exact ⟨KJ p hk,Nat.div_lt_of_lt_mul h⟩

theorem B26 {X:List Rat} {i:Nat} (h:i<X.length):(vq X).getD i (false,[],[])=rq (X.getD i 0):=F6 h

def A8d (X:List Rat) (k:Nat):List Rat:=(List.range (k*k)).map λp=>X.getD (p % k*k+p / k) 0

theorem B68 {X:List Rat} {L i:Nat} (h:Sv X L):Sz (X.getD i 0) (L+1):=by
 by_cases c:i<X.length
 . exact (h.get c).mono (by omega)
 . have:X.getD i 0=0:=by simp [QL,KL (Nat.le_of_not_lt c)]
   rw [this]
   exact Cc.mono (by omega)

theorem B54 {n k p:Nat} {X:List Rat} (hX:Sv X 40) (hl:X.length=k*k) (hk:k<=4) (hp:p<k*k):f136 n (p:Int) (vq X) (k:Int)=some (rq (X.getD (p % k*k+p / k) 0)):=by
 obtain ⟨h1,h2⟩:=Bd5 hp;have h3:=B71 h2 h1;have h4:=Ao1 hk
 have hne:(k:Int) ≠ 0:=by omega
 unfold f136
 rw [A3 (by simpa using hne),A3 (by simpa using hne),<- Int.ofNat_tmod,<- Int.ofNat_tdiv]
 generalize p % k=u at *;generalize p / k=v at *
 rw [Wm (by omega),Wn (by omega),Wa (by omega),A3 (by simp [Aw];omega),QP]
 dsimp only
 rw [B26 (by omega)]

theorem Bb6 {n k:Nat} {X:List Rat} (hX:Sv X 40) (hl:X.length=k*k) (hk:k<=4):∀ p,p<k*k->f136 n (p:Int) (vq X,(k:Int)).1 (vq X,(k:Int)).2=some (rq (X.getD (p % k*k+p / k) 0))/\Sz (X.getD (p % k*k+p / k) 0) 1000000:=λp hp =>
 ⟨B54 hX hl hk hp,(B68 hX).mono (by omega)⟩

theorem B75 {n k:Nat} {X:List Rat} (hX:Sv X 40) (hl:X.length=k*k) (hk:k<=4) (hn:1048577<=n):f86 n (vq X) (k:Int)=some (vq (A8d X k)):=by
 have h4:=Ao1 hk;unfold f86
 rw [Wm (by omega),Ai3 (s1:=(vq X,(k:Int))) (by omega) (Bb6 hX hl hk) hn]
 rfl

theorem Avx {n:Nat} (hn:1048577<=n):f131 n 0=some (rq 0):=by
 unfold f131
 rw [QR (by omega),QU,show (0:Int)=((0:Nat):Int) from rfl,Qz (by omega) (by omega),A0,Al1,Bx,G3]

theorem An4:∀ {x y:List Rat} {acc:Rat} {i:Nat},Sv x 40->Sv y 40->Sz acc (82*2 ^ i-1)->i+x.length<=4->Sz (Bk acc x y) 1311
 | [],_,acc,i,_,_,h,hl=>by
  have hp:2 ^ i<=2 ^ 4:=XP (by omega) (by simp at hl;omega)
  exact h.mono (by rw [show (2:Nat) ^ 4=16 from rfl] at hp;omega)
 | p::x,[],acc,i,_,_,h,hl=>by
  have hp:2 ^ i<=2 ^ 4:=XP (by omega) (by omega)
  exact h.mono (by rw [show (2:Nat) ^ 4=16 from rfl] at hp;omega)
 | p::x,q::y,acc,i,hx,hy,h,hl=>by
  have hp1:1<=2 ^ i:=JP
  have h1:Sz (p*q) 81:=Axo (hx p (by simp)) (hy q (by simp))
  have h2:Sz (acc+p*q) (82*2 ^ (i+1)-1):=(Axp h (h1.mono (by omega))).mono (by rw [YE];omega)
  simp only [ZF] at hl
  exact An4 (x:=x) (y:=y) (λa ha=>hx a (by simp [ha])) (λa ha=>hy a (by simp [ha])) h2 (by omega)

theorem Bar {x y:List Rat} (hx:Sv x 40) (hy:Sv y 40) (hl:x.length<=4):Sz (Bk 0 x y) 1311:=An4 (i:=0) hx hy (Cc.mono (by omega)) (by omega)

def Q8 (X:List Rat) (k i:Nat):List Rat:=(X.drop (i*k)).take k

theorem B6m {X:List Rat} {k i:Nat}:((vq X).drop (i*k)).take ((i+1)*k-i*k)=vq (Q8 X k i):=by
 rw [show (i+1)*k-i*k=k by rw [JH];omega]
 simp [vq,Q8,KF,JB]

theorem A88 {X:List Rat} {k i:Nat} (hl:X.length=k*k) (hi:i<k):(Q8 X k i).length=k:=by
 have:(i+1)*k<=k*k:=XF k hi;rw [JH] at this;simp [Q8];omega

theorem Axq {X:List Rat} {k i L:Nat} (h:Sv X L):Sv (Q8 X k i) L:=λa ha=>h a (Qbe (Qaa ha))

theorem Arr {k i:Nat} (hi:i<k):(i+1)*k<=k*k:=XF k hi

theorem Bb5 {k i N:Nat} (hi:i<k) (hN:N=k*k):(decide (0<=((i*k:Nat):Int))&&decide (((i*k:Nat):Int)<=(((i+1)*k:Nat):Int))&&decide ((((i+1)*k:Nat):Int)<=(N:Int)))=true:=by
 have h1:=Arr hi;have h2:(i+1)*k=i*k+k:=JH i k;generalize (i+1)*k=u at *;generalize i*k=v at *;generalize k*k=w at *;simp;omega

def mvR (A X:List Rat):List Rat:=(List.range X.length).map λi=>Bk 0 (Q8 A X.length i) X

theorem B59 {n i:Nat} {A X:List Rat} (hA:Sv A 40) (hX:Sv X 40) (hl:A.length=X.length*X.length) (h4:X.length<=4) (hi:i<X.length) (hn:1048577<=n) :
  f132 n (i:Int) (vq A) (X.length:Int) (vq X)=some (rq (Bk 0 (Q8 A X.length i) X)):=by
 have h16:=Ao1 h4;have h1:=Arr hi;have h2:(i+1)*X.length=i*X.length+X.length:=JH i _;unfold f132
 rw [W1 (by omega),Wm (by omega),Wm (by omega),Aw,A3 (Bb5 hi hl),QP,QP,B6m,Bba (Axq hA) hX (A88 hl hi) (by rw [A88 hl hi];exact h4) hn,A0]

def mvC (A x:List Rt):Int:=if Im [A,x]=true then 2 else if (P8 x&&Qo A (x.length:Int))=true then 0 else 1

theorem Bd1 {a b c:Int}:Fz [a,b,c]=if a=0 then (if b=0 then c else b) else a:=by
 rw [<- B7a (c:=b) (d:=c)];rfl

theorem B7l {n:Nat} {A x:List Rt} (hn:1048577<=n):f83 n A x=some (mvC A x):=by
 unfold f83 mvC
 rw [Zm (by simp) hn,A0,A9w hn,A0,E7,A0,Alo (by simp) hn,A0,Is (by simp) hn,A0,Bd1]
 by_cases e:Im [A,x]=true
 . rw [QJ e,QJ e];rfl
 . have e2 : ¬ Im [A] = true := by
    unfold Im at e ⊢;simp at e ⊢;omega
   rw [QH e,QH e,QJ rfl];unfold Af5;rw [QH e2]
   cases P8 x <;> cases hm:Qo A (x.length:Int) <;> simp [hm]

def Adw (w:Nat) (row:List Rt) (v:Nat->Rat):Prop:=row.length=w /\ ∀ c,c<w->row.getD c rt0=rq (v c)

def Aj8 (m w:Nat) (R:List (List Rt)) (M:Nat->Nat->Rat):Prop:=R.length=m /\ ∀ r,r<m->Adw w (R.getD r []) (M r)

def SzM (M:Nat->Nat->Rat) (L:Nat):Prop:=∀ r c,Sz (M r c) L

theorem SzM.mono {M:Nat->Nat->Rat} {L L':Nat} (h:SzM M L) (hL:L<=L'):SzM M L':=λr c=>(h r c).mono hL

theorem Adw.congr {w:Nat} {row:List Rt} {u v:Nat->Rat} (h:Adw w row u) (e:∀ c,c<w->u c=v c):Adw w row v:=⟨h.1,λc hc=>by rw [h.2 c hc,e c hc]⟩

theorem Aj8.congr {m w:Nat} {R:List (List Rt)} {M M':Nat->Nat->Rat} (h:Aj8 m w R M) (e:∀ r c,r<m->c<w->M r c=M' r c):Aj8 m w R M':=⟨h.1,λr hr=>(h.2 r hr).congr λc hc=>e r c hr hc⟩

structure Aaj (m:Nat) (a b:List Rt) (M:Nat->Nat->Rat):Prop where
 la:a.length=m*m
 lb:b.length=m
 at_:∀ r c,r<m->c<m->a.getD (r*m+c) rt0=rq (M r c)
 bt:∀ r,r<m->b.getD r rt0=rq (M r m)

theorem Aaj.congr {m:Nat} {a b:List Rt} {M M':Nat->Nat->Rat} (h:Aaj m a b M) (e:∀ r c,r<m->c<=m->M r c=M' r c):Aaj m a b M' :=
 ⟨h.la,h.lb,λr c hr hc=>by rw [h.at_ r c hr hc,e r c hr (by omega)],λr hr=>by rw [h.bt r hr,e r m hr (QZ _)]⟩

theorem S1 {L:Nat} (h:1<=L):Sz (1:Rat) L:=(A7w (c:=1) (by omega)).mono h

theorem Arq (a:Int):rq (a:Rat)=(decide (a<0),dg a.natAbs,dg 1):=by
 unfold rq;rw [Rat.num_intCast,Rat.den_intCast]

theorem A56 {n:Nat} {a:Int} (h:-1000000000<=a/\a<=1000000000) (hn:1048577<=n):f131 n a=some (rq (a:Rat)):=by rw [A9u h hn,Arq]

theorem B6v {X:List Rat} {k:Nat} (hX:Sv X 40) (hl:X.length=k*k) (h1:1<=k) (h4:k<=4):Qo (vq X) (k:Int)=true:=by
 unfold Qo;simp only [QF,QO,KR]
 refine ⟨⟨by omega,?_⟩,QG.2 λr hr=>?_⟩
 . rw [Aw,hl,<- XW]
 . obtain ⟨x,hx,rfl⟩:=ZG.1 hr;exact Aem (hX x hx)

theorem Ayg {X:List Rat} {k:Nat} (hX:Sv X 40) (hl:X.length=k*k) (h1:1<=k) (h4:k<=4):Af5 (k:Int) [vq X]=0:=by
 have h16:=Ao1 h4;unfold Af5 Im
 rw [QH (by simp;omega),QJ (by simp [B6v hX hl h1 h4])]

theorem Ao5 {n:Nat} {x:Rat}:f98 n (rq x)=some (Bn x):=by
 unfold f98 Bn rq;dsimp only;rw [QK];by_cases h:(dg x.num.natAbs).length<=40
 . rw [QJ (by omega),QX h,ZY]
   by_cases c:(dg x.den).length<=40
   . rw [QX c,QX (by omega)]
   . rw [QR c,QR (by omega)]
 . rw [QH (by omega),QR h];rfl

theorem Ade {n:Nat} {x:Rat}:f145 n (rq x)=some (Bn x):=by
 unfold f145 Bn rq;dsimp only;rw [QK];by_cases h:(dg x.num.natAbs).length<=40
 . rw [QJ (by omega),QX h,ZY]
   by_cases c:(dg x.den).length<=40
   . rw [QX c,QX (by omega)]
   . rw [QR c,QR (by omega)]
 . rw [QH (by omega),QR h];rfl

theorem B74 {n k:Nat} {X:List Rat} (hX:Sv X 40) (hl:X.length=k*k) (h1:1<=k) (h4:k<=4) (hn:1048577<=n):f38 n (vq X) (k:Int)=some (vq (A8d X k),0):=by
 unfold f38
 rw [Alo (by simp) hn,A0,Ayg hX hl h1 h4,XM,QU,B75 hX hl h4 hn,A0]

theorem Cu {x y:Rat} {L K:Nat} (hx:Sz x L) (hy:Sz y K):Sz (x+y) (L+K+1):=by
 obtain ⟨x1,x2⟩:=hx;obtain ⟨y1,y2⟩:=hy;have l1:=B0 x.num.natAbs y.den;have l2:=B0 y.num.natAbs x.den;have l3:=B0 x.den y.den;have l4:=Ze (x.num.natAbs*y.den) (y.num.natAbs*x.den);have hd:0<x.den*y.den:=YZ (XA x.den_nz) (XA y.den_nz);by_cases hs:decide (x.num<0)=decide (y.num<0)
 . rw [V6 hs];exact Mn hd (by omega) (by omega)
 . by_cases hle:y.num.natAbs*x.den<=x.num.natAbs*y.den
   . have l5:=B5 (Qab (x.num.natAbs*y.den) (y.num.natAbs*x.den))
     rw [Ln hs hle];exact Mn hd (by omega) (by omega)
   . have l5:=B5 (Qab (y.num.natAbs*x.den) (x.num.natAbs*y.den))
     rw [Rat.add_comm,Ln (λe=>hs e.symm) (by omega),KD y.den x.den];exact Mn hd (by omega) (by omega)

theorem Ad {x y:Rat} {L K:Nat} (hx:Sz x L) (hy:Sz y K):Sz (x*y) (L+K+1):=by
 obtain ⟨x1,x2⟩:=hx;obtain ⟨y1,y2⟩:=hy;have l1:=B0 x.num.natAbs y.num.natAbs;have l3:=B0 x.den y.den;rw [A5g]
 exact Mn (YZ (XA x.den_nz) (XA y.den_nz)) (by omega) (by omega)

theorem B66 {x y:Rat} {L K:Nat} (hx:Sz x L) (hy:Sz y K) (hy0:y ≠ 0):Sz (x / y) (L+K+1):=by
 obtain ⟨x1,x2⟩:=hx;obtain ⟨y1,y2⟩:=hy;have l1:=B0 x.num.natAbs y.den;have l3:=B0 x.den y.num.natAbs;have hyn:y.num ≠ 0:=λe=>hy0 (JA.1 e);rw [Aic hy0]
 exact Mn (YZ (XA x.den_nz) (by omega)) (by omega) (by omega)

theorem B2z {n:Nat} (hn:1048577<=n):f97 n 0=some (rq 0):=B7e (c:=0) (by omega) hn

def Bct (M:Nat->Nat->Rat) (m i:Nat):List Rat:=(List.range m).map (M i)

def bsV (M:Nat->Nat->Rat) (m i:Nat) (X:List Rat):Rat:=(M i m-Bk 0 (Bct M m i) X) / M i i

def bs (M:Nat->Nat->Rat) (m:Nat):Nat->List Rat->List Rat
 | 0,X=>X
 | i+1,X=>bs M m i (X.set i (bsV M m i X))

theorem Akt {i:Nat}:vq (List.replicate i 0)++[rq 0]=vq (List.replicate (i+1) 0):=by
 rw [List.replicate_succ'];simp [vq]

theorem Vf {α:Type} {n m:Nat} (hm:m<=1000) (hn:1048577<=n) {k0:List Rt->Option α}:∀ (fu i:Nat),i<=m->m<i+fu->Zq n fu (m:Int) (i:Int) (vq (List.replicate i 0)) k0=k0 (vq (List.replicate m 0))
 | 0,i,h1,h2=>by omega
 | fu+1,i,h1,h2=>by
  rw [Ate];unfold A22;rw [QK];by_cases h:i<m
  . rw [QJ (by omega),B2z hn,A0,A3 (by simp;omega),W1 (by omega),Akt]
    exact Vf hm hn fu (i+1) (by omega) (by omega)
  . obtain rfl:i=m:=by omega
    rw [QH (by omega)]

theorem Afd {n m:Nat} (hm:m<=1000) (hn:1048577<=n):A23 n (m:Int)=some (vq (List.replicate m 0)):=by
 unfold A23
 exact Vf (n:=n) (k0:=λz=>some z) hm hn n 0 (by omega) (by omega)

theorem Va {α:Type} {n m:Nat} (hm:m<=1000) (hn:1048577<=n) {k0:List Rt->Option α}:∀ (fu i:Nat),i<=m->m<i+fu->Ud n fu (m:Int) (i:Int) (vq (List.replicate i 0)) k0=k0 (vq (List.replicate m 0))
 | 0,i,h1,h2=>by omega
 | fu+1,i,h1,h2=>by
  rw [Aqh];unfold Ym;rw [QK];by_cases h:i<m
  . rw [QJ (by omega),Avx hn,A0,A3 (by simp;omega),W1 (by omega),Akt]
    exact Va hm hn fu (i+1) (by omega) (by omega)
  . obtain rfl:i=m:=by omega
    rw [QH (by omega)]

theorem Ay2 {n m:Nat} (hm:m<=1000) (hn:1048577<=n):Adr n (m:Int)=some (vq (List.replicate m 0)):=by
 unfold Adr
 exact Va (n:=n) (k0:=λz=>some z) hm hn n 0 (by omega) (by omega)

theorem Hs:∀ (x y:List Rat) (a:Rat),Bk a x y=a+Bk 0 x y
 | [],_,a=>by simp [Bk,JX]
 | p::x,[],a=>by simp [Bk,JX]
 | p::x,q::y,a=>by
  simp only [Bk];rw [Hs x y (a+p*q),Hs x y (0+p*q)];grind

theorem Bb9 {n:Nat} {A X:List Rat} (hA:Sv A 40) (hX:Sv X 40) (hl:A.length=X.length*X.length) (h4:X.length<=4) (hn:1048577<=n):f84 n (vq A) (vq X)=some (vq (mvR A X)):=by
 have g:∀ i,i<X.length->f132 n (i:Int) (vq A,(X.length:Int),vq X).1 (vq A,(X.length:Int),vq X).2.1 (vq A,(X.length:Int),vq X).2.2=some (rq (Bk 0 (Q8 A X.length i) X))/\Sz (Bk 0 (Q8 A X.length i) X) 1000000:=λi hi =>
  ⟨B59 hA hX hl h4 hi hn,(Bar (Axq hA) hX (by rw [A88 hl hi];exact h4)).mono (by omega)⟩
 unfold f84
 rw [Aw,Ai4 (s1:=(vq A,(X.length:Int),vq X)) (by omega) g hn]
 rfl

theorem Acg:∀ (x y:List Rat),Bk 0 x y=Bk 0 y x
 | [],[]=>rfl
 | [],_::_=>rfl
 | _::_,[]=>rfl
 | p::x,q::y=>by
  simp only [Bk];rw [Hs,Hs y,Acg x y];grind

theorem Uo:∀ (x:List Rat),0<=Bk 0 x x
 | []=>by simp only [Bk];exact Rat.le_refl
 | p::x=>by
  have:=Uo x
  have h2:(0:Rat)<=p*p:=by
   rcases Rat.le_total (a:=0) (b:=p) with h | h
   . exact Qbn h h
   . have:=Qbn (a:=-p) (b:=-p) (by grind) (by grind)
     grind
  simp only [Bk];rw [Hs];grind

theorem Anh (p:Rat):0<=p*p:=by
 rcases Rat.le_total (a:=0) (b:=p) with h | h
 . exact Qbn h h
 . have:=Qbn (a:=-p) (b:=-p) (by grind) (by grind)
   grind

theorem Aib:∀ {x:List Rat},Bk 0 x x=0->∀ i,x.getD i 0=0
 | [],_,i=>by simp
 | p::x,h,i=>by
  simp only [Bk] at h;rw [Hs] at h;have h1:=Uo x;have h2:=Anh p
  have h3:Bk 0 x x=0:=by grind
  have h4:p*p=0:=by grind
  have h5:p=0:=by rcases Rat.mul_eq_zero.1 h4 with h | h <;> exact h
  cases i with
  | zero=>simpa using h5
  | succ i=>simpa using Aib h3 i

theorem Acf:∀ {x:List Rat} (z:List Rat),(∀ i,x.getD i 0=0)->Bk 0 x z=0
 | [],_,_=>rfl
 | p::x,[],_=>rfl
 | p::x,c::z,h=>by
  have h0:p=0:=by simpa using h 0
  have h1:=Acf (x:=x) z λi=>by simpa using h (i+1)
  simp only [Bk];rw [Hs,h1,h0];grind

structure Pd (A:List Rat) (k:Nat):Prop where
 sa:∀ X Y,X.length=k->Y.length=k->Bk 0 (mvR A X) Y=Bk 0 X (mvR A Y)
 pd:∀ X,X.length=k->Bk 0 X X<=Bk 0 X (mvR A X)

structure CgI (A R D:List Rat) (k:Nat):Prop where
 lR:R.length=k
 lD:D.length=k
 i1:Bk 0 R D=Bk 0 R R
 i2:Bk 0 R (mvR A D)=Bk 0 D (mvR A D)

theorem CgI.p {A R D:List Rat} {k:Nat} (h:CgI A R D k) (hA:Pd A k) (hr:Bk 0 R R ≠ 0):Bk 0 D (mvR A D) ≠ 0:=by
 intro e;have h1:=hA.pd D h.lD;have h2:=Uo D
 have h3:Bk 0 D D=0:=by grind
 have h4:=Acf R (Aib h3);rw [Acg,h.i1] at h4;exact hr h4

structure Q4 where
 f:Rat
 a:Rat
 v:Rat
 c:Rat

theorem Q4.ext' {p q:Q4} (h1:p.f=q.f) (h2:p.a=q.a) (h3:p.v=q.v) (h4:p.c=q.c):p=q:=by
 cases p;cases q;simp only at h1 h2 h3 h4;rw [h1,h2,h3,h4]

def Q4.cst (k:Rat):Q4:=⟨k,0,0,0⟩

def Q4.add (p q:Q4):Q4:=⟨p.f+q.f,p.a+q.a,p.v+q.v,p.c+q.c⟩

def Q4.neg (p:Q4):Q4:=⟨-p.f,-p.a,-p.v,-p.c⟩

def Q4.mul (p q:Q4):Q4:=⟨p.f*q.f,p.a*q.f+p.f*q.a,p.v*q.f+p.f*q.v,p.c*q.f+p.f*q.c+(p.a*q.v+p.v*q.a)⟩

def Q4.inv (p:Q4):Q4:=⟨1 / p.f,-(p.a*(1 / p.f*(1 / p.f))),-(p.v*(1 / p.f*(1 / p.f))),2*(1 / p.f*(1 / p.f)*(1 / p.f))*(p.a*p.v)-p.c*(1 / p.f*(1 / p.f))⟩

def Q4.pow (p:Q4):Nat->Q4
 | 0=>cst 1
 | n+1=>mul (pow p n) p

def Q4.d1 (f:Rat):Nat->Rat
 | 0=>0
 | n+1=>f ^ n*((n+1:Nat):Rat)

def Q4.d2 (f:Rat):Nat->Rat
 | 0=>0
 | 1=>0
 | n+2=>f ^ n*(((n+2)*(n+1):Nat):Rat)

theorem Q4.d1_suc (f:Rat) (n:Nat):d1 f (n+1)=d1 f n*f+f ^ n:=by
 cases n with
 | zero=>simp [d1];grind
 | succ n=>simp only [d1,Rat.pow_succ];push_cast;grind

theorem Q4.d2_suc (f:Rat) (n:Nat):d2 f (n+1)=d2 f n*f+2*d1 f n:=by
 match n with
 | 0=>simp [d2,d1];grind
 | 1=>simp [d2,d1];grind
 | n+2=>simp only [d2,d1,Rat.pow_succ];push_cast;grind

theorem Q4.pow_eq (p:Q4):∀ n,pow p n=⟨p.f ^ n,d1 p.f n*p.a,d1 p.f n*p.v,d2 p.f n*p.a*p.v+d1 p.f n*p.c⟩
 | 0=>by simp [pow,cst,d1,d2];grind
 | n+1=>by
  rw [pow,pow_eq p n];simp only [mul];refine ext' ?_ ?_ ?_ ?_
  . simp only [Rat.pow_succ]
  . simp only [d1_suc];grind
  . simp only [d1_suc];grind
  . simp only [d1_suc,d2_suc];grind

structure Z4 where
 f:Int
 a:Int
 v:Int
 c:Int

def Z4.q (p:Z4):Q4:=⟨(p.f:Rat),(p.a:Rat),(p.v:Rat),(p.c:Rat)⟩

def Z4.n (p:Z4):Nat:=p.f.natAbs+p.a.natAbs+p.v.natAbs+p.c.natAbs

def Z4.add (p q:Z4):Z4:=⟨p.f+q.f,p.a+q.a,p.v+q.v,p.c+q.c⟩

def Z4.mul (p q:Z4):Z4:=⟨p.f*q.f,p.a*q.f+p.f*q.a,p.v*q.f+p.f*q.v,p.c*q.f+p.f*q.c+(p.a*q.v+p.v*q.a)⟩

theorem Z4.q_mul (p q:Z4):(mul p q).q=Q4.mul p.q q.q:=by
 refine Q4.ext' ?_ ?_ ?_ ?_ <;> simp only [Z4.q,mul,Q4.mul] <;> push_cast <;> rfl

theorem Z4.q_add (p q:Z4):(add p q).q=Q4.add p.q q.q:=by
 refine Q4.ext' ?_ ?_ ?_ ?_ <;> simp only [Z4.q,add,Q4.add] <;> push_cast <;> rfl

theorem Z4.n_add (p q:Z4):(add p q).n<=p.n+q.n:=by
 have h1:=YJ p.f q.f;have h2:=YJ p.a q.a;have h3:=YJ p.v q.v;have h4:=YJ p.c q.c;simp only [n,add];omega

theorem Z4.n_mul (p q:Z4):(mul p q).n<=p.n*q.n:=by
 have h2:=YJ (p.a*q.f) (p.f*q.a);have h3:=YJ (p.v*q.f) (p.f*q.v);have h4:=YJ (p.c*q.f+p.f*q.c) (p.a*q.v+p.v*q.a);have h5:=YJ (p.c*q.f) (p.f*q.c);have h6:=YJ (p.a*q.v) (p.v*q.a);simp only [n,mul,YO,Nat.mul_add,XX] at *;generalize p.f.natAbs*q.f.natAbs=x1 at *;generalize p.a.natAbs*q.f.natAbs=x2 at *;generalize p.f.natAbs*q.a.natAbs=x3 at *;generalize p.v.natAbs*q.f.natAbs=x4 at *;generalize p.f.natAbs*q.v.natAbs=x5 at *;generalize p.c.natAbs*q.f.natAbs=x6 at *;generalize p.f.natAbs*q.c.natAbs=x7 at *;generalize p.a.natAbs*q.v.natAbs=x8 at *;generalize p.v.natAbs*q.a.natAbs=x9 at *;omega

def C6 (q:Q4) (M:Nat):Prop:=∃ P Q:Z4,Q.f ≠ 0/\Q4.mul q Q.q=P.q/\P.n<=M/\Q.n<=M

theorem C6.mono {q:Q4} {M N:Nat} (h:C6 q M) (hN:M<=N):C6 q N:=by
 obtain ⟨P,Q,h1,h2,h3,h4⟩:=h;exact ⟨P,Q,h1,h2,ZK h3 hN,ZK h4 hN⟩

theorem Q4.mul_comm (p q:Q4):mul p q=mul q p:=by
 refine ext' ?_ ?_ ?_ ?_ <;> simp only [mul] <;> grind

theorem Q4.mul_assoc (p q r:Q4):mul (mul p q) r=mul p (mul q r):=by
 refine ext' ?_ ?_ ?_ ?_ <;> simp only [mul] <;> grind

theorem Q4.add_mul (p q r:Q4):mul (add p q) r=add (mul p r) (mul q r):=by
 refine ext' ?_ ?_ ?_ ?_ <;> simp only [mul,add] <;> grind

theorem Q4.neg_mul (p r:Q4):mul (neg p) r=neg (mul p r):=by
 refine ext' ?_ ?_ ?_ ?_ <;> simp only [mul,neg] <;> grind

theorem Q4.inv_mul (p:Q4) (h:p.f ≠ 0):mul (inv p) p=cst 1:=by
 have h1:1 / p.f*p.f=1:=by grind
 generalize hr:1 / p.f=r at h1;refine ext' ?_ ?_ ?_ ?_ <;> simp only [mul,inv,cst,hr] <;> grind

theorem Q4.one_mul (p:Q4):mul (cst 1) p=p:=by
 refine ext' ?_ ?_ ?_ ?_ <;> simp only [mul,cst] <;> grind

theorem Q4.mul4 (p q r s:Q4):mul (mul p q) (mul r s)=mul (mul p r) (mul q s):=by
 rw [mul_assoc,<- mul_assoc q,mul_comm q r,mul_assoc r,<- mul_assoc]

theorem Ni {a b:Int} (ha:a ≠ 0) (hb:b ≠ 0):a*b ≠ 0:=by
 intro h;rcases Int.mul_eq_zero.1 h with h | h
 . exact ha h
 . exact hb h

theorem C6.mul {p q:Q4} {M N:Nat} (hp:C6 p M) (hq:C6 q N):C6 (Q4.mul p q) (M*N):=by
 obtain ⟨P,Q,h1,h2,h3,h4⟩:=hp;obtain ⟨R,S,g1,g2,g3,g4⟩:=hq;refine ⟨Z4.mul P R,Z4.mul Q S,Ni h1 g1,?_,ZK (Z4.n_mul _ _) (ZZ h3 g3),ZK (Z4.n_mul _ _) (ZZ h4 g4)⟩;rw [Z4.q_mul,Z4.q_mul,Q4.mul4,h2,g2]

theorem C6.add {p q:Q4} {M N:Nat} (hp:C6 p M) (hq:C6 q N):C6 (Q4.add p q) (2*(M*N)):=by
 obtain ⟨P,Q,h1,h2,h3,h4⟩:=hp;obtain ⟨R,S,g1,g2,g3,g4⟩:=hq;have e1:=ZZ h3 g4;have e2:=ZZ h4 g3;have e3:=ZZ h4 g4;have n1:=Z4.n_mul P S;have n2:=Z4.n_mul R Q;have n3:=Z4.n_mul Q S;have n4:=Z4.n_add (Z4.mul P S) (Z4.mul R Q);rw [KD R.n] at n2
 refine ⟨Z4.add (Z4.mul P S) (Z4.mul R Q),Z4.mul Q S,Ni h1 g1,?_,by omega,by omega⟩
 rw [Z4.q_add,Z4.q_mul,Z4.q_mul,Z4.q_mul,Q4.add_mul,<- h2,<- g2,Q4.mul_assoc,Q4.mul_assoc,Q4.mul_comm Q.q S.q]

theorem C6.neg {p:Q4} {M:Nat} (hp:C6 p M):C6 (Q4.neg p) M:=by
 obtain ⟨P,Q,h1,h2,h3,h4⟩:=hp
 refine ⟨⟨-P.f,-P.a,-P.v,-P.c⟩,Q,h1,?_,by simpa [Z4.n] using h3,h4⟩
 rw [Q4.neg_mul,h2];refine Q4.ext' ?_ ?_ ?_ ?_ <;> simp only [Q4.neg,Z4.q] <;> push_cast <;> rfl

theorem C6.inv {p:Q4} {M:Nat} (hp:C6 p M) (h0:p.f ≠ 0):C6 (Q4.inv p) M:=by
 obtain ⟨P,Q,h1,h2,h3,h4⟩:=hp;refine ⟨Q,P,?_,?_,h4,h3⟩
 . have:p.f*(Q.f:Rat)=(P.f:Rat):=XB Q4.f h2;intro h;rw [h] at this
   have hq:(Q.f:Rat) ≠ 0:=by simpa using h1
   grind
 . rw [<- h2,<- Q4.mul_assoc,Q4.inv_mul p h0,Q4.one_mul]

theorem C6.one:C6 (Q4.cst 1) 1:=⟨⟨1,0,0,0⟩,⟨1,0,0,0⟩,by decide,by
 refine Q4.ext' ?_ ?_ ?_ ?_ <;> simp only [Q4.mul,Q4.cst,Z4.q] <;> simp [JX],by decide,by decide⟩

theorem C6.cst (k:Int):C6 (Q4.cst (k:Rat)) (max k.natAbs 1):=⟨⟨k,0,0,0⟩,⟨1,0,0,0⟩,by simp,by
 refine Q4.ext' ?_ ?_ ?_ ?_ <;> simp only [Q4.mul,Q4.cst,Z4.q] <;> simp [JX],by simp [Z4.n];omega,by simp [Z4.n];omega⟩

theorem C6.pow {p:Q4} {M:Nat} (hp:C6 p M):∀ n,C6 (Q4.pow p n) (M ^ n)
 | 0=>by simpa [Q4.pow] using C6.one
 | n+1=>by simpa only [Q4.pow,YE] using (C6.pow hp n).mul hp

def Hb (x:Rat) (B:Nat):Prop:=x.num.natAbs<=B/\x.den<=B

theorem Hb.mono {x:Rat} {B C:Nat} (h:Hb x B) (hC:B<=C):Hb x C:=⟨ZK h.1 hC,ZK h.2 hC⟩

theorem Sb (x:Rat):x*((x.den:Int):Rat)=(x.num:Rat):=by
 have h1:mkRat x.num x.den=x:=Rat.mkRat_self x;rw [Rat.mkRat_eq_div] at h1
 have h2:((x.den:Int):Rat) ≠ 0:=by have:=x.den_nz;simpa using this
 rw [KI] at h2 ⊢;generalize (x.den:Rat)=d at *;grind

theorem C6.var {x w:Rat} {δ:Int} {A B C D:Nat} (hx:x.num.natAbs<=A) (hxd:x.den<=B) (hw:w.num.natAbs<=C) (hwd:w.den<=D) (hδ:δ.natAbs<=1):C6 ⟨x,(δ:Rat),w,0⟩ (A*D+B*D+C*B):=by
 have h1:=Sb x;have h2:=Sb w;have e1:=ZZ hx hwd;have e2:=ZZ hxd hwd;have e3:=ZZ hw hxd;have e4:δ.natAbs*(x.den*w.den)<=1*(x.den*w.den):=XF _ hδ
 refine ⟨⟨x.num*w.den,δ*(x.den*w.den),w.num*x.den,0⟩,⟨(x.den:Int)*w.den,0,0,0⟩,Ni (by have:=x.den_nz;omega) (by have:=w.den_nz;omega),?_,?_,?_⟩
 . refine Q4.ext' ?_ ?_ ?_ ?_ <;> simp only [Q4.mul,Z4.q] <;> simp only [Qal,<- h1,<- h2] <;> grind
 . simp only [Z4.n,XX,YA];have:((0:Int).natAbs)=0:=rfl;omega
 . simp only [Z4.n,XX,YA];have:((0:Int).natAbs)=0:=rfl;omega

theorem S5 {x:Rat} {z d:Int} {B:Nat} (h:x*(d:Rat)=(z:Rat)) (hd:d ≠ 0) (h1:z.natAbs<=B) (h2:d.natAbs<=B):Hb x B:=by
 have hx:x.num*d=z*x.den:=by
  have:=Sb x
  have h3:(x.num:Rat)*(d:Rat)=(z:Rat)*((x.den:Int):Rat):=by grind
  exact_mod_cast h3
 have hc:=x.reduced
 have e1:x.num.natAbs*d.natAbs=z.natAbs*x.den:=by
  have:=XB Int.natAbs hx;simpa only [XX,YA] using this
 have d1:x.den ∣ d.natAbs:=hc.symm.dvd_of_dvd_mul_left (by rw [e1];exact Nat.dvd_mul_left _ _)
 have d2:x.num.natAbs ∣ z.natAbs:=hc.dvd_of_dvd_mul_right (by rw [<- e1];exact Nat.dvd_mul_right _ _)
 have p1:0<d.natAbs:=by omega
 refine ⟨?_,ZK (Nat.le_of_dvd p1 d1) h2⟩;rcases YR z.natAbs with h0 | h0
 . rw [h0] at d2
   have:x.num.natAbs=0:=by
    rw [h0,JD] at e1;rcases Qbb.1 e1 with h | h
    . exact h
    . omega
   omega
 . exact ZK (Nat.le_of_dvd h0 d2) h1

theorem C6.sizes {q:Q4} {M:Nat} (h:C6 q M):Hb q.f (6*(M*M*M))/\Hb q.a (6*(M*M*M))/\Hb q.v (6*(M*M*M))/\Hb q.c (6*(M*M*M)):=by
 obtain ⟨P,Q,h1,h2,h3,h4⟩:=h
 have q0:(Q.f:Rat) ≠ 0:=by simpa using h1
 have e1:q.f*(Q.f:Rat)=(P.f:Rat):=XB Q4.f h2;have e2:q.a*(Q.f:Rat)+q.f*(Q.a:Rat)=(P.a:Rat):=XB Q4.a h2;have e3:q.v*(Q.f:Rat)+q.f*(Q.v:Rat)=(P.v:Rat):=XB Q4.v h2;have e4:q.c*(Q.f:Rat)+q.f*(Q.c:Rat)+(q.a*(Q.v:Rat)+q.v*(Q.a:Rat))=(P.c:Rat):=XB Q4.c h2
 have m1:1<=Q.f.natAbs:=by omega
 simp only [Z4.n] at h3 h4
 have M1:1<=M:=by omega
 have pf:P.f.natAbs<=M:=by omega
 have pa:P.a.natAbs<=M:=by omega
 have pv:P.v.natAbs<=M:=by omega
 have pc:P.c.natAbs<=M:=by omega
 have qf:Q.f.natAbs<=M:=by omega
 have qa:Q.a.natAbs<=M:=by omega
 have qv:Q.v.natAbs<=M:=by omega
 have qc:Q.c.natAbs<=M:=by omega
 clear h3 h4;have MM:M*1<=M*M:=YB _ M1;have MMM:M*M*1<=M*M*M:=YB _ M1;have b:∀ {x y:Nat},x<=M->y<=M->x*y<=M*M:=λhx hy=>ZZ hx hy;have b3:∀ {x y z:Nat},x<=M->y<=M->z<=M->x*y*z<=M*M*M:=λhx hy hz=>ZZ (ZZ hx hy) hz;have qq:Q.f.natAbs*Q.f.natAbs<=M*M:=b qf qf;have qqq:Q.f.natAbs*Q.f.natAbs*Q.f.natAbs<=M*M*M:=b3 qf qf qf
 refine ⟨S5 e1 h1 (by omega) (by omega),?_,?_,?_⟩
 . refine S5 (z:=P.a*Q.f-P.f*Q.a) (d:=Q.f*Q.f) ?_ (Ni h1 h1) ?_ (by rw [XX];omega)
   . push_cast;rw [<- e1,<- e2];grind
   . have:=JW (P.a*Q.f) (P.f*Q.a);have c1:=b pa qf;have c2:=b pf qa;rw [XX,XX] at this;omega
 . refine S5 (z:=P.v*Q.f-P.f*Q.v) (d:=Q.f*Q.f) ?_ (Ni h1 h1) ?_ (by rw [XX];omega)
   . push_cast;rw [<- e1,<- e3];grind
   . have:=JW (P.v*Q.f) (P.f*Q.v);have c1:=b pv qf;have c2:=b pf qv;rw [XX,XX] at this;omega
 . refine S5 (z:=P.c*Q.f*Q.f-P.a*Q.v*Q.f-P.v*Q.a*Q.f-P.f*Q.c*Q.f+(P.f*Q.a*Q.v+P.f*Q.a*Q.v)) (d:=Q.f*Q.f*Q.f) ?_ (Ni (Ni h1 h1) h1) ?_ (by rw [XX,XX];omega)
   . push_cast;rw [<- e1,<- e2,<- e3,<- e4];generalize (Q.f:Rat)=X1,(Q.a:Rat)=X2,(Q.v:Rat)=X3,(Q.c:Rat)=X4;grind
   . have s1:=JW (P.c*Q.f*Q.f) (P.a*Q.v*Q.f);have s2:=JW (P.c*Q.f*Q.f-P.a*Q.v*Q.f) (P.v*Q.a*Q.f);have s3:=JW (P.c*Q.f*Q.f-P.a*Q.v*Q.f-P.v*Q.a*Q.f) (P.f*Q.c*Q.f);have s4:=YJ (P.c*Q.f*Q.f-P.a*Q.v*Q.f-P.v*Q.a*Q.f-P.f*Q.c*Q.f) (P.f*Q.a*Q.v+P.f*Q.a*Q.v);have s5:=YJ (P.f*Q.a*Q.v) (P.f*Q.a*Q.v)
     have k:P.c.natAbs*Q.f.natAbs*Q.f.natAbs+P.a.natAbs*Q.v.natAbs*Q.f.natAbs+P.v.natAbs*Q.a.natAbs*Q.f.natAbs+P.f.natAbs*Q.c.natAbs*Q.f.natAbs+(P.f.natAbs*Q.a.natAbs*Q.v.natAbs+P.f.natAbs*Q.a.natAbs*Q.v.natAbs)<=6*(M*M*M):=by
      have c1:=b3 pc qf qf;have c2:=b3 pa qv qf;have c3:=b3 pv qa qf;have c4:=b3 pf qc qf;have c5:=b3 pf qa qv;omega
     simp only [XX] at s1 s2 s3 s4 s5;refine ZK (ZK s4 ?_) k;clear b b3 e1 e2 e3 e4 h2;omega

abbrev Nd:=Int × Int × Int × Int

def Ay (x u w:Nat->Rat) (l:List Q4) (n:Nd):Q4 :=
 if n.1=1 then Q4.cst (n.2.2.2:Rat)
 else if n.1=2 then ⟨x n.2.2.2.toNat,u n.2.2.2.toNat,w n.2.2.2.toNat,0⟩
 else if n.1=3 then Q4.add (l.getD n.2.1.toNat (Q4.cst 0)) (l.getD n.2.2.1.toNat (Q4.cst 0))
 else if n.1=4 then Q4.add (l.getD n.2.1.toNat (Q4.cst 0)) (Q4.neg (l.getD n.2.2.1.toNat (Q4.cst 0)))
 else if n.1=5 then Q4.mul (l.getD n.2.1.toNat (Q4.cst 0)) (l.getD n.2.2.1.toNat (Q4.cst 0))
 else if n.1=6 then Q4.mul (l.getD n.2.1.toNat (Q4.cst 0)) (Q4.inv (l.getD n.2.2.1.toNat (Q4.cst 0)))
 else if n.1=7 then Q4.neg (l.getD n.2.1.toNat (Q4.cst 0))
 else Q4.pow (l.getD n.2.1.toNat (Q4.cst 0)) n.2.2.2.toNat

def evs (x u w:Nat->Rat):List Nd->List Q4->List Q4
 | [],l=>l
 | n::r,l=>evs x u w r (l++[Ay x u w l n])

theorem Gj (x u w:Nat->Rat):∀ (ns:List Nd) (l:List Q4),(evs x u w ns l).length=l.length+ns.length
 | [],l=>by simp [evs]
 | n::r,l=>by rw [evs,Gj x u w r];simp;omega

theorem N2 (x u w:Nat->Rat):∀ (ns ms:List Nd) (l:List Q4),evs x u w (ns++ms) l=evs x u w ms (evs x u w ns l)
 | [],ms,l=>rfl
 | n::r,ms,l=>by rw [YF,evs,N2 x u w r,evs]

theorem Aa5 (x u w:Nat->Rat):∀ (ns:List Nd) (l:List Q4) (k:Nat),k<l.length->(evs x u w ns l).getD k (Q4.cst 0)=l.getD k (Q4.cst 0)
 | [],l,k,h=>rfl
 | n::r,l,k,h=>by
  rw [evs,Aa5 x u w r _ k (by simp;omega)]
  simp only [QL,ZB h]

structure Ep {ι:Type} (x:Nat->Rat) (u w:ι->Nat->Rat) (R:(ι->Q4)->Prop):Prop where
 cst:∀ k:Rat,R λ_=>Q4.cst k
 var:∀ n,R λi=>⟨x n,u i n,w i n,0⟩
 add:∀ {p q:ι->Q4},R p->R q->R λi=>Q4.add (p i) (q i)
 neg:∀ {p:ι->Q4},R p->R λi=>Q4.neg (p i)
 mul:∀ {p q:ι->Q4},R p->R q->R λi=>Q4.mul (p i) (q i)
 inv:∀ {p:ι->Q4},R p->R λi=>Q4.inv (p i)

theorem Ep.pow {ι:Type} {x:Nat->Rat} {u w:ι->Nat->Rat} {R:(ι->Q4)->Prop} (h:Ep x u w R) {p:ι->Q4} (hp:R p):∀ n,R λi=>Q4.pow (p i) n
 | 0=>h.cst 1
 | n+1=>h.mul (h.pow hp n) hp

theorem Ep.of {ι:Type} {x:Nat->Rat} {u w:ι->Nat->Rat} {R:(ι->Q4)->Prop} (h:Ep x u w R) {l:ι->List Q4} (hl:∀ k,R λi=>(l i).getD k (Q4.cst 0)) (n:Nd):R λi=>Ay x (u i) (w i) (l i) n:=by
 unfold Ay;by_cases h1:n.1=1
 . simp only [QJ h1];exact h.cst _
 by_cases h2:n.1=2
 . simp only [QH h1,QJ h2];exact h.var _
 by_cases h3:n.1=3
 . simp only [QH h1,QH h2,QJ h3];exact h.add (hl _) (hl _)
 by_cases h4:n.1=4
 . simp only [QH h1,QH h2,QH h3,QJ h4];exact h.add (hl _) (h.neg (hl _))
 by_cases h5:n.1=5
 . simp only [QH h1,QH h2,QH h3,QH h4,QJ h5];exact h.mul (hl _) (hl _)
 by_cases h6:n.1=6
 . simp only [QH h1,QH h2,QH h3,QH h4,QH h5,QJ h6];exact h.mul (hl _) (h.inv (hl _))
 by_cases h7:n.1=7
 . simp only [QH h1,QH h2,QH h3,QH h4,QH h5,QH h6,QJ h7];exact h.neg (hl _)
 . simp only [QH h1,QH h2,QH h3,QH h4,QH h5,QH h6,QH h7];exact h.pow (hl _) _

theorem Ep.evs {ι:Type} {x:Nat->Rat} {u w:ι->Nat->Rat} {R:(ι->Q4)->Prop} (h:Ep x u w R):∀ (ns:List Nd) {l:ι->List Q4} {N:Nat},(∀ i,(l i).length=N)->(∀ k,R λi=>(l i).getD k (Q4.cst 0))->∀ k,R λi=>(evs x (u i) (w i) ns (l i)).getD k (Q4.cst 0)
 | [],l,N,_,hl,k=>hl k
 | n::r,l,N,hN,hl,k=>by
  simp only [Go.Ev.evs]
  refine h.evs r (N:=N+1) (λi=>by simp [hN i]) (λk=>?_) k
  rcases Qas k N with hk | hk | hk
  . have e : (fun i => (l i ++ [Ay x (u i) (w i) (l i) n]).getD k (Q4.cst 0)) = fun i => (l i).getD k (Q4.cst 0) := by
     funext i
     simp only [QL,ZB (show k<(l i).length by rw [hN i];exact hk)]
    rw [e];exact hl k
  . have e : (fun i => (l i ++ [Ay x (u i) (w i) (l i) n]).getD k (Q4.cst 0)) = fun i => Ay x (u i) (w i) (l i) n := by
     funext i
     rw [QL,ZC (by rw [hN i];omega),hN i,hk];simp
    rw [e];exact h.of hl n
  . have e : (fun i => (l i ++ [Ay x (u i) (w i) (l i) n]).getD k (Q4.cst 0)) = fun _ => Q4.cst 0 := by
     funext i
     rw [QL,KL (by simp [hN i];omega)];rfl
    rw [e];exact h.cst 0

theorem Ep.run {ι:Type} {x:Nat->Rat} {u w:ι->Nat->Rat} {R:(ι->Q4)->Prop} (h:Ep x u w R) (ns:List Nd) (k:Nat):R λi=>(Go.Ev.evs x (u i) (w i) ns []).getD k (Q4.cst 0) :=
 h.evs ns (N:=0) (λ_=>rfl) (λk=>by simpa using h.cst 0) k

theorem Anl (x:Nat->Rat) (u w u' w':Nat->Rat) (ns:List Nd) (k:Nat):((evs x u w ns []).getD k (Q4.cst 0)).f=((evs x u' w' ns []).getD k (Q4.cst 0)).f:=by
 have h:Ep x (λb:Bool=>bif b then u else u') (λb:Bool=>bif b then w else w') (λp=>(p true).f=(p false).f):=by
  refine ⟨λ_=>rfl,λ_=>rfl,λh1 h2=>?_,λh1=>?_,λh1 h2=>?_,λh1=>?_⟩ <;> simp only [Q4.add,Q4.neg,Q4.mul,Q4.inv,h1] <;> (try simp only [h2])
 exact h.run ns k

theorem B2e (x:Nat->Rat) (u w:Nat->Rat) (ns:List Nd) (k:Nat):((evs x u w ns []).getD k (Q4.cst 0)).a=((evs x w u ns []).getD k (Q4.cst 0)).v/\((evs x u w ns []).getD k (Q4.cst 0)).c=((evs x w u ns []).getD k (Q4.cst 0)).c:=by
 have h:Ep x (λb:Bool=>bif b then u else w) (λb:Bool=>bif b then w else u) (λp=>(p true).f=(p false).f/\(p true).a=(p false).v/\(p true).v=(p false).a/\(p true).c=(p false).c):=by
  refine ⟨λ_=>⟨rfl,rfl,rfl,rfl⟩,λ_=>⟨rfl,rfl,rfl,rfl⟩,λh1 h2=>?_,λh1=>?_,λh1 h2=>?_,λh1=>?_⟩ <;> simp only [Q4.add,Q4.neg,Q4.mul,Q4.inv,h1] <;> (try simp only [h2,JS,JE]) <;> (try grind)
 exact ⟨(h.run ns k).2.1,(h.run ns k).2.2.2⟩

end Go.Ev
