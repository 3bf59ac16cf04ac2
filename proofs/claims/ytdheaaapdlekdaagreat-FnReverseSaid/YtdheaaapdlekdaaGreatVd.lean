/- DERIVED. The plain laws: what the models compute. -/
import Derived.Test.YtdheaaapdlekdaaGreatVc

set_option linter.all false
set_option linter.unusedVariables false
set_option linter.unusedSimpArgs false

namespace Go.Ev
open Go

theorem A8 {x:Int} (h:-9223372036854775808<=x) (h':x<9223372036854775808):W x=x:=B31 h h'

@[simp] theorem A0 {α β:Type} (r:β) (k:β->Option α):ob (some r) k=k r:=rfl

@[simp] theorem Bsn {α β:Type} (k:β->Option α):ob (none:Option β) k=none:=rfl

@[simp] theorem Hm {α:Type} (x:Option α):gd true x=x:=rfl

@[simp] theorem Bsi {α:Type} (x:Option α):gd false x=none:=rfl

theorem A2 {α:Type} {g:Bool} (h:g=true) (x:Option α):gd g x=x:=by rw [h];rfl

theorem Aos (l:List Int) (a b:Int):l.foldl max a<=b ↔ a<=b /\ ∀ x ∈ l,x<=b:=by
 induction l generalizing a with
 | nil=>simp
 | cons y r ih =>
  simp only [JQ,ih,QX,forall_eq_or_imp];constructor
  . rintro ⟨h,h'⟩;exact ⟨by omega,by omega,h'⟩
  . rintro ⟨h,h',h''⟩;exact ⟨by omega,h''⟩

theorem B7 {α:Type} {l m:List α} {i:Nat} {d:α} (h:i<l.length):(l++m).getD i d=l.getD i d:=by
 simp [QJ,ZH h]

theorem B5 {α:Type} {l:List α} {x d:α}:(l++[x]).getD l.length d=x:=by
 simp [QJ]

theorem D5 {α:Type} {l r:List α} {x d:α} {k:Nat} (h:l.drop k=x::r):l.getD k d=x/\k<l.length/\l.drop (k+1)=r:=by
 have hk:k<l.length:=by
  rcases ZT k l.length with h' | h'
  . exact h'
  . rw [ZB h'] at h;cases h
 have:=XV hk;rw [h] at this;injection this with h1 h2
 exact ⟨by simp [QJ,hk,h1],hk,h2.symm⟩

def vl:List Int->Int
 | []=>0
 | x::r=>x+10000*vl r

def Lm (l:List Int):Prop:=∀ x ∈ l,0<=x/\x<10000

def dg (n:Nat):List Int:=if n=0 then [] else ((n % 10000:Nat):Int)::dg (n / 10000)
termination_by n
decreasing_by omega

theorem Cq:dg 0=[]:=by rw [dg];rfl

theorem Ex {n:Nat} (h:n ≠ 0):dg n=((n % 10000:Nat):Int)::dg (n / 10000):=by rw [dg,QB h]

theorem Lm.nil:Lm []:=λ_ h=>by cases h

theorem Lm.cons {x:Int} {l:List Int} (hx:0<=x/\x<10000) (hl:Lm l):Lm (x::l):=λy hy=>by
 rcases QX.1 hy with rfl | hy
 . exact hx
 . exact hl y hy

theorem Lm.head {x:Int} {l:List Int} (h:Lm (x::l)):0<=x/\x<10000:=h x (by simp)

theorem Lm.tail {x:Int} {l:List Int} (h:Lm (x::l)):Lm l:=λy hy=>h y (by simp [hy])

theorem Lm.app {l m:List Int} (h:Lm l) (h':Lm m):Lm (l++m):=λy hy=>(QG.1 hy).elim (h y) (h' y)

theorem Lm.take {l:List Int} (h:Lm l) (k:Nat):Lm (l.take k):=λy hy=>h y (Qbm hy)

theorem Lm.drop {l:List Int} (h:Lm l) (k:Nat):Lm (l.drop k):=λy hy=>h y (List.mem_of_mem_drop hy)

theorem Lm.set {l:List Int} (h:Lm l) (k:Nat) {x:Int} (hx:0<=x/\x<10000):Lm (l.set k x):=λy hy=>by
 rcases Qap hy with hy | rfl
 . exact h y hy
 . exact hx

theorem Lm.get {l:List Int} (h:Lm l) (k:Nat):0<=l.getD k 0/\l.getD k 0<10000:=by
 rw [QJ]
 cases e:l[k]? with
 | none=>simp
 | some x=>exact h x (ZN e)

theorem Lm.rep (n:Nat):Lm (List.replicate n 0):=λy hy=>by
 obtain rfl:=(List.mem_replicate.1 hy).2;omega

theorem F3 (n:Nat):Lm (dg n):=by
 induction n using Nat.strongRecOn with
 | _ n ih =>
  by_cases h:n=0
  . subst h;rw [Cq];exact Lm.nil
  . rw [Ex h]
    exact Lm.cons (by omega) (ih _ (by omega))

theorem Bs (n:Nat):vl (dg n)=n:=by
 induction n using Nat.strongRecOn with
 | _ n ih =>
  by_cases h:n=0
  . subst h;rw [Cq];rfl
  . rw [Ex h,vl,ih _ (by omega)]
    omega

theorem Bn {l:List Int} (h:Lm l):0<=vl l:=by
 induction l with
 | nil=>exact JK _
 | cons x r ih =>
  have:=h.head;have:=ih h.tail;simp only [vl];omega

theorem Ha (k:Nat):(0:Int)<10000 ^ k:=Int.pow_pos (by omega)

theorem Ck (k:Nat):(10000:Int) ^ (k+1)=10000*10000 ^ k:=by rw [Qau,Int.mul_comm]

theorem A4r {i j:Nat} (h:i<=j):(10000:Int) ^ i<=10000 ^ j:=by
 induction j with
 | zero => obtain rfl : i = 0 := by omega
           exact JK _
 | succ j ih =>
  by_cases e:i=j+1
  . subst e;exact JK _
  . have:=ih (by omega)
    have:=Ha j;rw [Ck];omega

theorem Az6 {i j:Nat} (h:(10000:Int) ^ i<10000 ^ j):i<j:=by
 rcases ZT i j with h' | h'
 . exact h'
 . have:=A4r h';omega

theorem K1 {l:List Int} (h:Lm l):vl l<10000 ^ l.length:=by
 induction l with
 | nil=>simp [vl]
 | cons x r ih =>
  have:=h.head;have:=ih h.tail;simp only [vl,QY,Ck];omega

theorem Abw (l m:List Int):vl (l++m)=vl l+10000 ^ l.length*vl m:=by
 induction l with
 | nil=>simp [vl]
 | cons x r ih=>simp only [YD,vl,ih,QY,Ck];grind

theorem V9 (l:List Int) (x:Int):vl (l++[x])=vl l+10000 ^ l.length*x:=by rw [Abw];simp [vl]

theorem A1a (n:Nat):vl (List.replicate n 0)=0:=by
 induction n with
 | zero=>rfl
 | succ n ih=>simp [List.replicate_succ,vl,ih]

theorem Cv {l:List Int} {k:Nat} (h:k<l.length):vl (l.take (k+1))=vl (l.take k)+10000 ^ k*l.getD k 0:=by
 rw [KA h,V9,KN,Qam (by omega),QJ,QN h]
 rfl

theorem O8 {l:List Int} {k:Nat} (x:Int) (h:k<l.length):vl (l.set k x)=vl l+10000 ^ k*(x-l.getD k 0):=by
 induction l generalizing k with
 | nil=>simp at h
 | cons y r ih =>
  cases k with
  | zero=>simp [vl];omega
  | succ k =>
   have:=ih (k:=k) (by simpa using h)
   simp only [List.set_cons_succ,vl,this,Qal,Ck];grind

def Cn (l:List Int):Prop:=Lm l/\(l ≠ []->l.getD (l.length-1) 0 ≠ 0)

theorem I1 (n:Nat):Cn (dg n):=by
 refine ⟨F3 n,?_⟩
 induction n using Nat.strongRecOn with
 | _ n ih =>
  by_cases h:n=0
  . subst h;rw [Cq];exact λh=>absurd rfl h
  . rw [Ex h];intro _;by_cases e:dg (n / 10000)=[]
    . rw [e]
      have h0:n / 10000=0:=by
       have:=Bs (n / 10000);rw [e] at this;simp only [vl] at this;omega
      simp;omega
    . have:=ih (n / 10000) (by omega) e
      have hl:0<(dg (n / 10000)).length:=XU.2 e;simp only [QY,Qav]
      rw [show (dg (n / 10000)).length=((dg (n / 10000)).length-1)+1 by omega,Qal]
      exact this

theorem Cn.tail {x:Int} {l:List Int} (h:Cn (x::l)):Cn l:=by
 refine ⟨h.1.tail,λhn=>?_⟩
 have:=h.2 (by simp)
 have hl:0<l.length:=XU.2 hn;simp only [QY,Qav] at this
 rw [show l.length=(l.length-1)+1 by omega,Qal] at this
 exact this

theorem Cn.pos {l:List Int} (h:Cn l) (hn:l ≠ []):0<vl l:=by
 induction l with
 | nil=>exact absurd rfl hn
 | cons x r ih =>
  have hx:=h.1.head;have hr:=Bn h.1.tail;by_cases e:r=[]
  . subst e
    have:=h.2 (by simp)
    simp at this;simp only [vl];omega
  . have:=ih h.tail e;simp only [vl];omega

theorem K4 {l:List Int} (h:Cn l):dg (vl l).toNat=l:=by
 induction l with
 | nil=>exact Cq
 | cons x r ih =>
  have hx:=h.1.head;have hr:=Bn h.1.tail
  have hp:=h.pos (by simp)
  have ih:=ih h.tail;simp only [vl] at hp ⊢
  rw [Ex (by omega)]
  congr 1
  . omega
  . rw [<- ih];congr 1;rw [ih];omega

theorem Cn.ge {l:List Int} (h:Cn l) (hn:l ≠ []):(10000:Int) ^ (l.length-1)<=vl l:=by
 have hl:0<l.length:=XU.2 hn
 have h1:=Cv (l:=l) (k:=l.length-1) (by omega)
 rw [show l.length-1+1=l.length by omega,YE] at h1
 have h2:=h.2 hn;have h3:=h.1.get (l.length-1);have h4:=Bn (h.1.take (l.length-1));have h5:=Ha (l.length-1)
 have h6:(10000:Int) ^ (l.length-1)*1<=10000 ^ (l.length-1)*l.getD (l.length-1) 0:=XL (by omega) (by omega)
 omega

theorem Wn {n k:Nat}:(dg n).length<=k ↔ (n:Int)<10000 ^ k:=by
 constructor
 . intro h;have:=K1 (F3 n);rw [Bs] at this;exact Int.lt_of_lt_of_le this (A4r h)
 . intro h;by_cases e:dg n=[]
   . rw [e];simp
   . have:=(I1 n).ge e;rw [Bs] at this;have:=Az6 (Int.lt_of_le_of_lt this h);have hl:0<(dg n).length:=XU.2 e;omega

theorem Bq2 {n:Nat}:dg n=[] ↔ n=0:=by
 constructor
 . intro h;have:=Bs n;rw [h] at this;simp only [vl] at this;omega
 . rintro rfl;exact Cq

theorem B9n {a b:Nat} (h:dg a=dg b):a=b:=by
 have h1:=Bs a;rw [h,Bs] at h1;omega

theorem Bz {a b:Nat} (h:a<=b):(dg a).length<=(dg b).length:=by
 refine Wn.2 ?_;have:=K1 (F3 b);rw [Bs] at this;omega

def cm (x y:Int):Int:=if x<y then -1 else if x=y then 0 else 1

theorem Zs {a b:List Int} (ha:Lm a) (hb:Lm b) {k:Nat} (h1:k<a.length) (h2:k<b.length) (h:a.getD k 0<b.getD k 0):vl (a.take (k+1))<vl (b.take (k+1)):=by
 rw [Cv h1,Cv h2];have q1:=K1 (ha.take k)
 rw [KN,Qam (by omega)] at q1
 have q2:=Bn (hb.take k)
 have q3:(10000:Int) ^ k*(a.getD k 0+1)<=10000 ^ k*b.getD k 0:=XL (by omega) (by have:=Ha k;omega)
 rw [Int.mul_add,Int.mul_one] at q3;omega

theorem Cn.lt_of_len {a b:List Int} (ha:Cn a) (hb:Cn b) (h:a.length<b.length):vl a<vl b:=by
 have h1:=K1 ha.1
 have h2:=hb.ge (by intro e;subst e;simp at h)
 have h3:(10000:Int) ^ a.length<=10000 ^ (b.length-1):=A4r (by omega)
 omega

theorem Cn.of_take {l:List Int} (h:Lm l) {t:Nat} (ht:t<=l.length) (hl:t=0 \/ l.getD (t-1) 0 ≠ 0):Cn (l.take t):=by
 refine ⟨h.take t,λhn=>?_⟩
 have hlen:(l.take t).length=t:=by simp;omega
 rcases hl with rfl | hl
 . simp at hn
 . have ht0:t ≠ 0:=by rintro rfl;simp at hn
   rw [hlen,QJ,XM,QC (by omega),<- QJ]
   exact hl

theorem tdv {x:Int} (h:0<=x):Int.tdiv x 10000=x / 10000:=YR h

theorem tmd {x:Int} (h:0<=x):Int.tmod x 10000=x % 10000:=Qah h

theorem Auu {α:Type} {n:Nat} {l:List Int} (hN:l.length<=1099511627776) {k0:List Int->Int->Option α}:∀ (m k:Nat),k<m->k<=l.length ->
  ∃ t,t<=k/\A5j n m l (k:Int) k0=k0 l (t:Int)/\vl (l.take t)=vl (l.take k)/\(t=0 \/ l.getD (t-1) 0 ≠ 0)
 | 0,k,h,_=>by omega
 | m+1,k,h,hk=>by
  rw [B6g];unfold A8l;dsimp only;by_cases h0:k=0
  . subst h0;exact ⟨0,ZF _,rfl,rfl,.inl rfl⟩
  . rw [QE,QC (by omega),A8 (by omega) (by omega),A2 (by simp;omega)]
    have e:((k:Int)-1).toNat=k-1:=by omega
    rw [e,XE];by_cases hz:l.getD (k-1) 0=0
    . rw [QC (by rw [hz];rfl)]
      obtain ⟨t,h1,h2,h3,h4⟩:=Auu (n:=n) hN (k0:=k0) m (k-1) (by omega) (by omega)
      refine ⟨t,by omega,?_,?_,h4⟩
      . rw [show (k:Int)-1=((k-1:Nat):Int) by omega];exact h2
      . rw [h3]
        have:=Cv (l:=l) (k:=k-1) (by omega)
        rw [show k-1+1=k by omega,hz] at this
        rw [this];simp
    . rw [QB (by simpa using hz)]
      exact ⟨k,ZF _,rfl,rfl,.inr hz⟩

theorem A5i {n:Nat} {l:List Int} (hl:Lm l) (hN:l.length<=1099511627776) (hn:l.length<n):f216 n l=some (dg (vl l).toNat):=by
 unfold f216;obtain ⟨t,h1,h2,h3,h4⟩:=Auu (n:=n) hN (k0:=λz_1 z_2=>gd (decide (0<=z_2)&&decide (z_2<=(z_1.length:Int))) (gd (decide ((0+((z_1.drop 0).take (z_2.toNat-0)).length)*8<=140737488355328)) (some ((z_1.drop 0).take (z_2.toNat-0))))) n l.length hn (ZF _)
 rw [h2,A2 (by simp;omega),A2 (by simp;omega)]
 simp only [ZR,QM,KZ];rw [YE] at h3
 rw [<- h3,K4 (Cn.of_take hl (by omega) h4)]

theorem Aut {α:Type} {n:Nat} {l:List Int} (hN:l.length<=1099511627776) {k0:List Int->Int->Option α}:∀ (m k:Nat),k<m->k<=l.length ->
  ∃ t,t<=k/\A5k n m l (k:Int) k0=k0 l (t:Int)/\vl (l.take t)=vl (l.take k)/\(t=0 \/ l.getD (t-1) 0 ≠ 0)
 | 0,k,h,_=>by omega
 | m+1,k,h,hk=>by
  rw [B6q];unfold A90;dsimp only;by_cases h0:k=0
  . subst h0;exact ⟨0,ZF _,rfl,rfl,.inl rfl⟩
  . rw [QE,QC (by omega),A8 (by omega) (by omega),A2 (by simp;omega)]
    have e:((k:Int)-1).toNat=k-1:=by omega
    rw [e,XE];by_cases hz:l.getD (k-1) 0=0
    . rw [QC (by rw [hz];rfl)]
      obtain ⟨t,h1,h2,h3,h4⟩:=Aut (n:=n) hN (k0:=k0) m (k-1) (by omega) (by omega)
      refine ⟨t,by omega,?_,?_,h4⟩
      . rw [show (k:Int)-1=((k-1:Nat):Int) by omega];exact h2
      . rw [h3]
        have:=Cv (l:=l) (k:=k-1) (by omega)
        rw [show k-1+1=k by omega,hz] at this
        rw [this];simp
    . rw [QB (by simpa using hz)]
      exact ⟨k,ZF _,rfl,rfl,.inr hz⟩

theorem Vw {n:Nat} {l:List Int} (hl:Lm l) (hN:l.length<=1099511627776) (hn:l.length<n):f202 n l=some (dg (vl l).toNat):=by
 unfold f202;obtain ⟨t,h1,h2,h3,h4⟩:=Aut (n:=n) hN (k0:=λz_1 z_2=>gd (decide (0<=z_2)&&decide (z_2<=(z_1.length:Int))) (some ((z_1.drop 0).take (z_2.toNat-0)))) n l.length hn (ZF _)
 rw [h2,A2 (by simp;omega)]
 simp only [ZR,QM,KZ];rw [YE] at h3
 rw [<- h3,K4 (Cn.of_take hl (by omega) h4)]

theorem Anb {α:Type} {n:Nat} {k0:List Int->Option α}:∀ (m x:Nat) (o:List Int),(x:Int)<=9223372036854775807->(dg x).length<m->o.length+(dg x).length<=1099511627776->A5p n m (x:Int) o k0=k0 (o++dg x)
 | 0,x,o,_,h,_=>by omega
 | m+1,x,o,hx,h,hN=>by
  rw [B73];unfold A9l;dsimp only;by_cases h0:x=0
  . subst h0;rw [Cq];simp
  . rw [Ex h0] at h hN ⊢;simp only [QY] at h hN
    rw [QE,QC (by omega),A2 (by simp;omega),tdv (by omega),tmd (by omega),A8 (by omega) (by omega),show (x:Int) / 10000=((x / 10000:Nat):Int) by omega,show (x:Int) % 10000=((x % 10000:Nat):Int) by omega]
    rw [Anb (n:=n) m (x / 10000) _ (by omega) (by omega) (by simp;omega)]
    simp

theorem Qt {n:Nat} {x:Nat} (hx:(x:Int)<=9223372036854775807) (hn:10<n):f194 n (x:Int)=some (dg x):=by
 have hl:(dg x).length<=5:=Wn.2 (by rw [show (10000:Int) ^ 5=100000000000000000000 from rfl];omega)
 unfold f194
 rw [Anb (n:=n) n x [] hx (by omega) (by simp;omega)]
 simp

theorem Anc {α:Type} {n:Nat} {k0:List Int->Option α}:∀ (m x:Nat) (o:List Int),(x:Int)<=9223372036854775807->(dg x).length<m->o.length+(dg x).length<=1099511627776->A61 n m (x:Int) o k0=k0 (o++dg x)
 | 0,x,o,_,h,_=>by omega
 | m+1,x,o,hx,h,hN=>by
  rw [B8e];unfold Aak;dsimp only;by_cases h0:x=0
  . subst h0;rw [Cq];simp
  . rw [Ex h0] at h hN ⊢;simp only [QY] at h hN
    rw [QE,QC (by omega),A2 (by simp;omega),tdv (by omega),tmd (by omega),A8 (by omega) (by omega),show (x:Int) / 10000=((x / 10000:Nat):Int) by omega,show (x:Int) % 10000=((x % 10000:Nat):Int) by omega]
    rw [Anc (n:=n) m (x / 10000) _ (by omega) (by omega) (by simp;omega)]
    simp

theorem A60 {n:Nat} {x:Nat} (hx:(x:Int)<=9223372036854775807) (hn:10<n):f150 n (x:Int)=some (dg x):=by
 have hl:(dg x).length<=5:=Wn.2 (by rw [show (10000:Int) ^ 5=100000000000000000000 from rfl];omega)
 unfold f150
 rw [Anc (n:=n) n x [] hx (by omega) (by simp;omega)]
 simp

theorem N8 {n:Nat} {b:Bool}:f174 n b=some (if b=true then 1 else 0):=by cases b <;> rfl

theorem M4 {x y:Int} (h:x<y):cm x y = -1:=by unfold cm;rw [QC h]

theorem M5 {x y:Int} (h:y<x):cm x y=1:=by unfold cm;rw [QB (by omega),QB (by omega)]

theorem O6 {x y:Int} (h:x=y):cm x y=0:=by unfold cm;rw [QB (by omega),QC h]

theorem B9r (x y z:Int):cm (x+z) (y+z)=cm x y:=by
 rcases Int.lt_trichotomy x y with h | h | h
 . rw [M4 h,M4 (by omega)]
 . rw [O6 h,O6 (by omega)]
 . rw [M5 h,M5 (by omega)]

theorem B9q {α:Type} {n:Nat} {a b:List Int} (ha:Lm a) (hb:Lm b) (hab:a.length=b.length) (hN:a.length<=1099511627776) {k0:Int->Option α} {k1:Unit->Option α}:∀ (m k:Nat),k<m->k<=a.length ->
  A5n n m a b ((k:Int)-1) k0 k1=if vl (a.take k)=vl (b.take k) then k1 () else k0 (cm (vl (a.take k)) (vl (b.take k)))
 | 0,k,h,_=>by omega
 | m+1,k,h,hk=>by
  rw [B6w];unfold A99;dsimp only;by_cases h0:k=0
  . subst h0;simp
  . rw [QE,QC (by omega),A2 (by simp;omega),A2 (by simp;omega)]
    have e:((k:Int)-1).toNat=k-1:=by omega
    rw [e,XE]
    have ta:=Cv (l:=a) (k:=k-1) (by omega)
    have tb:=Cv (l:=b) (k:=k-1) (by omega)
    rw [show k-1+1=k by omega] at ta tb
    by_cases hz:a.getD (k-1) 0=b.getD (k-1) 0
    . rw [QB (by simpa using hz),A8 (by omega) (by omega)]
      rw [show (k:Int)-1-1=((k-1:Nat):Int)-1 by omega,B9q (n:=n) ha hb hab hN m (k-1) (by omega) (by omega)]
      rw [ta,tb,hz];by_cases h1:vl (a.take (k-1))=vl (b.take (k-1))
      . rw [QC h1,QC (by omega)]
      . rw [QB h1,QB (by omega)]
        rw [B9r]
    . rw [QC (by simpa using hz),A2 (by simp;omega),A2 (by simp;omega),N8,A0]
      rcases Int.lt_or_gt_of_ne hz with h1 | h1
      . have:=Zs ha hb (k:=k-1) (by omega) (by omega) h1
        rw [show k-1+1=k by omega] at this
        rw [show (if vl (a.take k)=vl (b.take k) then k1 () else k0 (cm (vl (a.take k)) (vl (b.take k))))=k0 (-1) by rw [QB (by omega),M4 this],QB (by rw [QO];omega)]
        rfl
      . have:=Zs hb ha (k:=k-1) (by omega) (by omega) h1
        rw [show k-1+1=k by omega] at this
        rw [show (if vl (a.take k)=vl (b.take k) then k1 () else k0 (cm (vl (a.take k)) (vl (b.take k))))=k0 1 by rw [QB (by omega),M5 this],QC (by rw [QO];omega)]
        rfl

theorem Bii {n:Nat} {a b:List Int} (ha:Cn a) (hb:Cn b) (hN:a.length<=1099511627776) (hn:a.length<n):f199 n a b=some (cm (vl a) (vl b)):=by
 unfold f199;rw [XE];by_cases h:a.length=b.length
 . rw [QB (by simp [h]),A8 (by omega) (by omega),B9q (n:=n) ha.1 hb.1 h hN n a.length hn (ZF _)]
   rw [YE,h,YE];by_cases h1:vl a=vl b
   . rw [QC h1,O6 h1]
   . rw [QB h1]
 . rw [QC (by simp;omega),N8,A0]
   rcases Nat.lt_or_gt_of_ne h with h1 | h1
   . rw [M4 (ha.lt_of_len hb h1),QB (by simp;omega)];rfl
   . rw [M5 (hb.lt_of_len ha h1),QC (by simp;omega)];rfl

theorem B9p {α:Type} {n:Nat} {a b:List Int} (ha:Lm a) (hb:Lm b) (hab:a.length=b.length) {k0 k1:Int->Option α}:∀ (k:Nat),k<=a.length ->
  T6 n a k a b 0 k0 k1=if vl (a.take k)=vl (b.take k) then k0 0 else k1 (cm (vl (a.take k)) (vl (b.take k)))
 | 0,_=>by rw [B87];simp
 | k+1,hk=>by
  rw [B85];unfold Aa8;dsimp only
  rw [A2 (by simp;omega),XE]
  have ta:=Cv (l:=a) (k:=k) (by omega)
  have tb:=Cv (l:=b) (k:=k) (by omega)
  simp only [QM];by_cases hz:a.getD k 0=b.getD k 0
  . rw [QB (by simpa using hz),A2 (by simp),B9p ha hb hab k (by omega)]
    rw [ta,tb,hz];by_cases h1:vl (a.take k)=vl (b.take k)
    . rw [QC h1,QC (by omega)]
    . rw [QB h1,QB (by omega)]
      rw [B9r]
  . rw [QC (by simpa using hz),A2 (by simp;omega),QE]
    rcases Int.lt_or_gt_of_ne hz with h1 | h1
    . have:=Zs ha hb (k:=k) (by omega) (by omega) h1
      rw [show (if vl (a.take (k+1))=vl (b.take (k+1)) then k0 0 else k1 (cm (vl (a.take (k+1))) (vl (b.take (k+1)))))=k1 (-1) by rw [QB (by omega),M4 this],QC h1]
    . have:=Zs hb ha (k:=k) (by omega) (by omega) h1
      rw [show (if vl (a.take (k+1))=vl (b.take (k+1)) then k0 0 else k1 (cm (vl (a.take (k+1))) (vl (b.take (k+1)))))=k1 1 by rw [QB (by omega),M5 this],QB (by omega)]

theorem Bjv {n:Nat} {a b:List Int} (ha:Cn a) (hb:Cn b) (hN:a.length<=1099511627776):f155 n a b=some (cm (vl a) (vl b)):=by
 unfold f155;rw [XE];by_cases h:a.length=b.length
 . rw [QB (by simp [h])]
   rw [show f205 n a=some a from rfl,A0,B86,A2 (by simp;omega),B9p ha.1 hb.1 h a.length (ZF _)]
   rw [YE,h,YE];by_cases h1:vl a=vl b
   . rw [QC h1,O6 h1]
   . rw [QB h1]
 . rw [QC (by simp;omega),QE]
   rcases Nat.lt_or_gt_of_ne h with h1 | h1
   . rw [M4 (ha.lt_of_len hb h1),QC (by omega)]
   . rw [M5 (hb.lt_of_len ha h1),QB (by omega)]

theorem Bp (l:List Int) (k:Nat):vl (l.take (k+1))=vl (l.take k)+10000 ^ k*l.getD k 0:=by
 rcases ZT k l.length with h | h
 . exact Cv h
 . rw [XS (by omega),XS (by omega),QJ,KD h]
   simp

theorem C0 {l:List Int} {k:Nat} (h:l.length<=k):l.getD k 0=0:=by
 rw [QJ,KD h];rfl

theorem Cn.of_ge {l:List Int} (h:Lm l) (hg:l ≠ []->(10000:Int) ^ (l.length-1)<=vl l):Cn l:=by
 refine ⟨h,λhn e=>?_⟩;have hl:0<l.length:=XU.2 hn;have h1:=Bp l (l.length-1)
 rw [show l.length-1+1=l.length by omega,YE,e] at h1
 have h2:=K1 (h.take (l.length-1))
 rw [KN,Qam (by omega)] at h2
 have:=hg hn;omega

theorem Ml (l:List Int) {k:Nat} (h:l.length<=k):l.take k=l:=XS h

theorem Ba8 {α:Type} {n:Nat} {a b:List Int} (ha:Cn a) (hb:Cn b) (hN:a.length<=1099511627776) (hNb:b.length<=1099511627776) {k0:List Int->Option α}:∀ (m i:Nat) (c:Int) (o:List Int),o.length=i->Lm o->0<=c->c<=1 ->
  vl o+10000 ^ i*c=vl (a.take i)+vl (b.take i)->(i<=max a.length b.length \/ (i=max a.length b.length+1/\c=0/\o.getD (i-1) 0 ≠ 0))->max a.length b.length+2<=i+m ->
  Vx n m a b c (i:Int) o k0=k0 (dg (vl a+vl b).toNat)
 | 0,i,c,o,ho,hlo,hc0,hc1,hv,hq,hm=>by omega
 | m+1,i,c,o,ho,hlo,hc0,hc1,hv,hq,hm=>by
  rw [B6x];unfold A9c;dsimp only
  have fin:a.length<=i->b.length<=i->c=0->o=dg (vl a+vl b).toNat:=λh1 h2 h3=>by
   rw [Ml a h1,Ml b h2,h3] at hv
   have hv':vl o=vl a+vl b:=by simpa using hv
   have:Cn o:=Cn.of_ge hlo λhn=>by
    have hl:0<o.length:=XU.2 hn;rcases hq with hq | ⟨hq1,_,hq3⟩
    . have hmx:i=max a.length b.length:=by omega
      rw [ho,hv'];rcases Nat.le_total a.length b.length with hab | hab
      . have h4:=hb.ge (XU.1 (by omega))
        have h5:=Bn ha.1
        rw [show i-1=b.length-1 by omega];omega
      . have h4:=ha.ge (XU.1 (by omega))
        have h5:=Bn hb.1
        rw [show i-1=a.length-1 by omega];omega
    . have h1:=Bp o (o.length-1)
      rw [show o.length-1+1=o.length by omega,YE] at h1
      have h2:=Bn (hlo.take (o.length-1));have h3:=hlo.get (o.length-1);rw [<- ho] at hq3;have h4:=Ha (o.length-1)
      have h5:(10000:Int) ^ (o.length-1)*1<=10000 ^ (o.length-1)*o.getD (o.length-1) 0:=XL (by omega) (by omega)
      omega
   rw [<- hv',K4 this]
  have go:∀ (y:Int),y=c+a.getD i 0+b.getD i 0->(i<max a.length b.length \/ (i=max a.length b.length/\0<c))->Vx n m a b (W (Int.tdiv y 10000)) (W ((i:Int)+1)) (o++[Int.tmod y 10000]) k0=k0 (dg (vl a+vl b).toNat):=by
   intro y hy hi;have h1:=ha.1.get i;have h2:=hb.1.get i
   rw [tdv (by omega),tmd (by omega),A8 (by omega) (by omega),A8 (by omega) (by omega)]
   have ta:=Bp a i;have tb:=Bp b i
   have hyy:y=10000*(y / 10000)+y % 10000:=by omega
   refine Ba8 (n:=n) ha hb hN hNb m (i+1) _ _ (by simp [ho]) (hlo.app (Lm.cons (by omega) Lm.nil)) (by omega) (by omega) ?_ ?_ (by omega)
   . rw [V9,ho,ta,tb,Ck];generalize y / 10000=q at *;generalize y % 10000=r at *;generalize (10000:Int) ^ i=P at *;grind
   . rcases hi with hi | ⟨hi,hc⟩
     . exact .inl (by omega)
     . right
       have e1:a.getD i 0=0:=C0 (by omega)
       have e2:b.getD i 0=0:=C0 (by omega)
       have e3:y=1:=by omega
       subst e3
       refine ⟨by omega,by rfl,?_⟩
       rw [Qav,<- ho,QJ];simp
  have hcases:(i<a.length \/ i<b.length \/ 0<c)->(i<max a.length b.length \/ (i=max a.length b.length/\0<c)):=λh=>by
   rcases h with h | h | h
   . exact .inl (by omega)
   . exact .inl (by omega)
   . rcases hq with hq | ⟨_,h0,_⟩
     . omega
     . omega
  have ho2:(decide ((o.length+1)*8<=140737488355328))=true:=by
   rw [QO];rcases hq with hq | ⟨hq,_⟩ <;> omega
  have h1:=ha.1.get i;have h2:=hb.1.get i;by_cases hA:i<a.length
  . have dA:decide ((i:Int)<(a.length:Int))=true:=by rw [QO];omega
    simp only [dA,QW,QM]
    rw [A2 (by simp;try omega),A8 (x:=c+a.getD i 0) (by omega) (by omega)]
    by_cases hB:i<b.length
    . have dB:decide ((i:Int)<(b.length:Int))=true:=by rw [QO];omega
      simp only [dB,QW]
      rw [A2 (by simp;try omega),A2 ho2,A8 (x:=c+a.getD i 0+b.getD i 0) (by omega) (by omega)]
      exact go _ rfl (hcases (.inl hA))
    . have dB:decide ((i:Int)<(b.length:Int))=false:=by rw [ZV];omega
      simp only [dB,QP];rw [A2 ho2]
      exact go _ (by rw [C0 (l:=b) (by omega)];omega) (hcases (.inl hA))
  . have dA:decide ((i:Int)<(a.length:Int))=false:=by rw [ZV];omega
    simp only [dA,QP,QM];by_cases hB:i<b.length
    . have dB:decide ((i:Int)<(b.length:Int))=true:=by rw [QO];omega
      simp only [dB,QW]
      rw [A2 (by simp;try omega),A2 ho2,A8 (x:=c+b.getD i 0) (by omega) (by omega)]
      exact go _ (by rw [C0 (l:=a) (by omega)];omega) (hcases (.inr (.inl hB)))
    . have dB:decide ((i:Int)<(b.length:Int))=false:=by rw [ZV];omega
      simp only [dB,QP];rw [QE];by_cases hc:0<c
      . rw [QC (by omega),A2 ho2]
        exact go _ (by rw [C0 (l:=a) (by omega),C0 (l:=b) (by omega)];omega) (hcases (.inr (.inr hc)))
      . rw [QB (by omega),fin (by omega) (by omega) (by omega)]

theorem Bik {n:Nat} {a b:List Int} (ha:Cn a) (hb:Cn b) (hN:a.length<=1099511627776) (hNb:b.length<=1099511627776) (hn:max a.length b.length+2<=n):f198 n a b=some (dg (vl a+vl b).toNat):=by
 unfold f198
 have:=Ba8 (n:=n) ha hb hN hNb (k0:=λz_6=>some z_6) n 0 0 [] rfl Lm.nil (by omega) (by omega) (by simp [vl]) (.inl (by omega)) (by omega)
 exact this

theorem B3d {α:Type} {n:Nat} {a b:List Int} (ha:Lm a) (hb:Lm b) (hN:a.length<=1099511627776) {k0:List Int->Option α}:∀ (m i:Nat) (c:Int) (o:List Int),o.length=i->Lm o->0<=c->c<=1->i<=a.length ->
  vl o-10000 ^ i*c=vl (a.take i)-vl (b.take i)->a.length+1<=i+m ->
  ∃ o' c',Qp n m a b c (i:Int) o k0=k0 o'/\o'.length=a.length/\Lm o'/\0<=c'/\c'<=1/\vl o'-10000 ^ a.length*c'=vl a-vl (b.take a.length)
 | 0,i,c,o,ho,hlo,hc0,hc1,hi,hv,hm=>by omega
 | m+1,i,c,o,ho,hlo,hc0,hc1,hi,hv,hm=>by
  rw [B6u];unfold A96;dsimp only;by_cases hA:i<a.length
  . rw [QE,QC (by omega),A2 (by simp;try omega)]
    have h1:=ha.get i;have h2:=hb.get i;have ta:=Bp a i;have tb:=Bp b i
    have ho2:(decide ((o.length+1)*8<=140737488355328))=true:=by
     rw [QO];omega
    have go:∀ y:Int,y=a.getD i 0-c-b.getD i 0->∃ o' c',Qp n m a b (if y<0 then 1 else 0) (W ((i:Int)+1)) (o++[W (y+W ((if y<0 then 1 else 0)*10000))]) k0=k0 o'/\o'.length=a.length/\Lm o'/\0<=c'/\c'<=1/\vl o'-10000 ^ a.length*c'=vl a-vl (b.take a.length):=by
     intro y hy
     obtain ⟨d,hd⟩:∃ d:Int,d=if y<0 then 1 else 0:=⟨_,rfl⟩
     have hd1:0<=d/\d<=1/\0<=y+d*10000/\y+d*10000<10000:=by
      rw [hd];split <;> omega
     rw [<- hd,A8 (x:=d*10000) (by omega) (by omega),A8 (x:=y+d*10000) (by omega) (by omega),A8 (x:=(i:Int)+1) (by omega) (by omega)]
     refine B3d (n:=n) ha hb hN m (i+1) d _ (by simp [ho]) (hlo.app (Lm.cons (by omega) Lm.nil)) (by omega) (by omega) (by omega) ?_ (by omega)
     rw [V9,ho,ta,tb,Ck];generalize (10000:Int) ^ i=P at *;grind
    simp only [QM];by_cases hB:i<b.length
    . have dB:decide ((i:Int)<(b.length:Int))=true:=by rw [QO];omega
      simp only [dB,QW]
      rw [A2 (by simp;try omega)]
      simp only [A8 (x:=a.getD i 0-c) (by omega) (by omega),A8 (x:=a.getD i 0-c-b.getD i 0) (by omega) (by omega)]
      rw [N8,A0,A2 ho2];simp only [QO];exact go _ rfl
    . have dB:decide ((i:Int)<(b.length:Int))=false:=by rw [ZV];omega
      simp only [dB,QP]
      simp only [A8 (x:=a.getD i 0-c) (by omega) (by omega)]
      rw [N8,A0,A2 ho2];simp only [QO]
      exact go _ (by rw [C0 (l:=b) (by omega)];omega)
  . rw [QE,QB (by omega)]
    obtain rfl:i=a.length:=by omega
    rw [YE] at hv;exact ⟨o,c,rfl,ho,hlo,hc0,hc1,hv⟩

theorem Big {n:Nat} {a b:List Int} (ha:Cn a) (hb:Cn b) (hN:a.length<=1099511627776) (hn:a.length+1<=n) (hab:vl b<=vl a):f200 n a b=some (dg (vl a-vl b).toNat):=by
 have hl:b.length<=a.length:=by
  rcases ZT a.length b.length with h | h
  . have:=ha.lt_of_len hb h;omega
  . exact h
 unfold f200
 obtain ⟨o,c,h1,h2,h3,h4,h5,h6⟩:=B3d (n:=n) ha.1 hb.1 hN (k0:=λz_4=>ob (f216 n z_4) λr_5=>some r_5) n 0 0 [] rfl Lm.nil (by omega) (by omega) (by omega) (by simp [vl]) (by omega)
 have h1:Qp n n a b 0 0 [] (λz_4=>ob (f216 n z_4) λr_5=>some r_5)=_:=h1
 rw [h1,A5i h3 (by omega) (by omega),A0]
 rw [Ml b hl] at h6;have h7:=K1 h3;rw [h2] at h7
 have:c=0:=by
  rcases Int.lt_or_eq_of_le h4 with h | h
  . have:c=1:=by omega
    rw [this] at h6;omega
  . exact h.symm
 rw [this] at h6
 rw [show vl o=vl a-vl b by simpa using h6]

theorem Qj {l:List Int} {k:Nat} (h:k<l.length):vl (l.drop k)=l.getD k 0+10000*vl (l.drop (k+1)):=by
 rw [XV h,vl,QJ,QN h];rfl

theorem Any {P o ok y q r c ai bk v' T:Int} (h:o+P*(c+ai*(bk+10000*v'))=T) (hy:y=ok+c+ai*bk) (hq:y=10000*q+r):o+P*(r-ok)+10000*P*(q+ai*v')=T:=by
 grind

theorem A86 {x y:Int} (hx:0<=x/\x<10000) (hy:0<=y/\y<10000):0<=x*y/\x*y<=99980001:=by
 have h1:=Int.mul_nonneg hx.1 hy.1
 have h2:x*y<=9999*y:=Int.mul_le_mul_of_nonneg_right (by omega) hy.1
 omega

theorem B4a {α:Type} {n:Nat} {a b:List Int} (ha:Lm a) (hb:Lm b) (i:Nat) (hi:i<a.length) {S:Nat} (hS:a.length+b.length<S) (hN:S<=1099511627776) {T:Int} (hT:T<10000 ^ S) {k0:List Int->List Int->Int->List Int->Option α} :
  ∀ (m k:Nat) (c:Int) (o:List Int),Lm o->o.length=S->0<=c->c<10000->i+k<=S->vl o+10000 ^ (i+k)*(c+a.getD i 0*vl (b.drop k))=T->S+1<=i+k+m ->
  ∃ o',Lm o'/\o'.length=S/\vl o'=T/\Qr n m a b (i:Int) c (k:Int) o k0=k0 a b (i:Int) o'
 | 0,k,c,o,hlo,ho,hc0,hc1,hik,hv,hm=>by omega
 | m+1,k,c,o,hlo,ho,hc0,hc1,hik,hv,hm=>by
  rw [B6z];unfold A9f;dsimp only;have h1:=ha.get i;have h2:=hb.get k;have h3:=hlo.get (i+k);have h4:=A86 h1 h2;have hvo:=Bn hlo
  have go:∀ y:Int,i+k<S->(k<b.length \/ b.length<=k)->y=o.getD (i+k) 0+c+a.getD i 0*b.getD k 0 ->
    ∃ o',Lm o'/\o'.length=S/\vl o'=T/\Qr n m a b (i:Int) (W (Int.tdiv y 10000)) (W ((k:Int)+1)) (o.set (i+k) (Int.tmod y 10000)) k0=k0 a b (i:Int) o':=by
   intro y hlt hk hy
   rw [tdv (by omega),tmd (by omega),A8 (by omega) (by omega),A8 (by omega) (by omega)]
   refine B4a (n:=n) ha hb i hi hS hN hT m (k+1) _ _ (hlo.set _ (by omega)) (by simpa using ho) (by omega) (by omega) (by omega) ?_ (by omega)
   rw [O8 _ (by omega),show i+(k+1)=(i+k)+1 by omega,Ck]
   have hyy:y=10000*(y / 10000)+y % 10000:=by omega
   refine Any (bk:=b.getD k 0) ?_ hy hyy;rcases hk with hk | hk
   . rw [<- Qj hk];exact hv
   . rw [ZB (by omega)] at hv ⊢
     rw [C0 hk];simpa [vl] using hv
  by_cases hB:k<b.length
  . have dB:decide ((k:Int)<(b.length:Int))=true:=by rw [QO];omega
    simp only [dB,QW,QM]
    rw [A8 (x:=(i:Int)+(k:Int)) (by omega) (by omega)]
    have e:((i:Int)+(k:Int)).toNat=i+k:=by omega
    simp only [e]
    rw [A2 (by simp;try omega),A2 (by simp;try omega),A2 (by simp;try omega),A2 (by simp;try omega),A8 (x:=a.getD i 0*b.getD k 0) (by omega) (by omega),A8 (x:=o.getD (i+k) 0+c) (by omega) (by omega),A8 (x:=o.getD (i+k) 0+c+a.getD i 0*b.getD k 0) (by omega) (by omega),A2 (by simp;try omega),A2 (by simp;try omega)]
    exact go _ (by omega) (.inl hB) rfl
  . have dB:decide ((k:Int)<(b.length:Int))=false:=by rw [ZV];omega
    simp only [dB,QP];rw [QE]
    rw [ZB (by omega)] at hv
    by_cases hc:0<c
    . have hlt : i + k < S := by
       refine Az6 ?_
       have h5:(10000:Int) ^ (i+k)*1<=10000 ^ (i+k)*c:=XL (by omega) (by have:=Ha (i+k);omega)
       simp only [vl,Qaw,Qbo] at hv;omega
      rw [QC (by omega),A8 (x:=(i:Int)+(k:Int)) (by omega) (by omega)]
      have e:((i:Int)+(k:Int)).toNat=i+k:=by omega
      simp only [e]
      rw [A2 (by simp;try omega),A2 (by simp;try omega),A2 (by simp;try omega),A2 (by simp;try omega),A8 (x:=o.getD (i+k) 0+c) (by omega) (by omega)]
      exact go _ hlt (.inr (by omega)) (by rw [C0 (l:=b) (by omega)];omega)
    . rw [QB (by omega)]
      obtain rfl:c=0:=by omega
      exact ⟨o,hlo,ho,by simpa [vl] using hv,rfl⟩

theorem B49 {a b:List Int} (ha:Lm a) (hb:Lm b) {i S:Nat} (hS:i+b.length<=S):vl (a.take i)*vl b<10000 ^ S:=by
 have h1:=K1 (ha.take i);have h2:=K1 hb;have h3:=Bn (ha.take i);have h4:=Bn hb
 have h5:(10000:Int) ^ (a.take i).length<=10000 ^ i:=A4r (by simp;omega)
 have h6:=Ha i;have h7:=Ha b.length
 have h8:vl (a.take i)*vl b<=vl (a.take i)*10000 ^ b.length:=XL (by omega) h3
 have h9:vl (a.take i)*10000 ^ b.length<10000 ^ i*10000 ^ b.length:=Int.mul_lt_mul_of_pos_right (by omega) h7
 rw [<- Int.pow_add] at h9;have h10:(10000:Int) ^ (i+b.length)<=10000 ^ S:=A4r hS;omega

theorem Avb {α:Type} {n:Nat} {a b:List Int} (ha:Lm a) (hb:Lm b) {S:Nat} (hS:a.length+b.length<S) (hN:S<=1099511627776) (hn:S+1<=n) {k0:List Int->Option α} :
  ∀ (m i:Nat) (o:List Int),Lm o->o.length=S->i<=a.length->vl o=vl (a.take i)*vl b->a.length+1<=i+m ->
  ∃ o',Lm o'/\o'.length=S/\vl o'=vl a*vl b/\Qs n m a b (i:Int) o k0=k0 o'
 | 0,i,o,hlo,ho,hi,hv,hm=>by omega
 | m+1,i,o,hlo,ho,hi,hv,hm=>by
  rw [B70];unfold A9i;dsimp only;rw [QE];by_cases hA:i<a.length
  . rw [QC (by omega)]
    have hT:vl (a.take (i+1))*vl b<10000 ^ S:=B49 ha hb (by omega)
    obtain ⟨o',q1,q2,q3,q4⟩:=B4a (n:=n) ha hb i hA hS hN hT (k0:=λz_1 z_2 z_3 z_4=>Qs n m z_1 z_2 (W (z_3+1)) z_4 k0) n 0 0 o hlo ho (by omega) (by omega) (by omega) (by
     rw [hv,Bp,ZR,KE];generalize (10000:Int) ^ i=P
     grind) (by omega)
    have q4:Qr n n a b (i:Int) 0 0 o _=_:=q4
    rw [q4,A8 (by omega) (by omega)]
    exact Avb (n:=n) ha hb hS hN hn m (i+1) o' q1 q2 (by omega) q3 (by omega)
  . rw [QB (by omega)]
    obtain rfl:i=a.length:=by omega
    rw [YE] at hv;exact ⟨o,hlo,ho,hv,rfl⟩

theorem Bil {n:Nat} {a b:List Int} (ha:Lm a) (hb:Lm b) (hN:a.length+b.length<=1099511627770) (hn:a.length+b.length+2<=n):f196 n a b=some (dg (vl a*vl b).toNat):=by
 unfold f196
 rw [A8 (x:=(a.length:Int)+(b.length:Int)) (by omega) (by omega),A8 (x:=(a.length:Int)+(b.length:Int)+1) (by omega) (by omega),A2 (by simp;try omega)]
 have e:((a.length:Int)+(b.length:Int)+1).toNat=a.length+b.length+1:=by omega
 rw [e]
 obtain ⟨o,q1,q2,q3,q4⟩:=Avb (n:=n) ha hb (S:=a.length+b.length+1) (by omega) (by omega) (by omega) (k0:=λz_5=>ob (f216 n z_5) λr_6=>some r_6) n 0 (List.replicate (a.length+b.length+1) 0) (Lm.rep _) (by simp) (by omega) (by rw [A1a];simp [vl]) (by omega)
 have q4:Qs n n a b 0 _ _=_:=q4
 rw [q4,A5i q1 (by omega) (by omega),A0,q3]

theorem B4b {α:Type} {n:Nat} {a b:List Int} (ha:Lm a) (hb:Lm b) (i:Nat) (hi:i<a.length) {S:Nat} (hS:a.length+b.length<=S) (hN:S<=1099511627776) {T:Int} (hT:T<10000 ^ S) (q1:List Int) (q2 q3:Int) {k0:List Int->List Int->Int->Int->List Int->Option α} :
  ∀ (m k:Nat) (c:Int) (o:List Int),Lm o->o.length=S->0<=c->c<10000->i+k<=S->vl o+10000 ^ (i+k)*(c+a.getD i 0*vl (b.drop k))=T->S+1<=i+k+m ->
  ∃ o',Lm o'/\o'.length=S/\vl o'=T/\Qz n m b (i:Int) (a.getD i 0) c (k:Int) q1 q2 q3 o k0=k0 b q1 q2 q3 o'
 | 0,k,c,o,hlo,ho,hc0,hc1,hik,hv,hm=>by omega
 | m+1,k,c,o,hlo,ho,hc0,hc1,hik,hv,hm=>by
  rw [B8a];unfold Aae;dsimp only;have h1:=ha.get i;have h2:=hb.get k;have h3:=hlo.get (i+k);have h4:=A86 h1 h2;have hvo:=Bn hlo
  have go:∀ y:Int,i+k<S->(k<b.length \/ b.length<=k)->y=o.getD (i+k) 0+c+a.getD i 0*b.getD k 0 ->
    ∃ o',Lm o'/\o'.length=S/\vl o'=T/\Qz n m b (i:Int) (a.getD i 0) (W (Int.tdiv y 10000)) (W ((k:Int)+1)) q1 q2 q3 (o.set (i+k) (Int.tmod y 10000)) k0=k0 b q1 q2 q3 o':=by
   intro y hlt hk hy
   rw [tdv (by omega),tmd (by omega),A8 (by omega) (by omega),A8 (by omega) (by omega)]
   refine B4b (n:=n) ha hb i hi hS hN hT q1 q2 q3 m (k+1) _ _ (hlo.set _ (by omega)) (by simpa using ho) (by omega) (by omega) (by omega) ?_ (by omega)
   rw [O8 _ (by omega),show i+(k+1)=(i+k)+1 by omega,Ck]
   have hyy:y=10000*(y / 10000)+y % 10000:=by omega
   refine Any (bk:=b.getD k 0) ?_ hy hyy;rcases hk with hk | hk
   . rw [<- Qj hk];exact hv
   . rw [ZB (by omega)] at hv ⊢
     rw [C0 hk];simpa [vl] using hv
  by_cases hB:k<b.length
  . have dB:decide ((k:Int)<(b.length:Int))=true:=by rw [QO];omega
    simp only [dB,QW,QM]
    rw [A8 (x:=(i:Int)+(k:Int)) (by omega) (by omega)]
    have e:((i:Int)+(k:Int)).toNat=i+k:=by omega
    simp only [e]
    rw [A2 (by simp;try omega),A8 (x:=a.getD i 0*b.getD k 0) (by omega) (by omega),A8 (x:=c+a.getD i 0*b.getD k 0) (by omega) (by omega),A2 (by simp;try omega),A2 (by simp;try omega),A2 (by simp;try omega),A2 (by simp;try omega),A8 (x:=c+a.getD i 0*b.getD k 0+o.getD (i+k) 0) (by omega) (by omega)]
    exact go _ (by omega) (.inl hB) (by omega)
  . have dB:decide ((k:Int)<(b.length:Int))=false:=by rw [ZV];omega
    simp only [dB,QP];rw [QE]
    rw [ZB (by omega)] at hv
    by_cases hc:0<c
    . have hlt : i + k < S := by
       refine Az6 ?_
       have h5:(10000:Int) ^ (i+k)*1<=10000 ^ (i+k)*c:=XL (by omega) (by have:=Ha (i+k);omega)
       simp only [vl,Qaw,Qbo] at hv;omega
      rw [QC (by omega),A8 (x:=(i:Int)+(k:Int)) (by omega) (by omega)]
      have e:((i:Int)+(k:Int)).toNat=i+k:=by omega
      simp only [e]
      rw [A2 (by simp;try omega),A2 (by simp;try omega),A2 (by simp;try omega),A2 (by simp;try omega),A8 (x:=c+o.getD (i+k) 0) (by omega) (by omega)]
      exact go _ hlt (.inr (by omega)) (by rw [C0 (l:=b) (by omega)];omega)
    . rw [QB (by omega)]
      obtain rfl:c=0:=by omega
      exact ⟨o,hlo,ho,by simpa [vl] using hv,rfl⟩

theorem Avc {α:Type} {n:Nat} {a b:List Int} (ha:Lm a) (hb:Lm b) {S:Nat} (hS:a.length+b.length<=S) (hN:S<=1099511627776) (hn:S+1<=n) {k0:List Int->Option α} :
  ∀ (m i:Nat) (o:List Int),Lm o->o.length=S->i<=a.length->vl o=vl (a.take i)*vl b->a.length+1<=i+m ->
  ∃ o',Lm o'/\o'.length=S/\vl o'=vl a*vl b/\R0 n m b a (a.length:Int) (i:Int) o k0=k0 o'
 | 0,i,o,hlo,ho,hi,hv,hm=>by omega
 | m+1,i,o,hlo,ho,hi,hv,hm=>by
  rw [B8b];unfold Aah;dsimp only;rw [QE];by_cases hA:i<a.length
  . rw [QC (by omega),A2 (by simp;try omega)]
    simp only [QM]
    have hT:vl (a.take (i+1))*vl b<10000 ^ S:=B49 ha hb (by omega)
    obtain ⟨o',q1,q2,q3,q4⟩:=B4b (n:=n) ha hb i hA hS hN hT a (a.length:Int) (i:Int) (k0:=λz_1 z_2 z_3 z_4 z_5=>R0 n m z_1 z_2 z_3 (W (z_4+1)) z_5 k0) n 0 0 o hlo ho (by omega) (by omega) (by omega) (by
     rw [hv,Bp,ZR,KE];generalize (10000:Int) ^ i=P
     grind) (by omega)
    have q4:Qz n n b (i:Int) (a.getD i 0) 0 0 a (a.length:Int) (i:Int) o _=_:=q4
    rw [q4,A8 (by omega) (by omega)]
    exact Avc (n:=n) ha hb hS hN hn m (i+1) o' q1 q2 (by omega) q3 (by omega)
  . rw [QB (by omega)]
    obtain rfl:i=a.length:=by omega
    rw [YE] at hv;exact ⟨o,hlo,ho,hv,rfl⟩

theorem Bjy {n:Nat} {a b:List Int} (ha:Lm a) (hb:Lm b) (hN:a.length+b.length<=1099511627770) (hn:a.length+b.length+2<=n):f152 n a b=some (dg (vl a*vl b).toNat):=by
 unfold f152
 rw [A8 (x:=(a.length:Int)+(b.length:Int)) (by omega) (by omega),A2 (by simp;try omega)]
 have e:((a.length:Int)+(b.length:Int)).toNat=a.length+b.length:=by omega
 rw [e]
 obtain ⟨o,q1,q2,q3,q4⟩:=Avc (n:=n) ha hb (S:=a.length+b.length) (by omega) (by omega) (by omega) (k0:=λz_5=>ob (f202 n z_5) λr_6=>some r_6) n 0 (List.replicate (a.length+b.length) 0) (Lm.rep _) (by simp) (by omega) (by rw [A1a];simp [vl]) (by omega)
 have q4:R0 n n b a (a.length:Int) 0 _ _=_:=q4
 rw [q4,Vw q1 (by omega) (by omega),A0,q3]

theorem pwc (k:Nat):((10000 ^ k:Nat):Int)=(10000:Int) ^ k:=by rw [Int.natCast_pow];rfl

theorem Blx (Q:Nat):((10000*Q:Nat):Int)=10000*(Q:Int):=by omega

theorem Ac8 (Q q:Nat):((10000*Q+q:Nat):Int)=10000*(Q:Int)+q:=by omega

theorem Am1 (Q q:Nat):((q+10000*Q:Nat):Int)=q+10000*(Q:Int):=by omega

theorem Ek {n k:Nat} (h:n<10000 ^ k):(dg n).length<=k:=Wn.2 (by rw [<- pwc];omega)

theorem Aca (n:Nat):n<10000 ^ (dg n).length:=by
 have:=Wn.1 (ZF (dg n).length);rw [<- pwc] at this;omega

theorem Kq {n k:Nat} (h:(dg n).length<=k):n<10000 ^ k:=by
 have:=Wn.1 h;rw [<- pwc] at this;omega

theorem C1 (a b:Nat):(dg (a*b)).length<=(dg a).length+(dg b).length:=by
 refine Ek ?_;rw [Nat.pow_add];exact Nat.mul_lt_mul'' (Aca a) (Aca b)

theorem Afp (a b:Nat):(dg (a+b)).length<=max (dg a).length (dg b).length+1:=by
 refine Ek ?_
 have h1:a<10000 ^ max (dg a).length (dg b).length:=Kq (by omega)
 have h2:b<10000 ^ max (dg a).length (dg b).length:=Kq (by omega)
 rw [YL];omega

theorem Afo {a:Nat} (h:a<10000):(dg a).length<=1:=Ek (by simpa using h)

theorem Bh5 (a:Nat) (x:Nat) (h:x<10000):(dg (x+10000*a)).length<=(dg a).length+1:=by
 refine Ek ?_;have:=Aca a;rw [YL];omega

theorem Alw {n a b:Nat} (h:(dg a).length<=1099511627776) (hn:(dg a).length<n):f199 n (dg a) (dg b)=some (cm a b):=by
 rw [Bii (I1 a) (I1 b) h hn,Bs,Bs]

theorem Pz {n a b:Nat} (h:(dg a).length+(dg b).length<=1099511627770) (hn:(dg a).length+(dg b).length+2<=n):f196 n (dg a) (dg b)=some (dg (a*b)):=by
 rw [Bil (F3 a) (F3 b) h hn,Bs,Bs];congr 1

theorem Bqj {n a b:Nat} (h:(dg a).length<=1099511627776) (h':(dg b).length<=1099511627776) (hn:max (dg a).length (dg b).length+2<=n):f198 n (dg a) (dg b)=some (dg (a+b)):=by
 rw [Bik (I1 a) (I1 b) h h' hn,Bs,Bs];congr 1

theorem Ayy {n a b:Nat} (h:(dg a).length<=1099511627776) (hn:(dg a).length+1<=n) (hab:b<=a):f200 n (dg a) (dg b)=some (dg (a-b)):=by
 rw [Big (I1 a) (I1 b) h hn (by rw [Bs,Bs];omega),Bs,Bs]
 congr 2;omega

theorem Q6 {n a b:Nat} (h:(dg a).length+(dg b).length<=1099511627770) (hn:(dg a).length+(dg b).length+2<=n):f152 n (dg a) (dg b)=some (dg (a*b)):=by
 rw [Bjy (F3 a) (F3 b) h hn,Bs,Bs];congr 1

theorem Am4 {n a b:Nat} (h:(dg a).length<=1099511627776):f155 n (dg a) (dg b)=some (cm a b):=by
 rw [Bjv (I1 a) (I1 b) h,Bs,Bs]

theorem Ass {α:Type} {n B R:Nat} (hBl:(dg B).length<=1099511627700) (hn:(dg B).length+20<=n) (s0:List Int) (s8:Int) (b14:List Int) {k0:List Int->List Int->List Int->Int->Int->List Int->Option α} :
  ∀ (m lo hi:Nat),lo<hi->hi<=10000->lo*B<=R->R<hi*B->hi<=lo+m ->
  Sa n m s0 (dg B) (dg R) s8 (lo:Int) (hi:Int) b14 k0=k0 s0 (dg B) (dg R) s8 ((R / B:Nat):Int) b14
 | 0,lo,hi,h1,h2,h3,h4,h5=>by omega
 | m+1,lo,hi,h1,h2,h3,h4,h5=>by
  rw [B0n];unfold A2s;dsimp only
  rw [A8 (x:=(hi:Int)-(lo:Int)) (by omega) (by omega),A8 (x:=(lo:Int)+(hi:Int)) (by omega) (by omega)]
  have e:Int.tdiv ((lo:Int)+(hi:Int)) 2=(((lo+hi) / 2:Nat):Int):=by
   rw [YR (by omega)];omega
  rw [e,A8 (x:=(((lo+hi) / 2:Nat):Int)) (by omega) (by omega)]
  generalize hmid:(lo+hi) / 2=mid;by_cases hc:lo+1<hi
  . rw [QE,QC (by omega),Qt (by omega) (by omega),A0]
    have hl:=Afo (a:=mid) (by omega)
    have hm:=C1 B mid
    rw [Pz (by omega) (by omega),A0,Alw (by omega) (by omega),A0,QE]
    by_cases hle:B*mid<=R
    . have : cm ((B * mid : Nat) : Int) (R : Int) <= 0 := by
       rcases JA hle with h | h
       . rw [M4 (by omega)];omega
       . rw [O6 (by omega)];omega
      rw [QC this]
      exact Ass hBl hn s0 s8 b14 m mid hi (by omega) h2 (by rw [KK];exact hle) h4 (by omega)
    . have : ¬ cm ((B * mid : Nat) : Int) (R : Int) <= 0 := by
       rw [M5 (by omega)];omega
      rw [QB this]
      exact Ass hBl hn s0 s8 b14 m lo mid (by omega) (by omega) h3 (by rw [KK];omega) (by omega)
  . rw [QE,QB (by omega)]
    obtain rfl:hi=lo+1:=by omega
    have:R / B=lo:=by
     rw [Nat.div_eq_iff (XQ (by rintro rfl;simp at h4))]
     rw [YQ] at h4;omega
    rw [this]

theorem Asd {α:Type} {n L A B:Nat} (hB:0<B) (hA:(dg A).length<=L) (hBl:(dg B).length<=L) (hL:L<=1099511627000) (hn:L+10040<=n) {k0:List Int->List Int->Option α} :
  ∀ (k m Q R:Nat) (o:List Int),k<m->k<=(dg A).length->R<B->o.length=(dg A).length->Lm o->(∀ i,i<k->o.getD i 0=0)->vl o=10000 ^ k*(Q:Int)->(Q:Int)*B+R=vl ((dg A).drop k) ->
  ∃ o',Lm o'/\o'.length=(dg A).length/\vl o'=((A / B:Nat):Int)/\Vs n m (dg A) (dg B) (dg R) ((k:Int)-1) o k0=k0 (dg (A % B)) o'
 | _,0,_,_,_,h1,_,_,_,_,_,_,_=>by omega
 | 0,m+1,Q,R,o,h1,h2,h3,h4,h5,h6,h7,h8=>by
  rw [Aj0];unfold Yd;dsimp only
  rw [QE,QB (by omega)]
  rw [ZR,Bs] at h8
  have h8:Q*B+R=A:=by
   have:((Q*B+R:Nat):Int)=A:=by rw [JS,XW];exact h8
   omega
  have h9:A / B=Q:=by rw [<- h8,Qat,Qad _ _ hB,KW h3,YI]
  have h10:A % B=R:=by rw [<- h8,Qai,KO h3]
  exact ⟨o,h5,h4,by rw [h7,h9];simp,by rw [h10]⟩
 | k+1,m+1,Q,R,o,h1,h2,h3,h4,h5,h6,h7,h8=>by
  rw [Aj0];unfold Yd;dsimp only
  rw [QE,QC (by omega)]
  rw [show (((k+1:Nat):Int)-1)=(k:Int) by omega]
  simp only [QM];have hg:=(F3 A).get k
  obtain ⟨x,hx⟩:∃ x:Nat,(dg A).getD k 0=(x:Int):=⟨((dg A).getD k 0).toNat,by omega⟩
  have hlR:(dg R).length<=L:=ZQ (Bz (by omega)) hBl
  have hlRx:=Bh5 R x (by omega)
  have hRx:vl ((dg A).drop k)=(x:Int)+10000*((Q:Int)*B+R):=by
   rw [Qj (by omega),hx,<- h8]
  have hR':x+10000*R<10000*B:=by omega
  rw [hx,A2 (by simp;try omega),A2 (by simp;try omega),A5i (Lm.app (Lm.cons (by omega) Lm.nil) (F3 R)) (by simp;omega) (by simp;omega),A0]
  have e1:(vl ([(x:Int)]++dg R)).toNat=x+10000*R:=by
   rw [YD,JR,vl,Bs];omega
  rw [e1,Alw (by omega) (by omega),A0,A8 (x:=(k:Int)-1) (by omega) (by omega),QE]
  by_cases hlt:x+10000*R<B
  . rw [QC (by rw [M4 (by omega)];omega)]
    refine Asd hB hA hBl hL hn k m (10000*Q) (x+10000*R) o (by omega) (by omega) hlt h4 h5 (λi hi=>h6 i (by omega)) ?_ ?_
    . rw [h7,Ck,Blx];grind
    . rw [hRx,Blx,Am1];grind
  . rw [QB (by
     rcases JA (Nat.le_of_not_lt hlt) with h | h
     . rw [M5 (by omega)];omega
     . rw [O6 (by omega)];omega)]
    have hbis := Ass (n := n) (B := B) (R := x + 10000 * R) (by omega) (by omega) (dg A) (k : Int) o (k0 := fun z_3 z_4 z_5 z_6 z_7 z_8 => (
            gd (decide (0<=z_6)&&decide (z_6<(z_8.length:Int))) (
             gd (decide (z_6.toNat<z_8.length)) (
              ob (f194 n z_7) λr_9 =>
              ob (f196 n z_4 r_9) λr_10 =>
              ob (f200 n z_5 r_10) λr_11 =>
              Vs n m z_3 z_4 r_11 (W (z_6-1)) (z_8.set z_6.toNat z_7) k0)))) n 0 10000 (by omega) (by omega) (by omega) hR' (by omega)
    have hbis:Sa n n (dg A) (dg B) (dg (x+10000*R)) (k:Int) 0 10000 o _=_:=hbis;rw [hbis];simp only [QM]
    have hq:(x+10000*R) / B<10000:=by
     rw [JF hB];omega
    have hqr:=Qaq (x+10000*R) B;have hqm:=KQ (x+10000*R) hB;generalize hqq:(x+10000*R) / B=q at *;generalize hrr:(x+10000*R) % B=r at *;have hl1:=Afo hq;have hl2:=C1 B q
    rw [A2 (by simp;try omega),A2 (by simp;try omega),Qt (by omega) (by omega),A0,Pz (by omega) (by omega),A0,Ayy (by omega) (by omega) (by omega),A0,A8 (x:=(k:Int)-1) (by omega) (by omega),show x+10000*R-B*q=r by omega]
    refine Asd hB hA hBl hL hn k m (10000*Q+q) r _ (by omega) (by omega) hqm (by simpa using h4) (h5.set _ (by omega)) (λi hi=>?_) ?_ ?_
    . rw [QJ,KP (by omega),<- QJ]
      exact h6 i (by omega)
    . rw [O8 _ (by omega),h7,h6 k (by omega),Ck,Ac8]
      generalize (10000:Int) ^ k=P;grind
    . rw [hRx]
      have:(B:Int)*q+r=x+10000*R:=by
       rw [<- Am1,<- hqr,JS,XW]
      rw [Ac8];grind

theorem Az0 {n L A B:Nat} (hB:0<B) (hA:(dg A).length<=L) (hBl:(dg B).length<=L) (hL:L<=1099511627000) (hn:L+10040<=n):f217 n (dg A) (dg B)=some (dg (A / B),dg (A % B)):=by
 unfold f217
 rw [A2 (by simp;try omega),A8 (x:=((dg A).length:Int)-1) (by omega) (by omega)]
 simp only [QM]
 obtain ⟨o, h1, h2, h3, h4⟩ := Asd (n := n) hB hA hBl hL hn (k0 := fun z_12 z_13 => (
       ob (f216 n z_13) λr_14 =>
       some (r_14,z_12))) (dg A).length n 0 0 (List.replicate (dg A).length 0) (by omega) (ZF _) hB (by simp) (Lm.rep _) (λi hi=>by simp [QJ,XX,hi]) (by rw [A1a];simp) (by simp [vl])
 rw [Cq] at h4
 rw [h4,A5i h1 (by omega) (by omega),A0,h3]
 rfl

theorem Aoq {a b:Nat} (hb:0<b) (hr:0<a % b) {j:Nat} (h:b<2 ^ (j+1)):b % (a % b)<2 ^ j:=by
 have h1:=KQ a hb;have h2:=KQ b hr;have h3:=Qaq b (a % b);generalize a % b=r at *
 have h4:1<=b / r:=by rw [Nat.le_div_iff_mul_le hr];omega
 have h5:r*1<=r*(b / r):=XI r h4;rw [YL] at h;omega

theorem Bmf {α:Type} {n L:Nat} (hL:L<=1099511627000) (hn:L+10040<=n) {k0:List Int->Option α} :
  ∀ (j m a b:Nat),b<2 ^ j->2*j+1<=m->(dg a).length<=L->(dg b).length<=L->Mz n m (dg a) (dg b) k0=k0 (dg (Nat.gcd b a)):=by
 have stop:∀ (m a:Nat),0<m->Mz n m (dg a) (dg 0) k0=k0 (dg (Nat.gcd 0 a)):=λm a hm=>by
  obtain ⟨m,rfl⟩:∃ m',m=m'+1:=⟨m-1,by omega⟩
  rw [Aj3,Qbd,Cq];rfl
 have step:∀ (m a b:Nat),0<b->(dg a).length<=L->(dg b).length<=L->Mz n (m+1) (dg a) (dg b) k0=Mz n m (dg b) (dg (a % b)) k0:=λm a b hb ha hbl=>by
  rw [Aj3];unfold A8o
  have:0<(dg b).length:=by rw [Ex (by omega)];simp
  rw [QE,QC (by omega),Az0 hb ha hbl hL hn,A0]
 intro j
 induction j with
 | zero =>
  intro m a b h1 h2 h3 h4
  obtain rfl:b=0:=by simpa using h1
  exact stop m a (by omega)
 | succ j ih =>
  intro m a b h1 h2 h3 h4;rcases YW b with rfl | hb
  . exact stop m a (by omega)
  obtain ⟨m,rfl⟩:∃ m',m=m'+2:=⟨m-2,by omega⟩
  have h5:(dg (a % b)).length<=L:=ZQ (Bz (Nat.le_of_lt (KQ a hb))) h4;rw [step _ _ _ hb h3 h4,Nat.gcd_rec b a];rcases YW (a % b) with hr | hr
  . rw [hr];exact stop _ _ (by omega)
  have h6:(dg (b % (a % b))).length<=L:=ZQ (Bz (Nat.le_of_lt (KQ b hr))) h5;rw [step _ _ _ hr h4 h5,Nat.gcd_rec (a % b) b]
  exact ih m _ _ (Aoq hb hr h1) (by omega) h5 h6

theorem Av5 {b L:Nat} (h:b<10000 ^ L):b<2 ^ (14*L):=by
 rw [Nat.pow_mul]
 exact XB h (Nat.pow_le_pow_left (by decide) L)

theorem Bfe {n L a b:Nat} (hL:L<=1099511627000) (hn:28*L+10040<=n) (ha:(dg a).length<=L) (hb:(dg b).length<=L):f213 n (dg a) (dg b)=some (dg (Nat.gcd a b)):=by
 unfold f213
 have h1:(dg (Nat.gcd b a)).length<=L:=by
  rcases YW b with rfl | h
  . rw [Qbd];exact ha
  . exact ZQ (Bz (Nat.gcd_le_left a h)) hb
 rw [Bmf hL (by omega) (14*L) n a b (Av5 (Kq hb)) (by omega) ha hb,A2 (by simp;try omega),Nat.gcd_comm]

theorem Vj {pre w post:List Int} {i:Nat} (h:i<w.length):(pre++w++post).getD (pre.length+i) 0=w.getD i 0:=by
 rw [ZP,QJ,ZG (by omega),KV,ZH h,<- QJ]

theorem Avd {pre w post:List Int} {i:Nat} (h:i<w.length) (x:Int):(pre++w++post).set (pre.length+i) x=pre++w.set i x++post:=by
 rw [ZP,List.set_append_right _ _ (by omega),KV,List.set_append_left _ _ h,ZP]

theorem B9w {y:Int} (h:y<0) (h':-1099511627776<y):W (Int.tdiv (W (W (y-10000)+1)) 10000)=y / 10000:=by
 rw [A8 (x:=y-10000) (by omega) (by omega),A8 (x:=y-10000+1) (by omega) (by omega)]
 have:Int.tdiv (y-10000+1) 10000=y / 10000:=by
  rw [show y-10000+1 = -(9999-y) by omega,Int.neg_tdiv,YR (by omega)]
  omega
 rw [this,A8 (by omega) (by omega)]

theorem Bas {o P q c wi bi v' T y d r:Int} (h:o+P*(c-q*(bi+10000*v'))=T) (hy:y=wi+c-q*bi) (hd:y=10000*d+r):o+P*(r-wi)+10000*P*(d-q*v')=T:=by
 grind

theorem B40 {o P c wi bi v' T y d r:Int} (h:o+P*(c+(bi+10000*v'))=T) (hy:y=wi+c+bi) (hd:y=10000*d+r):o+P*(r-wi)+10000*P*(d+v')=T:=by
 grind

theorem A7x {l:List Int} (k:Nat):vl (l.drop k)=l.getD k 0+10000*vl (l.drop (k+1)):=by
 rcases ZT k l.length with h | h
 . exact Qj h
 . rw [ZB h,ZB (by omega),C0 h];rfl

theorem B3c {α:Type} {n N:Nat} {b pre post:List Int} (hb:Lm b) (hbN:b.length=N) (hN:pre.length+N+1+post.length<=1099511627776) {q:Int} (hq:0<=q/\q<10000) {T:Int} {k0:Nat->Nat->List Int->Int->Int->Int->List Int->Option α} :
  ∀ (m i:Nat) (c:Int) (w:List Int),Lm w->w.length=N+1->-9999<=c->c<=0->i<=N+1->vl w+10000 ^ i*(c-q*vl (b.drop i))=T->N+2<=i+m ->
  ∃ w' c',Lm w'/\w'.length=N+1/\c'<=0/\vl w'+10000 ^ (N+1)*c'=T/\I9 n m pre.length (N+1) b (b.length:Int) q c ((N+1:Nat):Int) (i:Int) (pre++w++post) k0=k0 pre.length (N+1) b (b.length:Int) q c' (pre++w'++post)
 | 0,i,c,w,h1,h2,h3,h4,h5,h6,h7=>by omega
 | m+1,i,c,w,h1,h2,h3,h4,h5,h6,h7=>by
  rw [B0l];unfold A2o;dsimp only;by_cases hi:i<N+1
  . rw [QE,QC (by omega)]
    simp only [QM]
    rw [A2 (by simp;try omega),A2 (by simp;try omega)]
    simp only [Vj (pre:=pre) (post:=post) (w:=w) (i:=i) (by omega)]
    have g1:=h1.get i;have g2:=hb.get i;have g3:=A86 hq g2
    have go:∀ y:Int,y=w.getD i 0+c-q*b.getD i 0 ->
      ∃ w' c',Lm w'/\w'.length=N+1/\c'<=0/\vl w'+10000 ^ (N+1)*c'=T /\
      (bif (decide (y<0)) then (gd (decide (0<=(i:Int))&&decide ((i:Int)<((N+1:Nat):Int))) (
        gd (decide ((pre.length+i)<(pre++w++post).length)) (
         I9 n m pre.length (N+1) b (b.length:Int) q (W (Int.tdiv (W ((W (y-10000))+1)) 10000)) ((N+1:Nat):Int) (W ((i:Int)+1)) ((pre++w++post).set (pre.length+i) (W (y-(W ((W (Int.tdiv (W ((W (y-10000))+1)) 10000))*10000))))) k0)))
       else (gd (decide (0<=(i:Int))&&decide ((i:Int)<((N+1:Nat):Int))) (
        gd (decide ((pre.length+i)<(pre++w++post).length)) (
         I9 n m pre.length (N+1) b (b.length:Int) q 0 ((N+1:Nat):Int) (W ((i:Int)+1)) ((pre++w++post).set (pre.length+i) (W (y-(W (0*10000))))) k0))))=k0 pre.length (N+1) b (b.length:Int) q c' (pre++w'++post):=by
     intro y hy
     have hd:y=10000*(y / 10000)+y % 10000:=by omega
     have go2 : ∀ d : Int, d = y / 10000 -> ∃ w' c', Lm w' /\ w'.length = N + 1 /\ c' <= 0 /\ vl w' + 10000 ^ (N + 1) * c' = T /\ (gd (decide (0 <= (i : Int)) && decide ((i : Int) < ((N + 1 : Nat) : Int))) (
           gd (decide ((pre.length+i)<(pre++w++post).length)) (
            I9 n m pre.length (N+1) b (b.length:Int) q d ((N+1:Nat):Int) (W ((i:Int)+1)) ((pre++w++post).set (pre.length+i) (W (y-(W (d*10000))))) k0)))=k0 pre.length (N+1) b (b.length:Int) q c' (pre++w'++post):=by
      intro d hdd
      rw [A2 (by simp;try omega),A2 (by simp;try omega),Avd (by omega),A8 (x:=d*10000) (by omega) (by omega),A8 (x:=y-d*10000) (by omega) (by omega),A8 (x:=(i:Int)+1) (by omega) (by omega)]
      refine B3c (n:=n) hb hbN hN hq m (i+1) d _ (h1.set _ (by omega)) (by simpa using h2) (by omega) (by omega) (by omega) ?_ (by omega)
      rw [O8 _ (by omega),Ck]
      refine Bas (bi:=b.getD i 0) ?_ hy (by omega)
      rw [<- A7x];exact h6
     rw [QE];by_cases hneg:y<0
     . rw [QC hneg]
       simp only [B9w hneg (by omega)]
       exact go2 _ rfl
     . rw [QB hneg]
       exact go2 0 (by omega)
    by_cases hB:i<b.length
    . have dB:decide ((i:Int)<(b.length:Int))=true:=by rw [QO];omega
      simp only [dB,QW]
      rw [A2 (by simp;try omega)]
      simp only [A8 (x:=q*b.getD i 0) (by omega) (by omega),A8 (x:=w.getD i 0+c) (by omega) (by omega),A8 (x:=w.getD i 0+c-q*b.getD i 0) (by omega) (by omega)]
      exact go _ rfl
    . have dB:decide ((i:Int)<(b.length:Int))=false:=by rw [ZV];omega
      simp only [dB,QP]
      simp only [A8 (x:=w.getD i 0+c) (by omega) (by omega)]
      exact go _ (by rw [C0 (l:=b) (by omega)];omega)
  . rw [QE,QB (by omega)]
    obtain rfl:i=N+1:=by omega
    rw [ZB (by omega)] at h6
    exact ⟨w,c,h1,h2,h4,by simpa [vl] using h6,rfl⟩

theorem Av6 {α:Type} {n N:Nat} {b pre post:List Int} (hb:Lm b) (hbN:b.length=N) (hN:pre.length+N+1+post.length<=1099511627776) {q z:Int} {T:Int} {k0:Nat->Nat->List Int->Int->Int->Int->Int->List Int->Option α} :
  ∀ (m i:Nat) (c:Int) (w:List Int),Lm w->w.length=N+1->0<=c->c<=1->i<=N+1->vl w+10000 ^ i*(c+vl (b.drop i))=T->N+2<=i+m ->
  ∃ w' c',Lm w'/\w'.length=N+1/\0<=c'/\c'<=1/\vl w'+10000 ^ (N+1)*c'=T/\Ku n m pre.length (N+1) b (b.length:Int) q z c ((N+1:Nat):Int) (i:Int) (pre++w++post) k0=k0 pre.length (N+1) b (b.length:Int) q z c' (pre++w'++post)
 | 0,i,c,w,h1,h2,h3,h4,h5,h6,h7=>by omega
 | m+1,i,c,w,h1,h2,h3,h4,h5,h6,h7=>by
  rw [Aty];unfold Y8;dsimp only;by_cases hi:i<N+1
  . rw [QE,QC (by omega)]
    simp only [QM]
    rw [A2 (by simp;try omega),A2 (by simp;try omega),Vj (by omega)]
    have g1:=h1.get i;have g2:=hb.get i
    have go : ∀ y : Int, y = w.getD i 0 + c + b.getD i 0 -> ∃ w' c', Lm w' /\ w'.length = N + 1 /\ 0 <= c' /\ c' <= 1 /\ vl w' + 10000 ^ (N + 1) * c' = T /\ (gd (decide (0 <= (i : Int)) && decide ((i : Int) < ((N + 1 : Nat) : Int))) (
            gd (decide ((pre.length+i)<(pre++w++post).length)) (
             Ku n m pre.length (N+1) b (b.length:Int) q z (W (Int.tdiv y 10000)) ((N+1:Nat):Int) (W ((i:Int)+1)) ((pre++w++post).set (pre.length+i) (Int.tmod y 10000)) k0)))=k0 pre.length (N+1) b (b.length:Int) q z c' (pre++w'++post):=by
     intro y hy
     have hd:y=10000*(y / 10000)+y % 10000:=by omega
     rw [A2 (by simp;try omega),A2 (by simp;try omega),Avd (by omega),tdv (by omega),tmd (by omega),A8 (x:=y / 10000) (by omega) (by omega),A8 (x:=(i:Int)+1) (by omega) (by omega)]
     refine Av6 (n:=n) hb hbN hN m (i+1) _ _ (h1.set _ (by omega)) (by simpa using h2) (by omega) (by omega) (by omega) ?_ (by omega)
     rw [O8 _ (by omega),Ck]
     refine B40 (bi:=b.getD i 0) ?_ hy hd;rw [<- A7x];exact h6
    by_cases hB:i<b.length
    . have dB:decide ((i:Int)<(b.length:Int))=true:=by rw [QO];omega
      simp only [dB,QW]
      rw [A2 (by simp;try omega)]
      simp only [A8 (x:=w.getD i 0+c) (by omega) (by omega),A8 (x:=w.getD i 0+c+b.getD i 0) (by omega) (by omega)]
      exact go _ rfl
    . have dB:decide ((i:Int)<(b.length:Int))=false:=by rw [ZV];omega
      simp only [dB,QP]
      simp only [A8 (x:=w.getD i 0+c) (by omega) (by omega)]
      exact go _ (by rw [C0 (l:=b) (by omega)];omega)
  . rw [QE,QB (by omega)]
    obtain rfl:i=N+1:=by omega
    rw [ZB (by omega)] at h6
    exact ⟨w,c,h1,h2,h3,h4,by simpa [vl] using h6,rfl⟩

theorem Ben {P v c R qB:Int} (h1:v<P) (hP:0<P) (h:v+P*c=R-qB) (hc:c<0):R-qB<0:=by
 have:P*c<=P*(-1):=XL (by omega) (by omega)
 omega

theorem Beo {P v c R q B:Int} (h0:v<P) (h:v+P*c=R-q*B) (hB:0<=B) (hBP:B<P) (hR:0<=R) (hq:q<10000) (hq0:0<=q):-10000<=c:=by
 have h9:q*B<=10000*B:=Int.mul_le_mul_of_nonneg_right (by omega) (by omega)
 rcases Int.lt_or_le c (-10000) with h1 | h1
 . have h8:P*c<=P*(-10001):=XL (by omega) (by omega)
   exfalso;omega
 . exact h1

theorem Bem {v v' x x' R qB B:Int} (h:v+x=R-qB) (h':v'+x'=v+B):v'+(x+x')=R-(qB-B):=by omega

theorem Ay6 {α:Type} {n N R B:Nat} {pre post:List Int} (hB:0<B) (hbN:(dg B).length=N) (hN:pre.length+N+1+post.length<=1099511627776) (hn:N+2<=n) {k0:Int->List Int->Option α} :
  ∀ (m q:Nat) (c:Int) (w:List Int),Lm w->w.length=N+1->c<=0->vl w+10000 ^ (N+1)*c=(R:Int)-q*B->R / B<=q->q<10000->q<m ->
  ∃ w',Lm w'/\w'.length=N+1/\vl w'=((R % B:Nat):Int)/\Kv n m pre.length (N+1) (dg B) ((dg B).length:Int) (q:Int) c (pre++w++post) k0=k0 ((R / B:Nat):Int) (pre++w'++post)
 | 0,q,c,w,h1,h2,h3,h4,h5,h6,h7=>by omega
 | m+1,q,c,w,h1,h2,h3,h4,h5,h6,h7=>by
  rw [Au0];unfold Yb;dsimp only;have hw:=K1 h1;have hw0:=Bn h1;rw [h2] at hw;rw [QE];have hP:=Ha (N+1);have hBP:=Aca B;rw [hbN] at hBP;have hdm:=Qaq R B;have hml:=KQ R hB;by_cases hc:c<0
  . rw [QC hc];have hneg:=Ben hw hP h4 hc
    have hlt:R / B<q:=by
     rw [JF hB];have:((q*B:Nat):Int)=(q:Int)*B:=XW q B;omega
    have hq0:0<q:=JT (KJ _) hlt
    have hBi:(B:Int)<10000 ^ N:=by rw [<- pwc];omega
    have hBP':(B:Int)<10000 ^ (N+1):=by
     have:=A4r (show N<=N+1 by omega)
     omega
    have hcm:=Beo (q:=(q:Int)) hw h4 (by omega) hBP' (by omega) (by omega) (by omega)
    rw [A8 (x:=(q:Int)-1) (by omega) (by omega),show (q:Int)-1=((q-1:Nat):Int) by omega]
    obtain ⟨w',c',q1,q2,q3,q4,q5,q6⟩:=Av6 (n:=n) (F3 B) hbN hN (q:=((q-1:Nat):Int)) (z:=c) (T:=vl w+B) (k0:=λz_12 z_13 z_14 z_15 z_16 z_17 z_18 z_19=>(
     Kv n m z_12 z_13 z_14 z_15 z_16 (W (z_17+z_18)) z_19 k0)) n 0 0 w h1 h2 (by omega) (by omega) (by omega) (by rw [ZR,Bs,Int.pow_zero,Int.one_mul,Int.zero_add]) (by omega)
    have q6:Ku n n pre.length (N+1) (dg B) ((dg B).length:Int) ((q-1:Nat):Int) c 0 ((N+1:Nat):Int) 0 (pre++w++post) _=_:=q6;rw [q6]
    have hq1:((q-1:Nat):Int)*B=q*B-B:=by
     rw [show ((q-1:Nat):Int)=(q:Int)-1 by omega,Int.sub_mul,Int.one_mul]
    have hnew:vl w'+10000 ^ (N+1)*(c+c')=(R:Int)-((q-1:Nat):Int)*B:=by
     rw [Int.mul_add,hq1];exact Bem h4 q5
    rw [A8 (x:=c+c') (by omega) (by omega)]
    exact Ay6 hB hbN hN hn m (q-1) (c+c') w' q1 q2 (by omega) hnew (by omega) (by omega) (by omega)
  . rw [QB hc]
    obtain rfl:c=0:=by omega
    rw [Qaw,Qbo] at h4
    have e:R / B=q:=by
     refine Nat.le_antisymm h5 ?_;rw [Nat.le_div_iff_mul_le hB];have:((q*B:Nat):Int)=(q:Int)*B:=XW q B;omega
    refine ⟨w,h1,h2,?_,by rw [e]⟩
    have:((B*q:Nat):Int)=(q:Int)*B:=by rw [XW,Int.mul_comm]
    rw [e] at hdm;omega

theorem Bqq {P lowR lowB high top t R B:Int} (hR:R=lowR+P*high) (hB:B=lowB+P*top) (h1:lowR<P) (h2:0<=lowB) (hP:0<P) (ht:0<=t) (hle:t*B<=R):t*top<=high:=by
 have h3:t*(P*top)<=t*B:=XL (by omega) ht
 have h4:P*(t*top)<P*(high+1):=by
  rw [Int.mul_add,Int.mul_one,show P*(t*top)=t*(P*top) by grind];omega
 have:=Int.lt_of_mul_lt_mul_left h4 (by omega)
 omega

theorem Bcx {n M R B:Nat} {pre w post:List Int} (hbN:(dg B).length=M+2) (hN:pre.length+(M+2)+1+post.length<=1099511627776) (hn:M+10010<=n) (hw:Lm w) (hwl:w.length=M+3) (hv:vl w=(R:Int)) (hR:R<10000*B) :
  ∃ w',Lm w'/\w'.length=M+3/\vl w'=((R % B:Nat):Int)/\Ama n (pre++w++post,pre.length,M+3) (dg B)=some (((R / B:Nat):Int),pre++w'++post):=by
 have hB:0<B:=by omega
 unfold Ama;dsimp only;rw [hbN]
 rw [A8 (x:=((M+2:Nat):Int)-1) (by omega) (by omega),A8 (x:=((M+2:Nat):Int)-2) (by omega) (by omega),show ((M+2:Nat):Int)-1=((M+1:Nat):Int) by omega,show ((M+2:Nat):Int)-2=(M:Int) by omega]
 simp only [QM];have hb:=F3 B;have g0:=hw.get (M+2);have g1:=hw.get (M+1);have g2:=hw.get M;have b1:=hb.get (M+1);have b2:=hb.get M
 have bt:(dg B).getD (M+1) 0 ≠ 0:=by
  have:=(I1 B).2 (XU.1 (by omega))
  rw [hbN] at this;exact this
 rw [A2 (by simp;try omega),A2 (by simp;try omega),A2 (by simp;try omega),A2 (by simp;try omega),A2 (by simp;try omega),A2 (by simp;try omega),A2 (by simp;try omega),A2 (by simp;try omega)]
 simp only [Vj (pre:=pre) (post:=post) (w:=w) (i:=M+2) (by omega),Vj (pre:=pre) (post:=post) (w:=w) (i:=M+1) (by omega),Vj (pre:=pre) (post:=post) (w:=w) (i:=M) (by omega)]
 simp only [A8 (x:=(dg B).getD (M+1) 0*10000) (by omega) (by omega),A8 (x:=(dg B).getD (M+1) 0*10000+(dg B).getD M 0) (by omega) (by omega),A8 (x:=w.getD (M+2) 0*10000) (by omega) (by omega),A8 (x:=w.getD (M+2) 0*10000+w.getD (M+1) 0) (by omega) (by omega),A8 (x:=(w.getD (M+2) 0*10000+w.getD (M+1) 0)*10000) (by omega) (by omega),A8 (x:=(w.getD (M+2) 0*10000+w.getD (M+1) 0)*10000+w.getD M 0) (by omega) (by omega)]
 rw [A2 (by simp only [QO];omega)]
 have vw:(R:Int)=vl (w.take M)+10000 ^ M*((w.getD (M+2) 0*10000+w.getD (M+1) 0)*10000+w.getD M 0):=by
  have t1:=Bp w (M+2);have t2:=Bp w (M+1);have t3:=Bp w M
  rw [Ml w (by omega),hv] at t1
  rw [t1,t2,t3,Ck,Ck];grind
 have vb:(B:Int)=vl ((dg B).take M)+10000 ^ M*((dg B).getD (M+1) 0*10000+(dg B).getD M 0):=by
  have t2:=Bp (dg B) (M+1);have t3:=Bp (dg B) M
  rw [Ml (dg B) (by omega),Bs] at t2
  rw [t2,t3,Ck];grind
 have lw:=K1 (hw.take M)
 rw [KN,Qam (by omega)] at lw
 have lb:=Bn (hb.take M);generalize hhigh:(w.getD (M+2) 0*10000+w.getD (M+1) 0)*10000+w.getD M 0=high at *;generalize htop:(dg B).getD (M+1) 0*10000+(dg B).getD M 0=top at *
 have htop0:0<top:=by omega
 have hh0:0<=high/\high<1000000000000:=by omega
 rw [YR (by omega)]
 have hd0:0<=high / top:=Int.ediv_nonneg (by omega) (by omega)
 have hd1:high / top<=high:=Int.ediv_le_self _ (by omega)
 rw [A8 (x:=high / top) (by omega) (by omega)]
 obtain ⟨q,hq⟩:∃ q:Nat,min (high / top) 9999=(q:Int):=⟨(min (high / top) 9999).toNat,by omega⟩
 have hql:q<10000:=by omega
 have hqr:R / B<=q:=by
  have h1:(((R / B:Nat):Int))*top<=high:=by
   refine Bqq vw vb lw lb (Ha M) (Int.natCast_nonneg _) ?_;have:=Nat.div_mul_le_self R B;rw [<- XW];omega
  have h2:((R / B:Nat):Int)<=high / top:=by rw [Int.le_ediv_iff_mul_le htop0];exact h1
  have h3:R / B<10000:=by rw [JF hB];omega
  omega
 rw [hq]
 obtain ⟨w1, c1, r1, r2, r3, r4, r5⟩ := B3c (n := n) (N := M + 2) (b := dg B) (pre := pre) (post := post) hb hbN hN (q := (q : Int)) (by omega) (T := (R : Int) - q * B) (k0 := fun z_5 z_6 z_7 z_8 z_9 z_10 z_11 => (
                       Kv n n z_5 z_6 z_7 z_8 z_9 z_10 z_11
                        (λz_20 z_21=>(
                         some (z_20,z_21))))) n 0 0 w hw hwl (by omega) (by omega) (by omega) (by rw [ZR,Bs,hv,Int.pow_zero,Int.one_mul,Int.zero_sub,Int.sub_eq_add_neg]) (by omega)
 obtain ⟨w2,s1,s2,s3,s4⟩:=Ay6 (n:=n) (N:=M+2) (R:=R) (B:=B) (pre:=pre) (post:=post) hB hbN hN (by omega) (k0:=λz_20 z_21=>(some (z_20,z_21))) n q c1 w1 r1 r2 r3 r4 hqr hql (by omega)
 refine ⟨w2,s1,s2,s3,?_⟩;rw [hbN] at r5 s4;have r5:I9 n n pre.length (M+3) (dg B) ((M+2:Nat):Int) (q:Int) 0 ((M+3:Nat):Int) 0 (pre++w++post) _=_:=r5;rw [r5];exact s4

theorem Bqd (y b:Nat):Int.tdiv (y:Int) (b:Int)=((y / b:Nat):Int):=by
 rw [YR (by omega),Int.natCast_ediv]

theorem Bqc (y b:Nat):Int.tmod (y:Int) (b:Int)=((y % b:Nat):Int):=by
 rw [Qah (by omega),Int.natCast_emod]

theorem Auy {o:List Int} {k i:Nat} {x:Int} (h:∀ i,i<k+1->o.getD i 0=0) (hi:i<k):(o.set k x).getD i 0=0:=by
 rw [QJ,KP (by omega),<- QJ]
 exact h i (by omega)

theorem An9 {Q B R x q r y:Nat} (hy:x+10000*R=y) (hqr:B*q+r=y) {V:Int} (hV:(Q:Int)*B+R=V):((10000*Q+q:Nat):Int)*B+r=x+10000*V:=by
 have:(B:Int)*q+r=x+10000*R:=by
  rw [<- Am1,hy,<- hqr,JS,XW]
 rw [Ac8,<- hV];grind

theorem B44 {α:Type} {n A B:Nat} (hB:0<B) (hB1:B<10000) (hlA:(dg A).length<=1099511627000) {k0:Int->List Int->Option α} :
  ∀ (k Q R:Nat) (o:List Int),k<=(dg A).length->R<B->o.length=(dg A).length->Lm o->(∀ i,i<k->o.getD i 0=0)->vl o=10000 ^ k*(Q:Int)->(Q:Int)*B+R=vl ((dg A).drop k) ->
  ∃ o',Lm o'/\o'.length=(dg A).length/\vl o'=((A / B:Nat):Int)/\N4 n (dg A) k (dg A) [(B:Int)] (R:Int) o k0=k0 ((A % B:Nat):Int) o'
 | 0,Q,R,o,h2,h3,h4,h5,h6,h7,h8=>by
  rw [B6o];rw [ZR,Bs] at h8
  have h8:Q*B+R=A:=by
   have:((Q*B+R:Nat):Int)=A:=by rw [JS,XW];exact h8
   omega
  have h9:A / B=Q:=by rw [<- h8,Qat,Qad _ _ hB,KW h3,YI]
  have h10:A % B=R:=by rw [<- h8,Qai,KO h3]
  exact ⟨o,h5,h4,by rw [h7,h9];simp,by rw [h10]⟩
 | k+1,Q,R,o,h2,h3,h4,h5,h6,h7,h8=>by
  rw [B6m];unfold A8u;dsimp only;have hg:=(F3 A).get k
  obtain ⟨x,hx⟩:∃ x:Nat,(dg A).getD k 0=(x:Int):=⟨((dg A).getD k 0).toNat,by omega⟩
  have hRx:vl ((dg A).drop k)=(x:Int)+10000*vl ((dg A).drop (k+1)):=by
   rw [Qj (by omega),hx]
  simp only [QM]
  rw [A2 (by simp;try omega),A2 (by simp;omega),A2 (by simp;try omega),A2 (by simp;omega),A2 (by simp;try omega),A2 (by simp;try omega),A2 (by simp),hx]
  rw [A8 (x:=(R:Int)*10000) (by omega) (by omega),A8 (x:=(R:Int)*10000+(x:Int)) (by omega) (by omega),show (R:Int)*10000+(x:Int)=((x+10000*R:Nat):Int) by omega]
  have e0:([(B:Int)]).getD 0 0=(B:Int):=rfl;rw [e0,Bqd,Bqc]
  have hq:(x+10000*R) / B<10000:=by
   rw [JF hB];omega
  have hqr:=Qaq (x+10000*R) B;have hqm:=KQ (x+10000*R) hB;generalize (x+10000*R) / B=q at *;generalize (x+10000*R) % B=r at *
  rw [A8 (x:=(q:Int)) (by omega) (by omega)]
  refine B44 hB hB1 hlA k (10000*Q+q) r _ (by omega) hqm (by simpa using h4) (h5.set _ (by omega)) (λi hi=>Auy h6 hi) ?_ ?_
  . rw [O8 _ (by omega),h7,h6 k (by omega),Ck,Ac8]
    generalize (10000:Int) ^ k=P;grind
  . rw [hRx,<- h8];exact An9 rfl hqr rfl

theorem Avg {α:Type} {n A B M:Nat} (hM:(dg B).length=M+2) (hla:(dg B).length<=(dg A).length) (hlA:(dg A).length<=1099511627000) (hn:(dg A).length+10040<=n) {k0:List Int->List Int->Option α} :
  ∀ (k m Q R:Nat) (o u:List Int),k<m->k<=(dg A).length-(M+1)->R<B->o.length=(dg A).length-(M+1)->Lm o->(∀ i,i<k->o.getD i 0=0)->vl o=10000 ^ k*(Q:Int) ->
  Lm u->u.length+k=(dg A).length+1->vl u=(R:Int)->(Q:Int)*B+R=vl ((dg A).drop k) ->
  ∃ o' u',Lm o'/\o'.length=(dg A).length-(M+1)/\vl o'=((A / B:Nat):Int)/\Lm u'/\u'.length=(dg A).length+1/\vl u'=((A % B:Nat):Int) /\
   Yf n m ((dg B).length:Int) ((k:Int)-1) (dg B) o ((dg A).take k++u) k0=k0 o' u'
 | _,0,_,_,_,_,h1,_,_,_,_,_,_,_,_,_,_=>by omega
 | 0,m+1,Q,R,o,u,h1,h2,h3,h4,h5,h6,h7,u1,u2,u3,h8=>by
  rw [Adk];unfold Uf;dsimp only
  rw [QE,QB (by omega)]
  rw [ZR,Bs] at h8
  have h8:Q*B+R=A:=by
   have:((Q*B+R:Nat):Int)=A:=by rw [JS,XW];exact h8
   omega
  have hB:0<B:=by omega
  have h9:A / B=Q:=by rw [<- h8,Qat,Qad _ _ hB,KW h3,YI]
  have h10:A % B=R:=by rw [<- h8,Qai,KO h3]
  exact ⟨o,u,h5,h4,by rw [h7,h9];simp,u1,by omega,by rw [u3,h10],by simp⟩
 | k+1,m+1,Q,R,o,u,h1,h2,h3,h4,h5,h6,h7,u1,u2,u3,h8=>by
  rw [Adk];unfold Uf;dsimp only
  have hB:0<B:=by omega
  rw [QE,QC (by omega)]
  rw [show (((k+1:Nat):Int)-1)=(k:Int) by omega]
  have hg:=(F3 A).get k
  obtain ⟨x,hx⟩:∃ x:Nat,(dg A).getD k 0=(x:Int):=⟨((dg A).getD k 0).toNat,by omega⟩
  have hRx:vl ((dg A).drop k)=(x:Int)+10000*vl ((dg A).drop (k+1)):=by
   rw [Qj (by omega),hx]
  have htk:(dg A).take (k+1)++u=(dg A).take k++((x:Int)::u):=by
   rw [KA (by omega),ZP]
   congr 1
   rw [<- hx,QJ,QN (by omega)]
   rfl
  have hL:Lm ((x:Int)::u):=Lm.cons (by omega) u1
  have hv:vl ((x:Int)::u)=((x+10000*R:Nat):Int):=by rw [vl,u3,Am1]
  have hlt:x+10000*R<10000*B:=by omega
  obtain ⟨w,post,hwp,hw,hp,hwl⟩:∃ w post,(x:Int)::u=w++post/\Lm w/\Lm post/\w.length=M+3 :=
   ⟨((x:Int)::u).take (M+3),((x:Int)::u).drop (M+3),(JE _ _).symm,hL.take _,hL.drop _,by rw [KN,QY];omega⟩
  have hlp:w.length+post.length=u.length+1:=by
   have:=ZY List.length hwp;simpa using this.symm
  have hvp:vl post=0:=by
   have e:=hv;rw [hwp,Abw,hwl] at e
   have h10:B<10000 ^ (M+2):=Kq (by omega)
   have h11:((x+10000*R:Nat):Int)<10000 ^ (M+3):=by
    rw [Ck,<- pwc];omega
   have h12:=Bn hw;have h13:=Bn hp;rcases Int.lt_or_eq_of_le h13 with h | h
   . exfalso
     have h14:(10000:Int) ^ (M+3)*1<=10000 ^ (M+3)*vl post:=XL (by omega) (by have:=Ha (M+3);omega)
     generalize (10000:Int) ^ (M+3)*vl post=z at *;generalize (10000:Int) ^ (M+3)=P at *;omega
   . exact h.symm
  have hvw:vl w=((x+10000*R:Nat):Int):=by
   rw [<- hv,hwp,Abw,hvp];simp
  rw [htk,hwp,<- ZP]
  have hpl:((dg A).take k).length=k:=by rw [KN];omega
  obtain ⟨w',q1,q2,q3,q4⟩:=Bcx (n:=n) (pre:=(dg A).take k) (post:=post) hM (by omega) (by omega) hw hwl hvw hlt
  rw [hpl] at q4
  rw [A8 (x:=(k:Int)+((dg B).length:Int)) (by omega) (by omega),A8 (x:=(k:Int)+((dg B).length:Int)+1) (by omega) (by omega)]
  rw [A2 (by simp only [QH,QO,ZC,hpl];omega)]
  rw [show ((k:Int)+((dg B).length:Int)+1).toNat-(k:Int).toNat=M+3 by omega]
  simp only [QM];rw [q4,A0];dsimp only;have hqm:=KQ (x+10000*R) hB;have hqr:=Qaq (x+10000*R) B
  have hq:(x+10000*R) / B<10000:=by
   rw [JF hB];omega
  generalize (x+10000*R) / B=q at *;generalize (x+10000*R) % B=r at *
  rw [A2 (by simp [hwl,q2]),A2 (by simp;try omega),A2 (by simp;try omega),A8 (x:=(k:Int)-1) (by omega) (by omega),ZP]
  refine Avg hM hla hlA hn k m (10000*Q+q) r _ _ (by omega) (by omega) hqm (by simpa using h4) (h5.set _ (by omega)) (λi hi=>Auy h6 hi) ?_ (q1.app hp) ?_ ?_ ?_
  . rw [O8 _ (by omega),h7,h6 k (by omega),Ck,Ac8]
    generalize (10000:Int) ^ k=P;grind
  . rw [ZC];omega
  . rw [Abw,hvp,q3];simp
  . rw [hRx,<- h8];exact An9 rfl hqr rfl

theorem Ix (n:Nat) {l:List Int} (h:l.length<=17592186044416):f123 n l=some l:=by
 unfold f123
 cases l with
 | nil=>rfl
 | cons x r =>
  unfold B23
  rw [XE,QB (by simp),A2 (by rfl),A2 (by simp only [QO];simp only [QY] at *;omega)]

theorem Ars (n:Nat) {l:List Int} (h:l.length<=17592186044416) (h0:l ≠ []):Ae9 n l=some l:=by
 unfold Ae9
 cases l with
 | nil=>exact absurd rfl h0
 | cons x r=>rw [A2 (by rfl),A2 (by simp only [QO];simp only [QY] at *;omega)]

theorem Azn {n L A B:Nat} (hB:0<B) (hA:(dg A).length<=L) (hBl:(dg B).length<=L) (hL:L<=1099511627000) (hn:L+10040<=n):f204 n (dg A) (dg B)=some (dg (A / B),dg (A % B)):=by
 unfold f204
 rw [Am4 (by omega),A0,QE]
 by_cases hlt:A<B
 . rw [QC (by rw [M4 (by omega)];omega),Ix n (by omega),A0,KW hlt,KO hlt,Cq]
 . rw [QB (by
    rcases JA (Nat.le_of_not_lt hlt) with h | h
    . rw [M5 (by omega)];omega
    . rw [O6 (by omega)];omega)]
   have hmn:(dg B).length<=(dg A).length:=Bz (by omega)
   have hb0:0<(dg B).length:=by rw [Ex (by omega)];simp
   rw [XE];by_cases h1:(dg B).length=1
   . rw [QC (by simp [h1])]
     have hB1:B<10000:=by have:=Kq (n:=B) (k:=1) (by omega);simpa using this
     have hBd:dg B=[(B:Int)]:=by
      rw [Ex (by omega),KO hB1,KW hB1,Cq]
     rw [A2 (by simp;try omega),show f205 n (dg A)=some (dg A) from rfl,A0,B6n,A2 (by simp;try omega),hBd]
     simp only [QM]
     obtain ⟨o, q1, q2, q3, q4⟩ := B44 (n := n) (A := A) hB hB1 (by omega) (k0 := fun z_4 z_5 => (
           ob (f202 n z_5) λr_6 =>
           ob (f150 n z_4) λr_7 =>
           some (r_6,r_7))) (dg A).length 0 0 (List.replicate (dg A).length 0) (ZF _) hB (by simp) (Lm.rep _) (λi hi=>by simp [QJ,XX,hi]) (by rw [A1a];simp) (by simp [vl])
     have q4:N4 n (dg A) (dg A).length (dg A) [(B:Int)] 0 _ _=_:=q4;have hm:=KQ A hB
     rw [q4,Vw q1 (by omega) (by omega),A0,A60 (by omega) (by omega),A0,q3]
     rfl
   . rw [QB (by simp;omega)]
     obtain ⟨M,hM⟩:∃ M,(dg B).length=M+2:=⟨(dg B).length-2,by omega⟩
     rw [Ars n (by omega) (XU.1 (by omega)),A0,A2 (by simp;try omega)]
     rw [A8 (x:=((dg A).length:Int)-((dg B).length:Int)) (by omega) (by omega),A8 (x:=((dg A).length:Int)-((dg B).length:Int)+1) (by omega) (by omega),A2 (by simp;try omega)]
     rw [show (((dg A).length:Int)-((dg B).length:Int)+1).toNat=(dg A).length-(M+1) by omega]
     have hR0:=Bn ((F3 A).drop ((dg A).length-(M+1)));obtain ⟨R,hR⟩:∃ R:Nat,vl ((dg A).drop ((dg A).length-(M+1)))=(R:Int):=⟨_,(Int.toNat_of_nonneg hR0).symm⟩
     have hRB:R<B:=by
      have:=K1 ((F3 A).drop ((dg A).length-(M+1)))
      rw [List.length_drop,show (dg A).length-((dg A).length-(M+1))=M+1 by omega,hR] at this
      have h2:=(I1 B).ge (XU.1 (by omega))
      rw [hM,Bs] at h2;have h2:(10000:Int) ^ (M+1)<=B:=h2;generalize (10000:Int) ^ (M+1)=P at *;omega
     obtain ⟨o, u, q1, q2, q3, q4, q5, q6, q7⟩ := Avg (n := n) (A := A) (B := B) hM hmn (by omega) (by omega) (k0 := fun z_10 z_11 => (
             ob (f202 n z_10) λr_12 =>
             ob (f202 n z_11) λr_13 =>
             some (r_12,r_13))) ((dg A).length-(M+1)) n 0 R (List.replicate ((dg A).length-(M+1)) 0) ((dg A).drop ((dg A).length-(M+1))++[0]) (by omega) (ZF _) hRB (by simp) (Lm.rep _) (λi hi=>by simp [QJ,XX,hi]) (by rw [A1a];simp) (((F3 A).drop _).app (Lm.cons (by omega) Lm.nil)) (by simp;omega) (by rw [V9,hR];simp) (by rw [hR];simp)
     rw [<- ZP,JE] at q7
     rw [show ((dg A).length:Int)-((dg B).length:Int)=(((dg A).length-(M+1):Nat):Int)-1 by omega,q7,Vw q1 (by omega) (by omega),A0,Vw q4 (by omega) (by omega),A0,q3,q6]
     rfl

theorem Bme {α:Type} {n L:Nat} (hL:L<=1099511627000) (hn:L+10040<=n) {k0:List Int->Option α} :
  ∀ (j m a b:Nat),b<2 ^ j->2*j+1<=m->(dg a).length<=L->(dg b).length<=L->N6 n m (dg a) (dg b) k0=k0 (dg (Nat.gcd b a)):=by
 have stop:∀ (m a:Nat),0<m->N6 n m (dg a) (dg 0) k0=k0 (dg (Nat.gcd 0 a)):=λm a hm=>by
  obtain ⟨m,rfl⟩:∃ m',m=m'+1:=⟨m-1,by omega⟩
  rw [Aj8,Qbd,Cq];rfl
 have step:∀ (m a b:Nat),0<b->(dg a).length<=L->(dg b).length<=L->N6 n (m+1) (dg a) (dg b) k0=N6 n m (dg b) (dg (a % b)) k0:=λm a b hb ha hbl=>by
  rw [Aj8];unfold A8x
  have:0<(dg b).length:=by rw [Ex (by omega)];simp
  rw [QE,QC (by omega),Azn hb ha hbl hL hn,A0]
 intro j
 induction j with
 | zero =>
  intro m a b h1 h2 h3 h4
  obtain rfl:b=0:=by simpa using h1
  exact stop m a (by omega)
 | succ j ih =>
  intro m a b h1 h2 h3 h4;rcases YW b with rfl | hb
  . exact stop m a (by omega)
  obtain ⟨m,rfl⟩:∃ m',m=m'+2:=⟨m-2,by omega⟩
  have h5:(dg (a % b)).length<=L:=ZQ (Bz (Nat.le_of_lt (KQ a hb))) h4;rw [step _ _ _ hb h3 h4,Nat.gcd_rec b a];rcases YW (a % b) with hr | hr
  . rw [hr];exact stop _ _ (by omega)
  have h6:(dg (b % (a % b))).length<=L:=ZQ (Bz (Nat.le_of_lt (KQ b hr))) h5;rw [step _ _ _ hr h4 h5,Nat.gcd_rec (a % b) b]
  exact ih m _ _ (Aoq hb hr h1) (by omega) h5 h6

theorem Bfq {n L a b:Nat} (hL:L<=1099511627000) (hn:28*L+10040<=n) (ha:(dg a).length<=L) (hb:(dg b).length<=L):f203 n (dg a) (dg b)=some (dg (Nat.gcd a b)):=by
 unfold f203
 rw [Bme hL (by omega) (14*L) n a b (Av5 (Kq hb)) (by omega) ha hb,Nat.gcd_comm]

abbrev Rt:=Bool × List Int × List Int

abbrev rt0:Rt:=(false,[],[])

def Sm (x:Rt):Prop:=x.2.1.length<=1048576/\x.2.2.length<=1048576

theorem Sm.get {l:List Rt} (h:∀ x ∈ l,Sm x) (i:Nat):Sm (l.getD i rt0):=by
 rw [QJ]
 cases e:l[i]? with
 | none=>exact ⟨by simp,by simp⟩
 | some x=>exact h x (ZN e)

def J7 (x:Int):Bool:=decide (0<=x/\x<=9999)

def U2 (l:List Int):Bool:=decide (l.length<=40)&&l.all J7&&(l.isEmpty || decide (0<l.getD (l.length-1) 0))

theorem Vi {l:List Int} (h:U2 l=true):Cn l/\l.length<=40:=by
 unfold U2 at h;simp only [QH,QO,XA,QK,YU] at h;obtain ⟨⟨h1,h2⟩,h3⟩:=h;refine ⟨⟨λx hx=>?_,λhn=>?_⟩,h1⟩
 . have:=h2 x hx;unfold J7 at this;rw [QO] at this;omega
 . rcases h3 with h3 | h3
   . exact absurd h3 hn
   . omega

theorem A6k {α:Type} {l:List α} {p:α->Bool} {i:Nat} (h:i<l.length) (d:α):(l.drop i).all p=(p (l.getD i d)&&(l.drop (i+1)).all p):=by
 rw [XV h,XJ,QJ,QN h];rfl

theorem Kw {n:Nat} {a lo hi:Int}:f181 n a lo hi=some (decide (lo<=a/\a<=hi)):=by
 unfold f181;by_cases h:lo<=a <;> simp [h]

theorem Vz {n:Nat} {a lo hi:Int}:f177 n a lo hi=some (decide (lo<=a/\a<=hi)):=by
 unfold f177;by_cases h:lo<=a <;> simp [h]

theorem Aj4 {α:Type} {n:Nat} {l:List Int} (hl:l.length<=1048576) {k0:Bool->Option α} {k1:List Int->Option α}:∀ (m i:Nat),i<=l.length->l.length<i+m->Vt n m l (i:Int) k0 k1=if (l.drop i).all J7=true then k1 l else k0 false
 | 0,i,hi,hm=>by omega
 | m+1,i,hi,hm=>by
  rw [B6j];unfold A8r;dsimp only;rw [QE];by_cases h:i<l.length
  . rw [QC (by omega),A2 (by simp;try omega)]
    simp only [QM];rw [Kw,A0,A6k h 0]
    cases hp:J7 (l.getD i 0) with
    | true =>
     unfold J7 at hp
     rw [hp,A8 (x:=(i:Int)+1) (by omega) (by omega)]
     simp only [ZJ,QP,ZZ]
     exact Aj4 hl m (i+1) (by omega) (by omega)
    | false =>
     unfold J7 at hp;rw [hp];simp
  . rw [QB (by omega),ZB (by omega)]
    rfl

theorem Awa {n:Nat} {l:List Int} (hn:1048577<=n):f212 n l=some (U2 l):=by
 unfold f212 U2;rw [QE];by_cases h:l.length<=4096
 . rw [QB (by omega)]
   have:=Aj4 (n:=n) (l:=l) (by omega) (k0:=λz_2=>some z_2) (k1:=λz_3=>(
     bif (decide ((z_3.length:Int)<=40)) then
      bif ((z_3.length:Int)==0) then
       some true
      else
       gd (decide (0<=(W ((z_3.length:Int)-1)))&&decide ((W ((z_3.length:Int)-1))<(z_3.length:Int))) (
        some (decide ((z_3.getD ((W ((z_3.length:Int)-1)).toNat) 0)>0)))
     else
      some false)) n 0 (by omega) (by omega)
   have this:Vt n n l 0 _ _=_:=this;rw [this,ZR]
   cases l.all J7 with
   | false=>simp
   | true =>
    rw [QC rfl,QE];by_cases h40:l.length<=40
    . rw [QC (by omega)]
      cases l with
      | nil=>rfl
      | cons x r =>
       rw [XE,QB (by simp;omega),A8 (x:=((x::r).length:Int)-1) (by omega) (by omega),A2 (by simp;omega),show (((x::r).length:Int)-1).toNat=(x::r).length-1 by omega]
       have h41:r.length<=39:=by simpa using h40
       simp [h41]
    . rw [QB (by omega)]
      simp [h40]
 . rw [QC (by omega),QR (by omega)]
   rfl

theorem A0p {n:Nat} {l:List Int} (hl:l.length<=1048576):∀ (m i:Nat),i<=l.length->l.length<i+m->∃ r,Jr n m l (l.length:Int) (i:Int) (λz=>some z) (λ(_:Unit)=>some (-1))=some r/\decide (r>=0) = !(l.drop i).all J7
 | 0,i,hi,hm=>by omega
 | m+1,i,hi,hm=>by
  rw [Akz];unfold S8;dsimp only;rw [QE];by_cases h:i<l.length
  . rw [QC (by omega),A2 (by simp;try omega)]
    simp only [QM]
    have e:f227 n (l.getD i 0)=some (!J7 (l.getD i 0)):=by
     unfold f227 J7;rw [QE];generalize l.getD i 0=x;by_cases h1:x<0
     . rw [QC h1,QR (by omega)];rfl
     . rw [QB h1];by_cases h2:x<=9999
       . rw [QR (by omega),QS (by omega)];rfl
       . rw [QS (by omega),QR (by omega)];rfl
    rw [e,A0,A6k h 0]
    cases hp:J7 (l.getD i 0) with
    | true =>
     rw [A8 (x:=(i:Int)+1) (by omega) (by omega)]
     simp only [ZJ,QP,ZZ]
     exact A0p hl m (i+1) (by omega) (by omega)
    | false =>
     exact ⟨i,rfl,by simp⟩
  . rw [QB (by omega),ZB (by omega)]
    exact ⟨-1,rfl,rfl⟩

theorem A7d {n:Nat} {l:List Int} (hl:l.length<=1048576) (hn:1048577<=n):S9 n l ()=some (!l.all J7):=by
 unfold S9 A8g
 obtain ⟨r,h1,h2⟩:=A0p (n:=n) hl n 0 (by omega) (by omega)
 have h1:Jr n n l (l.length:Int) 0 _ _=_:=h1;rw [h1,A0,h2,ZR]

theorem Aw4 {n:Nat} {l:List Int} (hn:1048577<=n):f225 n l=some (U2 l):=by
 unfold f225 U2;rw [QE];by_cases h:l.length<=40
 . rw [QB (by omega),QS h,ZZ,QE]
   cases l with
   | nil=>rw [QB (by simp),A7d (by omega) hn];rfl
   | cons x r =>
    rw [QC (by simp),A8 (x:=((x::r).length:Int)-1) (by omega) (by omega),A2 (by simp;omega),show (((x::r).length:Int)-1).toNat=(x::r).length-1 by omega]
    rw [A7d (by omega) hn,A0,Bool.not_not,XE]
    by_cases hz:(x::r).getD ((x::r).length-1) 0=0
    . rw [QC (by rw [hz];rfl),hz];simp
    . rw [QB (by rw [KU];exact hz)]
      cases ha:(x::r).all J7 with
      | false=>rfl
      | true =>
       have:J7 ((x::r).getD ((x::r).length-1) 0)=true:=by
        rw [QK] at ha;apply ha
        rw [QJ,QN (by simp)]
        simp only [YN];exact KX _
       unfold J7 at this;rw [QO] at this
       rw [QS (by omega)]
       simp
 . rw [QC (by omega),QR h];rfl

theorem Azi {α:Type} (l:List α):((l.length:Int)==0)=l.isEmpty:=by
 cases l with
 | nil=>rfl
 | cons x r=>rw [beq_eq_false_iff_ne.2 (by simp;omega)];rfl

def J5 (x:Rt):Bool:=U2 x.2.1&&U2 x.2.2 && !x.2.2.isEmpty && !(x.2.1.isEmpty&&x.1)&&decide (Nat.gcd (vl x.2.1).toNat (vl x.2.2).toNat=1)

theorem Ie:dg 1=[1]:=by rw [Ex (by omega),show 1 / 10000=0 from rfl,Cq];rfl

theorem Asn {g:Nat}:(cm (g:Int) ((1:Nat):Int)==0)=decide (g=1):=by
 unfold cm;by_cases h:g=1
 . subst h;rfl
 . rw [QR h];by_cases h2:(g:Int)<(1:Nat)
   . rw [QC h2];rfl
   . rw [QB h2,QB (by omega)];rfl

theorem Avt {a b:Nat} (ha:(dg a).length<=40) (hb:(dg b).length<=40):(dg (Nat.gcd a b)).length<=40:=by
 rcases YW a with rfl | h
 . rw [Qbd];exact hb
 . exact ZQ (Bz (Nat.gcd_le_left b h)) ha

theorem Bir {n:Nat} {x:Rt} (hn:1048577<=n):f184 n x=some (J5 x):=by
 obtain ⟨s,a,b⟩:=x;unfold f184 J5;dsimp only;simp only [Azi];rw [Awa hn,A0,Awa hn,A0]
 cases ha:U2 a with
 | false=>rfl
 | true =>
  cases hb:U2 b with
  | false=>rfl
  | true =>
   obtain ⟨ca,la⟩:=Vi ha;obtain ⟨cb,lb⟩:=Vi hb;have ea:=K4 ca;have eb:=K4 cb
   have hg:f213 n a b=some (dg (Nat.gcd (vl a).toNat (vl b).toNat)):=by
    conv=>lhs;rw [<- ea,<- eb]
    exact Bfe (L:=40) (by omega) (by omega) (by rw [ea];exact la) (by rw [eb];exact lb)
   have hgl:=Avt (a:=(vl a).toNat) (b:=(vl b).toNat) (by rw [ea];exact la) (by rw [eb];exact lb)
   rw [hg,A0,<- Ie,Alw (by omega) (by omega),A0,Asn]
   cases b <;> cases a <;> cases s <;> simp

theorem Bi9 {n:Nat} {x:Rt} (hn:1048577<=n):f215 n x=some (J5 x):=by
 obtain ⟨s,a,b⟩:=x;unfold f215 J5;dsimp only;rw [Aw4 hn,A0,Aw4 hn,A0]
 cases ha:U2 a with
 | false=>rfl
 | true =>
  cases hb:U2 b with
  | false=>rfl
  | true =>
   obtain ⟨ca,la⟩:=Vi ha;obtain ⟨cb,lb⟩:=Vi hb;have ea:=K4 ca;have eb:=K4 cb
   have hg:f203 n a b=some (dg (Nat.gcd (vl a).toNat (vl b).toNat)):=by
    conv=>lhs;rw [<- ea,<- eb]
    exact Bfq (L:=40) (by omega) (by omega) (by rw [ea];exact la) (by rw [eb];exact lb)
   have hgl:=Avt (a:=(vl a).toNat) (b:=(vl b).toNat) (by rw [ea];exact la) (by rw [eb];exact lb)
   rw [hg,A0,show f151 n=some [1] from rfl,A0,<- Ie,Am4 (by omega),A0,Asn,show f168 n (s,a,b)=some ((a.length:Int)==0) from rfl,A0,Azi,Azi]
   cases b <;> cases a <;> cases s <;> simp

theorem A0r {n:Nat} {l:List Rt} (hl:l.length<=1048576) (hn:1048577<=n):∀ (m i:Nat),i<=l.length->l.length<i+m->∃ r,Jt n m l (l.length:Int) (i:Int) (λz=>some z) (λ(_:Unit)=>some (-1))=some r/\decide (r>=0) = !(l.drop i).all J5
 | 0,i,hi,hm=>by omega
 | m+1,i,hi,hm=>by
  rw [Al0];unfold Sy;dsimp only;rw [QE];by_cases h:i<l.length
  . rw [QC (by omega),A2 (by simp;try omega)]
    simp only [QM]
    have e:f214 n (l.getD i rt0)=some (!J5 (l.getD i rt0)):=by
     unfold f214;rw [Bi9 hn,A0]
    rw [e,A0,A6k h rt0]
    cases hp:J5 (l.getD i rt0) with
    | true =>
     rw [A8 (x:=(i:Int)+1) (by omega) (by omega)]
     simp only [ZJ,QP,ZZ]
     exact A0r hl hn m (i+1) (by omega) (by omega)
    | false=>exact ⟨i,rfl,by simp⟩
  . rw [QB (by omega),ZB (by omega)]
    exact ⟨-1,rfl,rfl⟩

theorem Aud {n:Nat} {l:List Rt} (hl:l.length<=1048576) (hn:1048577<=n):Zf n l ()=some (!l.all J5):=by
 unfold Zf A9u
 obtain ⟨r,h1,h2⟩:=A0r (n:=n) hl hn n 0 (by omega) (by omega)
 have h1:Jt n n l (l.length:Int) 0 _ _=_:=h1;rw [h1,A0,h2,ZR]

theorem Bip {n:Nat} {l:List Rt} (hl:l.length<=1048576) (hn:1048577<=n):f185 n l=some (if l.all J5=true then 0 else 1):=by
 unfold f185;rw [Aud hl hn,A0]
 cases l.all J5 <;> rfl

def H7 (l:List Rt):Bool:=decide (1<=l.length/\l.length<=4)&&l.all J5

theorem Ak9 {α:Type} {n:Nat} {l:List Rt} (hl:l.length<=1048576) (hn:1048577<=n) {k0:Bool->Option α} {k1:List Rt->Option α}:∀ (m i:Nat),i<=l.length->l.length<i+m->Wh n m l (i:Int) k0 k1=if (l.drop i).all J5=true then k1 l else k0 false
 | 0,i,hi,hm=>by omega
 | m+1,i,hi,hm=>by
  rw [B8y];unfold Ab2;dsimp only;rw [QE];by_cases h:i<l.length
  . rw [QC (by omega),A2 (by simp;try omega)]
    simp only [QM];rw [Bir hn,A0,A6k h rt0]
    cases hp:J5 (l.getD i rt0) with
    | true =>
     rw [A8 (x:=(i:Int)+1) (by omega) (by omega)]
     simp only [ZJ,QP,ZZ]
     exact Ak9 hl hn m (i+1) (by omega) (by omega)
    | false=>simp
  . rw [QB (by omega),ZB (by omega)]
    rfl

theorem Ahj {n:Nat} {l:List Rt} (hn:1048577<=n):f116 n l=some (H7 l):=by
 unfold f116 H7;rw [QE];by_cases h:l.length<=4096
 . rw [QB (by omega)]
   have h1:=Ak9 (n:=n) (l:=l) (by omega) hn (k0:=λz_3=>some z_3) (k1:=λz_4=>(
     ob (f181 n (z_4.length:Int) 1 4) λr_5 =>
     some r_5)) n 0 (by omega) (by omega)
   have h1:Wh n n l 0 _ _=_:=h1;rw [h1,ZR,Kw,A0]
   have e:decide ((1:Int)<=(l.length:Int)/\(l.length:Int)<=4)=decide (1<=l.length/\l.length<=4):=by
    apply decide_eq_decide.2;omega
   rw [e]
   cases l.all J5 <;> simp
 . rw [QC (by omega),QR (by omega)];rfl

theorem Ahg {n:Nat} {l:List Rt} (hn:1048577<=n):f119 n l=some (H7 l):=by
 unfold f119 H7;rw [QE,QE];by_cases h:1<=l.length/\l.length<=4
 . rw [QC (by omega),QC (by omega),Bip (by omega) hn,QS h,A0]
   cases l.all J5 <;> rfl
 . rw [QR h];split
   . rw [QB (by omega)];rfl
   . rfl

theorem Ak4 {n:Nat} {l:List Int} (hl:l.length<=1048576):∀ (m i:Nat),i<=l.length->l.length<i+m->∃ c,We n m 4096 l (l.length:Int) (i:Int) (λz=>some z) (λ(_:Unit)=>some 0)=some c/\((c=0 /\ ∀ x ∈ l.drop i,x<=4096) \/ (c=2 /\ ∃ x ∈ l,4096<x))
 | 0,i,hi,hm=>by omega
 | m+1,i,hi,hm=>by
  rw [B8r];unfold Aat;dsimp only;rw [QE];by_cases h:i<l.length
  . rw [QC (by omega),A2 (by simp;try omega)]
    simp only [QM];rw [QE];by_cases hx:4096<l.getD i 0
    . rw [QC hx];refine ⟨2,rfl,.inr ⟨rfl,l.getD i 0,?_,hx⟩⟩;rw [QJ,QN h];exact KX h
    . rw [QB hx,A8 (x:=(i:Int)+1) (by omega) (by omega)]
      obtain ⟨c,h1,h2⟩:=Ak4 (n:=n) hl m (i+1) (by omega) (by omega)
      refine ⟨c,h1,h2.imp (λ⟨e,h3⟩=>⟨e,λx hx'=>?_⟩) (λh=>h)⟩;rw [XV h] at hx';rcases QX.1 hx' with rfl | hx'
      . rw [QJ,QN h] at hx;exact Int.not_lt.1 hx
      . exact h3 x hx'
  . rw [QB (by omega)]
    refine ⟨0,rfl,.inl ⟨rfl,λx hx=>?_⟩⟩
    rw [ZB (by omega)] at hx
    cases hx

theorem Ap6 {α:Type} {n:Nat} {L:List (List Rt)} (hl:L.length<=1048576) {k0:List Int->Option α}:∀ (m i:Nat) (o:List Int),o.length<=i->i<=L.length->L.length<i+m->A2k n m L (L.length:Int) (i:Int) o k0=k0 (o++(L.drop i).map λv=>(v.length:Int))
 | 0,i,o,ho,hi,hm=>by omega
 | m+1,i,o,ho,hi,hm=>by
  rw [Bcf];unfold Agc;dsimp only;rw [QE];by_cases h:i<L.length
  . rw [QC (by omega),A2 (by simp;try omega),A2 (by simp only [QO];omega)]
    simp only [QM]
    rw [A8 (x:=(i:Int)+1) (by omega) (by omega),show (i:Int)+1=((i+1:Nat):Int) from rfl,Ap6 hl m (i+1) _ (by simp;omega) (by omega) (by omega),XV h,QJ,QN h,ZP]
    rfl
  . rw [QB (by omega),ZB (by omega)]
    simp

theorem Bmp {n:Nat} {L:List (List Rt)} (hl:L.length<=1048576) (hn:1048577<=n):∃ c,f71 n L=some c/\((c=0 /\ ∀ v ∈ L,v.length<=4096) \/ (c=2 /\ ∃ v ∈ L,4096<v.length)):=by
 unfold f71
 have h1:=Ap6 (n:=n) (L:=L) hl (k0:=λz_1=>(
   ob (f122 n 4096 z_1) λr_2 =>
   some r_2)) n 0 [] (by simp) (by omega) (by omega)
 have h1:A2k n n L (L.length:Int) 0 [] _=_:=h1;rw [h1,ZR,JR];unfold f122
 obtain ⟨c,h2,h3⟩:=Ak4 (n:=n) (l:=L.map λv=>(v.length:Int)) (by simpa using hl) n 0 (by omega) (by simp;omega)
 have h2:We n n 4096 _ _ 0 _ _=_:=h2
 refine ⟨c,by rw [h2,A0],h3.imp (λ⟨e,h⟩=>⟨e,λv hv=>by have:=h _ (by rw [ZR];exact ZK.2 ⟨v,hv,rfl⟩);omega⟩) λ⟨e,x,hx,hx'⟩=>⟨e,?_⟩⟩
 obtain ⟨v,hv,rfl⟩:=ZK.1 hx
 exact ⟨v,hv,by omega⟩

abbrev Nod:=Int × Int × Int × Int

def Aw (op:Int):Int:=if op=3 \/ op=4 \/ op=5 \/ op=6 then 2 else if op=7 \/ op=8 then 1 else 0

theorem S5 {n:Nat} {x:Nod}:f61 n x=some (Aw x.1):=by
 unfold f61 Aw;simp only [XE,KU];grind

def Fc (x:Nod):Prop:=if x.1=1 then 0<=x.2.2.2/\x.2.2.2<=999999999 else if x.1=2 then 0<=x.2.2.2/\x.2.2.2<=3 else if x.1=8 then 0<=x.2.2.2/\x.2.2.2<=8 else x.2.2.2=0

instance (x:Nod):Decidable (Fc x):=by unfold Fc;infer_instance

theorem Bi2 {n:Nat} {x:Nod}:f223 n x=some (decide (Fc x)):=by
 unfold f223 Fc;simp only [XE,KU,Vz,A0];grind

theorem Bi0 {n:Nat} {h:Bool} {k i:Int} (hi:0<=i/\i<1152921504606846976):f224 n h k i=some (decide (if h=true then 0<=k/\k<=i-1 else k=0)):=by
 unfold f224
 simp only [Vz,A0,A8 (x:=i-1) (by omega) (by omega),XE]
 cases h <;> grind

def Bg (x:Nod) (i:Int):Prop:=(1<=x.1/\x.1<=8)/\Fc x/\(if Aw x.1>0 then 0<=x.2.1/\x.2.1<=i-1 else x.2.1=0)/\(if Aw x.1>1 then 0<=x.2.2.1/\x.2.2.1<=i-1 else x.2.2.1=0)

instance (x:Nod) (i:Int):Decidable (Bg x i):=by unfold Bg;infer_instance

theorem Awc {n:Nat} {x:Nod} {i:Int} (hi:0<=i/\i<1152921504606846976):f211 n x i=some (decide (Bg x i)):=by
 unfold f211 Bg;simp only [Vz,Bi2,S5,A0,Bi0 hi,XE,QO];grind

theorem Ho {n:Nat} {a:Int}:f146 n a=some (decide (3<=a/\a<=6)):=by
 unfold f146;simp [Kw]

theorem Ky {n:Nat} {a:Int}:f147 n a=some (decide (a=7 \/ a=8)):=by
 unfold f147;simp only [XE,KU];grind

def Fj (x:Nod) (i:Int):Prop:=(1<=x.1/\x.1<=8)/\(if 3<=x.1/\x.1<=6 then (0<=x.2.1/\x.2.1<=i-1)/\(x.2.1+1<=x.2.2.1/\x.2.2.1<=i-1)/\x.2.2.2=0
 else if x.1=7 \/ x.1=8 then x.2.1=i-1/\0<i/\x.2.2.1=0/\0<=x.2.2.2/\x.2.2.2<=(if x.1=8 then 8 else 0)
 else if x.1=2 then x.2.1=0/\x.2.2.1=0/\0<=x.2.2.2/\x.2.2.2<=3 else x.2.1=0/\x.2.2.1=0/\0<=x.2.2.2/\x.2.2.2<=999999999)

instance (x:Nod) (i:Int):Decidable (Fj x i):=by unfold Fj;infer_instance

theorem Bin {n:Nat} {x:Nod} {i:Int} (hi:0<=i/\i<1152921504606846976):f186 n x i=some (decide (Fj x i)):=by
 unfold f186 Fj
 simp only [Kw,Ho,Ky,N8,A0,A8 (x:=i-1) (by omega) (by omega),XE,QO,KU]
 by_cases h0:1<=x.1/\x.1<=8
 . by_cases h1:3<=x.1/\x.1<=6
   . by_cases h2:0<=x.2.1/\x.2.1<=i-1
     . rw [A8 (x:=x.2.1+1) (by omega) (by omega)]
       simp only [h0,h1,h2];by_cases h3:x.2.1+1<=x.2.2.1/\x.2.2.1<=i-1
       . simp [h3];rfl
       . simp [h3]
     . simp [h0,h1,h2]
   . by_cases h2:x.1=7 \/ x.1=8
     . have e : W (8 * (if (x.1 == 8) = true then 1 else 0)) = if x.1 = 8 then 8 else 0 := by
        by_cases h:x.1=8 <;> simp [h] <;> exact A8 (by omega) (by omega)
       simp only [KU] at e;simp only [h0,h1,h2,e];grind
     . grind
 . simp [h0]

def okP (bs:List Int) (x:Nod) (i:Int):Prop:=Fj x i/\(3<=x.1/\x.1<=6->x.2.2.1=i-1/\bs.getD x.2.2.1.toNat 0=x.2.1+1)

instance (bs:List Int) (x:Nod) (i:Int):Decidable (okP bs x i):=by unfold okP;infer_instance

def nb (bs:List Int) (x:Nod) (i:Int):Int:=if 3<=x.1/\x.1<=8 then bs.getD x.2.1.toNat 0 else i

def nd (ds:List Int) (x:Nod):Int:=if 3<=x.1/\x.1<=6 then 1+max (ds.getD x.2.1.toNat 0) (ds.getD x.2.2.1.toNat 0) else if x.1=7 \/ x.1=8 then 1+ds.getD x.2.1.toNat 0 else 1

def Dv:List Int->List Int->List Nod->Option (List Int × List Int)
 | bs,ds,[]=>some (bs,ds)
 | bs,ds,x::r=>if okP bs x bs.length then Dv (bs++[nb bs x bs.length]) (ds++[nd ds x]) r else none

structure A0b (bs ds:List Int):Prop where
 len:ds.length=bs.length
 small:bs.length<=1048576
 b:∀ j,j<bs.length->0<=bs.getD j 0/\bs.getD j 0<=j
 d:∀ j,j<ds.length->1<=ds.getD j 0/\ds.getD j 0<=j+1

theorem Re {a:Int} {k:Nat} (h0:0<=a) (h:a<=(k:Int)-1):a.toNat<k:=by omega

theorem A0b.step {bs ds:List Int} (h:A0b bs ds) {x:Nod} (hx:okP bs x bs.length) (hs:bs.length+1<=1048576):A0b (bs++[nb bs x bs.length]) (ds++[nd ds x]):=by
 obtain ⟨h1,h2,h3,h4⟩:=h;have hn:=hx.1;unfold Fj at hn
 refine ⟨by simp [h1],by simpa using hs,λj hj=>?_,λj hj=>?_⟩
 . simp only [ZC,QY,ZM] at hj;rcases ZT j bs.length with hlt | hge
   . rw [B7 hlt];exact h3 j hlt
   . obtain rfl:j=bs.length:=by omega
     rw [B5];unfold nb;split
     . have ha : 0 <= x.2.1 /\ x.2.1 <= (bs.length : Int) - 1 := by
        split at hn
        . omega
        . split at hn
          . omega
          . omega
       have:=h3 _ (Re ha.1 ha.2);omega
     . omega
 . simp only [ZC,QY,ZM] at hj;rcases ZT j ds.length with hlt | hge
   . rw [B7 hlt];exact h4 j hlt
   . obtain rfl:j=ds.length:=by omega
     rw [B5];unfold nd;split
     . rename_i h2';rw [QC h2'] at hn
       have ha:=h4 _ (by rw [h1];exact Re (k:=bs.length) (a:=x.2.1) (by omega) (by omega))
       have hb:=h4 _ (by rw [h1];exact Re (k:=bs.length) (a:=x.2.2.1) (by omega) (by omega))
       omega
     . rename_i h2';rw [QB h2'] at hn;split
       . rename_i h3';rw [QC h3'] at hn
         have ha:=h4 _ (by rw [h1];exact Re (k:=bs.length) (a:=x.2.1) (by omega) (by omega))
         omega
       . omega

theorem Bb3 {bs ds:List Int} (h:A0b bs ds) {x:Nod}:okP bs x bs.length ↔ Bg x bs.length/\(Aw x.1=1->x.2.1=(bs.length:Int)-1)/\(Aw x.1=2->x.2.2.1=(bs.length:Int)-1/\x.2.1=bs.getD x.2.2.1.toNat 0-1):=by
 obtain ⟨h1,h2,h3,h4⟩:=h;unfold okP Fj Bg Fc Aw;by_cases h2:3<=x.1/\x.1<=6
 . have e:x.1=3 \/ x.1=4 \/ x.1=5 \/ x.1=6:=by omega
   have e1:¬ x.1=1:=by omega
   have e2:¬ x.1=2:=by omega
   have e3:¬ x.1=8:=by omega
   simp only [QC e,QC h2,QB e1,QB e2,QB e3];constructor
   . rintro ⟨⟨ha,hb,hc,hd⟩,hf⟩
     obtain ⟨hf1,hf2⟩:=hf h2
     refine ⟨⟨ha,hd,by rw [QC (by decide)];omega,by rw [QC (by decide)];omega⟩,λh=>absurd h (by decide),λ_=>by omega⟩
   . rintro ⟨⟨ha,hb,hc,hd⟩,_,hf⟩
     obtain ⟨hf1,hf2⟩:=hf trivial
     rw [QC (by decide)] at hc hd
     have:=h3 _ (Re hd.1 hd.2)
     refine ⟨⟨ha,hc,?_,hb⟩,λ_=>⟨hf1,by omega⟩⟩
     omega
 . have e:¬ (x.1=3 \/ x.1=4 \/ x.1=5 \/ x.1=6):=by omega
   simp only [QB e,QB h2];by_cases h5:x.1=7 \/ x.1=8
   . have e1:¬ x.1=1:=by omega
     have e2:¬ x.1=2:=by omega
     simp only [QC h5,QB e1,QB e2];constructor
     . rintro ⟨⟨ha,hb,hc,hd,hn⟩,_⟩
       refine ⟨⟨ha,?_,by rw [QC (by decide)];omega,by rw [QB (by decide)];exact hd⟩,λ_=>hb,λh=>absurd h (by decide)⟩
       split <;> (split at hn <;> omega)
     . rintro ⟨⟨ha,hb,hc,hd⟩,hf,_⟩
       rw [QC (by decide)] at hc
       rw [QB (by decide)] at hd
       have hf:=hf trivial
       refine ⟨⟨ha,hf,by omega,hd,?_⟩,λh=>absurd h h2⟩
       split at hb <;> split <;> omega
   . have e3:¬ x.1=8:=by omega
     simp only [QB h5,QB e3];constructor
     . rintro ⟨⟨ha,hb⟩,_⟩
       refine ⟨⟨ha,?_,?_,?_⟩,λh=>absurd h (by decide),λh=>absurd h (by decide)⟩
       . have hb1:x.1=1 \/ x.1=2:=by omega
         rcases hb1 with h1' | h1'
         . rw [QB (by omega)] at hb;rw [QC h1'];omega
         . rw [QC h1'] at hb;rw [QB (by omega),QC h1'];omega
       . rw [QB (by decide)];split at hb <;> omega
       . rw [QB (by decide)];split at hb <;> omega
     . rintro ⟨⟨ha,hb,hc,hd⟩,_,_⟩
       rw [QB (by decide)] at hc hd
       refine ⟨⟨ha,?_⟩,λh=>absurd h h2⟩
       have hb1:x.1=1 \/ x.1=2:=by omega
       rcases hb1 with h1' | h1'
       . rw [QC h1'] at hb;rw [QB (by omega)];omega
       . rw [QB (by omega),QC h1'] at hb;rw [QC h1'];omega

theorem Atl {α:Type} {n k:Nat} {e:List Nod} {bs ds:List Int} {f} {k0:Bool->Option α} {k1} (hi:A0b bs ds) (hk:bs.length=k) (hlt:k<e.length) (hN:e.length<=1048576) :
  Sr n e (e.length:Int) (k:Int) bs ds f k0 k1=if okP bs (e.getD k (0,0,0,0)) (bs.length:Nat) then f e (e.length:Int) ((k+1:Nat):Int) (bs++[nb bs (e.getD k (0,0,0,0)) (bs.length:Nat)]) (ds++[nd ds (e.getD k (0,0,0,0))]) else k0 false:=by
 have hp:=Bb3 hi (x:=e.getD k (0,0,0,0));obtain ⟨h1,h2,h3,h4⟩:=hi;subst hk;unfold Sr;generalize hx:e.getD bs.length (0,0,0,0)=x at hp ⊢
 rw [QE,QC (by omega),A2 (by simp;omega)]
 simp only [QM,hx,Awc (x:=x) (i:=(bs.length:Int)) (by omega),S5,A0,A8 (x:=(bs.length:Int)-1) (by omega) (by omega),A8 (x:=(bs.length:Int)+1) (by omega) (by omega)]
 by_cases hpl:Bg x bs.length
 . simp only [hpl,decide_true,ZJ,QP];have hpl':=hpl;unfold Bg at hpl';by_cases k1':Aw x.1=1
   . have hop:x.1=7 \/ x.1=8:=by unfold Aw at k1';grind
     simp only [k1',beq_self_eq_true,QW]
     rw [QC (by rw [k1'];decide)] at hpl'
     by_cases ha:x.2.1=(bs.length:Int)-1
     . have hok:okP bs x bs.length:=hp.2 ⟨hpl,λ_=>ha,λh=>by omega⟩
       have hd:=h4 x.2.1.toNat (by omega)
       rw [QC hok]
       have e1:(x.2.1 != (bs.length:Int)-1)=false:=by simp [ha]
       rw [e1,QP,A2 (by simp;omega),A2 (by simp;omega),A2 (by simp;omega),A2 (by simp;omega),A2 (by simp;omega),A2 (by simp;omega),A8 (by omega) (by omega)]
       have e2:nb bs x bs.length=bs.getD x.2.1.toNat 0:=by unfold nb;rw [QC (by omega)]
       have e3:nd ds x=ds.getD x.2.1.toNat 0+1:=by unfold nd;rw [QB (by omega),QC hop];omega
       rw [e2,e3];rfl
     . have hok:¬ okP bs x bs.length:=λh=>ha ((hp.1 h).2.1 k1');rw [QB hok]
       have e1:(x.2.1 != (bs.length:Int)-1)=true:=by simp [ha]
       rw [e1,QW]
   . have e0:(Aw x.1==1)=false:=by simp [k1']
     rw [e0,QP];by_cases k2':Aw x.1=2
     . have hop:3<=x.1/\x.1<=6:=by unfold Aw at k2';grind
       simp only [k2',beq_self_eq_true,QW]
       rw [QC (by rw [k2'];decide),QC (by rw [k2'];decide)] at hpl'
       by_cases hb:x.2.2.1=(bs.length:Int)-1
       . have e1:(x.2.2.1 != (bs.length:Int)-1)=false:=by simp [hb]
         have hbb:=h3 x.2.2.1.toNat (by omega)
         rw [e1,QP,A2 (by simp;omega),A2 (by simp;omega),A8 (x:=bs.getD x.2.2.1.toNat 0-1) (by omega) (by omega)]
         by_cases ha:x.2.1=bs.getD x.2.2.1.toNat 0-1
         . have hok:okP bs x bs.length:=hp.2 ⟨hpl,λh=>by omega,λ_=>⟨hb,ha⟩⟩
           have hd:=h4 x.2.1.toNat (by omega)
           have hd':=h4 x.2.2.1.toNat (by omega)
           rw [QC hok]
           have e1:(x.2.1 != bs.getD x.2.2.1.toNat 0-1)=false:=by rw [<- ha];simp
           rw [e1,QP,A2 (by simp;omega),A2 (by simp;omega),A2 (by simp;omega),A2 (by simp;omega),A2 (by simp;omega),A2 (by simp;omega),A2 (by simp;omega),A2 (by simp;omega),A8 (by omega) (by omega)]
           have e2:nb bs x bs.length=bs.getD x.2.1.toNat 0:=by unfold nb;rw [QC (by omega)]
           have e3:nd ds x=max (ds.getD x.2.1.toNat 0) (ds.getD x.2.2.1.toNat 0)+1:=by unfold nd;rw [QC hop];omega
           rw [e2,e3];rfl
         . have hok:¬ okP bs x bs.length:=λh=>ha ((hp.1 h).2.2 k2').2;rw [QB hok]
           have e1:(x.2.1 != bs.getD x.2.2.1.toNat 0-1)=true:=by simp only [bne_iff_ne,ne_eq];exact ha
           rw [e1,QW]
       . have hok:¬ okP bs x bs.length:=λh=>hb ((hp.1 h).2.2 k2').1;rw [QB hok]
         have e1:(x.2.2.1 != (bs.length:Int)-1)=true:=by simp [hb]
         rw [e1,QW]
     . have e0:(Aw x.1==2)=false:=by simp [k2']
       rw [e0,QP];have hok:okP bs x bs.length:=hp.2 ⟨hpl,λh=>absurd h k1',λh=>absurd h k2'⟩
       have hop:x.1=1 \/ x.1=2:=by unfold Aw at k1' k2';grind
       rw [QC hok,A2 (by simp;omega),A2 (by simp;omega)]
       have e2:nb bs x bs.length=bs.length:=by unfold nb;rw [QB (by omega)]
       have e3:nd ds x=1:=by unfold nd;rw [QB (by omega),QB (by omega)]
       rw [e2,e3];rfl
 . have hok:¬ okP bs x bs.length:=λh=>hpl (hp.1 h).1;rw [QB hok];simp only [hpl,decide_false,ZW,QW]

theorem Xo:∀ (r:List Nod) (bs ds bs' ds':List Int),A0b bs ds->bs.length+r.length<=1048576->Dv bs ds r=some (bs',ds')->A0b bs' ds'/\bs'.length=bs.length+r.length/\(∀ j,j<bs.length->bs'.getD j 0=bs.getD j 0)/\(∀ j,j<ds.length->ds'.getD j 0=ds.getD j 0)
 | [],bs,ds,bs',ds',hi,_,h=>by
  simp only [Dv,QF,QL] at h;obtain ⟨rfl,rfl⟩:=h
  exact ⟨hi,by simp,λ_ _=>rfl,λ_ _=>rfl⟩
 | x::r,bs,ds,bs',ds',hi,hl,h=>by
  simp only [Dv] at h;simp only [QY] at hl;split at h
  . rename_i hok
    obtain ⟨h1,h2,h3,h4⟩:=Xo r _ _ bs' ds' (hi.step hok (by omega)) (by simp;omega) h
    refine ⟨h1,by rw [h2];simp;omega,λj hj=>?_,λj hj=>?_⟩
    . rw [h3 j (by simp;omega),B7 hj]
    . rw [h4 j (by simp;omega),B7 hj]
  . cases h

theorem Ac1 {α:Type} {n:Nat} {e:List Nod} (hN:e.length<=1048576) {k0:Bool->Option α} {k1:List Int->List Int->Option α}:∀ (r:List Nod) (m:Nat) (bs ds:List Int),A0b bs ds->e.drop bs.length=r->bs.length+r.length=e.length->r.length<m ->
  A5s n m e (e.length:Int) (bs.length:Int) bs ds k0 k1=match Dv bs ds r with
   | some (bs',ds')=>k1 bs' ds'
   | none=>k0 false
 | [],m+1,bs,ds,hi,hd,hl,hm=>by
  rw [Ajo];unfold Sr;simp only [ZM] at hl
  rw [QE,QB (by omega)]
  rfl
 | x::r,m+1,bs,ds,hi,hd,hl,hm=>by
  obtain ⟨hx,hlt,hd'⟩:=D5 (d:=(0,0,0,0)) hd;rw [Ajo,Atl hi rfl hlt hN,hx];simp only [Dv];by_cases hok:okP bs x bs.length
  . rw [QC hok,QC hok]
    have ih:=Ac1 hN r m (bs++[nb bs x bs.length]) (ds++[nd ds x]) (hi.step hok (by omega)) (by simpa using hd') (by simp;simp at hl;omega) (by simp at hm;omega) (n:=n) (k0:=k0) (k1:=k1)
    simp only [ZC,QY,ZM,YI] at ih;exact ih
  . rw [QB hok,QB hok]

theorem Azm:A0b [] []:=⟨rfl,by simp,λj hj=>by simp at hj,λj hj=>by simp at hj⟩

theorem Bj0 {n:Nat} {e:List Nod} (hN:e.length<=1048576) (hn:1048577<=n):f178 n e=some (match Dv [] [] e with
  | some (bs,ds)=>(bs,ds,true)
  | none=>([],[],false)):=by
 unfold f178
 have:=Ac1 (n:=n) hN (k0:=λz=>some ([],[],z)) (k1:=λa b=>some (a,b,true)) e n [] [] Azm rfl (by simp) (by omega)
 simp only [ZM] at this;refine Eq.trans this ?_
 cases Dv [] [] e with
 | none=>rfl
 | some p=>rfl

theorem Ao4 {α:Type} {n:Nat} {l:List Int} (hN:l.length<=1048576) {k0:Int->Option α}:∀ (r:List Int) (m k:Nat) (a:Int),l.drop k=r->k+r.length=l.length->r.length<m->A5r n m l a (k:Int) k0=k0 (r.foldl max a)
 | [],m+1,k,a,hd,hl,hm=>by
  rw [Ajl];unfold Ym;simp only [ZM] at hl
  rw [QE,QB (by omega)]
  rfl
 | x::r,m+1,k,a,hd,hl,hm=>by
  obtain ⟨hx,hlt,hd'⟩:=D5 (d:=0) hd;rw [Ajl];unfold Ym
  rw [QE,QC (by omega),A2 (by simp;omega),A8 (by omega) (by omega)]
  simp only [QM,hx];simp only [QY] at hl hm
  exact Ao4 hN r m (k+1) (max a x) hd' (by omega) (by omega)

theorem Biy {n:Nat} {l:List Int} (hN:l.length<=1048576) (hn:1048577<=n) (h0:0<l.length):∃ r,f179 n l=some r/\(r<=12 ↔ ∀ x ∈ l,x<=12):=by
 cases l with
 | nil=>cases h0
 | cons x r =>
  refine ⟨r.foldl max x,?_,?_⟩
  . unfold f179
    rw [QE,QB (by simp only [QY];omega),A2 (by simp)]
    have:=Ao4 (n:=n) (k0:=λz=>some z) hN r n 1 x rfl (by simp only [QY];omega) (by simp at hN;omega)
    exact this
  . rw [Aos];simp

def Gy (e:List Nod):Prop:=(1<=e.length/\e.length<=60) /\ ∃ bs ds,Dv [] [] e=some (bs,ds)/\bs.getD (e.length-1) 0=0 /\ ∀ x ∈ ds,x<=12

open Classical in
theorem Axo {n:Nat} {e:List Nod} (hN:e.length<=1048576) (hn:1048577<=n):f112 n e=some (decide (Gy e)):=by
 unfold f112;rw [Vz,A0];by_cases h1:(1:Int)<=(e.length:Int)/\(e.length:Int)<=60
 . simp only [h1,and_self,decide_true,ZJ,QP];rw [Bj0 hN hn,A0]
   cases hr:Dv [] [] e with
   | none =>
    have:¬ Gy e:=λ⟨_,_,_,h,_⟩=>by rw [hr] at h;cases h
    simp [this]
   | some p =>
    obtain ⟨bs,ds⟩:=p
    obtain ⟨hi,hl,_,_⟩:=Xo e [] [] bs ds Azm (by simpa using hN) hr
    simp only [ZM,YI] at hl;simp only [QW]
    rw [A8 (x:=(e.length:Int)-1) (by omega) (by omega),A2 (by simp;omega)]
    have et:((e.length:Int)-1).toNat=e.length-1:=by omega
    rw [et];by_cases hb:bs.getD (e.length-1) 0=0
    . obtain ⟨r,hr1,hr2⟩:=Biy (n:=n) (l:=ds) (by rw [hi.len];omega) hn (by rw [hi.len];omega)
      rw [hr1,A0]
      have e1:(bs.getD (e.length-1) 0==0)=true:=by rw [hb];rfl
      rw [e1,QW];congr 1;rw [decide_eq_decide,hr2];constructor
      . intro h;exact ⟨by omega,bs,ds,hr,hb,h⟩
      . rintro ⟨_,bs',ds',h,_,h'⟩
        rw [hr] at h;simp only [QF,QL] at h;obtain ⟨rfl,rfl⟩:=h;exact h'
    . have e1:(bs.getD (e.length-1) 0==0)=false:=by simp only [beq_eq_false_iff_ne,ne_eq];exact hb
      have:¬ Gy e:=λ⟨_,bs',ds',h,hb',_⟩=>by
       rw [hr] at h;simp only [QF,QL] at h;obtain ⟨rfl,rfl⟩:=h;exact hb hb'
      rw [e1,QP];simp [this]
 . have:¬ Gy e:=λ⟨h,_⟩=>h1 (by omega)
   simp only [h1,decide_false,ZW,QW,this]

def Ran (e:List Nod) (bs:List Int):Prop:=∀ j,j<bs.length->okP (bs.take j) (e.getD j (0,0,0,0)) j/\bs.getD j 0=nb (bs.take j) (e.getD j (0,0,0,0)) j

theorem Ran.step {e:List Nod} {bs:List Int} (h:Ran e bs) {x:Nod} (hx:e.getD bs.length (0,0,0,0)=x) (hok:okP bs x bs.length):Ran e (bs++[nb bs x bs.length]):=by
 intro j hj;simp only [ZC,QY,ZM] at hj;rcases ZT j bs.length with hlt | hge
 . rw [B7 hlt,List.take_append_of_le_length (by omega)]
   exact h j hlt
 . obtain rfl:j=bs.length:=by omega
   rw [B5,List.take_left',hx]
   . exact ⟨hok,rfl⟩
   . rfl

theorem A83 {e:List Nod}:∀ (r:List Nod) (bs ds bs' ds':List Int),Ran e bs->e.drop bs.length=r->Dv bs ds r=some (bs',ds')->Ran e bs'
 | [],bs,ds,bs',ds',hr,_,h=>by
  simp only [Dv,QF,QL] at h;obtain ⟨rfl,_⟩:=h;exact hr
 | x::r,bs,ds,bs',ds',hr,hd,h=>by
  obtain ⟨hx,_,hd'⟩:=D5 (d:=(0,0,0,0)) hd;simp only [Dv] at h;split at h
  . rename_i hok
    exact A83 r _ _ bs' ds' (hr.step hx hok) (by simpa using hd') h
  . cases h

theorem Bgu {x:Rt} (h:J5 x=true):∃ (s:Bool) (N D:Nat),x=(s,dg N,dg D)/\(dg N).length<=40/\(dg D).length<=40/\0<D/\(s=true->0<N):=by
 obtain ⟨s,a,b⟩:=x;unfold J5 at h;simp only [QH,XH,QO] at h;obtain ⟨⟨⟨⟨ha,hb⟩,hb0⟩,hs⟩,_⟩:=h;obtain ⟨ca,la⟩:=Vi ha;obtain ⟨cb,lb⟩:=Vi hb
 have hb0:b ≠ []:=by rintro rfl;cases hb0
 refine ⟨s,(vl a).toNat,(vl b).toNat,by rw [K4 ca,K4 cb],by rw [K4 ca];exact la,by rw [K4 cb];exact lb,?_,λe=>?_⟩
 . have:=cb.pos hb0;omega
 . have ha0:a ≠ []:=by rintro rfl;rw [e] at hs;cases hs
   have:=ca.pos ha0;omega

theorem Aek {m:Nat}:(((dg m).length:Int)==0)=decide (m=0):=by
 rw [Azi];by_cases h:m=0
 . subst h;rw [Cq];rfl
 . rw [QR h,Ex h];rfl

theorem Asf {m:Nat}:decide (((dg m).length:Int)>0)=decide (m ≠ 0):=by
 by_cases h:m=0
 . subst h;rw [Cq];rfl
 . rw [Ex h];simp [h]

def H0 (s:Int) (l:List Nod):Int:=l.foldl (λs x=>if x.1=2 then max s (W (x.2.2.2+1)) else s) s

abbrev nd0:Nod:=(0,0,0,0)

theorem Ase {l:List Nod} {i:Nat} (h:i<l.length) (s:Int):H0 s (l.drop i)=H0 (if (l.getD i nd0).1=2 then max s (W ((l.getD i nd0).2.2.2+1)) else s) (l.drop (i+1)):=by
 rw [XV h,QJ,QN h];rfl

theorem A3l {α:Type} {n:Nat} {l:List Nod} (hl:l.length<=1048576) {k0:Int->Option α}:∀ (m i:Nat) (s:Int),i<=l.length->l.length<i+m->A66 n m s (i:Int) l k0=k0 (H0 s (l.drop i))
 | 0,i,s,hi,hm=>by omega
 | m+1,i,s,hi,hm=>by
  rw [B8o];unfold Aaq;dsimp only;rw [QE];by_cases h:i<l.length
  . rw [QC (by omega),A2 (by simp;try omega),A2 (by simp;try omega),Ase h]
    simp only [QM]
    rw [XE,A8 (x:=(i:Int)+1) (by omega) (by omega)]
    by_cases hv:(l.getD i nd0).1=2
    . rw [QC (by rw [KU];exact hv),QC hv]
      exact A3l hl m (i+1) _ (by omega) (by omega)
    . rw [QB (by rw [KU];exact hv),QB hv]
      exact A3l hl m (i+1) _ (by omega) (by omega)
  . rw [QB (by omega),ZB (by omega)]
    rfl

theorem A3m {α:Type} {n:Nat} {l:List Nod} (hl:l.length<=1048576) {k0:Int->Option α}:∀ (m i:Nat) (s:Int),i<=l.length->l.length<i+m->A67 n m s l (l.length:Int) (i:Int) k0=k0 (H0 s (l.drop i))
 | 0,i,s,hi,hm=>by omega
 | m+1,i,s,hi,hm=>by
  rw [B8u];unfold Aaw;dsimp only;rw [QE];by_cases h:i<l.length
  . rw [QC (by omega),A2 (by simp;try omega),Ase h]
    simp only [QM]
    rw [XE,A8 (x:=(i:Int)+1) (by omega) (by omega)]
    by_cases hv:(l.getD i nd0).1=2
    . rw [QC (by rw [KU];exact hv),QC hv]
      exact A3m hl m (i+1) _ (by omega) (by omega)
    . rw [QB (by rw [KU];exact hv),QB hv]
      exact A3m hl m (i+1) _ (by omega) (by omega)
  . rw [QB (by omega),ZB (by omega)]
    rfl

theorem Bk7 {n:Nat} {l:List Nod} (hl:l.length<=1048576) (hn:1048577<=n):f125 n l=some (H0 0 l):=by
 unfold f125
 have:=A3l (n:=n) hl (k0:=λz_3=>some z_3) n 0 0 (by omega) (by omega)
 simpa using this

theorem Axk {n:Nat} {l:List Nod} (hl:l.length<=1048576) (hn:1048577<=n):f120 n l=some (H0 0 l):=by
 unfold f120
 have:=A3m (n:=n) hl (k0:=λz_2=>some z_2) n 0 0 (by omega) (by omega)
 simpa using this

theorem Ba9 {α:Type} {n:Nat} {a b:List Int} (ha:Cn a) (hb:Cn b) (hN:a.length<=1099511627776) (hNb:b.length<=1099511627776) {k0:List Int->Option α}:∀ (m i:Nat) (c:Int) (o:List Int),o.length=i->Lm o->0<=c->c<=1 ->
  vl o+10000 ^ i*c=vl (a.take i)+vl (b.take i)->(i<=max a.length b.length \/ (i=max a.length b.length+1/\c=0/\o.getD (i-1) 0 ≠ 0))->max a.length b.length+2<=i+m ->
  Qx n m a b c (i:Int) o k0=k0 (dg (vl a+vl b).toNat)
 | 0,i,c,o,ho,hlo,hc0,hc1,hv,hq,hm=>by omega
 | m+1,i,c,o,ho,hlo,hc0,hc1,hv,hq,hm=>by
  rw [B88];unfold Aab;dsimp only
  have fin:a.length<=i->b.length<=i->c=0->o=dg (vl a+vl b).toNat:=λh1 h2 h3=>by
   rw [Ml a h1,Ml b h2,h3] at hv
   have hv':vl o=vl a+vl b:=by simpa using hv
   have:Cn o:=Cn.of_ge hlo λhn=>by
    have hl:0<o.length:=XU.2 hn;rcases hq with hq | ⟨hq1,_,hq3⟩
    . have hmx:i=max a.length b.length:=by omega
      rw [ho,hv'];rcases Nat.le_total a.length b.length with hab | hab
      . have h4:=hb.ge (XU.1 (by omega))
        have h5:=Bn ha.1
        rw [show i-1=b.length-1 by omega];omega
      . have h4:=ha.ge (XU.1 (by omega))
        have h5:=Bn hb.1
        rw [show i-1=a.length-1 by omega];omega
    . have h1:=Bp o (o.length-1)
      rw [show o.length-1+1=o.length by omega,YE] at h1
      have h2:=Bn (hlo.take (o.length-1));have h3:=hlo.get (o.length-1);rw [<- ho] at hq3;have h4:=Ha (o.length-1)
      have h5:(10000:Int) ^ (o.length-1)*1<=10000 ^ (o.length-1)*o.getD (o.length-1) 0:=XL (by omega) (by omega)
      omega
   rw [<- hv',K4 this]
  have go:∀ (y:Int),y=c+a.getD i 0+b.getD i 0->(i<max a.length b.length \/ (i=max a.length b.length/\0<c))->Qx n m a b (W (Int.tdiv y 10000)) (W ((i:Int)+1)) (o++[Int.tmod y 10000]) k0=k0 (dg (vl a+vl b).toNat):=by
   intro y hy hi;have h1:=ha.1.get i;have h2:=hb.1.get i
   rw [tdv (by omega),tmd (by omega),A8 (by omega) (by omega),A8 (by omega) (by omega)]
   have ta:=Bp a i;have tb:=Bp b i
   have hyy:y=10000*(y / 10000)+y % 10000:=by omega
   refine Ba9 (n:=n) ha hb hN hNb m (i+1) _ _ (by simp [ho]) (hlo.app (Lm.cons (by omega) Lm.nil)) (by omega) (by omega) ?_ ?_ (by omega)
   . rw [V9,ho,ta,tb,Ck];generalize y / 10000=q at *;generalize y % 10000=r at *;generalize (10000:Int) ^ i=P at *;grind
   . rcases hi with hi | ⟨hi,hc⟩
     . exact .inl (by omega)
     . right
       have e1:a.getD i 0=0:=C0 (by omega)
       have e2:b.getD i 0=0:=C0 (by omega)
       have e3:y=1:=by omega
       subst e3
       refine ⟨by omega,by rfl,?_⟩
       rw [Qav,<- ho,QJ];simp
  have hcases:(i<a.length \/ i<b.length \/ 0<c)->(i<max a.length b.length \/ (i=max a.length b.length/\0<c)):=λh=>by
   rcases h with h | h | h
   . exact .inl (by omega)
   . exact .inl (by omega)
   . rcases hq with hq | ⟨_,h0,_⟩
     . omega
     . omega
  have ho2:(decide ((o.length+1)*8<=140737488355328))=true:=by
   rw [QO];rcases hq with hq | ⟨hq,_⟩ <;> omega
  have h1:=ha.1.get i;have h2:=hb.1.get i;by_cases hA:i<a.length
  . have dA:decide ((i:Int)<(a.length:Int))=true:=by rw [QO];omega
    have dM:decide ((i:Int)<max (a.length:Int) (b.length:Int))=true:=by rw [QO];omega
    simp only [dM,dA,QW,QM]
    rw [A2 (by simp;try omega),A8 (x:=c+a.getD i 0) (by omega) (by omega)]
    by_cases hB:i<b.length
    . have dB:decide ((i:Int)<(b.length:Int))=true:=by rw [QO];omega
      simp only [dB,QW]
      rw [A2 (by simp;try omega),A2 ho2,A8 (x:=c+a.getD i 0+b.getD i 0) (by omega) (by omega)]
      exact go _ rfl (hcases (.inl hA))
    . have dB:decide ((i:Int)<(b.length:Int))=false:=by rw [ZV];omega
      simp only [dB,QP];rw [A2 ho2]
      exact go _ (by rw [C0 (l:=b) (by omega)];omega) (hcases (.inl hA))
  . have dA:decide ((i:Int)<(a.length:Int))=false:=by rw [ZV];omega
    by_cases hB:i<b.length
    . have dB:decide ((i:Int)<(b.length:Int))=true:=by rw [QO];omega
      have dM:decide ((i:Int)<max (a.length:Int) (b.length:Int))=true:=by rw [QO];omega
      simp only [dM,dA,dB,QW,QP,QM]
      rw [A2 (by simp;try omega),A2 ho2,A8 (x:=c+b.getD i 0) (by omega) (by omega)]
      exact go _ (by rw [C0 (l:=a) (by omega)];omega) (hcases (.inr (.inl hB)))
    . have dB:decide ((i:Int)<(b.length:Int))=false:=by rw [ZV];omega
      have dM:decide ((i:Int)<max (a.length:Int) (b.length:Int))=false:=by rw [ZV];omega
      simp only [dM,dA,dB,QP];rw [QE];by_cases hc:0<c
      . rw [QC (by omega),A2 ho2]
        exact go _ (by rw [C0 (l:=a) (by omega),C0 (l:=b) (by omega)];omega) (hcases (.inr (.inr hc)))
      . rw [QB (by omega),fin (by omega) (by omega) (by omega)]

theorem Bqp {n a b:Nat} (h:(dg a).length<=1099511627776) (h':(dg b).length<=1099511627776) (hn:max (dg a).length (dg b).length+2<=n):f154 n (dg a) (dg b)=some (dg (a+b)):=by
 unfold f154
 have:=Ba9 (n:=n) (I1 a) (I1 b) h h' (k0:=λz_6=>some z_6) n 0 0 [] rfl Lm.nil (by omega) (by omega) (by simp [vl]) (.inl (by omega)) (by omega)
 have this:Qx n n (dg a) (dg b) 0 0 [] _=_:=this;rw [this,Bs,Bs];congr 1

theorem B4l {o P c wi bi v' T y d r:Int} (h:o-P*(c+(bi+10000*v'))=T) (hy:y=wi-c-bi) (hd:y=r-10000*d):o+P*(r-wi)-10000*P*(d+v')=T:=by
 grind

theorem B3e {α:Type} {n:Nat} {b:List Int} (hb:Lm b) {N:Nat} (hN:N<=1099511627776) {T:Int} {k0:List Int->Option α}:∀ (m i:Nat) (c:Int) (o:List Int),o.length=N->Lm o->0<=c->c<=1->i<=N ->
  vl o-10000 ^ i*(c+vl (b.drop i))=T->N+1<=i+m ->
  ∃ o' c',Kx n m b c (N:Int) (i:Int) o k0=k0 o'/\o'.length=N/\Lm o'/\0<=c'/\c'<=1/\vl o'-10000 ^ N*(c'+vl (b.drop N))=T
 | 0,i,c,o,ho,hlo,hc0,hc1,hi,hv,hm=>by omega
 | m+1,i,c,o,ho,hlo,hc0,hc1,hi,hv,hm=>by
  rw [B83];unfold Aa7;dsimp only;by_cases hA:i<N
  . rw [QE,QC (by omega),A2 (by simp;try omega),A2 (by simp;try omega)]
    have h1:=hlo.get i;have h2:=hb.get i;simp only [QM]
    have go:∀ (d r:Int),d=(if o.getD i 0-c-b.getD i 0<0 then 1 else 0)->r=o.getD i 0-c-b.getD i 0+10000*d->∃ o' c',Kx n m b d (N:Int) (W ((i:Int)+1)) (o.set i r) k0=k0 o'/\o'.length=N/\Lm o'/\0<=c'/\c'<=1/\vl o'-10000 ^ N*(c'+vl (b.drop N))=T:=by
     intro d r hd hr
     have hd1:0<=d/\d<=1/\0<=r/\r<10000:=by
      rw [hr,hd];split <;> omega
     rw [A8 (x:=(i:Int)+1) (by omega) (by omega)]
     refine B3e (n:=n) hb hN m (i+1) d _ (by simpa using ho) (hlo.set _ (by omega)) (by omega) (by omega) (by omega) ?_ (by omega)
     rw [O8 _ (by omega),Ck]
     refine B4l (bi:=b.getD i 0) (y:=o.getD i 0-c-b.getD i 0) ?_ rfl (by omega)
     rw [<- A7x];exact hv
    have go2 : ∀ y : Int, y = o.getD i 0 - c - b.getD i 0 -> ∃ o' c', (bif (decide (y < 0)) then
          gd (decide (0<=(i:Int))&&decide ((i:Int)<(o.length:Int))) (
           gd (decide (i<o.length)) (
            Kx n m b 1 (N:Int) (W ((i:Int)+1)) (o.set i (W (y+10000))) k0))
      else
       gd (decide (0<=(i:Int))&&decide ((i:Int)<(o.length:Int))) (
        gd (decide (i<o.length)) (
         Kx n m b 0 (N:Int) (W ((i:Int)+1)) (o.set i y) k0)))=k0 o'/\o'.length=N/\Lm o'/\0<=c'/\c'<=1/\vl o'-10000 ^ N*(c'+vl (b.drop N))=T:=by
     intro y hy;rw [QE];by_cases hneg:y<0
     . rw [QC hneg,A2 (by simp;try omega),A2 (by simp;try omega),A8 (x:=y+10000) (by omega) (by omega)]
       exact go 1 _ (by rw [QC (by omega)]) (by omega)
     . rw [QB hneg,A2 (by simp;try omega),A2 (by simp;try omega)]
       exact go 0 _ (by rw [QB (by omega)]) (by omega)
    by_cases hB:i<b.length
    . have dB:decide ((i:Int)<(b.length:Int))=true:=by rw [QO];omega
      simp only [dB,QW]
      rw [A2 (by simp;try omega)]
      simp only [A8 (x:=o.getD i 0-c) (by omega) (by omega),A8 (x:=o.getD i 0-c-b.getD i 0) (by omega) (by omega)]
      exact go2 _ rfl
    . have dB:decide ((i:Int)<(b.length:Int))=false:=by rw [ZV];omega
      simp only [dB,QP]
      simp only [A8 (x:=o.getD i 0-c) (by omega) (by omega)]
      exact go2 _ (by rw [C0 (l:=b) (by omega)];omega)
  . rw [QE,QB (by omega)]
    obtain rfl:i=N:=by omega
    exact ⟨o,c,rfl,ho,hlo,hc0,hc1,hv⟩

theorem Bfp {n a b:Nat} (h:(dg a).length<=1099511627000) (hn:(dg a).length+1<=n) (hab:b<=a) (ha:0<a):f156 n (dg a) (dg b)=some (dg (a-b)):=by
 have hlab:=Bz hab;unfold f156
 rw [Ars n (by omega) (λe=>by have:=Bq2.1 e;omega),A0]
 obtain ⟨o,c,h1,h2,h3,h4,h5,h6⟩:=B3e (n:=n) (F3 b) (N:=(dg a).length) (by omega) (T:=(a:Int)-b) (k0:=λz_4=>(
   ob (f202 n z_4) λr_5 =>
   some r_5)) n 0 0 (dg a) rfl (F3 a) (by omega) (by omega) (by omega) (by rw [ZR,Bs,Bs,Int.pow_zero,Int.one_mul,Int.zero_add]) (by omega)
 have h1:Kx n n (dg b) 0 ((dg a).length:Int) 0 (dg a) _=_:=h1
 rw [ZB (by omega)] at h6
 have h7:=K1 h3;rw [h2] at h7;have h8:=Bn h3
 have:c=0:=by
  rcases Int.lt_or_eq_of_le h4 with h | h
  . have:c=1:=by omega
    rw [this] at h6;simp only [vl,Qbo,Int.mul_one] at h6;generalize (10000:Int) ^ (dg a).length=P at *;omega
  . exact h.symm
 rw [this] at h6;simp only [vl,Qbo,Qaw,Int.sub_zero] at h6
 rw [h1,Vw h3 (by omega) (by omega),A0,h6,show ((a:Int)-(b:Int)).toNat=a-b by omega]

def rq (x:Rat):Rt:=(decide (x.num<0),dg x.num.natAbs,dg x.den)

def mq (s:Bool) (a d:Nat):Rat:=mkRat (if s=true then -(a:Int) else a) d

def Sz (x:Rat) (L:Nat):Prop:=(dg x.num.natAbs).length<=L/\(dg x.den).length<=L

theorem A1v (s:Bool) (a:Nat):(if s=true then -(a:Int) else a).natAbs=a:=by cases s <;> simp

theorem Ao0 {s:Bool} {a d:Nat} (hd:0<d):(mq s a d).num=if s=true then -((a / Nat.gcd a d:Nat):Int) else ((a / Nat.gcd a d:Nat):Int):=by
 unfold mq
 rw [Rat.num_mkRat,QB (by omega),A1v,Nat.gcd_comm d a]
 cases s with
 | false=>simp
 | true =>
  simp only [if_true]
  rw [Int.neg_ediv_of_dvd (by exact_mod_cast Nat.gcd_dvd_left a d)]
  simp

theorem Ao1 {s:Bool} {a d:Nat} (hd:0<d):(mq s a d).den=d / Nat.gcd a d:=by
 unfold mq
 rw [Rat.den_mkRat,QB (by omega),A1v,Nat.gcd_comm d a]

theorem Az2 {s:Bool} {a d:Nat} (hd:0<d):rq (mq s a d)=(s&&decide (a / Nat.gcd a d ≠ 0),dg (a / Nat.gcd a d),dg (d / Nat.gcd a d)):=by
 unfold rq;rw [Ao0 hd,Ao1 hd];generalize a / Nat.gcd a d=q
 cases s with
 | false=>simp
 | true =>
  simp only [if_true,ZZ,Qbw,XK];congr 1;apply decide_eq_decide.2;omega

theorem A6l {s:Bool} {a d L:Nat} (hd:0<d) (h1:(dg a).length<=L) (h2:(dg d).length<=L):Sz (mq s a d) L:=by
 unfold Sz;rw [Ao0 hd,Ao1 hd,A1v];exact ⟨ZQ (Bz (JU _ _)) h1,ZQ (Bz (JU _ _)) h2⟩

theorem Vg {n L x d:Nat} {s:Bool} (hd:0<d) (hx:(dg x).length<=L) (hdl:(dg d).length<=L) (hL:L<=1099511627000) (hn:28*L+10040<=n):f197 n s (dg x) (dg d)=some (rq (mq s x d)):=by
 have hg:0<Nat.gcd x d:=Nat.gcd_pos_of_pos_right x hd;have hgl:(dg (Nat.gcd x d)).length<=L:=ZQ (Bz (Nat.gcd_le_right x hd)) hdl;rw [Az2 hd];unfold f197
 rw [Bfe hL hn hx hdl,A0,Az0 hg hx hgl hL (by omega),A0,Az0 hg hdl hgl hL (by omega),A0]
 dsimp only;rw [Asf]
 cases s <;> rfl

theorem A28 {n L x d:Nat} {s:Bool} (hd:0<d) (hx:(dg x).length<=L) (hdl:(dg d).length<=L) (hL:L<=1099511627000) (hn:28*L+10040<=n):f153 n s (dg x) (dg d)=some (rq (mq s x d)):=by
 have hg:0<Nat.gcd x d:=Nat.gcd_pos_of_pos_right x hd;have hgl:(dg (Nat.gcd x d)).length<=L:=ZQ (Bz (Nat.gcd_le_right x hd)) hdl;have hq1:(dg (x / Nat.gcd x d)).length<=L:=ZQ (Bz (JU _ _)) hx;have hq2:(dg (d / Nat.gcd x d)).length<=L:=ZQ (Bz (JU _ _)) hdl;rw [Az2 hd];unfold f153;dsimp only
 rw [Bfq hL hn hx hdl,A0,show f151 n=some [1] from rfl,A0,<- Ie,Am4 (by omega),A0]
 have fin:∀ y z:List Int,y=dg (x / Nat.gcd x d)->z=dg (d / Nat.gcd x d)->(bif s then
   ob (f123 n y) λr_8 =>
   ob (f123 n z) λr_9 =>
   some ((decide ((y.length:Int)>0)),r_8,r_9)
  else
   ob (f123 n y) λr_10 =>
   ob (f123 n z) λr_11 =>
   some (false,r_10,r_11))=some (s&&decide (x / Nat.gcd x d ≠ 0),dg (x / Nat.gcd x d),dg (d / Nat.gcd x d)):=by
  rintro y z rfl rfl
  rw [Ix n (by omega),A0,Ix n (by omega),A0,Asf]
  cases s <;> rfl
 by_cases h1:Nat.gcd x d=1
 . have e:(cm ((Nat.gcd x d:Nat):Int) ((1:Nat):Int) != 0)=false:=by rw [h1,O6 rfl];rfl
   rw [e,QP]
   exact fin _ _ (by rw [h1,Nat.div_one]) (by rw [h1,Nat.div_one])
 . have e : (cm ((Nat.gcd x d : Nat) : Int) ((1 : Nat) : Int) != 0) = true := by
    rw [bne,Asn,QR h1];rfl
   rw [e,QW,Azn hg hx hgl hL (by omega),A0,Azn hg hdl hgl hL (by omega),A0]
   exact fin _ _ rfl rfl

theorem Jl (x:Rat):x.num=if decide (x.num<0)=true then -(x.num.natAbs:Int) else x.num.natAbs:=by
 by_cases h:x.num<0
 . rw [QS h,QC rfl];omega
 . rw [QR h,QB (by decide)];omega

theorem Abk {x y:Rat} (h:decide (x.num<0)=decide (y.num<0)):x+y=mq (decide (x.num<0)) (x.num.natAbs*y.den+y.num.natAbs*x.den) (x.den*y.den):=by
 rw [Rat.add_def'];unfold mq;congr 1;have hx:=Jl x;have hy:=Jl y;rw [<- h] at hy;generalize decide (x.num<0)=s at *;generalize x.num.natAbs=p at *;generalize y.num.natAbs=q at *;rw [hx,hy]
 cases s with
 | true=>simp only [if_true,JS,XW];grind
 | false=>simp

theorem Wv {x y:Rat} (h:decide (x.num<0) ≠ decide (y.num<0)) (hle:y.num.natAbs*x.den<=x.num.natAbs*y.den):x+y=mq (decide (x.num<0)) (x.num.natAbs*y.den-y.num.natAbs*x.den) (x.den*y.den):=by
 rw [Rat.add_def'];unfold mq;congr 1;have hx:=Jl x;have hy:=Jl y
 have h':decide (y.num<0) = !decide (x.num<0):=by
  generalize decide (x.num<0)=s at h;generalize decide (y.num<0)=t at h
  cases s <;> cases t <;> first | rfl | exact absurd rfl h
 rw [h'] at hy;generalize decide (x.num<0)=s at *;generalize x.num.natAbs=p at *;generalize y.num.natAbs=q at *;rw [hx,hy,Int.natCast_sub hle]
 cases s with
 | true=>simp only [if_true,XW,ZJ];simp;grind
 | false=>simp only [XW,ZW,if_true];simp;grind

theorem B3l {n L:Nat} {x y:Rat} (hx:Sz x L) (hy:Sz y L) (hL:2*L+1<=1099511627000) (hn:28*(2*L+1)+10040<=n):f138 n (rq x) (rq y)=some (rq (x+y)):=by
 obtain ⟨x1,x2⟩:=hx;obtain ⟨y1,y2⟩:=hy;have l1:=C1 x.num.natAbs y.den;have l2:=C1 y.num.natAbs x.den;have l3:=C1 x.den y.den;have l4:=Afp (x.num.natAbs*y.den) (y.num.natAbs*x.den);have hd:0<x.den*y.den:=KL (XQ x.den_nz) (XQ y.den_nz);unfold f138 rq;dsimp only
 rw [Pz (by omega) (by omega),A0,Pz (by omega) (by omega),A0,Pz (by omega) (by omega),A0,XE]
 by_cases hs:decide (x.num<0)=decide (y.num<0)
 . rw [QC (by rw [hs];simp),Bqj (by omega) (by omega) (by omega),A0,Vg hd (L:=2*L+1) (by omega) (by omega) hL hn,A0,Abk hs];rfl
 . rw [QB (by simpa using hs),Alw (by omega) (by omega),A0,QE]
   by_cases hle:y.num.natAbs*x.den<=x.num.natAbs*y.den
   . have l5:=Bz (Qbp (x.num.natAbs*y.den) (y.num.natAbs*x.den))
     rw [QC (by
      rcases JA hle with h | h
      . rw [M5 (by omega)];omega
      . rw [O6 (by omega)];omega),Ayy (by omega) (by omega) hle,A0,Vg hd (L:=2*L+1) (by omega) (by omega) hL hn,A0,Wv hs hle];rfl
   . have l5:=Bz (Qbp (y.num.natAbs*x.den) (x.num.natAbs*y.den))
     rw [QB (by rw [M4 (by omega)];omega),Ayy (by omega) (by omega) (by omega),A0,Vg hd (L:=2*L+1) (by omega) (by omega) hL hn,A0,Rat.add_comm,Wv (λe=>hs e.symm) (by omega),KK y.den x.den];rfl

theorem Bm9 {n L:Nat} {x y:Rat} (hx:Sz x L) (hy:Sz y L) (hL:2*L+1<=1099511627000) (hn:28*(2*L+1)+10040<=n):f99 n (rq x) (rq y)=some (rq (x+y)):=by
 obtain ⟨x1,x2⟩:=hx;obtain ⟨y1,y2⟩:=hy;have l1:=C1 x.num.natAbs y.den;have l2:=C1 y.num.natAbs x.den;have l3:=C1 x.den y.den;have l4:=Afp (x.num.natAbs*y.den) (y.num.natAbs*x.den);have hd:0<x.den*y.den:=KL (XQ x.den_nz) (XQ y.den_nz);unfold f99 rq;dsimp only
 rw [Q6 (by omega) (by omega),A0,Q6 (by omega) (by omega),A0,Q6 (by omega) (by omega),A0,XE]
 by_cases hs:decide (x.num<0)=decide (y.num<0)
 . rw [QC (by rw [hs];simp),Bqp (by omega) (by omega) (by omega),A0,A28 hd (L:=2*L+1) (by omega) (by omega) hL hn,A0,Abk hs];rfl
 . rw [QB (by simpa using hs),Am4 (by omega),A0,QE]
   by_cases hle:y.num.natAbs*x.den<=x.num.natAbs*y.den
   . have l5:=Bz (Qbp (x.num.natAbs*y.den) (y.num.natAbs*x.den))
     have hp:0<x.num.natAbs*y.den:=by
      rcases YW (x.num.natAbs*y.den) with h | h
      . exfalso;have hyd:=y.den_nz;have hxd:=x.den_nz
        have h2:y.num.natAbs*x.den=0:=by omega
        have e1:x.num=0:=by rcases Qbh.1 h with h | h <;> omega
        have e2:y.num=0:=by rcases Qbh.1 h2 with h | h <;> omega
        exact hs (by rw [e1,e2])
      . exact h
     rw [QC (by
      rcases JA hle with h | h
      . rw [M5 (by omega)];omega
      . rw [O6 (by omega)];omega),Bfp (by omega) (by omega) hle hp,A0,A28 hd (L:=2*L+1) (by omega) (by omega) hL hn,A0,Wv hs hle];rfl
   . have l5:=Bz (Qbp (y.num.natAbs*x.den) (x.num.natAbs*y.den))
     rw [QB (by rw [M4 (by omega)];omega),Bfp (by omega) (by omega) (by omega) (by omega),A0,A28 hd (L:=2*L+1) (by omega) (by omega) hL hn,A0,Rat.add_comm,Wv (λe=>hs e.symm) (by omega),KK y.den x.den];rfl

theorem Anz (x y:Rat):x*y=mq (!(decide (x.num<0)==decide (y.num<0))) (x.num.natAbs*y.num.natAbs) (x.den*y.den):=by
 rw [Rat.mul_def'];unfold mq;congr 1;have hx:=Jl x;have hy:=Jl y;generalize decide (x.num<0)=s at *;generalize decide (y.num<0)=t at *;generalize x.num.natAbs=p at *;generalize y.num.natAbs=q at *;rw [hx,hy]
 cases s <;> cases t <;> simp [Int.neg_mul,Int.mul_neg]

theorem Bgq {n L:Nat} {x y:Rat} (hx:Sz x L) (hy:Sz y L) (hL:2*L+1<=1099511627000) (hn:28*(2*L+1)+10040<=n):f140 n (rq x) (rq y)=some (rq (x*y)):=by
 obtain ⟨x1,x2⟩:=hx;obtain ⟨y1,y2⟩:=hy;have l1:=C1 x.num.natAbs y.num.natAbs;have l3:=C1 x.den y.den;have hd:0<x.den*y.den:=KL (XQ x.den_nz) (XQ y.den_nz);unfold f140 rq;dsimp only
 rw [Pz (by omega) (by omega),A0,Pz (by omega) (by omega),A0,Vg hd (L:=2*L+1) (by omega) (by omega) hL hn,A0,Anz];rfl

theorem Bhj {n L:Nat} {x y:Rat} (hx:Sz x L) (hy:Sz y L) (hL:2*L+1<=1099511627000) (hn:28*(2*L+1)+10040<=n):f162 n (rq x) (rq y)=some (rq (x*y)):=by
 obtain ⟨x1,x2⟩:=hx;obtain ⟨y1,y2⟩:=hy;have l1:=C1 x.num.natAbs y.num.natAbs;have l3:=C1 x.den y.den;have hd:0<x.den*y.den:=KL (XQ x.den_nz) (XQ y.den_nz);unfold f162 rq;dsimp only
 rw [Q6 (by omega) (by omega),A0,Q6 (by omega) (by omega),A0,A28 hd (L:=2*L+1) (by omega) (by omega) hL hn,A0,Anz];rfl

theorem Asc {x y:Rat} (hy:y ≠ 0):x / y=mq (!(decide (x.num<0)==decide (y.num<0))) (x.num.natAbs*y.den) (x.den*y.num.natAbs):=by
 have hyn:y.num ≠ 0:=λe=>hy (JG.1 e)
 have key:mq (!(decide (x.num<0)==decide (y.num<0))) (x.num.natAbs*y.den) (x.den*y.num.natAbs)*y=x:=by
  conv=>lhs;rhs;rw [<- Rat.mkRat_self y]
  conv=>rhs;rw [<- Rat.mkRat_self x]
  unfold mq
  rw [Rat.mkRat_mul_mkRat,Rat.mkRat_eq_iff (Nat.mul_ne_zero (Nat.mul_ne_zero x.den_nz (by omega)) y.den_nz) x.den_nz]
  have hx:=Jl x;have hy:=Jl y;generalize decide (x.num<0)=s at *;generalize decide (y.num<0)=t at *;generalize x.num.natAbs=p at *;generalize y.num.natAbs=q at *;rw [hx,hy];simp only [XW]
  cases s <;> cases t <;> simp <;> grind
 conv=>lhs;rw [<- key]
 exact Rat.mul_div_cancel hy

theorem Blj {n L:Nat} {x y:Rat} (hx:Sz x L) (hy:Sz y L) (hy0:y ≠ 0) (hL:2*L+1<=1099511627000) (hn:28*(2*L+1)+10040<=n):f142 n (rq x) (rq y)=some (rq (x / y)):=by
 obtain ⟨x1,x2⟩:=hx;obtain ⟨y1,y2⟩:=hy;have l1:=C1 x.num.natAbs y.den;have l3:=C1 x.den y.num.natAbs;have hyn:y.num ≠ 0:=λe=>hy0 (JG.1 e)
 have hd:0<x.den*y.num.natAbs:=KL (XQ x.den_nz) (by omega)
 unfold f142 rq;dsimp only
 rw [Pz (by omega) (by omega),A0,Pz (by omega) (by omega),A0,Vg hd (L:=2*L+1) (by omega) (by omega) hL hn,A0,Asc hy0];rfl

theorem Bma {n L:Nat} {x y:Rat} (hx:Sz x L) (hy:Sz y L) (hy0:y ≠ 0) (hL:2*L+1<=1099511627000) (hn:28*(2*L+1)+10040<=n):f206 n (rq x) (rq y)=some (rq (x / y)):=by
 obtain ⟨x1,x2⟩:=hx;obtain ⟨y1,y2⟩:=hy;have l1:=C1 x.num.natAbs y.den;have l3:=C1 x.den y.num.natAbs;have hyn:y.num ≠ 0:=λe=>hy0 (JG.1 e)
 have hd:0<x.den*y.num.natAbs:=KL (XQ x.den_nz) (by omega)
 unfold f206 rq;dsimp only
 rw [Q6 (by omega) (by omega),A0,Q6 (by omega) (by omega),A0,A28 hd (L:=2*L+1) (by omega) (by omega) hL hn,A0,Asc hy0];rfl

theorem Ac3 {n:Nat} {x:Rat}:f143 n (rq x)=some (rq (-x)):=by
 unfold f143 rq;dsimp only;rw [Rat.neg_num,Rat.neg_den,Qbw,Asf];by_cases h:x.num<0
 . rw [QS h,QR (show ¬ -x.num<0 by omega)];rfl
 . rw [QR h]
   have:decide (x.num.natAbs ≠ 0)=decide (-x.num<0):=decide_eq_decide.2 (by omega)
   rw [this];rfl

theorem Bqo {n L:Nat} {x:Rat} (hx:Sz x L) (hL:L<=1099511627000):f158 n (rq x)=some (rq (-x)):=by
 obtain ⟨x1,x2⟩:=hx;unfold f158 rq;dsimp only
 rw [Rat.neg_num,Rat.neg_den,Qbw,show f168 n (decide (x.num<0),dg x.num.natAbs,dg x.den)=some (((dg x.num.natAbs).length:Int)==0) from rfl,A0,Ix n (by omega),A0,Ix n (by omega),A0,Aek]
 by_cases h:x.num<0
 . rw [QS h,QR (show ¬ -x.num<0 by omega)];rfl
 . rw [QR h]
   have:(!decide (x.num.natAbs=0))=decide (-x.num<0):=by
    by_cases h2:x.num.natAbs=0
    . rw [QS h2,QR (by omega)];rfl
    . rw [QR h2,QS (by omega)];rfl
   rw [this];rfl

theorem Bj {x:Rat} {L:Nat} (h:Sz x L):Sz (-x) L:=by
 unfold Sz at *;rw [Rat.neg_num,Rat.neg_den,Qbw];exact h

theorem Sz.mono {x:Rat} {L M:Nat} (h:Sz x L) (hLM:L<=M):Sz x M:=⟨ZQ h.1 hLM,ZQ h.2 hLM⟩

theorem Blk {n L:Nat} {x y:Rat} (hx:Sz x L) (hy:Sz y L) (hL:2*L+1<=1099511627000) (hn:28*(2*L+1)+10040<=n):f139 n (rq x) (rq y)=some (rq (x-y)):=by
 unfold f139;rw [Ac3,A0,B3l hx (Bj hy) hL hn,A0,Rat.sub_eq_add_neg]

theorem Bli {n:Nat} {x:Rat}:f141 n (rq x)=some (decide (x=0)):=by
 unfold f141 rq;dsimp only;rw [Aek];congr 1
 exact decide_eq_decide.2 ⟨λh=>JG.1 (by omega),λh=>by rw [h];rfl⟩

theorem Aco {n:Nat} {x:Rat}:f168 n (rq x)=some (decide (x=0)):=by
 unfold f168 rq;dsimp only;rw [Aek];congr 1
 exact decide_eq_decide.2 ⟨λh=>JG.1 (by omega),λh=>by rw [h];rfl⟩

theorem B3q {x y:Rat} (h:rq x=rq y):x=y:=by
 unfold rq at h;simp only [QL] at h;obtain ⟨h1,h2,h3⟩:=h;have e2:=B9n h2;have e3:=B9n h3;refine Rat.ext ?_ e3;rw [Jl x,Jl y,h1,e2]

theorem Blp {r:Rt} (h:J5 r=true):∃ x:Rat,r=rq x/\Sz x 40:=by
 obtain ⟨s,N,D,rfl,h1,h2,h3,h4⟩:=Bgu h
 have hg:Nat.gcd N D=1:=by
  unfold J5 at h;simp only [QH,QO,Bs,QM] at h;exact h.2
 refine ⟨mq s N D,?_,A6l h3 h1 h2⟩;rw [Az2 h3,hg,Nat.div_one,Nat.div_one];congr 1
 cases s with
 | false=>rfl
 | true=>have:=h4 rfl;rw [QS (by omega)];rfl

abbrev Mh:=List Int × Int × Int

def Er (P:Int) (s:Mh):Prop:=(∀ x ∈ s.1,0<=x/\x<=255)/\s.1.length<=1048576/\(0<=s.2.1/\s.2.1<=P)/\0<=s.2.2/\s.2.2<2147483648

theorem Asq {l:List Int} (h:∀ x ∈ l,0<=x/\x<=255) (k:Nat):0<=l.getD k 0/\l.getD k 0<=255:=by
 rw [QJ]
 cases e:l[k]? with
 | none=>simp
 | some x=>exact h x (ZN e)

theorem Hv {x m:Int} (h:0<=x):Int.tmod x m=x % m:=Qah h

theorem Ah4 {n:Nat} {P:Int} {s:Mh} (h:Er P s) (hP:P<=1099511627776):∃ b s',Qa n s=some (b,s')/\(0<=b/\b<=255)/\Er (P+1) s':=by
 obtain ⟨l,p,d⟩:=s;obtain ⟨h1,h2,⟨h3,h4⟩,h5,h6⟩:=h;dsimp only at h1 h2 h3 h4 h5 h6;unfold Qa;dsimp only
 rw [A8 (x:=p+1) (by omega) (by omega),A8 (x:=p+1-1) (by omega) (by omega),QE]
 have hb:=Asq h1 (p+1-1).toNat;by_cases hc:p+1<=(l.length:Int)
 . rw [QC hc,A2 (by simp;omega),A2 (by simp;omega)]
   generalize l.getD (p+1-1).toNat 0=b at *
   rw [A8 (x:=b) (by omega) (by omega),A8 (x:=d*31) (by omega) (by omega),A8 (x:=d*31+b) (by omega) (by omega),A8 (x:=d*31+b+7) (by omega) (by omega),Hv (by omega)]
   exact ⟨_,_,rfl,by omega,h1,h2,by dsimp only;omega,by dsimp only;omega,by dsimp only;omega⟩
 . rw [QB hc,QE];by_cases hc2:p+1>3000
   . rw [QC hc2]
     exact ⟨_,_,rfl,by omega,h1,h2,by dsimp only;omega,h5,h6⟩
   . rw [QB hc2,A8 (x:=d*1103515245) (by omega) (by omega),A8 (x:=d*1103515245+12345) (by omega) (by omega),Hv (x:=d*1103515245+12345) (by omega)]
     generalize hz:(d*1103515245+12345) % 2147483648=z
     have hz2:0<=z/\z<2147483648:=by omega
     rw [YR (a:=z) (by omega),A8 (x:=z / 65536) (by omega) (by omega),Hv (x:=z / 65536) (by omega)]
     exact ⟨_,_,rfl,by omega,h1,h2,by dsimp only;omega,by dsimp only;omega,by dsimp only;omega⟩

theorem A6a {n:Nat} {P k:Int} {s:Mh} (h:Er P s) (hP:P<=1099511627000) (hk:1<k) (hk':k<=1048576):∃ v s',F2 n s k=some (v,s')/\(0<=v/\v<k)/\Er (P+3) s':=by
 unfold F2
 rw [QE,QB (by omega),QE]
 obtain ⟨b1,s1,e1,r1,o1⟩:=Ah4 (n:=n) h (by omega)
 rw [e1];by_cases hc:k<=256
 . rw [QC hc,A0,A2 (by simp;omega),Hv r1.1]
   have:=Qbq b1 (show k ≠ 0 by omega)
   have:=Qax b1 (show 0<k by omega)
   exact ⟨_,_,rfl,by omega,o1.1,o1.2.1,⟨o1.2.2.1.1,by have:=o1.2.2.1.2;show s1.2.1<=P+3;omega⟩,o1.2.2.2⟩
 . rw [QB hc,A0]
   obtain ⟨b2,s2,e2,r2,o2⟩:=Ah4 (n:=n) o1 (by omega)
   rw [e2,A0]
   obtain ⟨b3,s3,e3,r3,o3⟩:=Ah4 (n:=n) o2 (by omega)
   rw [e3,A0];dsimp only
   rw [A2 (by simp;omega),A8 (x:=b1*65536) (by omega) (by omega),A8 (x:=b2*256) (by omega) (by omega),A8 (x:=b1*65536+b2*256) (by omega) (by omega),A8 (x:=b1*65536+b2*256+b3) (by omega) (by omega),Hv (by omega)]
   have:=Qbq (b1*65536+b2*256+b3) (show k ≠ 0 by omega)
   have:=Qax (b1*65536+b2*256+b3) (show 0<k by omega)
   exact ⟨_,_,rfl,by omega,o3.1,o3.2.1,⟨o3.2.2.1.1,by have:=o3.2.2.1.2;show s3.2.1<=P+3;omega⟩,o3.2.2.2⟩

theorem Bj3 {n:Nat} {P k:Int} {s:Mh} (h:Er P s) (hP:P<=1099511627000) (hk:1<k) (hk':k<=1048576):∃ v s',Adp n s k=some (v,s')/\Er (P+3) s':=by
 unfold Adp;obtain ⟨v,s',e,_,o⟩:=A6a (n:=n) h hP hk hk';rw [e,A0];exact ⟨_,_,rfl,o⟩

theorem Ahe {n:Nat} {a:Int} (h:-1000000000<=a/\a<=1000000000) (hn:1048577<=n):f131 n a=some (decide (a<0),dg a.natAbs,dg 1):=by
 unfold f131;rw [QE,Ie];by_cases hc:a<0
 . rw [QC hc,A8 (x:=0-a) (by omega) (by omega),show 0-a=(a.natAbs:Int) by omega,Qt (by omega) (by omega),A0,QS hc]
 . rw [QB hc]
   conv=>lhs;rw [show a=(a.natAbs:Int) by omega]
   rw [Qt (by omega) (by omega),A0,QR hc]

theorem B47 {N:Nat} (h:(dg N).length<=40):U2 (dg N)=true:=by
 unfold U2;have hc:=I1 N;rw [QS h,ZZ,QH,QK];refine ⟨λx hx=>?_,?_⟩
 . have:=hc.1 x hx;unfold J7;rw [QO];omega
 . by_cases hn:dg N=[]
   . rw [hn];rfl
   . have h1:=hc.2 hn;have h2:=hc.1.get ((dg N).length-1);rw [XA];right;rw [QO];omega

theorem Bln {x:Rat} (h:Sz x 40):J5 (rq x)=true:=by
 obtain ⟨h1,h2⟩:=h;unfold J5 rq;dsimp only
 have hd:(dg x.den).isEmpty=false:=by
  rw [Ex x.den_nz];rfl
 rw [B47 h1,B47 h2,hd,Bs,Bs]
 have hg:Nat.gcd (x.num.natAbs:Int).toNat (x.den:Int).toNat=1:=by
  rw [QM,QM];exact x.reduced
 rw [QS hg];by_cases hz:x.num.natAbs=0
 . rw [hz,Cq,QR (by omega)];rfl
 . rw [Ex hz];rfl

theorem Ap2 {α:Type} {n:Nat} {a b:List Int} (hab:a.length=b.length) (hl:a.length<=1048576) {k0:Bool->Option α} {k1:Unit->Option α}:∀ (m i:Nat),i<=a.length->a.length<i+m->A2j n m a b (i:Int) k0 k1=if a.drop i=b.drop i then k1 () else k0 false
 | 0,i,hi,hm=>by omega
 | m+1,i,hi,hm=>by
  rw [Bce];unfold Ag9;rw [QE];by_cases h:i<a.length
  . rw [QC (by omega),A2 (by simp;omega),A2 (by simp;omega)]
    simp only [QM]
    have da:a.drop i=a.getD i 0::a.drop (i+1):=by
     rw [XV h,QJ,QN h];rfl
    have db:b.drop i=b.getD i 0::b.drop (i+1):=by
     rw [XV (by omega),QJ,QN (by omega)];rfl
    rw [da,db];by_cases hz:a.getD i 0=b.getD i 0
    . rw [hz,ZX,QP,A8 (x:=(i:Int)+1) (by omega) (by omega),show (i:Int)+1=((i+1:Nat):Int) from rfl,Ap2 hab hl m (i+1) (by omega) (by omega)]
      simp
    . rw [show (a.getD i 0 != b.getD i 0)=true by rw [bne_iff_ne];exact hz,QW,QB (λe=>hz (List.cons.inj e).1)]
  . rw [QB (by omega),ZB (by omega),ZB (by omega),QC rfl]

theorem B5g {n:Nat} {a b:List Int} (hl:a.length<=1048576) (hn:1048577<=n):f77 n a b=some (decide (a=b)):=by
 unfold f77;rw [XE];by_cases h:a.length=b.length
 . rw [QB (by simp [h])]
   have h1:=Ap2 (n:=n) h hl (k0:=λz_1=>some z_1) (k1:=λ(_:Unit)=>some true) n 0 (by omega) (by omega)
   have h1:A2j n n a b 0 _ _=_:=h1;rw [h1,ZR,ZR];by_cases e:a=b
   . rw [QC e,QS e]
   . rw [QB e,QR e]
 . rw [QC (by rw [bne_iff_ne];omega),QR (λe=>h (by rw [e]))]

theorem Bn6 {n:Nat} {x y:Rat} (hx:Sz x 1000) (hn:1048577<=n):f32 n (rq x) (rq y)=some (decide (x=y)):=by
 obtain ⟨h1,h2⟩:=hx;unfold f32
 have key:(rq x).1=(rq y).1->(rq x).2.1=(rq y).2.1->(rq x).2.2=(rq y).2.2->x=y:=λa b c=>B3q (by
  rw [show rq x=((rq x).1,(rq x).2.1,(rq x).2.2) from rfl,a,b,c])
 rw [XE];by_cases e1:(rq x).1=(rq y).1
 . rw [QC (by rw [e1];simp),B5g (by show (dg x.num.natAbs).length<=_;omega) hn,A0,QE]
   by_cases e2:(rq x).2.1=(rq y).2.1
   . rw [QC e2,B5g (by show (dg x.den).length<=_;omega) hn,A0]
     by_cases e3:(rq x).2.2=(rq y).2.2
     . rw [QS e3,QS (key e1 e2 e3)]
     . rw [QR e3,QR (λe=>e3 (by rw [e]))]
   . rw [QB e2,QR (λe=>e2 (by rw [e]))]
 . rw [QB (by simpa using e1),QR (λe=>e1 (by rw [e]))]

def vq (x:List Rat):List Rt:=x.map rq

def Sv (x:List Rat) (L:Nat):Prop:=∀ a ∈ x,Sz a L

def D9 (acc:Rat):List Rat->List Rat->Rat
 | a::x,b::y=>D9 (acc+a*b) x y
 | _,_=>acc

def B6 (x:Rat):Bool:=decide ((dg x.num.natAbs).length<=40)&&decide ((dg x.den).length<=40)

theorem Cp {x:Rat}:B6 x=true ↔ Sz x 40:=by unfold B6 Sz;simp

@[simp] theorem Ba (x:List Rat):(vq x).length=x.length:=by simp [vq]

theorem Cc {x:List Rat} {i:Nat} (h:i<x.length):(vq x).getD i (false,[],[])=rq (x.getD i 0):=by
 unfold vq;rw [QJ,QQ,QJ,QN h];rfl

theorem Alx {x:List Rat} {i:Nat} (h:i<x.length):x.drop i=x.getD i 0::x.drop (i+1):=by
 rw [XV h,QJ,QN h];rfl

theorem Sv.get {x:List Rat} {L i:Nat} (hs:Sv x L) (h:i<x.length):Sz (x.getD i 0) L:=by
 refine hs _ ?_;rw [QJ,QN h];exact KX h

theorem Sv.mono {x:List Rat} {L M:Nat} (h:Sv x L) (hLM:L<=M):Sv x M:=λa ha=>(h a ha).mono hLM

theorem B34 {x:List Rat} (h:Sv x 40) (h1:1<=x.length) (h4:x.length<=4):H7 (vq x)=true:=by
 unfold H7
 rw [QS (by rw [Ba];omega),ZZ,QK]
 intro r hr;obtain ⟨a,ha,rfl⟩:=ZK.1 hr;exact Bln (h a ha)

theorem Bgs:rq 0=(false,[],dg 1):=by
 unfold rq;rw [show (0:Rat).num=0 from rfl,show (0:Rat).den=1 from rfl,show (0:Int).natAbs=0 from rfl,Cq];rfl

theorem Bi:Sz 0 1:=by
 refine ⟨?_,?_⟩
 . rw [show (0:Rat).num=0 from rfl,show (0:Int).natAbs=0 from rfl,Cq];simp
 . rw [show (0:Rat).den=1 from rfl,Ie];simp

theorem A0t {n:Nat} {x:List Rat} (hl:x.length<=1048576):∀ (m i:Nat),i<=x.length->x.length<i+m ->
  ∃ r,Ju n m (vq x) (x.length:Int) (i:Int) (λz_3=>some z_3) (λ(_:Unit)=>some (-1))=some r/\decide (r>=0) = !(x.drop i).all B6
 | 0,i,hi,hm=>by omega
 | m+1,i,hi,hm=>by
  rw [Al1];unfold T2;dsimp only;rw [QE];by_cases h:i<x.length
  . rw [QC (by omega),A2 (by simp;omega),QM,Cc h,Alx h,XJ]
    have e:f105 n (rq (x.getD i 0))=some (!B6 (x.getD i 0)):=by
     unfold f105 f98 rq B6;dsimp only;generalize (dg (x.getD i 0).num.natAbs).length=p;generalize (dg (x.getD i 0).den).length=q;rw [QE];by_cases c:p<=40
     . rw [QC (by omega),A0,QS c,ZZ];congr 2;exact decide_eq_decide.2 (by omega)
     . rw [QB (by omega),A0,QR c,Bool.false_and]
    rw [e,A0]
    cases hf:B6 (x.getD i 0) with
    | false=>exact ⟨(i:Int),by simp,by simp⟩
    | true =>
     rw [ZJ,QP,A8 (x:=(i:Int)+1) (by omega) (by omega),ZZ]
     exact A0t hl m (i+1) (by omega) (by omega)
  . rw [QB (by omega),ZB (by omega)]
    exact ⟨-1,rfl,rfl⟩

theorem Acp {n:Nat} {x:List Rat} (hl:x.length<=1048576) (hn:1048577<=n):f51 n (vq x)=some (if x.all B6=true then (vq x,0) else ([],7)):=by
 unfold f51 Ab8 A9v
 obtain ⟨r,h1,h2⟩:=A0t (n:=n) hl n 0 (by omega) (by omega)
 have h1:Ju n n (vq x) (x.length:Int) 0 _ _=_:=h1;rw [Ba,h1,A0,A0,h2,ZR]
 cases x.all B6 <;> rfl

theorem Apo {α:Type} {n:Nat} {x y:List Rat} (hl:x.length=y.length) (h4:x.length<=4096) (hs:Sv x 1000) (hn:1048577<=n) {k0:Bool->Option α} {k1:Unit->Option α}:∀ (m i:Nat),i<=x.length->x.length<i+m ->
  A2l n m (vq x) (vq y) (i:Int) k0 k1=if x.drop i=y.drop i then k1 () else k0 false
 | 0,i,hi,hm=>by omega
 | m+1,i,hi,hm=>by
  rw [Bcu];unfold Agt;dsimp only;rw [QE,Ba];by_cases h:i<x.length
  . rw [QC (by omega),A2 (by simp;omega),A2 (by simp;omega),QM,Cc h,Cc (by omega),Bn6 (hs.get h) hn,A0,Alx h,Alx (x:=y) (by omega)]
    by_cases e:x.getD i 0=y.getD i 0
    . rw [QS e,ZJ,QP,A8 (x:=(i:Int)+1) (by omega) (by omega),e]
      rw [show (i:Int)+1=((i+1:Nat):Int) from rfl,Apo hl h4 hs hn m (i+1) (by omega) (by omega)]
      simp
    . rw [QR e,ZW,QW,QB (λq=>e (List.cons.inj q).1)]
  . rw [QB (by omega),ZB (by omega),ZB (by omega),QC rfl]

theorem A22 {n:Nat} {x y:List Rat} (hl:x.length=y.length) (h4:x.length<=4096) (hs:Sv x 1000) (hn:1048577<=n):f25 n (vq x) (vq y)=some (decide (x=y)):=by
 unfold f25
 have h1:=Apo (n:=n) hl h4 hs hn (k0:=λz_4=>some z_4) (k1:=λ(_:Unit)=>some true) n 0 (by omega) (by omega)
 have h1:A2l n n (vq x) (vq y) 0 _ _=_:=h1;rw [Ba,Ba,hl,ZX,QP,h1,ZR,ZR];by_cases e:x=y
 . rw [QC e,QS e]
 . rw [QB e,QR e]

def Bq (x:Rat) (N D:Nat):Prop:=x.num.natAbs<=N/\x.den<=D

def Bv (x:List Rat) (N D:Nat):Prop:=∀ a ∈ x,Bq a N D

theorem Bq.sz {x:Rat} {N D:Nat} (h:Bq x N D) {L:Nat} (h1:N<10000 ^ L) (h2:D<10000 ^ L):Sz x L:=⟨Ek (by have:=h.1;omega),Ek (by have:=h.2;omega)⟩

theorem Bv.sz {x:List Rat} {N D:Nat} (h:Bv x N D) {L:Nat} (h1:N<10000 ^ L) (h2:D<10000 ^ L):Sv x L:=λa ha=>(h a ha).sz h1 h2

theorem Bq.mono {x:Rat} {N D N' D':Nat} (h:Bq x N D) (h1:N<=N') (h2:D<=D'):Bq x N' D':=⟨ZQ h.1 h1,ZQ h.2 h2⟩

theorem Bs6 {s:Bool} {a d N D:Nat} (hd:0<d) (h1:a<=N) (h2:d<=D):Bq (mq s a d) N D:=by
 unfold Bq;rw [Ao0 hd,Ao1 hd];have e1:a / Nat.gcd a d<=a:=JU _ _;have e2:d / Nat.gcd a d<=d:=JU _ _;generalize a / Nat.gcd a d=q at *
 refine ⟨?_,by omega⟩
 cases s <;> simp <;> omega

theorem Bv.get {x:List Rat} {N D i:Nat} (hs:Bv x N D) (h:i<x.length):Bq (x.getD i 0) N D:=by
 refine hs _ ?_;rw [QJ,QN h];exact KX h

theorem Awl {n:Nat} {a b:Int} (ha:-10<=a/\a<=10) (hb:1<=b/\b<=9) (hn:1048577<=n):∃ x:Rat,f176 n a b=some (rq x,0)/\Bq x 10 9:=by
 unfold f176
 have la:(dg a.natAbs).length<=4:=Ek (by omega)
 have lb:(dg b.natAbs).length<=4:=Ek (by omega)
 rw [Kw,A0,QS (by omega),Kw,A0,QS (by omega),show (b==0)=false by rw [beq_eq_false_iff_ne];omega,Ahe (by omega) hn,A0,Ahe (by omega) hn,A0]
 dsimp only
 rw [Vg (L:=4) (show 0<b.natAbs by omega) la lb (by omega) (by omega),A0]
 exact ⟨_,rfl,Bs6 (by omega) (by omega) (by omega)⟩

theorem Bkl {n:Nat} {P:Int} {s:Mh} (h:Er P s) (hP:P<=1099511620000) (hn:1048577<=n):∃ (x:Rat) (s':Mh),Uj n s=some (rq x,s')/\Bq x 10 9/\Er (P+6) s':=by
 unfold Uj
 obtain ⟨a,s1,e1,r1,o1⟩:=A6a (n:=n) (k:=21) h (by omega) (by omega) (by omega)
 rw [e1,A0]
 obtain ⟨b,s2,e2,r2,o2⟩:=A6a (n:=n) (k:=6) o1 (by omega) (by omega) (by omega)
 rw [e2,A0];dsimp only
 rw [A8 (x:=a-10) (by omega) (by omega),A8 (x:=1+b) (by omega) (by omega)]
 obtain ⟨x,e3,z⟩:=Awl (n:=n) (a:=a-10) (b:=1+b) (by omega) (by omega) hn
 rw [e3,A0]
 exact ⟨x,s2,rfl,z,o2.1,o2.2.1,⟨o2.2.2.1.1,by have:=o2.2.2.1.2;show s2.2.1<=P+6;omega⟩,o2.2.2.2⟩

theorem Blg {l:List Int} (h:∀ x ∈ l,0<=x/\x<=255) (hl:l.length<=1048576):Er 0 (l,0,Int.tmod (l.length:Int) 1000) :=
 ⟨h,hl,⟨Int.le_refl _,Int.le_refl _⟩,by rw [Hv (by omega)];dsimp only;omega,by rw [Hv (by omega)];dsimp only;omega⟩

theorem Api {α:Type} {n k:Nat} (hk:k<=1000) (hn:1048577<=n) {k0:List Rt->List Int->Int->Int->Option α}:∀ (m i:Nat) (P:Int) (o:List Rat) (s:Mh),Er P s->P+6*(k-i:Nat)<=1099511620000->o.length=i->i<=k->k<i+m->Bv o 10 9 ->
  ∃ (x:List Rat) (s':Mh),x.length=k/\Bv x 10 9/\Er (P+6*(k-i:Nat)) s'/\Mx n m (k:Int) (i:Int) (vq o) s.1 s.2.1 s.2.2 k0=k0 (vq x) s'.1 s'.2.1 s'.2.2
 | 0,i,P,o,s,h1,h2,h3,h4,h5,h6=>by omega
 | m+1,i,P,o,s,h1,h2,h3,h4,h5,h6=>by
  rw [Aiz];unfold Y3;rw [QE];by_cases h:i<k
  . rw [QC (by omega)]
    obtain ⟨a,s1,e1,r1,o1⟩:=Bkl (n:=n) h1 (by omega) hn
    have e1:Uj n (s.1,s.2.1,s.2.2)=_:=e1
    rw [e1,A0,A2 (by simp;omega),A8 (x:=(i:Int)+1) (by omega) (by omega)]
    dsimp only
    obtain ⟨x,s',q1,q2,q3,q4⟩:=Api hk hn (k0:=k0) m (i+1) (P+6) (o++[a]) s1 o1 (by omega) (by simp;omega) (by omega) (by omega) (λc hc=>by
     rcases QG.1 hc with hc | hc
     . exact h6 c hc
     . rw [QU.1 hc];exact r1)
    refine ⟨x,s',q1,q2,?_,?_⟩
    . rw [show P+6*((k-i:Nat):Int)=P+6+6*((k-(i+1):Nat):Int) by omega];exact q3
    . rw [<- q4];simp [vq]
  . rw [QB (by omega)]
    exact ⟨o,s,by omega,h6,by rw [show ((k-i:Nat):Int)=0 by omega];simpa using h1,rfl⟩

theorem Bnk {n k:Nat} {l:List Int} (h:∀ x ∈ l,0<=x/\x<=255) (hl:l.length<=1048576) (hk:k<=1000) (hn:1048577<=n):∃ x:List Rat,f21 n l (k:Int)=some (vq x)/\x.length=k/\Bv x 10 9:=by
 unfold f21 Agl;rw [A0];unfold B0c
 obtain ⟨x,s',q1,q2,_,q4⟩:=Api (k:=k) hk hn (k0:=λz_2 z_3 z_4 z_5=>some (z_2,(z_3,z_4,z_5))) n 0 0 [] _ (Blg h hl) (by omega) rfl (by omega) (by omega) (λc hc=>by simp at hc)
 have q4:Mx n n (k:Int) 0 [] _ _ _ _=_:=q4;rw [q4,A0];exact ⟨x,rfl,q1,q2⟩

theorem Anj (c:Nat):rq (c:Rat)=(false,dg c,dg 1):=by
 unfold rq
 rw [Rat.num_natCast,Rat.den_natCast,XK,QR (by omega)]

theorem Bmj {n c:Nat} (hc:c<=100) (hn:1048577<=n):f97 n (c:Int)=some (rq (c:Rat)):=by
 unfold f97
 rw [QR (by omega),QP,A60 (by omega) (by omega),A0,Anj,Ie]
 rfl

theorem A4a {c:Nat} (hc:c<=100):Sz (c:Rat) 1:=by
 unfold Sz;rw [Rat.num_natCast,Rat.den_natCast,XK]
 exact ⟨Ek (by omega),Ek (by omega)⟩

def Fw:List Int->Int
 | []=>0
 | c::r=>if c=0 then Fw r else c

theorem Ap8 {n:Nat} {l:List Int} (hl:l.length<=1048576):∀ (m i:Nat),i<=l.length->l.length<i+m->Ad2 n m l (l.length:Int) (i:Int) (λz=>some z) (λ(_:Unit)=>some 0)=some (Fw (l.drop i))
 | 0,i,hi,hm=>by omega
 | m+1,i,hi,hm=>by
  rw [Bch];unfold Agf;rw [QE];by_cases h:i<l.length
  . have hx : l.drop i = l.getD i 0 :: l.drop (i + 1) := by
     rw [XV h];simp [QJ,h]
    rw [QC (by omega),A2 (by simp;try omega),QM,hx]
    unfold Fw;by_cases c:l.getD i 0=0
    . rw [c,ZX,QP,QC rfl,A8 (x:=(i:Int)+1) (by omega) (by omega)]
      exact Ap8 hl m (i+1) (by omega) (by omega)
    . rw [QB c,show (l.getD i 0 != 0)=true by rw [bne_iff_ne];exact c,QW]
  . rw [QB (by omega),ZB (by omega)];rfl

theorem Gf {n:Nat} {l:List Int} (hl:l.length<=1048576) (hn:1048577<=n):f70 n l=some (Fw l):=by
 unfold f70
 have:=Ap8 (n:=n) hl n 0 (by omega) (by omega)
 simpa using this

def Xx (L:List (List Rt)):Bool:=L.any λv=>decide (4096<v.length)

theorem A56 {n:Nat} {L:List (List Rt)} (hl:L.length<=1048576) (hn:1048577<=n):f71 n L=some (if Xx L=true then 2 else 0):=by
 obtain ⟨c,h1,h2⟩:=Bmp (n:=n) hl hn;rw [h1];rcases h2 with ⟨rfl,h⟩ | ⟨rfl,v,hv,h⟩
 . rw [QB];intro c;obtain ⟨v,hv,h3⟩:=ZL.1 c;have:=h v hv;have:=Qaa h3;omega
 . rw [QC];exact ZL.2 ⟨v,hv,QS h⟩

def Ays (L:List (List Rt)):Int:=if Xx L=true then 2 else if (L.all H7)=true then (if (L.all λv=>v.length==(L.getD 0 []).length)=true then 0 else 8) else 1

theorem Bhr {n:Nat} {x y:List Rt} (hn:1048577<=n):f92 n x y=some (Ays [x,y]):=by
 unfold f92 Ays Xx;dsimp only;rw [QE];simp only [JH,List.any_nil,Qbz,XJ,KT,XR];by_cases a:x.length<=4096
 . rw [QB (by omega),QR (show ¬ 4096<x.length by omega),YJ]
   by_cases b:y.length<=4096
   . rw [QR (by omega),QR (by omega),QP,Ahj hn,A0,QB (by simp)]
     cases hx:H7 x with
     | false=>rfl
     | true =>
      rw [ZJ,QP,Ahj hn,A0]
      cases hy:H7 y with
      | false=>rfl
      | true =>
       simp only [ZJ,QP,ZO,if_true];by_cases c:x.length=y.length
       . rw [show ((x.length:Int) != (y.length:Int))=false by simp;omega,QP,QC (by simp [c])]
       . rw [show ((x.length:Int) != (y.length:Int))=true by rw [bne_iff_ne];omega,QW,QB (by simp;omega)]
   . rw [QS (by omega),QS (by omega),QW,QC rfl]
 . rw [QC (by omega),QS (show 4096<x.length by omega),Qac,QW,QC rfl]

theorem Bfa:∀ {l:List Rt},l.all J5=true->∃ X:List Rat,l=vq X/\Sv X 40
 | [],_=>⟨[],rfl,λa h=>by simp at h⟩
 | r::l,h=>by
  simp only [XJ,QH] at h;obtain ⟨x,rfl,hx⟩:=Blp h.1;obtain ⟨X,rfl,hX⟩:=Bfa h.2
  exact ⟨x::X,rfl,λa ha=>by rcases QX.1 ha with rfl | ha;exact hx;exact hX a ha⟩

def Pb (X:List Rat):List Rt × Int:=if X.all B6=true then (vq X,0) else ([],7)

theorem Bhv {n:Nat} {x:Rat} (h:Sz x 1000000):f73 n (rq x)=some (rq x):=by
 obtain ⟨h1,h2⟩:=h;unfold f73 rq;dsimp only
 rw [Ix n (by omega),A0,Ix n (by omega),A0]

theorem D4 {n:Nat} {b:Bool} {c:Int}:f111 n b c=some (if b=true then 0 else c):=by
 unfold f111;cases b <;> rfl

theorem W1 {a:Nat} (h:a<=1000000):W ((a:Int)+1)=((a+1:Nat):Int):=A8 (by omega) (by omega)

theorem dm {k i j:Nat} (hj:j<k):(i*k+j) % k=j/\(i*k+j) / k=i:=by
 have hk:0<k:=by omega
 constructor
 . rw [Qat,Nat.add_mul_mod_self_right,KO hj]
 . rw [Qat,Qad j i hk,KW hj];omega

theorem Avu {X:List Rat} (h:(Pb X).2 ≠ 0):(Pb X).1=[]:=by
 unfold Pb at h ⊢;split
 . rename_i e;rw [QC e] at h;exact absurd rfl h
 . rfl

theorem B8l {n:Nat} (hn:1048577<=n):f131 n 0=some (rq 0):=by
 unfold f131
 rw [QR (by omega),QP,show (0:Int)=((0:Nat):Int) from rfl,Qt (by omega) (by omega),A0,Bgs,Cq,Ie]

def Bsd (X:List Rat) (k i:Nat):List Rat:=(X.drop (i*k)).take k

def mvR (A X:List Rat):List Rat:=(List.range X.length).map λi=>D9 0 (Bsd A X.length i) X

def Amj (w:Nat) (row:List Rt) (v:Nat->Rat):Prop:=row.length=w /\ ∀ c,c<w->row.getD c rt0=rq (v c)

def Ata (m w:Nat) (R:List (List Rt)) (M:Nat->Nat->Rat):Prop:=R.length=m /\ ∀ r,r<m->Amj w (R.getD r []) (M r)

def SzM (M:Nat->Nat->Rat) (L:Nat):Prop:=∀ r c,Sz (M r c) L

theorem Avr {n L:Nat} {x:Rat} (hx:Sz x L) (hL:L<=1099511627000):f73 n (rq x)=some (rq x):=by
 obtain ⟨x1,x2⟩:=hx;unfold f73 rq;dsimp only
 rw [Ix n (by omega),A0,Ix n (by omega),A0]

theorem SzM.mono {M:Nat->Nat->Rat} {L L':Nat} (h:SzM M L) (hL:L<=L'):SzM M L':=λr c=>(h r c).mono hL

theorem Amj.congr {w:Nat} {row:List Rt} {u v:Nat->Rat} (h:Amj w row u) (e:∀ c,c<w->u c=v c):Amj w row v:=⟨h.1,λc hc=>by rw [h.2 c hc,e c hc]⟩

theorem Ata.congr {m w:Nat} {R:List (List Rt)} {M M':Nat->Nat->Rat} (h:Ata m w R M) (e:∀ r c,r<m->c<w->M r c=M' r c):Ata m w R M':=⟨h.1,λr hr=>(h.2 r hr).congr λc hc=>e r c hr hc⟩

structure Nr (m:Nat) (a b:List Rt) (M:Nat->Nat->Rat):Prop where
 la:a.length=m*m
 lb:b.length=m
 at_:∀ r c,r<m->c<m->a.getD (r*m+c) rt0=rq (M r c)
 bt:∀ r,r<m->b.getD r rt0=rq (M r m)

theorem Nr.congr {m:Nat} {a b:List Rt} {M M':Nat->Nat->Rat} (h:Nr m a b M) (e:∀ r c,r<m->c<=m->M r c=M' r c):Nr m a b M' :=
 ⟨h.la,h.lb,λr c hr hc=>by rw [h.at_ r c hr hc,e r c hr (by omega)],λr hr=>by rw [h.bt r hr,e r m hr (ZF _)]⟩

theorem Nr.gA {m r c:Nat} {a b:List Rt} {M:Nat->Nat->Rat} (h:Nr m a b M) (hr:r<m) (hc:c<m):a.getD (r*m+c) (false,[],[])=rq (M r c):=h.at_ r c hr hc

theorem Nr.gB {m r:Nat} {a b:List Rt} {M:Nat->Nat->Rat} (h:Nr m a b M) (hr:r<m):b.getD r (false,[],[])=rq (M r m):=h.bt r hr

theorem Bqi {n c:Nat} (hc:c<=1000000) (hn:1048577<=n):f131 n (c:Int)=some (rq (c:Rat)):=by
 unfold f131
 rw [QR (by omega),QP,Qt (by omega) (by omega),A0,Anj,Ie]

theorem Ij {L:Nat} (h:1<=L):Sz (1:Rat) L:=(A4a (c:=1) (by omega)).mono h

theorem A1j {α:Type} {n m:Nat} (hm:m<=100) (hn:1048577<=n) {k0:List Rt->Option α}:∀ (fu i:Nat),i<=m->m<i+fu->A68 n fu (m:Int) (i:Int) (vq (List.replicate i 0)) k0=k0 (vq (List.replicate m 0))
 | 0,i,hi,hf=>by omega
 | fu+1,i,hi,hf=>by
  rw [B8w];unfold Aaz;rw [QE];by_cases h:i<m
  . have e0:f131 n 0=some (rq 0):=Bqi (c:=0) (by omega) hn
    have e:vq (List.replicate i 0)++[rq 0]=vq (List.replicate (i+1) 0):=by rw [List.replicate_succ'];simp [vq]
    rw [QC (by omega),e0,A0,A2 (by simp;omega),e,A8 (x:=(i:Int)+1) (by omega) (by omega)]
    exact A1j hm hn fu (i+1) (by omega) (by omega)
  . obtain rfl:i=m:=by omega
    rw [QB (by omega)]

theorem Auz {n m:Nat} (hm:m<=100) (hn:1048577<=n):f118 n (m:Int)=some (vq (List.replicate m 0)):=by
 unfold f118
 exact A1j (n:=n) (k0:=λz_2=>some z_2) hm hn n 0 (by omega) (by omega)

theorem B3p (a:Int):rq (a:Rat)=(decide (a<0),dg a.natAbs,dg 1):=by
 unfold rq;rw [Rat.num_intCast,Rat.den_intCast]

theorem Lb {n:Nat} {a:Int} (h:-1000000000<=a/\a<=1000000000) (hn:1048577<=n):f131 n a=some (rq (a:Rat)):=by rw [Ahe h hn,B3p]

theorem K3 {n:Nat} {x:Rat}:f98 n (rq x)=some (B6 x):=by
 unfold f98 B6 rq;dsimp only;rw [QE];by_cases h:(dg x.num.natAbs).length<=40
 . rw [QC (by omega),QS h,ZZ]
   by_cases c:(dg x.den).length<=40
   . rw [QS c,QS (by omega)]
   . rw [QR c,QR (by omega)]
 . rw [QB (by omega),QR h];rfl

theorem Ayz {n:Nat} {x:Rat}:f145 n (rq x)=some (B6 x):=by
 unfold f145 B6 rq;dsimp only;rw [QE];by_cases h:(dg x.num.natAbs).length<=40
 . rw [QC (by omega),QS h,ZZ]
   by_cases c:(dg x.den).length<=40
   . rw [QS c,QS (by omega)]
   . rw [QR c,QR (by omega)]
 . rw [QB (by omega),QR h];rfl

theorem Cl {x y:Rat} {L K:Nat} (hx:Sz x L) (hy:Sz y K):Sz (x+y) (L+K+1):=by
 obtain ⟨x1,x2⟩:=hx;obtain ⟨y1,y2⟩:=hy;have l1:=C1 x.num.natAbs y.den;have l2:=C1 y.num.natAbs x.den;have l3:=C1 x.den y.den;have l4:=Afp (x.num.natAbs*y.den) (y.num.natAbs*x.den);have hd:0<x.den*y.den:=KL (XQ x.den_nz) (XQ y.den_nz);by_cases hs:decide (x.num<0)=decide (y.num<0)
 . rw [Abk hs];exact A6l hd (by omega) (by omega)
 . by_cases hle:y.num.natAbs*x.den<=x.num.natAbs*y.den
   . have l5:=Bz (Qbp (x.num.natAbs*y.den) (y.num.natAbs*x.den))
     rw [Wv hs hle];exact A6l hd (by omega) (by omega)
   . have l5:=Bz (Qbp (y.num.natAbs*x.den) (x.num.natAbs*y.den))
     rw [Rat.add_comm,Wv (λe=>hs e.symm) (by omega),KK y.den x.den];exact A6l hd (by omega) (by omega)

theorem A7 {x y:Rat} {L K:Nat} (hx:Sz x L) (hy:Sz y K):Sz (x*y) (L+K+1):=by
 obtain ⟨x1,x2⟩:=hx;obtain ⟨y1,y2⟩:=hy;have l1:=C1 x.num.natAbs y.num.natAbs;have l3:=C1 x.den y.den;rw [Anz]
 exact A6l (KL (XQ x.den_nz) (XQ y.den_nz)) (by omega) (by omega)

theorem Wx {x y:Rat} {L K:Nat} (hx:Sz x L) (hy:Sz y K) (hy0:y ≠ 0):Sz (x / y) (L+K+1):=by
 obtain ⟨x1,x2⟩:=hx;obtain ⟨y1,y2⟩:=hy;have l1:=C1 x.num.natAbs y.den;have l3:=C1 x.den y.num.natAbs;have hyn:y.num ≠ 0:=λe=>hy0 (JG.1 e);rw [Asc hy0]
 exact A6l (KL (XQ x.den_nz) (by omega)) (by omega) (by omega)

theorem Bhi {n:Nat} (hn:1048577<=n):f97 n 0=some (rq 0):=Bmj (c:=0) (by omega) hn

def Bse (M:Nat->Nat->Rat) (m i:Nat):List Rat:=(List.range m).map (M i)

def bsV (M:Nat->Nat->Rat) (m i:Nat) (X:List Rat):Rat:=(M i m-D9 0 (Bse M m i) X) / M i i

def bs (M:Nat->Nat->Rat) (m:Nat):Nat->List Rat->List Rat
 | 0,X=>X
 | i+1,X=>bs M m i (X.set i (bsV M m i X))

theorem Aur {i:Nat}:vq (List.replicate i 0)++[rq 0]=vq (List.replicate (i+1) 0):=by
 rw [List.replicate_succ'];simp [vq]

theorem A0j {α:Type} {n m:Nat} (hm:m<=1000) (hn:1048577<=n) {k0:List Rt->Option α}:∀ (fu i:Nat),i<=m->m<i+fu->A5a n fu (m:Int) (i:Int) (vq (List.replicate i 0)) k0=k0 (vq (List.replicate m 0))
 | 0,i,h1,h2=>by omega
 | fu+1,i,h1,h2=>by
  rw [B5s];unfold A8c;rw [QE];by_cases h:i<m
  . rw [QC (by omega),Bhi hn,A0,A2 (by simp;omega),W1 (by omega),Aur]
    exact A0j hm hn fu (i+1) (by omega) (by omega)
  . obtain rfl:i=m:=by omega
    rw [QB (by omega)]

theorem Bbv {n m:Nat} (hm:m<=1000) (hn:1048577<=n):Pe n (m:Int)=some (vq (List.replicate m 0)):=by
 unfold Pe
 exact A0j (n:=n) (k0:=λz=>some z) hm hn n 0 (by omega) (by omega)

theorem A0e {α:Type} {n m:Nat} (hm:m<=1000) (hn:1048577<=n) {k0:List Rt->Option α}:∀ (fu i:Nat),i<=m->m<i+fu->Z8 n fu (m:Int) (i:Int) (vq (List.replicate i 0)) k0=k0 (vq (List.replicate m 0))
 | 0,i,h1,h2=>by omega
 | fu+1,i,h1,h2=>by
  rw [B27];unfold A3p;rw [QE];by_cases h:i<m
  . rw [QC (by omega),B8l hn,A0,A2 (by simp;omega),W1 (by omega),Aur]
    exact A0e hm hn fu (i+1) (by omega) (by omega)
  . obtain rfl:i=m:=by omega
    rw [QB (by omega)]

theorem Ang {n m:Nat} (hm:m<=1000) (hn:1048577<=n):Z9 n (m:Int)=some (vq (List.replicate m 0)):=by
 unfold Z9
 exact A0e (n:=n) (k0:=λz=>some z) hm hn n 0 (by omega) (by omega)

theorem Bq8 {k L:Nat} (h:1<=L):Sv (List.replicate k 0) L:=λa ha=>by
 rw [(List.mem_replicate.1 ha).2];exact Bi.mono h

theorem Kk:∀ (x y:List Rat) (a:Rat),D9 a x y=a+D9 0 x y
 | [],_,a=>by simp [D9,JN]
 | p::x,[],a=>by simp [D9,JN]
 | p::x,q::y,a=>by
  simp only [D9];rw [Kk x y (a+p*q),Kk x y (0+p*q)];grind

theorem Aiv {n:Nat} {x:List Rat} (hl:x.length<=4096) {k1:List Rt->Option (List Rt × Int)}:∀ (m i:Nat) (o:List Rt),o.length<=i->i<=x.length->x.length<i+m ->
  A2i n m (vq x) (i:Int) o (λz_5 z_6=>some (z_6,z_5)) k1=if (x.drop i).all B6=true then k1 (o++vq (x.drop i)) else some ([],7)
 | 0,i,o,ho,hi,hm=>by omega
 | m+1,i,o,ho,hi,hm=>by
  rw [Bc8];unfold Ag4;dsimp only;rw [QE,Ba];by_cases h:i<x.length
  . rw [QC (by omega),A2 (by simp;omega),QM,Cc h,Alx h,XJ,Ayz,A0]
    cases hf:B6 (x.getD i 0) with
    | false=>simp
    | true =>
     obtain ⟨z1,z2⟩:=Cp.1 hf
     have e2:f127 n (rq (x.getD i 0))=some (rq (x.getD i 0)):=by
      unfold f127
      rw [A2 (by simp only [QO];show (0+(dg (x.getD i 0).num.natAbs).length)*8<=_;omega),A2 (by simp only [QO];show (0+(dg (x.getD i 0).den).length)*8<=_;omega)]
     rw [ZJ,QP,A2 (by simp;omega),e2,A0,A2 (by simp;omega),A8 (x:=(i:Int)+1) (by omega) (by omega),ZZ]
     have:=Aiv hl (n:=n) (k1:=k1) m (i+1) (o++[rq (x.getD i 0)]) (by simp;omega) (by omega) (by omega)
     rw [show (i:Int)+1=((i+1:Nat):Int) from rfl,this,ZP];rfl
  . rw [QB (by omega),ZB (by omega)]
    simp [vq]

theorem Av0 {n:Nat} {x:List Rat} (hl:x.length<=4096) (hn:1048577<=n):f89 n (vq x)=some (Pb x):=by
 unfold f89 Pb
 have h1:=Aiv (n:=n) hl (k1:=λz_7=>some (z_7,0)) n 0 [] (by simp) (by omega) (by omega)
 have h1:A2i n n (vq x) 0 [] _ _=_:=h1;rw [h1,ZR];split <;> rfl

theorem Akp:∀ (x y:List Rat),D9 0 x y=D9 0 y x
 | [],[]=>rfl
 | [],_::_=>rfl
 | _::_,[]=>rfl
 | p::x,q::y=>by
  simp only [D9];rw [Kk,Kk y,Akp x y];grind

theorem Zq:∀ (x:List Rat),0<=D9 0 x x
 | []=>by simp only [D9];exact Rat.le_refl
 | p::x=>by
  have:=Zq x
  have h2:(0:Rat)<=p*p:=by
   rcases Rat.le_total (a:=0) (b:=p) with h | h
   . exact Qbx h h
   . have:=Qbx (a:=-p) (b:=-p) (by grind) (by grind)
     grind
  simp only [D9];rw [Kk];grind

theorem Ayw (p:Rat):0<=p*p:=by
 rcases Rat.le_total (a:=0) (b:=p) with h | h
 . exact Qbx h h
 . have:=Qbx (a:=-p) (b:=-p) (by grind) (by grind)
   grind

theorem Asb:∀ {x:List Rat},D9 0 x x=0->∀ i,x.getD i 0=0
 | [],_,i=>by simp
 | p::x,h,i=>by
  simp only [D9] at h;rw [Kk] at h;have h1:=Zq x;have h2:=Ayw p
  have h3:D9 0 x x=0:=by grind
  have h4:p*p=0:=by grind
  have h5:p=0:=by rcases Rat.mul_eq_zero.1 h4 with h | h <;> exact h
  cases i with
  | zero=>simpa using h5
  | succ i=>simpa using Asb h3 i

theorem Ako:∀ {x:List Rat} (z:List Rat),(∀ i,x.getD i 0=0)->D9 0 x z=0
 | [],_,_=>rfl
 | p::x,[],_=>rfl
 | p::x,c::z,h=>by
  have h0:p=0:=by simpa using h 0
  have h1:=Ako (x:=x) z λi=>by simpa using h (i+1)
  simp only [D9];rw [Kk,h1,h0];grind

structure Pd (A:List Rat) (k:Nat):Prop where
 sa:∀ X Y,X.length=k->Y.length=k->D9 0 (mvR A X) Y=D9 0 X (mvR A Y)
 pd:∀ X,X.length=k->D9 0 X X<=D9 0 X (mvR A X)

structure CgI (A R D:List Rat) (k:Nat):Prop where
 lR:R.length=k
 lD:D.length=k
 i1:D9 0 R D=D9 0 R R
 i2:D9 0 R (mvR A D)=D9 0 D (mvR A D)

theorem CgI.p {A R D:List Rat} {k:Nat} (h:CgI A R D k) (hA:Pd A k) (hr:D9 0 R R ≠ 0):D9 0 D (mvR A D) ≠ 0:=by
 intro e;have h1:=hA.pd D h.lD;have h2:=Zq D
 have h3:D9 0 D D=0:=by grind
 have h4:=Ako R (Asb h3);rw [Akp,h.i1] at h4;exact hr h4

structure Q4 where
 f:Rat
 a:Rat
 v:Rat
 c:Rat

theorem Q4.ext' {p q:Q4} (h1:p.f=q.f) (h2:p.a=q.a) (h3:p.v=q.v) (h4:p.c=q.c):p=q:=by
 cases p;cases q;simp only at h1 h2 h3 h4;rw [h1,h2,h3,h4]

def Q4.cst (k:Rat):Q4:=⟨k,0,0,0⟩

def Q4.add (p q:Q4):Q4:=⟨p.f+q.f,p.a+q.a,p.v+q.v,p.c+q.c⟩

def Q4.neg (p:Q4):Q4:=⟨-p.f,-p.a,-p.v,-p.c⟩

def Q4.mul (p q:Q4):Q4:=⟨p.f*q.f,p.a*q.f+p.f*q.a,p.v*q.f+p.f*q.v,p.c*q.f+p.f*q.c+(p.a*q.v+p.v*q.a)⟩

def Q4.inv (p:Q4):Q4:=⟨1 / p.f,-(p.a*(1 / p.f*(1 / p.f))),-(p.v*(1 / p.f*(1 / p.f))),2*(1 / p.f*(1 / p.f)*(1 / p.f))*(p.a*p.v)-p.c*(1 / p.f*(1 / p.f))⟩

def Q4.pow (p:Q4):Nat->Q4
 | 0=>cst 1
 | n+1=>mul (pow p n) p

def Q4.d1 (f:Rat):Nat->Rat
 | 0=>0
 | n+1=>f ^ n*((n+1:Nat):Rat)

def Q4.d2 (f:Rat):Nat->Rat
 | 0=>0
 | 1=>0
 | n+2=>f ^ n*(((n+2)*(n+1):Nat):Rat)

theorem Q4.d1_suc (f:Rat) (n:Nat):d1 f (n+1)=d1 f n*f+f ^ n:=by
 cases n with
 | zero=>simp [d1];grind
 | succ n=>simp only [d1,Rat.pow_succ];push_cast;grind

theorem Q4.d2_suc (f:Rat) (n:Nat):d2 f (n+1)=d2 f n*f+2*d1 f n:=by
 match n with
 | 0=>simp [d2,d1];grind
 | 1=>simp [d2,d1];grind
 | n+2=>simp only [d2,d1,Rat.pow_succ];push_cast;grind

theorem Q4.pow_eq (p:Q4):∀ n,pow p n=⟨p.f ^ n,d1 p.f n*p.a,d1 p.f n*p.v,d2 p.f n*p.a*p.v+d1 p.f n*p.c⟩
 | 0=>by simp [pow,cst,d1,d2];grind
 | n+1=>by
  rw [pow,pow_eq p n];simp only [mul];refine ext' ?_ ?_ ?_ ?_
  . simp only [Rat.pow_succ]
  . simp only [d1_suc];grind
  . simp only [d1_suc];grind
  . simp only [d1_suc,d2_suc];grind

structure Z4 where
 f:Int
 a:Int
 v:Int
 c:Int

def Z4.q (p:Z4):Q4:=⟨(p.f:Rat),(p.a:Rat),(p.v:Rat),(p.c:Rat)⟩

def Z4.n (p:Z4):Nat:=p.f.natAbs+p.a.natAbs+p.v.natAbs+p.c.natAbs

def Z4.add (p q:Z4):Z4:=⟨p.f+q.f,p.a+q.a,p.v+q.v,p.c+q.c⟩

def Z4.mul (p q:Z4):Z4:=⟨p.f*q.f,p.a*q.f+p.f*q.a,p.v*q.f+p.f*q.v,p.c*q.f+p.f*q.c+(p.a*q.v+p.v*q.a)⟩

theorem Z4.q_mul (p q:Z4):(mul p q).q=Q4.mul p.q q.q:=by
 refine Q4.ext' ?_ ?_ ?_ ?_ <;> simp only [Z4.q,mul,Q4.mul] <;> push_cast <;> rfl

theorem Z4.q_add (p q:Z4):(add p q).q=Q4.add p.q q.q:=by
 refine Q4.ext' ?_ ?_ ?_ ?_ <;> simp only [Z4.q,add,Q4.add] <;> push_cast <;> rfl

theorem Z4.n_add (p q:Z4):(add p q).n<=p.n+q.n:=by
 have h1:=YM p.f q.f;have h2:=YM p.a q.a;have h3:=YM p.v q.v;have h4:=YM p.c q.c;simp only [n,add];omega

theorem Z4.n_mul (p q:Z4):(mul p q).n<=p.n*q.n:=by
 have h2:=YM (p.a*q.f) (p.f*q.a);have h3:=YM (p.v*q.f) (p.f*q.v);have h4:=YM (p.c*q.f+p.f*q.c) (p.a*q.v+p.v*q.a);have h5:=YM (p.c*q.f) (p.f*q.c);have h6:=YM (p.a*q.v) (p.v*q.a);simp only [n,mul,YQ,Nat.mul_add,XZ] at *;generalize p.f.natAbs*q.f.natAbs=x1 at *;generalize p.a.natAbs*q.f.natAbs=x2 at *;generalize p.f.natAbs*q.a.natAbs=x3 at *;generalize p.v.natAbs*q.f.natAbs=x4 at *;generalize p.f.natAbs*q.v.natAbs=x5 at *;generalize p.c.natAbs*q.f.natAbs=x6 at *;generalize p.f.natAbs*q.c.natAbs=x7 at *;generalize p.a.natAbs*q.v.natAbs=x8 at *;generalize p.v.natAbs*q.a.natAbs=x9 at *;omega

def Cz (q:Q4) (M:Nat):Prop:=∃ P Q:Z4,Q.f ≠ 0/\Q4.mul q Q.q=P.q/\P.n<=M/\Q.n<=M

theorem Cz.mono {q:Q4} {M N:Nat} (h:Cz q M) (hN:M<=N):Cz q N:=by
 obtain ⟨P,Q,h1,h2,h3,h4⟩:=h;exact ⟨P,Q,h1,h2,ZQ h3 hN,ZQ h4 hN⟩

theorem Q4.mul_comm (p q:Q4):mul p q=mul q p:=by
 refine ext' ?_ ?_ ?_ ?_ <;> simp only [mul] <;> grind

theorem Q4.mul_assoc (p q r:Q4):mul (mul p q) r=mul p (mul q r):=by
 refine ext' ?_ ?_ ?_ ?_ <;> simp only [mul] <;> grind

theorem Q4.add_mul (p q r:Q4):mul (add p q) r=add (mul p r) (mul q r):=by
 refine ext' ?_ ?_ ?_ ?_ <;> simp only [mul,add] <;> grind

theorem Q4.neg_mul (p r:Q4):mul (neg p) r=neg (mul p r):=by
 refine ext' ?_ ?_ ?_ ?_ <;> simp only [mul,neg] <;> grind

theorem Q4.inv_mul (p:Q4) (h:p.f ≠ 0):mul (inv p) p=cst 1:=by
 have h1:1 / p.f*p.f=1:=by grind
 generalize hr:1 / p.f=r at h1;refine ext' ?_ ?_ ?_ ?_ <;> simp only [mul,inv,cst,hr] <;> grind

theorem Q4.one_mul (p:Q4):mul (cst 1) p=p:=by
 refine ext' ?_ ?_ ?_ ?_ <;> simp only [mul,cst] <;> grind

theorem Q4.mul4 (p q r s:Q4):mul (mul p q) (mul r s)=mul (mul p r) (mul q s):=by
 rw [mul_assoc,<- mul_assoc q,mul_comm q r,mul_assoc r,<- mul_assoc]

theorem Rp {a b:Int} (ha:a ≠ 0) (hb:b ≠ 0):a*b ≠ 0:=by
 intro h;rcases Int.mul_eq_zero.1 h with h | h
 . exact ha h
 . exact hb h

theorem Cz.mul {p q:Q4} {M N:Nat} (hp:Cz p M) (hq:Cz q N):Cz (Q4.mul p q) (M*N):=by
 obtain ⟨P,Q,h1,h2,h3,h4⟩:=hp;obtain ⟨R,S,g1,g2,g3,g4⟩:=hq;refine ⟨Z4.mul P R,Z4.mul Q S,Rp h1 g1,?_,ZQ (Z4.n_mul _ _) (XF h3 g3),ZQ (Z4.n_mul _ _) (XF h4 g4)⟩;rw [Z4.q_mul,Z4.q_mul,Q4.mul4,h2,g2]

theorem Cz.add {p q:Q4} {M N:Nat} (hp:Cz p M) (hq:Cz q N):Cz (Q4.add p q) (2*(M*N)):=by
 obtain ⟨P,Q,h1,h2,h3,h4⟩:=hp;obtain ⟨R,S,g1,g2,g3,g4⟩:=hq;have e1:=XF h3 g4;have e2:=XF h4 g3;have e3:=XF h4 g4;have n1:=Z4.n_mul P S;have n2:=Z4.n_mul R Q;have n3:=Z4.n_mul Q S;have n4:=Z4.n_add (Z4.mul P S) (Z4.mul R Q);rw [KK R.n] at n2
 refine ⟨Z4.add (Z4.mul P S) (Z4.mul R Q),Z4.mul Q S,Rp h1 g1,?_,by omega,by omega⟩
 rw [Z4.q_add,Z4.q_mul,Z4.q_mul,Z4.q_mul,Q4.add_mul,<- h2,<- g2,Q4.mul_assoc,Q4.mul_assoc,Q4.mul_comm Q.q S.q]

theorem Cz.neg {p:Q4} {M:Nat} (hp:Cz p M):Cz (Q4.neg p) M:=by
 obtain ⟨P,Q,h1,h2,h3,h4⟩:=hp
 refine ⟨⟨-P.f,-P.a,-P.v,-P.c⟩,Q,h1,?_,by simpa [Z4.n] using h3,h4⟩
 rw [Q4.neg_mul,h2];refine Q4.ext' ?_ ?_ ?_ ?_ <;> simp only [Q4.neg,Z4.q] <;> push_cast <;> rfl

theorem Cz.inv {p:Q4} {M:Nat} (hp:Cz p M) (h0:p.f ≠ 0):Cz (Q4.inv p) M:=by
 obtain ⟨P,Q,h1,h2,h3,h4⟩:=hp;refine ⟨Q,P,?_,?_,h4,h3⟩
 . have:p.f*(Q.f:Rat)=(P.f:Rat):=ZY Q4.f h2;intro h;rw [h] at this
   have hq:(Q.f:Rat) ≠ 0:=by simpa using h1
   grind
 . rw [<- h2,<- Q4.mul_assoc,Q4.inv_mul p h0,Q4.one_mul]

theorem Cz.one:Cz (Q4.cst 1) 1:=⟨⟨1,0,0,0⟩,⟨1,0,0,0⟩,by decide,by
 refine Q4.ext' ?_ ?_ ?_ ?_ <;> simp only [Q4.mul,Q4.cst,Z4.q] <;> simp [JN],by decide,by decide⟩

theorem Cz.cst (k:Int):Cz (Q4.cst (k:Rat)) (max k.natAbs 1):=⟨⟨k,0,0,0⟩,⟨1,0,0,0⟩,by simp,by
 refine Q4.ext' ?_ ?_ ?_ ?_ <;> simp only [Q4.mul,Q4.cst,Z4.q] <;> simp [JN],by simp [Z4.n];omega,by simp [Z4.n];omega⟩

theorem Cz.pow {p:Q4} {M:Nat} (hp:Cz p M):∀ n,Cz (Q4.pow p n) (M ^ n)
 | 0=>by simpa [Q4.pow] using Cz.one
 | n+1=>by simpa only [Q4.pow,YL] using (Cz.pow hp n).mul hp

def Hb (x:Rat) (B:Nat):Prop:=x.num.natAbs<=B/\x.den<=B

theorem Hb.mono {x:Rat} {B C:Nat} (h:Hb x B) (hC:B<=C):Hb x C:=⟨ZQ h.1 hC,ZQ h.2 hC⟩

theorem Xn (x:Rat):x*((x.den:Int):Rat)=(x.num:Rat):=by
 have h1:mkRat x.num x.den=x:=Rat.mkRat_self x;rw [Rat.mkRat_eq_div] at h1
 have h2:((x.den:Int):Rat) ≠ 0:=by have:=x.den_nz;simpa using this
 rw [KC] at h2 ⊢;generalize (x.den:Rat)=d at *;grind

theorem Cz.var {x w:Rat} {δ:Int} {A B C D:Nat} (hx:x.num.natAbs<=A) (hxd:x.den<=B) (hw:w.num.natAbs<=C) (hwd:w.den<=D) (hδ:δ.natAbs<=1):Cz ⟨x,(δ:Rat),w,0⟩ (A*D+B*D+C*B):=by
 have h1:=Xn x;have h2:=Xn w;have e1:=XF hx hwd;have e2:=XF hxd hwd;have e3:=XF hw hxd;have e4:δ.natAbs*(x.den*w.den)<=1*(x.den*w.den):=YF _ hδ
 refine ⟨⟨x.num*w.den,δ*(x.den*w.den),w.num*x.den,0⟩,⟨(x.den:Int)*w.den,0,0,0⟩,Rp (by have:=x.den_nz;omega) (by have:=w.den_nz;omega),?_,?_,?_⟩
 . refine Q4.ext' ?_ ?_ ?_ ?_ <;> simp only [Q4.mul,Z4.q] <;> simp only [Qar,<- h1,<- h2] <;> grind
 . simp only [Z4.n,XZ,XK];have:((0:Int).natAbs)=0:=rfl;omega
 . simp only [Z4.n,XZ,XK];have:((0:Int).natAbs)=0:=rfl;omega

theorem Wz {x:Rat} {z d:Int} {B:Nat} (h:x*(d:Rat)=(z:Rat)) (hd:d ≠ 0) (h1:z.natAbs<=B) (h2:d.natAbs<=B):Hb x B:=by
 have hx:x.num*d=z*x.den:=by
  have:=Xn x
  have h3:(x.num:Rat)*(d:Rat)=(z:Rat)*((x.den:Int):Rat):=by grind
  exact_mod_cast h3
 have hc:=x.reduced
 have e1:x.num.natAbs*d.natAbs=z.natAbs*x.den:=by
  have:=ZY Int.natAbs hx;simpa only [XZ,XK] using this
 have d1:x.den ∣ d.natAbs:=hc.symm.dvd_of_dvd_mul_left (by rw [e1];exact Nat.dvd_mul_left _ _)
 have d2:x.num.natAbs ∣ z.natAbs:=hc.dvd_of_dvd_mul_right (by rw [<- e1];exact Nat.dvd_mul_right _ _)
 have p1:0<d.natAbs:=by omega
 refine ⟨?_,ZQ (Nat.le_of_dvd p1 d1) h2⟩;rcases YW z.natAbs with h0 | h0
 . rw [h0] at d2
   have:x.num.natAbs=0:=by
    rw [h0,JM] at e1;rcases Qbh.1 e1 with h | h
    . exact h
    . omega
   omega
 . exact ZQ (Nat.le_of_dvd h0 d2) h1

theorem Cz.sizes {q:Q4} {M:Nat} (h:Cz q M):Hb q.f (6*(M*M*M))/\Hb q.a (6*(M*M*M))/\Hb q.v (6*(M*M*M))/\Hb q.c (6*(M*M*M)):=by
 obtain ⟨P,Q,h1,h2,h3,h4⟩:=h
 have q0:(Q.f:Rat) ≠ 0:=by simpa using h1
 have e1:q.f*(Q.f:Rat)=(P.f:Rat):=ZY Q4.f h2;have e2:q.a*(Q.f:Rat)+q.f*(Q.a:Rat)=(P.a:Rat):=ZY Q4.a h2;have e3:q.v*(Q.f:Rat)+q.f*(Q.v:Rat)=(P.v:Rat):=ZY Q4.v h2;have e4:q.c*(Q.f:Rat)+q.f*(Q.c:Rat)+(q.a*(Q.v:Rat)+q.v*(Q.a:Rat))=(P.c:Rat):=ZY Q4.c h2
 have m1:1<=Q.f.natAbs:=by omega
 simp only [Z4.n] at h3 h4
 have M1:1<=M:=by omega
 have pf:P.f.natAbs<=M:=by omega
 have pa:P.a.natAbs<=M:=by omega
 have pv:P.v.natAbs<=M:=by omega
 have pc:P.c.natAbs<=M:=by omega
 have qf:Q.f.natAbs<=M:=by omega
 have qa:Q.a.natAbs<=M:=by omega
 have qv:Q.v.natAbs<=M:=by omega
 have qc:Q.c.natAbs<=M:=by omega
 clear h3 h4;have MM:M*1<=M*M:=XI _ M1;have MMM:M*M*1<=M*M*M:=XI _ M1;have b:∀ {x y:Nat},x<=M->y<=M->x*y<=M*M:=λhx hy=>XF hx hy;have b3:∀ {x y z:Nat},x<=M->y<=M->z<=M->x*y*z<=M*M*M:=λhx hy hz=>XF (XF hx hy) hz;have qq:Q.f.natAbs*Q.f.natAbs<=M*M:=b qf qf;have qqq:Q.f.natAbs*Q.f.natAbs*Q.f.natAbs<=M*M*M:=b3 qf qf qf
 refine ⟨Wz e1 h1 (by omega) (by omega),?_,?_,?_⟩
 . refine Wz (z:=P.a*Q.f-P.f*Q.a) (d:=Q.f*Q.f) ?_ (Rp h1 h1) ?_ (by rw [XZ];omega)
   . push_cast;rw [<- e1,<- e2];grind
   . have:=Qab (P.a*Q.f) (P.f*Q.a);have c1:=b pa qf;have c2:=b pf qa;rw [XZ,XZ] at this;omega
 . refine Wz (z:=P.v*Q.f-P.f*Q.v) (d:=Q.f*Q.f) ?_ (Rp h1 h1) ?_ (by rw [XZ];omega)
   . push_cast;rw [<- e1,<- e3];grind
   . have:=Qab (P.v*Q.f) (P.f*Q.v);have c1:=b pv qf;have c2:=b pf qv;rw [XZ,XZ] at this;omega
 . refine Wz (z:=P.c*Q.f*Q.f-P.a*Q.v*Q.f-P.v*Q.a*Q.f-P.f*Q.c*Q.f+(P.f*Q.a*Q.v+P.f*Q.a*Q.v)) (d:=Q.f*Q.f*Q.f) ?_ (Rp (Rp h1 h1) h1) ?_ (by rw [XZ,XZ];omega)
   . push_cast;rw [<- e1,<- e2,<- e3,<- e4];generalize (Q.f:Rat)=X1,(Q.a:Rat)=X2,(Q.v:Rat)=X3,(Q.c:Rat)=X4;grind
   . have s1:=Qab (P.c*Q.f*Q.f) (P.a*Q.v*Q.f);have s2:=Qab (P.c*Q.f*Q.f-P.a*Q.v*Q.f) (P.v*Q.a*Q.f);have s3:=Qab (P.c*Q.f*Q.f-P.a*Q.v*Q.f-P.v*Q.a*Q.f) (P.f*Q.c*Q.f);have s4:=YM (P.c*Q.f*Q.f-P.a*Q.v*Q.f-P.v*Q.a*Q.f-P.f*Q.c*Q.f) (P.f*Q.a*Q.v+P.f*Q.a*Q.v);have s5:=YM (P.f*Q.a*Q.v) (P.f*Q.a*Q.v)
     have k:P.c.natAbs*Q.f.natAbs*Q.f.natAbs+P.a.natAbs*Q.v.natAbs*Q.f.natAbs+P.v.natAbs*Q.a.natAbs*Q.f.natAbs+P.f.natAbs*Q.c.natAbs*Q.f.natAbs+(P.f.natAbs*Q.a.natAbs*Q.v.natAbs+P.f.natAbs*Q.a.natAbs*Q.v.natAbs)<=6*(M*M*M):=by
      have c1:=b3 pc qf qf;have c2:=b3 pa qv qf;have c3:=b3 pv qa qf;have c4:=b3 pf qc qf;have c5:=b3 pf qa qv;omega
     simp only [XZ] at s1 s2 s3 s4 s5;refine ZQ (ZQ s4 ?_) k;clear b b3 e1 e2 e3 e4 h2;omega

abbrev Nd:=Int × Int × Int × Int

def Ak (x u w:Nat->Rat) (l:List Q4) (n:Nd):Q4 :=
 if n.1=1 then Q4.cst (n.2.2.2:Rat)
 else if n.1=2 then ⟨x n.2.2.2.toNat,u n.2.2.2.toNat,w n.2.2.2.toNat,0⟩
 else if n.1=3 then Q4.add (l.getD n.2.1.toNat (Q4.cst 0)) (l.getD n.2.2.1.toNat (Q4.cst 0))
 else if n.1=4 then Q4.add (l.getD n.2.1.toNat (Q4.cst 0)) (Q4.neg (l.getD n.2.2.1.toNat (Q4.cst 0)))
 else if n.1=5 then Q4.mul (l.getD n.2.1.toNat (Q4.cst 0)) (l.getD n.2.2.1.toNat (Q4.cst 0))
 else if n.1=6 then Q4.mul (l.getD n.2.1.toNat (Q4.cst 0)) (Q4.inv (l.getD n.2.2.1.toNat (Q4.cst 0)))
 else if n.1=7 then Q4.neg (l.getD n.2.1.toNat (Q4.cst 0))
 else Q4.pow (l.getD n.2.1.toNat (Q4.cst 0)) n.2.2.2.toNat

def evs (x u w:Nat->Rat):List Nd->List Q4->List Q4
 | [],l=>l
 | n::r,l=>evs x u w r (l++[Ak x u w l n])

theorem Ct (x u w:Nat->Rat):∀ (ns:List Nd) (l:List Q4),(evs x u w ns l).length=l.length+ns.length
 | [],l=>by simp [evs]
 | n::r,l=>by rw [evs,Ct x u w r];simp;omega

theorem Ng (x u w:Nat->Rat):∀ (ns ms:List Nd) (l:List Q4),evs x u w (ns++ms) l=evs x u w ms (evs x u w ns l)
 | [],ms,l=>rfl
 | n::r,ms,l=>by rw [YD,evs,Ng x u w r,evs]

theorem A6c (x u w:Nat->Rat):∀ (ns:List Nd) (l:List Q4) (k:Nat),k<l.length->(evs x u w ns l).getD k (Q4.cst 0)=l.getD k (Q4.cst 0)
 | [],l,k,h=>rfl
 | n::r,l,k,h=>by
  rw [evs,A6c x u w r _ k (by simp;omega)]
  simp only [QJ,ZH h]

structure Ea {ι:Type} (x:Nat->Rat) (u w:ι->Nat->Rat) (R:(ι->Q4)->Prop):Prop where
 cst:∀ k:Rat,R λ_=>Q4.cst k
 var:∀ n,R λi=>⟨x n,u i n,w i n,0⟩
 add:∀ {p q:ι->Q4},R p->R q->R λi=>Q4.add (p i) (q i)
 neg:∀ {p:ι->Q4},R p->R λi=>Q4.neg (p i)
 mul:∀ {p q:ι->Q4},R p->R q->R λi=>Q4.mul (p i) (q i)
 inv:∀ {p:ι->Q4},R p->R λi=>Q4.inv (p i)

theorem Ea.pow {ι:Type} {x:Nat->Rat} {u w:ι->Nat->Rat} {R:(ι->Q4)->Prop} (h:Ea x u w R) {p:ι->Q4} (hp:R p):∀ n,R λi=>Q4.pow (p i) n
 | 0=>h.cst 1
 | n+1=>h.mul (h.pow hp n) hp

theorem Ea.of {ι:Type} {x:Nat->Rat} {u w:ι->Nat->Rat} {R:(ι->Q4)->Prop} (h:Ea x u w R) {l:ι->List Q4} (hl:∀ k,R λi=>(l i).getD k (Q4.cst 0)) (n:Nd):R λi=>Ak x (u i) (w i) (l i) n:=by
 unfold Ak;by_cases h1:n.1=1
 . simp only [QC h1];exact h.cst _
 by_cases h2:n.1=2
 . simp only [QB h1,QC h2];exact h.var _
 by_cases h3:n.1=3
 . simp only [QB h1,QB h2,QC h3];exact h.add (hl _) (hl _)
 by_cases h4:n.1=4
 . simp only [QB h1,QB h2,QB h3,QC h4];exact h.add (hl _) (h.neg (hl _))
 by_cases h5:n.1=5
 . simp only [QB h1,QB h2,QB h3,QB h4,QC h5];exact h.mul (hl _) (hl _)
 by_cases h6:n.1=6
 . simp only [QB h1,QB h2,QB h3,QB h4,QB h5,QC h6];exact h.mul (hl _) (h.inv (hl _))
 by_cases h7:n.1=7
 . simp only [QB h1,QB h2,QB h3,QB h4,QB h5,QB h6,QC h7];exact h.neg (hl _)
 . simp only [QB h1,QB h2,QB h3,QB h4,QB h5,QB h6,QB h7];exact h.pow (hl _) _

theorem Ea.evs {ι:Type} {x:Nat->Rat} {u w:ι->Nat->Rat} {R:(ι->Q4)->Prop} (h:Ea x u w R):∀ (ns:List Nd) {l:ι->List Q4} {N:Nat},(∀ i,(l i).length=N)->(∀ k,R λi=>(l i).getD k (Q4.cst 0))->∀ k,R λi=>(evs x (u i) (w i) ns (l i)).getD k (Q4.cst 0)
 | [],l,N,_,hl,k=>hl k
 | n::r,l,N,hN,hl,k=>by
  simp only [Go.Ev.evs]
  refine h.evs r (N:=N+1) (λi=>by simp [hN i]) (λk=>?_) k
  rcases JZ k N with hk | hk | hk
  . have e : (fun i => (l i ++ [Ak x (u i) (w i) (l i) n]).getD k (Q4.cst 0)) = fun i => (l i).getD k (Q4.cst 0) := by
     funext i
     simp only [QJ,ZH (show k<(l i).length by rw [hN i];exact hk)]
    rw [e];exact hl k
  . have e : (fun i => (l i ++ [Ak x (u i) (w i) (l i) n]).getD k (Q4.cst 0)) = fun i => Ak x (u i) (w i) (l i) n := by
     funext i
     rw [QJ,ZG (by rw [hN i];omega),hN i,hk];simp
    rw [e];exact h.of hl n
  . have e : (fun i => (l i ++ [Ak x (u i) (w i) (l i) n]).getD k (Q4.cst 0)) = fun _ => Q4.cst 0 := by
     funext i
     rw [QJ,KD (by simp [hN i];omega)];rfl
    rw [e];exact h.cst 0

theorem Ea.run {ι:Type} {x:Nat->Rat} {u w:ι->Nat->Rat} {R:(ι->Q4)->Prop} (h:Ea x u w R) (ns:List Nd) (k:Nat):R λi=>(Go.Ev.evs x (u i) (w i) ns []).getD k (Q4.cst 0) :=
 h.evs ns (N:=0) (λ_=>rfl) (λk=>by simpa using h.cst 0) k

theorem A4p (x:Nat->Rat) (u w u' w':Nat->Rat) (ns:List Nd) (k:Nat):((evs x u w ns []).getD k (Q4.cst 0)).f=((evs x u' w' ns []).getD k (Q4.cst 0)).f:=by
 have h:Ea x (λb:Bool=>bif b then u else u') (λb:Bool=>bif b then w else w') (λp=>(p true).f=(p false).f):=by
  refine ⟨λ_=>rfl,λ_=>rfl,λh1 h2=>?_,λh1=>?_,λh1 h2=>?_,λh1=>?_⟩ <;> simp only [Q4.add,Q4.neg,Q4.mul,Q4.inv,h1] <;> (try simp only [h2])
 exact h.run ns k

theorem Bqk (x:Nat->Rat) (u u' w:Nat->Rat) (ns:List Nd) (k:Nat):((evs x u w ns []).getD k (Q4.cst 0)).v=((evs x u' w ns []).getD k (Q4.cst 0)).v:=by
 have h:Ea x (λb:Bool=>bif b then u else u') (λ_:Bool=>w) (λp=>(p true).f=(p false).f/\(p true).v=(p false).v):=by
  refine ⟨λ_=>⟨rfl,rfl⟩,λ_=>⟨rfl,rfl⟩,λh1 h2=>?_,λh1=>?_,λh1 h2=>?_,λh1=>?_⟩ <;> simp only [Q4.add,Q4.neg,Q4.mul,Q4.inv,h1] <;> (try simp only [h2]) <;> (try simp only [and_self])
 exact (h.run ns k).2

theorem B3o (x:Nat->Rat) (u:Nat->Rat) (ns:List Nd) (k:Nat):((evs x u (λ_=>0) ns []).getD k (Q4.cst 0)).v=0/\((evs x u (λ_=>0) ns []).getD k (Q4.cst 0)).c=0:=by
 have h:Ea x (λ_:Unit=>u) (λ_:Unit=>λ_=>0) (λp=>(p ()).v=0/\(p ()).c=0):=by
  refine ⟨λ_=>⟨rfl,rfl⟩,λ_=>⟨rfl,rfl⟩,λh1 h2=>?_,λh1=>?_,λh1 h2=>?_,λh1=>?_⟩
  . simp only [Q4.add,h1,h2];exact ⟨by grind,by grind⟩
  . simp only [Q4.neg,h1];exact ⟨by grind,by grind⟩
  . simp only [Q4.mul,h1,h2];exact ⟨by grind,by grind⟩
  . simp only [Q4.inv,h1];exact ⟨by grind,by grind⟩
 exact h.run ns k

def Dh (l:List Q4) (n:Nd):Prop:=n.1=6/\(l.getD n.2.2.1.toNat (Q4.cst 0)).f=0

instance (l:List Q4) (n:Nd):Decidable (Dh l n):=by unfold Dh;infer_instance

def Fl (fit:Q4->Bool) (x u w:Nat->Rat):List Nd->List Q4->List Q4 ⊕ Int
 | [],l=>.inl l
 | n::r,l=>if Dh l n then .inr 10 else if fit (Ak x u w l n)=true then Fl fit x u w r (l++[Ak x u w l n]) else .inr 7

theorem A6e {fit:Q4->Bool} {x u w:Nat->Rat}:∀ (ns:List Nd) (l l':List Q4),(∀ k,k<l.length->fit (l.getD k (Q4.cst 0))=true)->Fl fit x u w ns l = .inl l'->(∀ k,k<l'.length->fit (l'.getD k (Q4.cst 0))=true)/\l'=evs x u w ns l
 | [],l,l',h,e=>by obtain rfl:=Sum.inl.inj e;exact ⟨h,rfl⟩
 | n::r,l,l',h,e=>by
  simp only [Fl] at e;by_cases hb:Dh l n
  . rw [QC hb] at e;cases e
  . rw [QB hb] at e;by_cases hf:fit (Ak x u w l n)=true
    . rw [QC hf] at e;refine A6e r _ l' (λk hk=>?_) e;simp only [ZC,QY,ZM] at hk;rcases ZT k l.length with h1 | h1
      . rw [QJ,ZH h1,<- QJ];exact h k h1
      . obtain rfl:k=l.length:=by omega
        rw [QJ,ZG (ZF _)];simpa using hf
    . rw [QB hf] at e;cases e

theorem As8 {fit:Q4->Bool} {x u w:Nat->Rat}:∀ (ns:List Nd) (l:List Q4) (c:Int),Fl fit x u w ns l = .inr c->c=7 \/ c=10
 | [],l,c,e=>by cases e
 | n::r,l,c,e=>by
  simp only [Fl] at e;by_cases hb:Dh l n
  . rw [QC hb] at e;exact .inr (Sum.inr.inj e).symm
  . rw [QB hb] at e;by_cases hf:fit (Ak x u w l n)=true
    . rw [QC hf] at e;exact As8 r _ c e
    . rw [QB hf] at e;exact .inl (Sum.inr.inj e).symm

theorem Axx {x:Nat->Rat} {u w:Bool->Nat->Rat} {R:(Bool->Q4)->Prop} (h:Ea x u w R) {f g:Q4->Bool} (hfg:∀ p,R p->f (p true)=g (p false)) (hv:∀ p,R p->(p true).f=(p false).f) :
  ∀ (ns:List Nd) (l m:List Q4),l.length=m.length->(∀ k,R λb=>bif b then l.getD k (Q4.cst 0) else m.getD k (Q4.cst 0)) ->
   (∃ c,Fl f x (u true) (w true) ns l = .inr c/\Fl g x (u false) (w false) ns m = .inr c) \/
   ∃ l' m',Fl f x (u true) (w true) ns l = .inl l'/\Fl g x (u false) (w false) ns m = .inl m'/\l'.length=l.length+ns.length/\m'.length=l.length+ns.length /\ ∀ k,R λb=>bif b then l'.getD k (Q4.cst 0) else m'.getD k (Q4.cst 0)
 | [],l,m,hl,hk=>.inr ⟨l,m,rfl,rfl,by simp,by simp [hl],hk⟩
 | n::r,l,m,hl,hk=>by
  simp only [Fl]
  have hb:Dh l n ↔ Dh m n:=by
   unfold Dh;have:=hv _ (hk n.2.2.1.toNat);simp only [QW,QP] at this;rw [this]
  have hr:=h.of (l:=λb=>bif b then l else m) (λk=>by
   have:=hk k
   have e:(λi=>((λb=>bif b then l else m) i).getD k (Q4.cst 0))=λb=>bif b then l.getD k (Q4.cst 0) else m.getD k (Q4.cst 0):=by funext b;cases b <;> rfl
   rw [e];exact this) n
  have hq:=hfg _ hr;simp only [QW,QP] at hq;by_cases h1:Dh l n
  . rw [QC h1,QC (hb.1 h1)];exact .inl ⟨10,rfl,rfl⟩
  . rw [QB h1,QB (λq=>h1 (hb.2 q))];by_cases h2:f (Ak x (u true) (w true) l n)=true
    . rw [QC h2,QC (by rw [<- hq];exact h2)]
      have:=Axx h hfg hv r (l++[Ak x (u true) (w true) l n]) (m++[Ak x (u false) (w false) m n]) (by simp [hl]) (λk=>by
       rcases JZ k l.length with hkl | hkl | hkl
       . have e1:(l++[Ak x (u true) (w true) l n]).getD k (Q4.cst 0)=l.getD k (Q4.cst 0):=by simp only [QJ,ZH hkl]
         have e2:(m++[Ak x (u false) (w false) m n]).getD k (Q4.cst 0)=m.getD k (Q4.cst 0):=by simp only [QJ,ZH (show k<m.length by omega)]
         rw [e1,e2];exact hk k
       . have e1:(l++[Ak x (u true) (w true) l n]).getD k (Q4.cst 0)=Ak x (u true) (w true) l n:=by rw [QJ,ZG (by omega),hkl];simp
         have e2:(m++[Ak x (u false) (w false) m n]).getD k (Q4.cst 0)=Ak x (u false) (w false) m n:=by rw [QJ,ZG (by omega),hkl,hl];simp
         rw [e1,e2]
         have e:(λi=>Ak x (u i) (w i) ((λb=>bif b then l else m) i) n)=λb=>bif b then Ak x (u true) (w true) l n else Ak x (u false) (w false) m n:=by funext b;cases b <;> rfl
         rw [<- e];exact hr
       . have e1:(l++[Ak x (u true) (w true) l n]).getD k (Q4.cst 0)=Q4.cst 0:=by rw [QJ,KD (by simp;omega)];rfl
         have e2:(m++[Ak x (u false) (w false) m n]).getD k (Q4.cst 0)=Q4.cst 0:=by rw [QJ,KD (by simp;omega)];rfl
         rw [e1,e2]
         have e:(λb:Bool=>bif b then Q4.cst 0 else Q4.cst 0)=λ_=>Q4.cst 0:=by funext b;cases b <;> rfl
         rw [e];exact h.cst 0)
      rcases this with h3 | ⟨l',m',a1,a2,a3,a4,a5⟩
      . exact .inl h3
      . exact .inr ⟨l',m',a1,a2,by rw [a3];simp;omega,by rw [a4];simp;omega,a5⟩
    . rw [QB h2,QB (by rw [<- hq];exact h2)];exact .inl ⟨7,rfl,rfl⟩

theorem Beg {x:Nat->Rat} {u w:Bool->Nat->Rat} {R:(Bool->Q4)->Prop} (h:Ea x u w R) {f g:Q4->Bool} (hfg:∀ p,R p->f (p true)=g (p false)) (hv:∀ p,R p->(p true).f=(p false).f) (ns:List Nd) :
  (∃ c,Fl f x (u true) (w true) ns [] = .inr c/\Fl g x (u false) (w false) ns [] = .inr c) \/
  ∃ l' m',Fl f x (u true) (w true) ns [] = .inl l'/\Fl g x (u false) (w false) ns [] = .inl m'/\l'.length=ns.length/\m'.length=ns.length /\ ∀ k,R λb=>bif b then l'.getD k (Q4.cst 0) else m'.getD k (Q4.cst 0):=by
 have:=Axx h hfg hv ns [] [] rfl (λk=>by
  have e:(λb:Bool=>bif b then ([]:List Q4).getD k (Q4.cst 0) else ([]:List Q4).getD k (Q4.cst 0))=λ_=>Q4.cst 0:=by funext b;cases b <;> simp
  rw [e];exact h.cst 0)
 simpa using this

def Db (g:Nat->Rat) (k:Nat) (y:Rat):Nat->Rat:=λj=>if j=k then y else g j

theorem B39 (g:Nat->Rat) (k:Nat) (y:Rat):Db g k y k=y:=QC rfl

theorem Mk (g:Nat->Rat) {k j:Nat} (y:Rat) (h:j ≠ k):Db g k y j=g j:=QB h

def sm:Nat->(Nat->Rat)->Rat
 | 0,_=>0
 | k+1,g=>sm k g+g k

theorem Rg:∀ {k:Nat} {g h:Nat->Rat},(∀ j,j<k->g j=h j)->sm k g=sm k h
 | 0,_,_,_=>rfl
 | k+1,g,h,e=>by rw [sm,sm,Rg λj hj=>e j (by omega),e k (by omega)]

theorem Afd:∀ (k:Nat),sm k (λ_=>0)=0
 | 0=>rfl
 | k+1=>by rw [sm,Afd k,JN]

theorem Vd {g a:Nat->Rat} {A:Nat} {y:Rat}:∀ {k:Nat},A<k->sm k (λj=>Db g A y j*a j)=sm k (λj=>g j*a j)+(y-g A)*a A
 | 0,h=>by omega
 | k+1,h=>by
  simp only [sm];by_cases hk:A=k
  . subst hk
    rw [B39,Rg (k:=A) (h:=λj=>g j*a j) λj hj=>by rw [Mk _ _ (by omega)]]
    grind
  . rw [Vd (k:=k) (by omega),Mk _ _ (by omega)]
    grind

theorem Afe {a:Nat->Rat} {A k:Nat} {y:Rat} (h:A<k):sm k (λj=>Db (λ_=>0) A y j*a j)=y*a A:=by
 rw [Vd h,Rg (h:=λ_=>0) λj _=>by grind,Afd];grind

structure Pt where
 a:Rat
 b:Rat
 da:Rat
 db:Rat

def Bu (f d:Nat->Rat) (n:Nd):Pt :=
 let A:=n.2.1.toNat;let B:=n.2.2.1.toNat
 if n.1=3 then ⟨1,1,0,0⟩
 else if n.1=4 then ⟨1,-1,0,0⟩
 else if n.1=5 then ⟨f B,f A,d B,d A⟩
 else if n.1=6 then ⟨1 / f B,-(f A*(1 / f B*(1 / f B))),-(d B*(1 / f B*(1 / f B))),-(d A*(1 / f B*(1 / f B)))+2*(f A*d B*(1 / f B*(1 / f B)*(1 / f B)))⟩
 else if n.1=7 then ⟨-1,0,0,0⟩
 else if n.1=8 then ⟨Q4.d1 (f A) n.2.2.2.toNat,0,Q4.d2 (f A) n.2.2.2.toNat*d A,0⟩
 else ⟨0,0,0,0⟩

def Cw (n:Nd):Bool:=decide (n.1=3) || decide (n.1=4) || decide (n.1=5) || decide (n.1=6)

def Fb (n:Nd):Bool:=decide (n.1=7) || decide (n.1=8)

structure Sw where
 bar:Nat->Rat
 dot:Nat->Rat
 grad:Nat->Rat
 curve:Nat->Rat

def Dj (s:Sw) (k:Nat) (on to:Rat):Sw:={ s with bar:=Db s.bar k (s.bar k+on),dot:=Db s.dot k (s.dot k+to) }

def Bb (f d:Nat->Rat) (n:Nd) (k:Nat) (s:Sw):Sw :=
 if n.1=2 then { s with grad:=Db s.grad n.2.2.2.toNat (s.grad n.2.2.2.toNat+s.bar k),curve:=Db s.curve n.2.2.2.toNat (s.curve n.2.2.2.toNat+s.dot k) }
 else
  let p:=Bu f d n
  let s1:=if Cw n || Fb n then Dj s n.2.1.toNat (s.bar k*p.a) (s.dot k*p.a+s.bar k*p.da) else s
  if Cw n then Dj s1 n.2.2.1.toNat (s.bar k*p.b) (s.dot k*p.b+s.bar k*p.db) else s1

def Ma (n:Nd) (k:Nat):Prop:=(1<=n.1/\n.1<=8)/\(Cw n=true \/ Fb n=true->n.2.1.toNat<k)/\(Cw n=true->n.2.2.1.toNat<k)

theorem Ve {s:Sw} {a:Nat->Rat} {A k:Nat} {on to:Rat} (h:A<k):sm k (λj=>(Dj s A on to).bar j*a j)=sm k (λj=>s.bar j*a j)+on*a A/\sm k (λj=>(Dj s A on to).dot j*a j)=sm k (λj=>s.dot j*a j)+to*a A:=by
 constructor
 . show sm k (λj=>Db s.bar A _ j*a j)=_;rw [Vd h];grind
 . show sm k (λj=>Db s.dot A _ j*a j)=_;rw [Vd h];grind

def Gd (x u w:Nat->Rat) (Q:Nat->Q4) (n:Nd):Q4 :=
 if n.1=1 then Q4.cst (n.2.2.2:Rat)
 else if n.1=2 then ⟨x n.2.2.2.toNat,u n.2.2.2.toNat,w n.2.2.2.toNat,0⟩
 else if n.1=3 then Q4.add (Q n.2.1.toNat) (Q n.2.2.1.toNat)
 else if n.1=4 then Q4.add (Q n.2.1.toNat) (Q4.neg (Q n.2.2.1.toNat))
 else if n.1=5 then Q4.mul (Q n.2.1.toNat) (Q n.2.2.1.toNat)
 else if n.1=6 then Q4.mul (Q n.2.1.toNat) (Q4.inv (Q n.2.2.1.toNat))
 else if n.1=7 then Q4.neg (Q n.2.1.toNat)
 else Q4.pow (Q n.2.1.toNat) n.2.2.2.toNat

theorem A4q (x u w:Nat->Rat) (l:List Q4) (n:Nd):Ak x u w l n=Gd x u w (λk=>l.getD k (Q4.cst 0)) n:=rfl

theorem Xt {x u w:Nat->Rat} {Q R:Nat->Q4} {n:Nd} {k:Nat} (hn:Ma n k) (h:∀ j,j<k->Q j=R j):Gd x u w Q n=Gd x u w R n:=by
 obtain ⟨⟨ha,hb⟩,hA,hB⟩:=hn;unfold Gd;simp only [Cw,Fb,XA,QO] at hA hB
 obtain e | e | e | e | e | e | e | e:n.1=1 \/ n.1=2 \/ n.1=3 \/ n.1=4 \/ n.1=5 \/ n.1=6 \/ n.1=7 \/ n.1=8:=by omega
 . rw [QC e,QC e]
 . rw [QB (by omega),QC e,QB (by omega),QC e]
 all_goals rw [h _ (hA (by omega))]
 iterate 4 rw [h _ (hB (by omega))]
 . simp [e]
 . simp [e]

theorem Afk (x u w:Nat->Rat) (Q:Nat->Q4) (n:Nd) (hn:1<=n.1/\n.1<=8) (h2:n.1 ≠ 2) :
  (Gd x u w Q n).a=(Bu (λk=>(Q k).f) (λk=>(Q k).v) n).a*(Q n.2.1.toNat).a+(Bu (λk=>(Q k).f) (λk=>(Q k).v) n).b*(Q n.2.2.1.toNat).a /\
  (Gd x u w Q n).v=(Bu (λk=>(Q k).f) (λk=>(Q k).v) n).a*(Q n.2.1.toNat).v+(Bu (λk=>(Q k).f) (λk=>(Q k).v) n).b*(Q n.2.2.1.toNat).v /\
  (Gd x u w Q n).c=((Bu (λk=>(Q k).f) (λk=>(Q k).v) n).a*(Q n.2.1.toNat).c+(Bu (λk=>(Q k).f) (λk=>(Q k).v) n).da*(Q n.2.1.toNat).a)+((Bu (λk=>(Q k).f) (λk=>(Q k).v) n).b*(Q n.2.2.1.toNat).c+(Bu (λk=>(Q k).f) (λk=>(Q k).v) n).db*(Q n.2.2.1.toNat).a):=by
 unfold Bu Gd;dsimp only;generalize Q n.2.1.toNat=P;generalize Q n.2.2.1.toNat=Q
 obtain h | h | h | h | h | h | h:n.1=1 \/ n.1=3 \/ n.1=4 \/ n.1=5 \/ n.1=6 \/ n.1=7 \/ n.1=8:=by omega
 all_goals simp only [h,if_true]
 . simp only [show ¬ ((1:Int)=3) by decide,show ¬ ((1:Int)=4) by decide,show ¬ ((1:Int)=5) by decide,show ¬ ((1:Int)=6) by decide,show ¬ ((1:Int)=7) by decide,show ¬ ((1:Int)=8) by decide,if_false,Q4.cst]
   refine ⟨?_,?_,?_⟩ <;> grind
 . simp only [show ¬ ((3:Int)=1) by decide,show ¬ ((3:Int)=2) by decide,if_false,Q4.add]
   refine ⟨?_,?_,?_⟩ <;> grind
 . simp only [show ¬ ((4:Int)=1) by decide,show ¬ ((4:Int)=2) by decide,show ¬ ((4:Int)=3) by decide,if_false,Q4.add,Q4.neg]
   refine ⟨?_,?_,?_⟩ <;> grind
 . simp only [show ¬ ((5:Int)=1) by decide,show ¬ ((5:Int)=2) by decide,show ¬ ((5:Int)=3) by decide,show ¬ ((5:Int)=4) by decide,if_false,Q4.mul]
   refine ⟨?_,?_,?_⟩ <;> grind
 . simp only [show ¬ ((6:Int)=1) by decide,show ¬ ((6:Int)=2) by decide,show ¬ ((6:Int)=3) by decide,show ¬ ((6:Int)=4) by decide,show ¬ ((6:Int)=5) by decide,if_false,Q4.mul,Q4.inv]
   generalize 1 / Q.f=r;refine ⟨?_,?_,?_⟩ <;> grind
 . simp only [show ¬ ((7:Int)=1) by decide,show ¬ ((7:Int)=2) by decide,show ¬ ((7:Int)=3) by decide,show ¬ ((7:Int)=4) by decide,show ¬ ((7:Int)=5) by decide,show ¬ ((7:Int)=6) by decide,if_false,Q4.neg]
   refine ⟨?_,?_,?_⟩ <;> grind
 . simp only [show ¬ ((8:Int)=1) by decide,show ¬ ((8:Int)=2) by decide,show ¬ ((8:Int)=3) by decide,show ¬ ((8:Int)=4) by decide,show ¬ ((8:Int)=5) by decide,show ¬ ((8:Int)=6) by decide,show ¬ ((8:Int)=7) by decide,if_false,Q4.pow_eq]
   refine ⟨?_,?_,?_⟩ <;> grind

theorem Av4 {f d:Nat->Rat} {n:Nd} (h:Cw n=false):(Bu f d n).b=0/\(Bu f d n).db=0:=by
 simp only [Cw,Qbl,ZV] at h;obtain ⟨⟨⟨h3,h4⟩,h5⟩,h6⟩:=h;unfold Bu;dsimp only;rw [QB h3,QB h4,QB h5,QB h6];split
 . exact ⟨rfl,rfl⟩
 . split <;> exact ⟨rfl,rfl⟩

theorem Ble {x u w:Nat->Rat} {n:Nd} {k dim:Nat} (hn:Ma n k) (hv:n.1=2->n.2.2.2.toNat<dim) (s:Sw) (Q:Nat->Q4) (hk:Q k=Gd x u w Q n) :
  sm (k+1) (λj=>s.bar j*(Q j).a)+sm dim (λj=>s.grad j*u j)=sm k (λj=>(Bb (λk=>(Q k).f) (λk=>(Q k).v) n k s).bar j*(Q j).a)+sm dim (λj=>(Bb (λk=>(Q k).f) (λk=>(Q k).v) n k s).grad j*u j) /\
  sm (k+1) (λj=>s.bar j*(Q j).c)+sm (k+1) (λj=>s.dot j*(Q j).a)+sm dim (λj=>s.curve j*u j)=sm k (λj=>(Bb (λk=>(Q k).f) (λk=>(Q k).v) n k s).bar j*(Q j).c)+sm k (λj=>(Bb (λk=>(Q k).f) (λk=>(Q k).v) n k s).dot j*(Q j).a)+sm dim (λj=>(Bb (λk=>(Q k).f) (λk=>(Q k).v) n k s).curve j*u j):=by
 simp only [sm];by_cases h2:n.1=2
 . have ha:(Q k).a=u n.2.2.2.toNat:=by rw [hk];unfold Gd;rw [QB (by omega),QC h2]
   have hc:(Q k).c=0:=by rw [hk];unfold Gd;rw [QB (by omega),QC h2]
   unfold Bb;rw [QC h2];dsimp only;rw [Vd (hv h2),Vd (hv h2),ha,hc]
   exact ⟨by grind,by grind⟩
 . obtain ⟨ea,_,ec⟩:=Afk x u w Q n hn.1 h2;rw [<- hk] at ea ec;unfold Bb;rw [QB h2];dsimp only;generalize hp:Bu (λk=>(Q k).f) (λk=>(Q k).v) n=p at *;obtain ⟨_,hA,hB⟩:=hn;by_cases ht:Cw n=true
   . have hA:=hA (.inl ht);have hB:=hB ht;simp only [ht,Qac,if_true];have e1:=Ve (s:=Dj s n.2.1.toNat (s.bar k*p.a) (s.dot k*p.a+s.bar k*p.da)) (a:=λj=>(Q j).a) (k:=k) (on:=s.bar k*p.b) (to:=s.dot k*p.b+s.bar k*p.db) hB;have e2:=Ve (s:=Dj s n.2.1.toNat (s.bar k*p.a) (s.dot k*p.a+s.bar k*p.da)) (a:=λj=>(Q j).c) (k:=k) (on:=s.bar k*p.b) (to:=s.dot k*p.b+s.bar k*p.db) hB;have e3:=Ve (s:=s) (a:=λj=>(Q j).a) (k:=k) (on:=s.bar k*p.a) (to:=s.dot k*p.a+s.bar k*p.da) hA;have e4:=Ve (s:=s) (a:=λj=>(Q j).c) (k:=k) (on:=s.bar k*p.a) (to:=s.dot k*p.a+s.bar k*p.da) hA;simp only [e1,e2,e3,e4];rw [ea,ec];show _=_+sm dim (λj=>s.grad j*u j)/\_=_+sm dim (λj=>s.curve j*u j)
     exact ⟨by grind,by grind⟩
   . have ht:Cw n=false:=by simpa using ht
     have hb:=Av4 (f:=λk=>(Q k).f) (d:=λk=>(Q k).v) ht;rw [hp] at hb;simp only [ht,YJ,if_false,XG];rw [hb.1,hb.2] at ec;rw [hb.1] at ea;by_cases ho:Fb n=true
     . have hA:=hA (.inr ho);simp only [ho,if_true];have e3:=Ve (s:=s) (a:=λj=>(Q j).a) (k:=k) (on:=s.bar k*p.a) (to:=s.dot k*p.a+s.bar k*p.da) hA;have e4:=Ve (s:=s) (a:=λj=>(Q j).c) (k:=k) (on:=s.bar k*p.a) (to:=s.dot k*p.a+s.bar k*p.da) hA;simp only [e3,e4];rw [ea,ec];show _=_+sm dim (λj=>s.grad j*u j)/\_=_+sm dim (λj=>s.curve j*u j)
       exact ⟨by grind,by grind⟩
     . have ho:Fb n=false:=by simpa using ho
       have h1:n.1=1:=by
        simp only [Cw,Fb,Qbl,ZV] at ht ho;have:=‹1<=n.1/\n.1<=8›;omega
       have ha:(Q k).a=0/\(Q k).c=0:=by rw [hk];unfold Gd;rw [QC h1];exact ⟨rfl,rfl⟩
       simp only [ho,XG,if_false];rw [ha.1,ha.2]
       exact ⟨by grind,by grind⟩

def Xi (f d:Nat->Rat) (S:Nat->Nd):Nat->Sw->Sw
 | 0,s=>s
 | k+1,s=>Xi f d S k (Bb f d (S k) k s)

theorem Ai6 {x u w:Nat->Rat} {S:Nat->Nd} {dim:Nat} {Q:Nat->Q4}:∀ {N:Nat},(∀ k,k<N->Ma (S k) k/\((S k).1=2->(S k).2.2.2.toNat<dim)/\Q k=Gd x u w Q (S k))->∀ s:Sw,
  sm N (λj=>s.bar j*(Q j).a)+sm dim (λj=>s.grad j*u j)=sm dim (λj=>(Xi (λk=>(Q k).f) (λk=>(Q k).v) S N s).grad j*u j) /\
  sm N (λj=>s.bar j*(Q j).c)+sm N (λj=>s.dot j*(Q j).a)+sm dim (λj=>s.curve j*u j)=sm dim (λj=>(Xi (λk=>(Q k).f) (λk=>(Q k).v) S N s).curve j*u j)
 | 0,_,s=>by simp only [sm,Xi];exact ⟨by grind,by grind⟩
 | N+1,h,s=>by
  obtain ⟨h1,h2,h3⟩:=h N (by omega)
  obtain ⟨e1,e2⟩:=Ble h1 h2 s Q h3
  obtain ⟨e3,e4⟩:=Ai6 (N:=N) (λk hk=>h k (by omega)) (Bb (λk=>(Q k).f) (λk=>(Q k).v) (S N) N s)
  rw [e1,e2,e3,e4];exact ⟨rfl,rfl⟩

theorem B3b {x u w:Nat->Rat} {S:Nat->Nd} {dim N out:Nat} {Q:Nat->Q4} (h:∀ k,k<N->Ma (S k) k/\((S k).1=2->(S k).2.2.2.toNat<dim)/\Q k=Gd x u w Q (S k)) (ho:out<N) :
  (Q out).a=sm dim (λj=>(Xi (λk=>(Q k).f) (λk=>(Q k).v) S N ⟨Db (λ_=>0) out 1,λ_=>0,λ_=>0,λ_=>0⟩).grad j*u j) /\
  (Q out).c=sm dim (λj=>(Xi (λk=>(Q k).f) (λk=>(Q k).v) S N ⟨Db (λ_=>0) out 1,λ_=>0,λ_=>0,λ_=>0⟩).curve j*u j):=by
 obtain ⟨e1,e2⟩:=Ai6 h ⟨Db (λ_=>0) out 1,λ_=>0,λ_=>0,λ_=>0⟩;rw [<- e1,<- e2];dsimp only
 have z:∀ (k:Nat) (g:Nat->Rat),sm k (λj=>0*g j)=0:=λk g=>by
  rw [Rg (h:=λ_=>0) λj _=>by grind,Afd]
 rw [Afe (a:=λj=>(Q j).a) ho,Afe (a:=λj=>(Q j).c) ho,z,z]
 exact ⟨by grind,by grind⟩

def CD (l:List Rat) (M:Nat):Prop:=∃ D:Nat,0<D/\D<=M /\ ∀ x ∈ l,∃ z:Int,x*(D:Rat)=(z:Rat)/\z.natAbs<=M

theorem CD.mono {l:List Rat} {M N:Nat} (h:CD l M) (hN:M<=N):CD l N:=by
 obtain ⟨D,h1,h2,h3⟩:=h
 exact ⟨D,h1,ZQ h2 hN,λx hx=>by obtain ⟨z,q1,q2⟩:=h3 x hx;exact ⟨z,q1,ZQ q2 hN⟩⟩

theorem Bqa:CD [] 1:=⟨1,by decide,ZF _,λx hx=>by cases hx⟩

theorem A1h (x:Rat):x*(x.den:Rat)=(x.num:Rat):=by
 have:=Xn x
 rwa [KC] at this

theorem CD.step {l:List Rat} {M H:Nat} (h:CD l M) {p q a b x:Rat} (hp:Hb p H) (hq:Hb q H) (ha:a ∈ l \/ a=0) (hb:b ∈ l \/ b=0) (hx:x=p*a+q*b):CD (l++[x]) (2*(H*H*M)):=by
 obtain ⟨D,h1,h2,h3⟩:=h;have pd:=p.den_pos;have qd:=q.den_pos;have hdd:p.den*q.den<=H*H:=XF hp.2 hq.2;have e1:p.den*q.den*D<=H*H*M:=XF hdd h2
 refine ⟨p.den*q.den*D,KL (KL pd qd) h1,by omega,λy hy=>?_⟩
 rcases QG.1 hy with hy | hy
 . obtain ⟨z,q1,q2⟩:=h3 y hy;refine ⟨(p.den*q.den:Nat)*z,?_,?_⟩
   . simp only [Qbr,Qar,KC,<- q1];grind
   . rw [XZ,XK];have:=XF hdd q2;omega
 . obtain rfl:y=x:=by simpa using hy
   have za:∃ z:Int,a*(D:Rat)=(z:Rat)/\z.natAbs<=M:=by
    rcases ha with ha | rfl
    . exact h3 a ha
    . exact ⟨0,by simp,by simp⟩
   have zb:∃ z:Int,b*(D:Rat)=(z:Rat)/\z.natAbs<=M:=by
    rcases hb with hb | rfl
    . exact h3 b hb
    . exact ⟨0,by simp,by simp⟩
   obtain ⟨u,u1,u2⟩:=za;obtain ⟨v,v1,v2⟩:=zb;refine ⟨p.num*q.den*u+q.num*p.den*v,?_,?_⟩
   . have s1:=A1h p;have s2:=A1h q;simp only [Qbr,Rat.intCast_add,Qar,KC,<- s1,<- s2,<- u1,<- v1,hx];grind
   . have t0:=YM (p.num*q.den*u) (q.num*p.den*v);have t1:p.num.natAbs*q.den<=H*H:=XF hp.1 hq.2;have t2:q.num.natAbs*p.den<=H*H:=XF hq.1 hp.2;have t3:=XF t1 u2;have t4:=XF t2 v2;simp only [XZ,XK] at t0;omega

theorem CD.one {l:List Rat} {M H:Nat} (h:CD l M) {x:Rat} (hx:Hb x H) (h1:1<=H):CD (l++[x]) (2*(H*H*M)):=by
 obtain ⟨D,d1,d2,d3⟩:=h;have xd:=x.den_pos;have e0:x.den*D<=H*M:=XF hx.2 d2;have e2:H*M*1<=H*M*H:=XI _ h1
 have e3:H*M*H=H*H*M:=by rw [Nat.mul_assoc,KK M H,<- Nat.mul_assoc]
 refine ⟨x.den*D,KL xd d1,by omega,λy hy=>?_⟩
 rcases QG.1 hy with hy | hy
 . obtain ⟨z,q1,q2⟩:=d3 y hy;refine ⟨(x.den:Nat)*z,?_,?_⟩
   . simp only [Qbr,Qar,KC,<- q1];grind
   . rw [XZ,XK];have:=XF hx.2 q2;omega
 . obtain rfl:y=x:=by simpa using hy
   refine ⟨y.num*D,?_,?_⟩
   . have s1:=A1h y;simp only [Qbr,Qar,KC,<- s1];grind
   . rw [XZ,XK];have:=XF hx.1 d2;omega

theorem CD.hb {l:List Rat} {M:Nat} (h:CD l M) {x:Rat} (hx:x ∈ l):Hb x M:=by
 obtain ⟨D,h1,h2,h3⟩:=h;obtain ⟨z,q1,q2⟩:=h3 x hx
 exact Wz (d:=(D:Int)) (z:=z) (by rw [KC];exact q1) (by omega) q2 (by simpa using h2)

theorem Axy {fit:Q4->Bool} {x u w:Nat->Rat}:∀ (ns:List Nd) (l l':List Q4),Fl fit x u w ns l = .inl l'->∀ i,i<ns.length->¬ Dh (evs x u w (ns.take i) l) (ns.getD i (0,0,0,0))
 | [],l,l',e,i,hi=>by simp at hi
 | n::r,l,l',e,i,hi=>by
  simp only [Fl] at e;by_cases hb:Dh l n
  . rw [QC hb] at e;cases e
  . rw [QB hb] at e;by_cases hf:fit (Ak x u w l n)=true
    . rw [QC hf] at e
      cases i with
      | zero=>simpa [evs] using hb
      | succ i =>
       have:=Axy r _ l' e i (by simpa using hi)
       simpa [evs] using this
    . rw [QB hf] at e;cases e

theorem Zn (x u w:Nat->Rat) (ns:List Nd) {i:Nat} (h:i<ns.length):evs x u w (ns.take (i+1)) []=evs x u w (ns.take i) []++[Ak x u w (evs x u w (ns.take i) []) (ns.getD i (0,0,0,0))]:=by
 rw [KA h,Ng];rw [QJ,QN h];rfl

theorem L5 (x u w:Nat->Rat) (ns:List Nd) {i k:Nat} (hk:k<i) (hi:i<=ns.length):(evs x u w (ns.take i) []).getD k (Q4.cst 0)=(evs x u w ns []).getD k (Q4.cst 0):=by
 conv=>rhs;rw [<- JE i ns,Ng]
 exact (A6c x u w (ns.drop i) (evs x u w (ns.take i) []) k (by rw [Ct];simp;omega)).symm

theorem Wm (x u w:Nat->Rat) (ns:List Nd) {i:Nat} (h:i<ns.length):(evs x u w ns []).getD i (Q4.cst 0)=Ak x u w (evs x u w (ns.take i) []) (ns.getD i (0,0,0,0)):=by
 rw [<- L5 x u w ns (Nat.lt_succ_self i) (by omega),Zn x u w ns h]
 have hl:(evs x u w (ns.take i) []).length=i:=by rw [Ct];simp;omega
 rw [QJ,ZG (by omega),hl];simp

theorem Dz {n L K:Nat} {x y:Rat} (hx:Sz x L) (hy:Sz y K) (hL:L+K<=1000000000) (hn:68719476736<=n):f99 n (rq x) (rq y)=some (rq (x+y)):=Bm9 (L:=L+K) (hx.mono (by omega)) (hy.mono (by omega)) (by omega) (by omega)

theorem Bf {n L K:Nat} {x y:Rat} (hx:Sz x L) (hy:Sz y K) (hL:L+K<=1000000000) (hn:68719476736<=n):f162 n (rq x) (rq y)=some (rq (x*y)):=Bhj (L:=L+K) (hx.mono (by omega)) (hy.mono (by omega)) (by omega) (by omega)

theorem iOv {n L K:Nat} {x y:Rat} (hx:Sz x L) (hy:Sz y K) (h0:y ≠ 0) (hL:L+K<=1000000000) (hn:68719476736<=n):f206 n (rq x) (rq y)=some (rq (x / y)):=Bma (L:=L+K) (hx.mono (by omega)) (hy.mono (by omega)) h0 (by omega) (by omega)

theorem iNg {n L:Nat} {x:Rat} (hx:Sz x L) (hL:L<=1000000000):f158 n (rq x)=some (rq (-x)):=Bqo hx (by omega)

theorem Tx {n L K:Nat} {x y:Rat} (hx:Sz x L) (hy:Sz y K) (hL:L+K<=1000000000) (hn:68719476736<=n):f138 n (rq x) (rq y)=some (rq (x+y)):=B3l (L:=L+K) (hx.mono (by omega)) (hy.mono (by omega)) (by omega) (by omega)

theorem H9 {n L K:Nat} {x y:Rat} (hx:Sz x L) (hy:Sz y K) (hL:L+K<=1000000000) (hn:68719476736<=n):f140 n (rq x) (rq y)=some (rq (x*y)):=Bgq (L:=L+K) (hx.mono (by omega)) (hy.mono (by omega)) (by omega) (by omega)

theorem sOv {n L K:Nat} {x y:Rat} (hx:Sz x L) (hy:Sz y K) (h0:y ≠ 0) (hL:L+K<=1000000000) (hn:68719476736<=n):f142 n (rq x) (rq y)=some (rq (x / y)):=Blj (L:=L+K) (hx.mono (by omega)) (hy.mono (by omega)) h0 (by omega) (by omega)

theorem sLs {n L K:Nat} {x y:Rat} (hx:Sz x L) (hy:Sz y K) (hL:L+K<=1000000000) (hn:68719476736<=n):f139 n (rq x) (rq y)=some (rq (x-y)):=Blk (L:=L+K) (hx.mono (by omega)) (hy.mono (by omega)) (by omega) (by omega)

theorem Bx {a:Int} (h:a.natAbs<=1000000000):Sz (a:Rat) 3:=by
 unfold Sz;rw [Rat.num_intCast,Rat.den_intCast]
 exact ⟨Ek (by omega),Ek (by omega)⟩

theorem iW {n:Nat} {a:Int} (h:a.natAbs<=1000000000) (hn:68719476736<=n):f97 n a=some (rq (a:Rat)):=by
 unfold f97;rw [QE,B3p];by_cases h0:a<0
 . rw [QC h0,A8 (by omega) (by omega),show (0-a:Int)=((a.natAbs:Nat):Int) by omega,A60 (by omega) (by omega),A0,show f151 n=some [1] from rfl,A0,QS h0,Ie]
 . rw [QB h0]
   conv=>lhs;rw [show a=((a.natAbs:Nat):Int) by omega]
   rw [A60 (by omega) (by omega),A0,show f151 n=some [1] from rfl,A0,QR h0,Ie]

theorem iW0 {n:Nat} (hn:68719476736<=n):f97 n 0=some (rq 0):=iW (a:=0) (by omega) hn

theorem iW1 {n:Nat} (hn:68719476736<=n):f97 n 1=some (rq 1):=iW (a:=1) (by omega) hn

theorem iW2 {n:Nat} (hn:68719476736<=n):f97 n 2=some (rq 2):=iW (a:=2) (by omega) hn

theorem iWm {n:Nat} (hn:68719476736<=n):f97 n (-1)=some (rq (-1)):=iW (a:=-1) (by omega) hn

theorem Bgp (a:Int) (i:Nat):(!(decide (a ^ i<0)==decide (a<0)))=decide (a ^ (i+1)<0):=by
 rw [Qau];by_cases h0:a=0
 . subst h0
   have:¬ (0:Int) ^ i<0:=by cases i with | zero=>decide | succ i=>rw [Qau,Qaw];decide
   rw [Qaw,QR this];rfl
 . have hp:a ^ i ≠ 0:=Int.pow_ne_zero h0;generalize a ^ i=p at hp;rcases Int.lt_trichotomy p 0 with ha | ha | ha <;> rcases Int.lt_trichotomy a 0 with hb | hb | hb
   . have:=Int.mul_pos_of_neg_of_neg ha hb
     rw [QS ha,QS hb,QR (by omega)];rfl
   . exact absurd hb h0
   . have:=Int.mul_neg_of_neg_of_pos ha hb
     rw [QS ha,QR (by omega),QS this];rfl
   . exact absurd ha hp
   . exact absurd ha hp
   . exact absurd ha hp
   . have:=Int.mul_neg_of_pos_of_neg ha hb
     rw [QR (show ¬ p<0 by omega),QS hb,QS this];rfl
   . exact absurd hb h0
   . have:=Int.mul_pos ha hb
     rw [QR (show ¬ p<0 by omega),QR (show ¬ a<0 by omega),QR (by omega)];rfl

theorem Vk (a L:Nat) (h:(dg a).length<=L):∀ i,(dg (a ^ i)).length<=L*i+1
 | 0=>by rw [Nat.pow_zero];exact ZQ (Afo (by decide)) (by omega)
 | i+1=>by
  have h1:=C1 (a ^ i) a;have h2:=Vk a L h i;rw [YL,Nat.mul_succ];omega

theorem Ant {α:Type} {n L k:Nat} {x:Rat} (hx:Sz x L) (hL:L<=10000000) (hk:k<=10) (hn:68719476736<=n) {k0:Bool->Bool->List Int->List Int->Option α}:∀ (m i:Nat),i<=k->k<i+m ->
  W5 n m (k:Int) (i:Int) (rq x).1 (rq x).2.1 (rq x).2.2 false (decide (x.num ^ i<0)) (dg (x.num.natAbs ^ i)) (dg (x.den ^ i)) k0=k0 false (decide (x.num ^ k<0)) (dg (x.num.natAbs ^ k)) (dg (x.den ^ k))
 | 0,i,hi,hm=>by omega
 | m+1,i,hi,hm=>by
  rw [B7h];unfold A9y;rw [QE];by_cases h:i<k
  . have l1:=Vk x.num.natAbs L hx.1 i;have l2:=Vk x.den L hx.2 i;have h1:=hx.1;have h2:=hx.2
    have h3:L*i<=L*10:=XI _ (by omega)
    rw [QC (by omega)]
    show ob (f152 n (dg (x.num.natAbs ^ i)) (dg x.num.natAbs)) _=_
    rw [Q6 (by omega) (by omega),A0]
    show ob (f152 n (dg (x.den ^ i)) (dg x.den)) _=_
    rw [Q6 (by omega) (by omega),A0,A8 (x:=(i:Int)+1) (by omega) (by omega),<- YL,<- YL]
    show W5 n m (k:Int) ((i+1:Nat):Int) (rq x).1 (rq x).2.1 (rq x).2.2 false (!(decide (x.num ^ i<0)==decide (x.num<0))) _ _ k0=_;rw [Bgp]
    exact Ant hx hL hk hn m (i+1) (by omega) (by omega)
  . obtain rfl:i=k:=by omega
    rw [QB (by omega)]

theorem I8 {n L k:Nat} {x:Rat} (hx:Sz x L) (hL:L<=10000000) (hk:k<=10) (hn:68719476736<=n):f170 n (rq x) (k:Int)=some (rq (x ^ k)):=by
 unfold f170;rw [iW1 hn,A0]
 have h1:=Ant (n:=n) hx hL hk hn (k0:=λz_4 z_5 z_6 z_7=>(
   bif z_5 then
    ob (f168 n (z_5,z_6,z_7)) λr_8 =>
    ob (f168 n ((!r_8),z_6,z_7)) λr_9 =>
    bif r_9 then
     ob (f151 n) λr_10 =>
     some ((!r_8),z_6,r_10)
    else
     some ((!r_8),z_6,z_7)
   else
    ob (f168 n (false,z_6,z_7)) λr_11 =>
    bif r_11 then
     ob (f151 n) λr_12 =>
     some (false,z_6,r_12)
    else
     some (false,z_6,z_7))) n 0 (by omega) (by omega)
 rw [Int.pow_zero,Nat.pow_zero,Nat.pow_zero,show decide ((1:Int)<0)=false from rfl,show ((0:Nat):Int)=0 from rfl] at h1;rw [show rq 1=(false,dg 1,dg 1) from Anj 1,h1]
 have hzero:∀ (s:Bool) (a d:Nat),f168 n (s,dg a,dg d)=some (decide (a=0)):=λs a d=>by
  unfold f168;dsimp only;rw [Aek]
 have key:rq (x ^ k)=(decide (x.num ^ k<0),dg (x.num.natAbs ^ k),dg (x.den ^ k)):=by
  unfold rq;rw [Rat.num_pow,Rat.den_pow,Int.natAbs_pow]
 have hz:x.num.natAbs ^ k=0->x.den ^ k=1:=λh=>by
  rcases YW k with h2 | h2
  . subst h2;rfl
  . have h3:x.num.natAbs=0:=(Nat.pow_eq_zero.1 h).1
    have:x=0:=JG.1 (by omega)
    rw [this];exact Nat.one_pow k
 have hs:x.num.natAbs ^ k=0->¬ x.num ^ k<0:=λh=>by rw [<- Int.natAbs_pow] at h;omega
 rw [key];by_cases h2:x.num ^ k<0
 . rw [QS h2,QW,hzero,A0,hzero,A0];have h3:¬ x.num.natAbs ^ k=0:=λh=>hs h h2;rw [QR h3];rfl
 . rw [QR h2,QP,hzero,A0];by_cases h3:x.num.natAbs ^ k=0
   . rw [QS h3,QW,show f151 n=some [1] from rfl,A0,hz h3,Ie]
   . rw [QR h3];rfl

abbrev Jn:=Rt × List Rt × Unit × Rt

abbrev Jc:=Rt × List Rt × List Rt × Rt

def jn (f v:Rat):Jn:=(rq f,[],(),rq v)

def jc (f v:Rat):Jc:=(rq f,[],[],rq v)

theorem Bmc {n:Nat} (hn:68719476736<=n):f64 n 0=some []:=by
 obtain ⟨m,rfl⟩:∃ m,n=m+1:=⟨n-1,by omega⟩
 rfl

theorem Bfr {n:Nat} (hn:68719476736<=n):Pe n 0=some []:=by
 obtain ⟨m,rfl⟩:∃ m,n=m+1:=⟨n-1,by omega⟩
 rfl

theorem Aoo {n:Nat} (hn:68719476736<=n):f51 n []=some ([],0):=by
 have:=Acp (n:=n) (x:=[]) (by simp) (by omega)
 exact this

theorem Ey {x:Rat} {L:Nat} (h:Sz x L) (k:Nat):Sz (x ^ k) (L*k+1):=by
 unfold Sz;rw [Rat.num_pow,Rat.den_pow,Int.natAbs_pow];exact ⟨Vk _ _ h.1 k,Vk _ _ h.2 k⟩

theorem A6m {x:Rat} {L k:Nat} (h:Sz x L) (hk:k<=8):Sz (Q4.d1 x k) (L*8+5):=by
 cases k with
 | zero=>exact Bi.mono (by omega)
 | succ k =>
  have h1:=A7 (Ey h k) (Bx (a:=((k+1:Nat):Int)) (by omega))
  have:L*k<=L*8:=XI _ (by omega)
  exact h1.mono (by omega)

theorem Ami {x:Rat} {L k:Nat} (h:Sz x L) (hk:k<=8):Sz (Q4.d2 x k) (L*8+5):=by
 match k with
 | 0=>exact Bi.mono (by omega)
 | 1=>exact Bi.mono (by omega)
 | k+2 =>
  have h2:(k+2)*(k+1)<=8*8:=XF (by omega) (by omega)
  have h1:=A7 (Ey h k) (Bx (a:=(((k+2)*(k+1):Nat):Int)) (by rw [XK];omega))
  have:L*k<=L*8:=XI _ (by omega)
  exact h1.mono (by omega)

def Ac (V:List Rat) (k:Nat):Rat:=V.getD k 0

theorem Bbo {n:Nat} {f:Rat} (hn:68719476736<=n):f163 n (0,()) (rq f)=some (jn f 0):=by
 unfold f163;dsimp only;rw [Bmc hn,A0,iW0 hn,A0];rfl

theorem Avm {n L K:Nat} {f g v w:Rat} (hf:Sz f L) (hg:Sz g L) (hv:Sz v K) (hw:Sz w K) (hL:L<=1000) (hK:K<=100000000) (hn:68719476736<=n):f165 n (jn f v) (jn g w)=some (jn (f+g) (v+w)):=by
 unfold f165 jn;dsimp only
 rw [Dz hf hg (by omega) hn,A0,Dz hv hw (by omega) hn,A0];rfl

theorem Bfm {n L K:Nat} {f v k:Rat} (hf:Sz f L) (hv:Sz v K) (hk:Sz k 10) (hL:L<=1000) (hK:K<=100000000) (hn:68719476736<=n):f166 n (jn f v) (rq k)=some (jn (f*k) (v*k)):=by
 unfold f166 jn;dsimp only
 rw [Bf hf hk (by omega) hn,A0,Bf hv hk (by omega) hn,A0];rfl

theorem Aog {n L K:Nat} {f g v w:Rat} (hf:Sz f L) (hg:Sz g L) (hv:Sz v K) (hw:Sz w K) (hL:L<=1000) (hK:K<=100000000) (hn:68719476736<=n):f167 n (jn f v) (jn g w)=some (jn (f*g) (v*g+f*w)):=by
 unfold f167 jn;dsimp only
 rw [Bf hf hg (by omega) hn,A0,Bf hv hg (by omega) hn,A0,Bf hf hw (by omega) hn,A0,Dz (A7 hv hg) (A7 hf hw) (by omega) hn,A0];rfl

theorem Aoi {n L K:Nat} {f v g d:Rat} {e:Rt} (hd:Sz d L) (hv:Sz v K) (hL:L<=100000) (hK:K<=100000000) (hn:68719476736<=n):f210 n (jn f v) (rq g) (rq d) e=some (jn g (d*v)):=by
 unfold f210 jn;dsimp only
 rw [Bf hd hv (by omega) hn,A0];rfl

theorem Bm4 {n L K:Nat} {f v:Rat} (hf:Sz f L) (h0:f ≠ 0) (hv:Sz v K) (hL:L<=1000) (hK:K<=100000000) (hn:68719476736<=n):f169 n (jn f v)=some (jn (1 / f) (-(1 / f*(1 / f))*v)):=by
 have h1:=Wx (Bx (a:=1) (by omega)) hf h0
 have h1:Sz (1 / f) (3+L+1):=h1;have h2:=A7 h1 h1;have h3:=A7 h2 h1
 have t2:f162 n (rq (1 / f*(1 / f)*(1 / f))) (rq 2)=some (rq (1 / f*(1 / f)*(1 / f)*2)):=Bf h3 (Bx (a:=2) (by omega)) (by omega) hn
 unfold f169
 rw [iW1 hn,A0,show (jn f v).1=rq f from rfl,iOv (Ij (L:=1) (by omega)) hf h0 (by omega) hn,A0,Bf h1 h1 (by omega) hn,A0,iNg h2 (by omega),A0,Bf h2 h1 (by omega) hn,A0,iW2 hn,A0,t2,A0]
 have:=Aoi (n:=n) (f:=f) (g:=1 / f) (e:=rq (1 / f*(1 / f)*(1 / f)*2)) (Bj h2) hv (by omega) hK hn
 have this:f210 n (rq f,(jn f v).2.1,(),(jn f v).2.2.2) (rq (1 / f)) (rq (-(1 / f*(1 / f)))) (rq (1 / f*(1 / f)*(1 / f)*2))=_:=this;rw [this,A0]

theorem Ain {n L k:Nat} {f:Rat} {v:Rat} (hf:Sz f L) (hL:L<=1000) (hk:k<=8) (hn:68719476736<=n):f161 n (jn f v) (k:Int)=some (rq (Q4.d1 f k),rq (Q4.d2 f k)):=by
 unfold f161;rw [iW0 hn,A0,A0];dsimp only;rw [show (jn f v).1=rq f from rfl]
 match k with
 | 0=>rfl
 | 1 =>
  rw [show decide (((1:Nat):Int)>=1)=true from rfl,QW,show W (((1:Nat):Int)-1)=((0:Nat):Int) from rfl,I8 hf (by omega) (by omega) hn,A0,iW (by omega) hn,A0,Bf (Ey hf 0) (Bx (a:=((1:Nat):Int)) (by omega)) (by omega) hn,A0]
  rfl
 | k+2 =>
  have h2:(k+2)*(k+1)<=8*8:=XF (by omega) (by omega)
  have l1:L*(k+1)<=L*8:=XI _ (by omega)
  have l2:L*k<=L*8:=XI _ (by omega)
  rw [QE,QC (by omega),A8 (x:=((k+2:Nat):Int)-1) (by omega) (by omega),show ((k+2:Nat):Int)-1=((k+1:Nat):Int) by omega,I8 hf (by omega) (by omega) hn,A0,iW (by omega) hn,A0,
   Bf (Ey hf (k+1)) (Bx (a:=((k+2:Nat):Int)) (by omega)) (by omega) hn,A0,QE,QC (by omega),
   A8 (x:=((k+2:Nat):Int)-2) (by omega) (by omega),show ((k+2:Nat):Int)-2=((k:Nat):Int) by omega,I8 hf (by omega) (by omega) hn,A0,show ((k+2:Nat):Int)*((k+1:Nat):Int)=(((k+2)*(k+1):Nat):Int) by rw [XW],
   A8 (x:=(((k+2)*(k+1):Nat):Int)) (by omega) (by omega),iW (by rw [XK];omega) hn,A0,Bf (Ey hf k) (Bx (a:=(((k+2)*(k+1):Nat):Int)) (by rw [XK];omega)) (by omega) hn,A0]
  rfl

theorem Bbm {n L K k:Nat} {f v:Rat} (hf:Sz f L) (hv:Sz v K) (hL:L<=1000) (hK:K<=100000000) (hk:k<=8) (hn:68719476736<=n):f171 n (jn f v) (k:Int)=some (jn (f ^ k) (Q4.d1 f k*v)):=by
 unfold f171
 rw [Ain hf hL hk hn,A0,show (jn f v).1=rq f from rfl,I8 hf (by omega) (by omega) hn,A0]
 have:=Aoi (n:=n) (f:=f) (g:=f ^ k) (e:=rq (Q4.d2 f k)) (A6m hf hk) hv (by omega) hK hn
 dsimp only;rw [this,A0]

theorem Bhc {n:Nat} {f v:Rat} (hn:68719476736<=n):f180 n (jn f v)=some (B6 f&&B6 v):=by
 unfold f180 jn;dsimp only;rw [Aoo hn,A0,K3,A0,K3]
 cases B6 f <;> cases B6 v <;> rfl

theorem Bm3 {n:Nat} {f:Rat} {k:Int} {V:List Rat} (hk:0<=k/\k<V.length) (hn:68719476736<=n):f164 n (0,()) (rq f) k=some (jn f 0):=by
 unfold f164 Amb;dsimp only
 rw [Bfr hn,A0,iW0 hn,A0,A0,QE,QB (by omega)];rfl

def B0 (q:Q4):Jn:=jn q.f q.v

theorem Aoh {l:List Q4} {k:Nat} (h:k<l.length):(l.map B0).getD k ((false,[],[]),[],(),(false,[],[]))=B0 (l.getD k (Q4.cst 0)):=by
 simp [QJ,QN h]

structure Bgg (l:List Q4) (K:Nat):Prop where
 f:∀ k,Sz (l.getD k (Q4.cst 0)).f 40
 v:∀ k,Sz (l.getD k (Q4.cst 0)).v K

theorem Bbn {n K:Nat} {X V:List Rat} {l:List Q4} {x:Nod} (hx:Bg x l.length) (hd:x.1=2->x.2.2.2<X.length/\x.2.2.2<V.length) (hs:Bgg l K) (hK:K<=90000000) (hn:68719476736<=n) :
  A6b n (0,()) x (vq X) (l.map B0)=some ((if x.1=6/\(l.getD x.2.2.1.toNat (Q4.cst 0)).f=0 then (((false,[],[]),[],(),(false,[],[])),10) else if x.1=8/\B6 ((l.getD x.2.1.toNat (Q4.cst 0)).f ^ x.2.2.2.toNat)=false then (((false,[],[]),[],(),(false,[],[])),7) else (B0 (Ak (Ac X) (λ_=>0) (λ_=>0) l x),0)),l.map B0):=by
 obtain ⟨op,A,B,N⟩:=x;obtain ⟨⟨o1,o2⟩,hN,hA,hB⟩:=hx;unfold A6b;simp only [S5,A0];unfold Fc at hN;unfold Aw at hA hB ⊢;unfold Ak;dsimp only at *
 obtain rfl | rfl | rfl | rfl | rfl | rfl | rfl | rfl:op=1 \/ op=2 \/ op=3 \/ op=4 \/ op=5 \/ op=6 \/ op=7 \/ op=8:=by omega
 . simp only [Int.reduceEq,JL,if_false,if_true,Int.reduceBEq,QW,QP,Int.reduceLT,gt_iff_lt,decide_false,KI] at *
   rw [iW (by omega) hn,A0,Bbo  hn,A0];rfl
 . simp only [Int.reduceEq,JL,if_false,if_true,Int.reduceBEq,QW,QP,Int.reduceLT,gt_iff_lt,decide_false,KI] at *;have hd:=hd trivial
   rw [Ba,A2 (by simp;omega),Cc (by omega),Bm3 (V:=V) ⟨hN.1,hd.2⟩ hn,A0];rfl
 all_goals simp only [Int.reduceEq,JL,or_true,true_or,if_false,if_true,Int.reduceBEq,QW,QP,Int.reduceLT,gt_iff_lt,decide_true,KI,Qaf] at *
 all_goals (have lA:A.toNat<l.length:=by omega)
 all_goals (have lB:B.toNat<l.length:=by omega)
 all_goals (rw [ZA,A2 (by simp;omega),A2 (by simp;omega),A2 (by simp;omega),A2 (by simp;omega),Aoh lA])
 all_goals (try rw [Aoh lB])
 all_goals (have a1:=hs.f A.toNat;have a2:=hs.v A.toNat;have b1:=hs.f B.toNat;have b2:=hs.v B.toNat)
 all_goals (generalize hP:l.getD A.toNat (Q4.cst 0)=P at a1 a2 ⊢;generalize hQ:l.getD B.toNat (Q4.cst 0)=Q at b1 b2 ⊢)
 . have e:f165 n (B0 P) (B0 Q)=_:=Avm a1 b1 a2 b2 (by omega) (by omega) hn
   have e:f165 n (((B0 P).1.1,(B0 P).1.2.1,(B0 P).1.2.2),(B0 P).2.1,(),(B0 P).2.2.2.1,(B0 P).2.2.2.2.1,(B0 P).2.2.2.2.2) (((B0 Q).1.1,(B0 Q).1.2.1,(B0 Q).1.2.2),(B0 Q).2.1,(),(B0 Q).2.2.2.1,(B0 Q).2.2.2.2.1,(B0 Q).2.2.2.2.2)=some _:=e;rw [e,A0];rfl
 . have e:f166 n (B0 Q) (rq (-1))=_:=Bfm b1 b2 (Bx (a:=-1) (by omega) |>.mono (by omega)) (by omega) (by omega) hn
   have e:f166 n (((B0 Q).1.1,(B0 Q).1.2.1,(B0 Q).1.2.2),(B0 Q).2.1,(),(B0 Q).2.2.2.1,(B0 Q).2.2.2.2.1,(B0 Q).2.2.2.2.2) (rq (-1))=some _:=e
   have e2:f165 n (B0 P) (jn (Q.f * -1) (Q.v * -1))=_:=Avm (L:=60) (K:=K+5) (a1.mono (by omega)) ((A7 b1 (Bx (a:=-1) (by omega))).mono (by omega)) (a2.mono (by omega)) ((A7 b2 (Bx (a:=-1) (by omega))).mono (by omega)) (by omega) (by omega) hn
   have e2:f165 n (((B0 P).1.1,(B0 P).1.2.1,(B0 P).1.2.2),(B0 P).2.1,(),(B0 P).2.2.2.1,(B0 P).2.2.2.2.1,(B0 P).2.2.2.2.2) (jn (Q.f * -1) (Q.v * -1))=some _:=e2;rw [iWm hn,A0,e,A0,e2,A0,JX,KY,JX,KY];rfl
 . have e:f167 n (B0 P) (B0 Q)=_:=Aog a1 b1 a2 b2 (by omega) (by omega) hn
   have e:f167 n (((B0 P).1.1,(B0 P).1.2.1,(B0 P).1.2.2),(B0 P).2.1,(),(B0 P).2.2.2.1,(B0 P).2.2.2.2.1,(B0 P).2.2.2.2.2) (((B0 Q).1.1,(B0 Q).1.2.1,(B0 Q).1.2.2),(B0 Q).2.1,(),(B0 Q).2.2.2.1,(B0 Q).2.2.2.2.1,(B0 Q).2.2.2.2.2)=some _:=e;rw [e,A0];rfl
 . have z:f168 n (rq Q.f)=_:=Aco;have z:f168 n ((rq Q.f).1,(rq Q.f).2.1,(rq Q.f).2.2)=_:=z;have z:f168 n ((B0 Q).1.1,(B0 Q).1.2.1,(B0 Q).1.2.2)=_:=z;rw [z,A0,QE];by_cases h0:Q.f=0
   . rw [QC h0,QC h0]
   . rw [QB h0,QB h0]
     have e:f169 n (B0 Q)=_:=Bm4 b1 h0 b2 (by omega) (by omega) hn
     have e:f169 n (((B0 Q).1.1,(B0 Q).1.2.1,(B0 Q).1.2.2),(B0 Q).2.1,(),(B0 Q).2.2.2.1,(B0 Q).2.2.2.2.1,(B0 Q).2.2.2.2.2)=some _:=e
     have s1:Sz (1 / Q.f) (3+40+1):=Wx (Bx (a:=1) (by omega)) b1 h0
     have e2:f167 n (B0 P) (jn (1 / Q.f) (-(1 / Q.f*(1 / Q.f))*Q.v))=_:=Aog (L:=60) (K:=K+100) (a1.mono (by omega)) (s1.mono (by omega)) (a2.mono (by omega)) ((A7 (Bj (A7 s1 s1)) b2).mono (by omega)) (by omega) (by omega) hn
     have e2:f167 n (((B0 P).1.1,(B0 P).1.2.1,(B0 P).1.2.2),(B0 P).2.1,(),(B0 P).2.2.2.1,(B0 P).2.2.2.2.1,(B0 P).2.2.2.2.2) (jn (1 / Q.f) (-(1 / Q.f*(1 / Q.f))*Q.v))=some _:=e2;rw [e,A0,e2,A0]
     have c:P.v*(1 / Q.f)+P.f*(-(1 / Q.f*(1 / Q.f))*Q.v)=(Q4.mul P (Q4.inv Q)).v:=by
      simp only [Q4.mul,Q4.inv];generalize 1 / Q.f=r;grind
     rw [c];rfl
 . have e:f166 n (B0 P) (rq (-1))=_:=Bfm a1 a2 (Bx (a:=-1) (by omega) |>.mono (by omega)) (by omega) (by omega) hn
   have e:f166 n (((B0 P).1.1,(B0 P).1.2.1,(B0 P).1.2.2),(B0 P).2.1,(),(B0 P).2.2.2.1,(B0 P).2.2.2.2.1,(B0 P).2.2.2.2.2) (rq (-1))=some _:=e;rw [iWm hn,A0,e,A0,JX,KY,JX,KY];rfl
 . obtain ⟨N',rfl⟩:∃ N':Nat,N=(N':Int):=⟨N.toNat,by omega⟩
   have e0:f170 n (rq P.f) (N':Int)=_:=I8 a1 (by omega) (by omega) hn
   have e0:f170 n ((B0 P).1.1,(B0 P).1.2.1,(B0 P).1.2.2) (N':Int)=some _:=e0
   have e:f171 n (B0 P) (N':Int)=_:=Bbm a1 a2 (by omega) (by omega) (by omega) hn
   have e:f171 n (((B0 P).1.1,(B0 P).1.2.1,(B0 P).1.2.2),(B0 P).2.1,(),(B0 P).2.2.2.1,(B0 P).2.2.2.2.1,(B0 P).2.2.2.2.2) (N':Int)=some _:=e;rw [e0,A0,K3,A0,QM]
   cases hfit:B6 (P.f ^ N') with
   | false=>simp only [ZW,QW,if_true]
   | true =>
    simp only [ZJ,QP,Qay,if_false];rw [e,A0,Q4.pow_eq];rfl

theorem Bbr {n:Nat} {f:Rat} {V:List Rat} (hV:0<V.length) (hn:68719476736<=n):A5x n (0,vq V) (rq f)=some (jc f 0):=by
 unfold A5x;dsimp only
 rw [Bmc hn,A0,iW0 hn,A0,A2 (by simp [vq];intro e;rw [e] at hV;simp at hV),A0];rfl

theorem Avo {n L K:Nat} {f g v w:Rat} (hf:Sz f L) (hg:Sz g L) (hv:Sz v K) (hw:Sz w K) (hL:L<=1000) (hK:K<=100000000) (hn:68719476736<=n):G6 n (jc f v) (jc g w)=some (jc (f+g) (v+w)):=by
 unfold G6 jc;dsimp only
 rw [Dz hf hg (by omega) hn,A0,Dz hv hw (by omega) hn,A0];rfl

theorem Bfn {n L K:Nat} {f v k:Rat} (hf:Sz f L) (hv:Sz v K) (hk:Sz k 10) (hL:L<=1000) (hK:K<=100000000) (hn:68719476736<=n):G5 n (jc f v) (rq k)=some (jc (f*k) (v*k)):=by
 unfold G5 jc;dsimp only
 rw [Bf hf hk (by omega) hn,A0,Bf hv hk (by omega) hn,A0];rfl

theorem Aol {n L K:Nat} {f g v w:Rat} (hf:Sz f L) (hg:Sz g L) (hv:Sz v K) (hw:Sz w K) (hL:L<=1000) (hK:K<=100000000) (hn:68719476736<=n):G4 n (jc f v) (jc g w)=some (jc (f*g) (v*g+f*w)):=by
 unfold G4 jc;dsimp only
 rw [Bf hf hg (by omega) hn,A0,Bf hv hg (by omega) hn,A0,Bf hf hw (by omega) hn,A0,Dz (A7 hv hg) (A7 hf hw) (by omega) hn,A0];rfl

theorem Aon {n L K:Nat} {f v g d:Rat} {e:Rt} (hd:Sz d L) (hv:Sz v K) (hL:L<=100000) (hK:K<=100000000) (hn:68719476736<=n):Nz n (jc f v) (rq g) (rq d) e=some (jc g (d*v)):=by
 unfold Nz jc;dsimp only
 rw [Bf hd hv (by omega) hn,A0];rfl

theorem Bm6 {n L K:Nat} {f v:Rat} (hf:Sz f L) (h0:f ≠ 0) (hv:Sz v K) (hL:L<=1000) (hK:K<=100000000) (hn:68719476736<=n):O1 n (jc f v)=some (jc (1 / f) (-(1 / f*(1 / f))*v)):=by
 have h1:=Wx (Bx (a:=1) (by omega)) hf h0
 have h1:Sz (1 / f) (3+L+1):=h1;have h2:=A7 h1 h1;have h3:=A7 h2 h1
 have t2:f162 n (rq (1 / f*(1 / f)*(1 / f))) (rq 2)=some (rq (1 / f*(1 / f)*(1 / f)*2)):=Bf h3 (Bx (a:=2) (by omega)) (by omega) hn
 unfold O1
 rw [iW1 hn,A0,show (jc f v).1=rq f from rfl,iOv (Ij (L:=1) (by omega)) hf h0 (by omega) hn,A0,Bf h1 h1 (by omega) hn,A0,iNg h2 (by omega),A0,Bf h2 h1 (by omega) hn,A0,iW2 hn,A0,t2,A0]
 have:=Aon (n:=n) (f:=f) (g:=1 / f) (e:=rq (1 / f*(1 / f)*(1 / f)*2)) (Bj h2) hv (by omega) hK hn
 have this:Nz n (jc f v) (rq (1 / f)) (rq (-(1 / f*(1 / f)))) (rq (1 / f*(1 / f)*(1 / f)*2))=_:=this;rw [this,A0]

theorem Aio {n L k:Nat} {f:Rat} {v:Rat} (hf:Sz f L) (hL:L<=1000) (hk:k<=8) (hn:68719476736<=n):Ae6 n (jc f v) (k:Int)=some (rq (Q4.d1 f k),rq (Q4.d2 f k)):=by
 unfold Ae6;rw [iW0 hn,A0,A0];dsimp only;rw [show (jc f v).1=rq f from rfl]
 match k with
 | 0=>rfl
 | 1 =>
  rw [show decide (((1:Nat):Int)>=1)=true from rfl,QW,show W (((1:Nat):Int)-1)=((0:Nat):Int) from rfl,I8 hf (by omega) (by omega) hn,A0,iW (by omega) hn,A0,Bf (Ey hf 0) (Bx (a:=((1:Nat):Int)) (by omega)) (by omega) hn,A0]
  rfl
 | k+2 =>
  have h2:(k+2)*(k+1)<=8*8:=XF (by omega) (by omega)
  have l1:L*(k+1)<=L*8:=XI _ (by omega)
  have l2:L*k<=L*8:=XI _ (by omega)
  rw [QE,QC (by omega),A8 (x:=((k+2:Nat):Int)-1) (by omega) (by omega),show ((k+2:Nat):Int)-1=((k+1:Nat):Int) by omega,I8 hf (by omega) (by omega) hn,A0,iW (by omega) hn,A0,
   Bf (Ey hf (k+1)) (Bx (a:=((k+2:Nat):Int)) (by omega)) (by omega) hn,A0,QE,QC (by omega),
   A8 (x:=((k+2:Nat):Int)-2) (by omega) (by omega),show ((k+2:Nat):Int)-2=((k:Nat):Int) by omega,I8 hf (by omega) (by omega) hn,A0,show ((k+2:Nat):Int)*((k+1:Nat):Int)=(((k+2)*(k+1):Nat):Int) by rw [XW],
   A8 (x:=(((k+2)*(k+1):Nat):Int)) (by omega) (by omega),iW (by rw [XK];omega) hn,A0,Bf (Ey hf k) (Bx (a:=(((k+2)*(k+1):Nat):Int)) (by rw [XK];omega)) (by omega) hn,A0]
  rfl

theorem Bbp {n L K k:Nat} {f v:Rat} (hf:Sz f L) (hv:Sz v K) (hL:L<=1000) (hK:K<=100000000) (hk:k<=8) (hn:68719476736<=n):O0 n (jc f v) (k:Int)=some (jc (f ^ k) (Q4.d1 f k*v)):=by
 unfold O0
 rw [Aio hf hL hk hn,A0,show (jc f v).1=rq f from rfl,I8 hf (by omega) (by omega) hn,A0]
 have:=Aon (n:=n) (f:=f) (g:=f ^ k) (e:=rq (Q4.d2 f k)) (A6m hf hk) hv (by omega) hK hn
 dsimp only;rw [this,A0]

theorem Bm5 {n:Nat} {f:Rat} {k:Int} {V:List Rat} (hk:0<=k/\k<V.length) (hn:68719476736<=n):A5w n (0,vq V) (rq f) k=some (jc f (V.getD k.toNat 0)):=by
 unfold A5w Ae4;dsimp only
 rw [Bfr hn,A0,iW0 hn,A0,A2 (by simp [vq];intro e;rw [e] at hk;simp at hk;omega),A0,A0,QE,QB (by omega),A2 (by simp [vq];intro e;rw [e] at hk;simp at hk;omega),A2 (by simp;omega),Cc (by omega)];rfl

def Ay (q:Q4):Jc:=jc q.f q.v

theorem Aom {l:List Q4} {k:Nat} (h:k<l.length):(l.map Ay).getD k ((false,[],[]),[],[],(false,[],[]))=Ay (l.getD k (Q4.cst 0)):=by
 simp [QJ,QN h]

structure Bgh (l:List Q4) (K:Nat):Prop where
 f:∀ k,Sz (l.getD k (Q4.cst 0)).f 40
 v:∀ k,Sz (l.getD k (Q4.cst 0)).v K

theorem Bbq {n K:Nat} {X V:List Rat} {l:List Q4} {x:Nod} (hx:Bg x l.length) (hd:x.1=2->x.2.2.2<X.length/\x.2.2.2<V.length) (hV:0<V.length) (hs:Bgh l K) (hK:K<=90000000) (hn:68719476736<=n) :
  Oy n (0,vq V) x (vq X) (l.map Ay)=some ((if x.1=6/\(l.getD x.2.2.1.toNat (Q4.cst 0)).f=0 then (((false,[],[]),[],[],(false,[],[])),10) else if x.1=8/\B6 ((l.getD x.2.1.toNat (Q4.cst 0)).f ^ x.2.2.2.toNat)=false then (((false,[],[]),[],[],(false,[],[])),7) else (Ay (Ak (Ac X) (λ_=>0) (Ac V) l x),0)),l.map Ay):=by
 obtain ⟨op,A,B,N⟩:=x;obtain ⟨⟨o1,o2⟩,hN,hA,hB⟩:=hx;unfold Oy;simp only [S5,A0];unfold Fc at hN;unfold Aw at hA hB ⊢;unfold Ak;dsimp only at *
 obtain rfl | rfl | rfl | rfl | rfl | rfl | rfl | rfl:op=1 \/ op=2 \/ op=3 \/ op=4 \/ op=5 \/ op=6 \/ op=7 \/ op=8:=by omega
 . simp only [Int.reduceEq,JL,if_false,if_true,Int.reduceBEq,QW,QP,Int.reduceLT,gt_iff_lt,decide_false,KI] at *
   rw [iW (by omega) hn,A0,Bbr hV hn,A0];rfl
 . simp only [Int.reduceEq,JL,if_false,if_true,Int.reduceBEq,QW,QP,Int.reduceLT,gt_iff_lt,decide_false,KI] at *;have hd:=hd trivial
   rw [Ba,A2 (by simp;omega),Cc (by omega),Bm5 (V:=V) ⟨hN.1,hd.2⟩ hn,A0];rfl
 all_goals simp only [Int.reduceEq,JL,or_true,true_or,if_false,if_true,Int.reduceBEq,QW,QP,Int.reduceLT,gt_iff_lt,decide_true,KI,Qaf] at *
 all_goals (have lA:A.toNat<l.length:=by omega)
 all_goals (have lB:B.toNat<l.length:=by omega)
 all_goals (rw [ZA,A2 (by simp;omega),A2 (by simp;omega),A2 (by simp;omega),A2 (by simp;omega),Aom lA])
 all_goals (try rw [Aom lB])
 all_goals (have a1:=hs.f A.toNat;have a2:=hs.v A.toNat;have b1:=hs.f B.toNat;have b2:=hs.v B.toNat)
 all_goals (generalize hP:l.getD A.toNat (Q4.cst 0)=P at a1 a2 ⊢;generalize hQ:l.getD B.toNat (Q4.cst 0)=Q at b1 b2 ⊢)
 . have e:G6 n (Ay P) (Ay Q)=_:=Avo a1 b1 a2 b2 (by omega) (by omega) hn
   have e:G6 n (((Ay P).1.1,(Ay P).1.2.1,(Ay P).1.2.2),(Ay P).2.1,(Ay P).2.2.1,(Ay P).2.2.2.1,(Ay P).2.2.2.2.1,(Ay P).2.2.2.2.2) (((Ay Q).1.1,(Ay Q).1.2.1,(Ay Q).1.2.2),(Ay Q).2.1,(Ay Q).2.2.1,(Ay Q).2.2.2.1,(Ay Q).2.2.2.2.1,(Ay Q).2.2.2.2.2)=some _:=e;rw [e,A0];rfl
 . have e:G5 n (Ay Q) (rq (-1))=_:=Bfn b1 b2 (Bx (a:=-1) (by omega) |>.mono (by omega)) (by omega) (by omega) hn
   have e:G5 n (((Ay Q).1.1,(Ay Q).1.2.1,(Ay Q).1.2.2),(Ay Q).2.1,(Ay Q).2.2.1,(Ay Q).2.2.2.1,(Ay Q).2.2.2.2.1,(Ay Q).2.2.2.2.2) (rq (-1))=some _:=e
   have e2:G6 n (Ay P) (jc (Q.f * -1) (Q.v * -1))=_:=Avo (L:=60) (K:=K+5) (a1.mono (by omega)) ((A7 b1 (Bx (a:=-1) (by omega))).mono (by omega)) (a2.mono (by omega)) ((A7 b2 (Bx (a:=-1) (by omega))).mono (by omega)) (by omega) (by omega) hn
   have e2:G6 n (((Ay P).1.1,(Ay P).1.2.1,(Ay P).1.2.2),(Ay P).2.1,(Ay P).2.2.1,(Ay P).2.2.2.1,(Ay P).2.2.2.2.1,(Ay P).2.2.2.2.2) (jc (Q.f * -1) (Q.v * -1))=some _:=e2;rw [iWm hn,A0,e,A0,e2,A0,JX,KY,JX,KY];rfl
 . have e:G4 n (Ay P) (Ay Q)=_:=Aol a1 b1 a2 b2 (by omega) (by omega) hn
   have e:G4 n (((Ay P).1.1,(Ay P).1.2.1,(Ay P).1.2.2),(Ay P).2.1,(Ay P).2.2.1,(Ay P).2.2.2.1,(Ay P).2.2.2.2.1,(Ay P).2.2.2.2.2) (((Ay Q).1.1,(Ay Q).1.2.1,(Ay Q).1.2.2),(Ay Q).2.1,(Ay Q).2.2.1,(Ay Q).2.2.2.1,(Ay Q).2.2.2.2.1,(Ay Q).2.2.2.2.2)=some _:=e;rw [e,A0];rfl
 . have z:f168 n (rq Q.f)=_:=Aco;have z:f168 n ((rq Q.f).1,(rq Q.f).2.1,(rq Q.f).2.2)=_:=z;have z:f168 n ((Ay Q).1.1,(Ay Q).1.2.1,(Ay Q).1.2.2)=_:=z;rw [z,A0,QE];by_cases h0:Q.f=0
   . rw [QC h0,QC h0]
   . rw [QB h0,QB h0]
     have e:O1 n (Ay Q)=_:=Bm6 b1 h0 b2 (by omega) (by omega) hn
     have e:O1 n (((Ay Q).1.1,(Ay Q).1.2.1,(Ay Q).1.2.2),(Ay Q).2.1,(Ay Q).2.2.1,(Ay Q).2.2.2.1,(Ay Q).2.2.2.2.1,(Ay Q).2.2.2.2.2)=some _:=e
     have s1:Sz (1 / Q.f) (3+40+1):=Wx (Bx (a:=1) (by omega)) b1 h0
     have e2:G4 n (Ay P) (jc (1 / Q.f) (-(1 / Q.f*(1 / Q.f))*Q.v))=_:=Aol (L:=60) (K:=K+100) (a1.mono (by omega)) (s1.mono (by omega)) (a2.mono (by omega)) ((A7 (Bj (A7 s1 s1)) b2).mono (by omega)) (by omega) (by omega) hn
     have e2:G4 n (((Ay P).1.1,(Ay P).1.2.1,(Ay P).1.2.2),(Ay P).2.1,(Ay P).2.2.1,(Ay P).2.2.2.1,(Ay P).2.2.2.2.1,(Ay P).2.2.2.2.2) (jc (1 / Q.f) (-(1 / Q.f*(1 / Q.f))*Q.v))=some _:=e2;rw [e,A0,e2,A0]
     have c:P.v*(1 / Q.f)+P.f*(-(1 / Q.f*(1 / Q.f))*Q.v)=(Q4.mul P (Q4.inv Q)).v:=by
      simp only [Q4.mul,Q4.inv];generalize 1 / Q.f=r;grind
     rw [c];rfl
 . have e:G5 n (Ay P) (rq (-1))=_:=Bfn a1 a2 (Bx (a:=-1) (by omega) |>.mono (by omega)) (by omega) (by omega) hn
   have e:G5 n (((Ay P).1.1,(Ay P).1.2.1,(Ay P).1.2.2),(Ay P).2.1,(Ay P).2.2.1,(Ay P).2.2.2.1,(Ay P).2.2.2.2.1,(Ay P).2.2.2.2.2) (rq (-1))=some _:=e;rw [iWm hn,A0,e,A0,JX,KY,JX,KY];rfl
 . obtain ⟨N',rfl⟩:∃ N':Nat,N=(N':Int):=⟨N.toNat,by omega⟩
   have e0:f170 n (rq P.f) (N':Int)=_:=I8 a1 (by omega) (by omega) hn
   have e0:f170 n ((Ay P).1.1,(Ay P).1.2.1,(Ay P).1.2.2) (N':Int)=some _:=e0
   have e:O0 n (Ay P) (N':Int)=_:=Bbp a1 a2 (by omega) (by omega) (by omega) hn
   have e:O0 n (((Ay P).1.1,(Ay P).1.2.1,(Ay P).1.2.2),(Ay P).2.1,(Ay P).2.2.1,(Ay P).2.2.2.1,(Ay P).2.2.2.2.1,(Ay P).2.2.2.2.2) (N':Int)=some _:=e;rw [e0,A0,K3,A0,QM]
   cases hfit:B6 (P.f ^ N') with
   | false=>simp only [ZW,QW,if_true]
   | true =>
    simp only [ZJ,QP,Qay,if_false];rw [e,A0,Q4.pow_eq];rfl

structure SzQ (q:Q4) (L:Nat):Prop where
 f:Sz q.f L
 a:Sz q.a L
 v:Sz q.v L
 c:Sz q.c L

theorem SzQ.mono {q:Q4} {L K:Nat} (h:SzQ q L) (hK:L<=K):SzQ q K:=⟨h.f.mono hK,h.a.mono hK,h.v.mono hK,h.c.mono hK⟩

theorem Bl4 {r:Rat} {L:Nat} (h:Sz r L) (h1:1<=L):SzQ (Q4.cst r) L:=⟨h,Bi.mono h1,Bi.mono h1,Bi.mono h1⟩

theorem Aya {p:Q4} {L:Nat} (hp:SzQ p L):SzQ (Q4.neg p) L:=⟨Bj hp.f,Bj hp.a,Bj hp.v,Bj hp.c⟩

theorem P0 {x:Rat} {L:Nat} (h:Sz x L) (h0:x ≠ 0):Sz (1 / x) (L+4):=(Wx (Ij (L:=1) (by omega)) h h0).mono (by omega)

theorem Ayb {p:Q4} {L:Nat} (hp:SzQ p L) (h0:p.f ≠ 0):SzQ (Q4.inv p) (8*L+60):=by
 have r:=P0 hp.f h0;have r2:=A7 r r;have r3:=A7 r2 r
 have t3:=A7 (show Sz 2 1 from A4a (c:=2) (by omega)) r3
 refine ⟨r.mono (by omega),(Bj (A7 hp.a r2)).mono (by omega),(Bj (A7 hp.v r2)).mono (by omega),?_⟩
 show Sz (_-_) _;rw [Rat.sub_eq_add_neg]
 exact (Cl (A7 t3 (A7 hp.a hp.v)) (Bj (A7 hp.c r2))).mono (by omega)

theorem sW0 {n:Nat} (hn:68719476736<=n):f131 n 0=some (rq 0):=Lb (a:=0) (by omega) (by omega)

theorem sW1 {n:Nat} (hn:68719476736<=n):f131 n 1=some (rq 1):=Lb (a:=1) (by omega) (by omega)

theorem sW2 {n:Nat} (hn:68719476736<=n):f131 n 2=some (rq 2):=Lb (a:=2) (by omega) (by omega)

def allP (e:List Nod) (d:Int):Prop:=∀ k,k<e.length->Bg (e.getD k (0,0,0,0)) k/\((e.getD k (0,0,0,0)).1=2->(e.getD k (0,0,0,0)).2.2.2<d)

theorem J0 {e:List Nod} {i:Nat} (h:i<e.length):e.drop i=e.getD i (0,0,0,0)::e.drop (i+1):=by
 rw [XV h,QJ,QN h];rfl

def Kd (q:Q4):Bool:=B6 q.f&&B6 q.v

theorem A05 {l:List Q4} {q:Q4} {k:Nat} (h:k<l.length):(l++[q]).getD k (Q4.cst 0)=l.getD k (Q4.cst 0):=by
 simp only [QJ,ZH h]

theorem A06 {l:List Q4} {q:Q4}:(l++[q]).getD l.length (Q4.cst 0)=q:=by
 rw [QJ,ZG (ZF _)];simp

theorem J3 {l:List Q4} {k:Nat} (h:l.length<=k):l.getD k (Q4.cst 0)=Q4.cst 0:=by
 rw [QJ,KD h];rfl

theorem Xs {x u w:Nat->Rat} {l:List Q4} {n:Nod} (h:n.1=8):(Ak x u w l n).f=(l.getD n.2.1.toNat (Q4.cst 0)).f ^ n.2.2.2.toNat:=by
 unfold Ak
 rw [QB (by omega),QB (by omega),QB (by omega),QB (by omega),QB (by omega),QB (by omega),QB (by omega),Q4.pow_eq]

theorem Bqe {l:List Q4} (h:∀ k,k<l.length->Kd (l.getD k (Q4.cst 0))=true):Bgg l 40:=by
 have key:∀ k,Sz (l.getD k (Q4.cst 0)).f 40/\Sz (l.getD k (Q4.cst 0)).v 40:=λk=>by
  rcases ZT k l.length with h1 | h1
  . have:=h k h1;unfold Kd at this;simp only [QH,Cp] at this;exact this
  . rw [J3 h1];exact ⟨Bi.mono (by omega),Bi.mono (by omega)⟩
 exact ⟨λk=>(key k).1,λk=>(key k).2⟩

theorem Avn {α:Type} {n:Nat} {X V:List Rat} {e:List Nod} (hp:allP e X.length) (he:e.length<=60) (hVX:V.length=X.length) (hn:68719476736<=n)
  {k0:Int->Option α} {k1:List Jn->Option α}:∀ (m:Nat) (l:List Q4),(∀ k,k<l.length->Kd (l.getD k (Q4.cst 0))=true)->l.length<=e.length->e.length<l.length+m ->
  Wi n m (vq X) e (e.length:Int) (l.length:Int) 0 (l.map B0) k0 k1=match Fl Kd (Ac X) (λ_=>0) (λ_=>0) (e.drop l.length) l with
   | .inl l'=>k1 (l'.map B0)
   | .inr c=>k0 c
 | 0,l,hs,hl,hm=>by omega
 | m+1,l,hs,hl,hm=>by
  rw [Ake];unfold Ze;rw [QE];by_cases h:l.length<e.length
  . obtain ⟨h1,h2⟩:=hp _ h
    rw [QC (by omega),A2 (by simp;omega),QM,J0 h,Fl]
    generalize hx:e.getD l.length (0,0,0,0)=x at h1 h2
    have hg:=Bbn (n:=n) (X:=X) (V:=V) h1 (λh=>⟨h2 h,by rw [hVX];exact h2 h⟩) (Bqe hs) (by omega) hn
    dsimp only
    rw [hg,A0,A2 (by simp)]
    generalize hq:Ak (Ac X) (λ_=>0) (λ_=>0) l x=q;by_cases hb:Dh l x
    . have hb':x.1=6/\(l.getD x.2.2.1.toNat (Q4.cst 0)).f=0:=hb;rw [QC hb,QC hb'];rfl
    . have hb':¬ (x.1=6/\(l.getD x.2.2.1.toNat (Q4.cst 0)).f=0):=hb;rw [QB hb,QB hb'];by_cases h8:x.1=8/\B6 ((l.getD x.2.1.toNat (Q4.cst 0)).f ^ x.2.2.2.toNat)=false
      . rw [QC h8]
        have:Kd q=false:=by
         unfold Kd;rw [<- hq,Xs h8.1,h8.2];rfl
        rw [this,QB (by simp)];rfl
      . rw [QB h8];show (ob (f180 n (jn q.f q.v)) λr_3=>_)=_;rw [Bhc hn,A0]
        show (bif (!Kd q) then k0 7 else _)=_
        cases hf:Kd q with
        | false=>rfl
        | true =>
         rw [ZJ,QP,A2 (by simp;omega),A8 (by omega) (by omega)]
         simp only [if_true]
         have:=Avn hp he hVX hn (k0:=k0) (k1:=k1) m (l++[q]) (λk hk=>by
          simp only [ZC,QY,ZM] at hk;rcases ZT k l.length with h3 | h3
          . rw [A05 h3];exact hs k h3
          . obtain rfl:k=l.length:=by omega
            rw [A06];exact hf) (by simp;omega) (by simp;omega)
         rw [ZC,YS] at this;exact this
  . have h0:l.length=e.length:=by omega
    rw [QB (by omega),ZB (by omega)]
    rfl

theorem Bhb {n:Nat} {X V:List Rat} {e:List Nod} (hp:allP e X.length) (he:e.length<=60) (hVX:V.length=X.length) (hn:68719476736<=n) :
  f113 n (0,()) e (vq X)=some (match Fl Kd (Ac X) (λ_=>0) (λ_=>0) e [] with
   | .inl l=>(l.map B0,0)
   | .inr c=>([],c)):=by
 unfold f113
 have:=Avn (n:=n) hp he hVX hn (k0:=λz_4=>(some (([],z_4):List Jn × Int))) (k1:=λz_5=>some (z_5,0)) n [] (by simp) (by simp) (by simp;omega)
 refine Eq.trans this ?_;rw [ZM,ZR]
 cases Fl Kd (Ac X) (λ_=>0) (λ_=>0) e [] <;> rfl

theorem Akx {x:Nod} {i:Int} (h:Fj x i):Bg x i:=by
 obtain ⟨h1,h2⟩:=h;unfold Bg Fc Aw;grind

theorem Ac4:∀ (r:List Nod) (bs ds:List Int) (p:List Int × List Int),Dv bs ds r=some p->∀ j,j<r.length->Bg (r.getD j (0,0,0,0)) ((bs.length+j:Nat):Int)
 | [],bs,ds,p,h,j,hj=>by simp at hj
 | x::r,bs,ds,p,h,j,hj=>by
  simp only [Dv] at h;split at h
  . rename_i hok
    cases j with
    | zero=>exact Akx hok.1
    | succ j =>
     have:=Ac4 r _ _ p h j (by simpa using hj)
     simp only [ZC,QY,ZM] at this;simp only [Qal]
     rw [show bs.length+(j+1)=bs.length+1+j by omega]
     exact this
  . cases h

theorem Ay0:∀ (l:List Nod) (s:Int),s<=H0 s l /\ ∀ x ∈ l,x.1=2->0<=x.2.2.2/\x.2.2.2<=3->x.2.2.2<H0 s l
 | [],s=>⟨JK _,λx h=>by simp at h⟩
 | y::l,s=>by
  obtain ⟨h1,h2⟩:=Ay0 l (if y.1=2 then max s (W (y.2.2.2+1)) else s)
  have e:H0 s (y::l)=H0 (if y.1=2 then max s (W (y.2.2.2+1)) else s) l:=rfl
  rw [e];refine ⟨Int.le_trans ?_ h1,λx hx hx2 hx3=>?_⟩
  . split <;> omega
  . rcases QX.1 hx with rfl | hx
    . rw [QC hx2,A8 (by omega) (by omega)] at h1 ⊢
      omega
    . exact h2 x hx hx2 hx3

def Zm (e:List Nod):Bool:=decide (1<=e.length/\e.length<=60)&&match Dv [] [] e with
 | none=>false
 | some (bs,ds)=>decide (bs.getD (e.length-1) 0=0)&&ds.all λx=>decide (x<=12)

theorem A3t {e:List Nod}:Zm e=true ↔ Gy e:=by
 unfold Zm Gy
 cases h:Dv [] [] e with
 | none=>simp
 | some p =>
  obtain ⟨bs,ds⟩:=p;simp only [QH,QO,QK]
  exact ⟨λ⟨h1,h2,h3⟩=>⟨h1,bs,ds,rfl,h2,h3⟩,λ⟨h1,b2,d2,hq,h2,h3⟩=>by
   obtain ⟨rfl,rfl⟩:=KF (QA hq)
   exact ⟨h1,h2,h3⟩⟩

def Abd (e:List Nod) (l:List Rt):Int:=if 4096<l.length then 2 else if Zm e=true/\H7 l=true then (if (l.length:Int)<H0 0 e then 8 else 0) else 1

open Classical in
theorem Avx {n:Nat} {e:List Nod} {l:List Rt} (hN:e.length<=1048576) (hn:1048577<=n):f67 n e l=some (Abd e l):=by
 unfold f67 f60 Abd
 rw [A56 (by simp) hn,A0,Axo hN hn,A0,D4,A0,A0,Ahg hn,A0,D4,A0,Gf (by simp) hn,A0]
 have hL:Xx [l]=decide (4096<l.length):=by simp [Xx]
 rw [hL]
 have hB:∀ d:Decidable (Gy e),@decide (Gy e) d=Zm e:=λd=>by
  cases hb:Zm e with
  | true=>exact QS (A3t.1 hb)
  | false=>exact QR λh=>by rw [A3t.2 h] at hb;cases hb
 rw [hB];by_cases h1:4096<l.length
 . simp only [h1,decide_true,if_true]
   rw [show Fw [2,if Zm e=true then 0 else 1,if H7 l=true then 0 else 1]=2 from rfl,show ((2:Int) != 0)=true from rfl,QW,D4,A0,Gf (by simp) hn];rfl
 . simp only [h1,decide_false,if_false,XG]
   cases h2:Zm e with
   | true =>
    cases h3:H7 l with
    | true =>
     simp only [if_true,and_self]
     rw [show Fw [0,0,0]=0 from rfl,show ((0:Int) != 0)=false from rfl,QP,Axk hN hn,A0,D4,A0,Gf (by simp) hn,A0]
     by_cases h4:(l.length:Int)<H0 0 e
     . rw [QC h4,QB (by simp;omega)];rfl
     . rw [QB h4,QC (by simp;omega)];rfl
    | false =>
     simp only [if_true,XG,if_false,and_false]
     rw [show Fw [0,0,1]=1 from rfl,show ((1:Int) != 0)=true from rfl,QW,D4,A0,Gf (by simp) hn];rfl
   | false =>
    simp only [if_false,XG,KI]
    rw [show ∀ b:Int,Fw [0,1,b]=1 from λ_=>rfl,show ((1:Int) != 0)=true from rfl,QW,D4,A0,Gf (by simp) hn];rfl

theorem B35 {l:List Rt} (h:H7 l=true):∃ X:List Rat,l=vq X/\Sv X 40/\1<=X.length/\X.length<=4:=by
 unfold H7 at h;simp only [QH,QO] at h;obtain ⟨X,rfl,hX⟩:=Bfa h.2;rw [Ba] at h;exact ⟨X,rfl,hX,h.1.1,h.1.2⟩

theorem Bqh {n:Nat} {x:Rat} {L:Nat} (h:Sz x L) (hL:L<=1000000000):f127 n (rq x)=some (rq x):=by
 obtain ⟨h1,h2⟩:=h;unfold f127
 rw [A2 (by show decide ((0+(dg x.num.natAbs).length)*8<=_)=true;simp;omega),A2 (by show decide ((0+(dg x.den).length)*8<=_)=true;simp;omega)]

theorem Bqu:B6 0=true:=Cp.2 (Bi.mono (by omega))

def P5 (x v:List Rt):Int:=if H7 v=true then (if v.length=x.length then 0 else 8) else 1

def slopC (e:List Nod) (x v:List Rt):Int:=if 4096<x.length \/ 4096<v.length then 2 else if Abd e x ≠ 0 then Abd e x else P5 x v

theorem Avw {n:Nat} {x v:List Rt} (hn:1048577<=n):f72 n x v=some (P5 x v):=by
 unfold f72 P5
 rw [Ahg hn,A0,D4,A0,D4,A0,Gf (by simp) hn,A0]
 cases h1:H7 v with
 | false=>rfl
 | true =>
  simp only [if_true];by_cases h2:v.length=x.length
  . rw [QC h2,QC (by simp [h2])];rfl
  . rw [QB h2,QB (by simp;omega)];rfl

theorem Bbb {x v:List Rt}:Xx [x,v]=decide (4096<x.length \/ 4096<v.length):=by
 unfold Xx;by_cases h1:4096<x.length <;> by_cases h2:4096<v.length <;> simp [h1,h2]

theorem Ayx {n:Nat} {e:List Nod} {x v:List Rt} (hN:e.length<=1048576) (hn:1048577<=n) {α:Type} {k:Int->Option α} :
  (ob (f71 n [x,v]) λr_1=>ob (f67 n e x) λr_2=>ob (f72 n x v) λr_3=>ob (f70 n [r_1,r_2,r_3]) λr_4=>k r_4)=k (slopC e x v):=by
 rw [A56 (by simp) hn,A0,Avx hN hn,A0,Avw hn,A0,Gf (by simp) hn,A0,Bbb]
 congr 1;unfold slopC Fw Fw Fw;by_cases h1:4096<x.length \/ 4096<v.length
 . simp [h1]
 . simp only [h1,decide_false,if_false,XG,if_true];by_cases h2:Abd e x=0
   . simp only [h2,if_true,not_true_eq_false,ne_eq,if_false];unfold Fw;split <;> simp_all
   . simp [h2]

def hasN (l:List Nod) (x:Nod):Bool:=l.any λy=>decide (y=x)

theorem B48 {x y:Nod}:(x.1==y.1&&(x.2.1==y.2.1&&(x.2.2.1==y.2.2.1&&(x.2.2.2==y.2.2.2&&true))))=decide (y=x):=by
 obtain ⟨a,b,c,d⟩:=x;obtain ⟨a',b',c',d'⟩:=y;by_cases h:(a',b',c',d')=(a,b,c,d)
 . obtain ⟨rfl,rfl,rfl,rfl⟩:a'=a/\b'=b/\c'=c/\d'=d:=by simpa using h
   simp
 . rw [QR h];simp only [XR,Bool.and_eq_false_iff,beq_eq_false_iff_ne];by_cases h1:a=a'
   . by_cases h2:b=b'
     . by_cases h3:c=c'
       . exact .inr (.inr (.inr λh4=>h (by rw [h1,h2,h3,h4])))
       . exact .inr (.inr (.inl h3))
     . exact .inr (.inl h2)
   . exact .inl h1

theorem Apd {n:Nat} {l:List Nod} {x:Nod} (hl:l.length<=1048576):∀ (m i:Nat),i<=l.length->l.length<i+m ->
  ∃ r:Int,S2 n m l (l.length:Int) (i:Int) x.1 x.2.1 x.2.2.1 x.2.2.2 (λz_2=>some z_2) (λ(_:Unit)=>some (-1))=some r/\(decide (r>=0))=hasN (l.drop i) x
 | 0,i,hi,hm=>by omega
 | m+1,i,hi,hm=>by
  rw [A8d];unfold Vn;rw [QE];by_cases h:i<l.length
  . have e:l.drop i=l.getD i (0,0,0,0)::l.drop (i+1):=J0 h
    rw [QC (by omega),A2 (by simp;omega),QM,e]
    dsimp only;rw [B48,QE];unfold hasN;by_cases h1:l.getD i (0,0,0,0)=x
    . rw [QC h1]
      exact ⟨_,rfl,by rw [JH,QS h1,QS (by omega)];rfl⟩
    . rw [QB h1,A8 (by omega) (by omega)]
      obtain ⟨r,h2,h3⟩:=Apd (n:=n) (x:=x) hl m (i+1) (by omega) (by omega)
      exact ⟨r,h2,by rw [h3,JH,QR h1];rfl⟩
  . rw [QB (by omega),ZB (by omega)]
    exact ⟨-1,rfl,rfl⟩

theorem Bi7 {n:Nat} {l:List Nod} {x:Nod} (hl:l.length<=1048576) (hn:1048577<=n):f218 n l x=some (hasN l x):=by
 obtain ⟨r,h1,h2⟩:=Apd (n:=n) (x:=x) hl n 0 (by omega) (by omega)
 unfold f218 f62;have h1:S2 n n l (l.length:Int) 0 x.1 x.2.1 x.2.2.1 x.2.2.2 _ _=_:=h1;rw [h1,A0,h2,ZR]

theorem Aji {n:Nat} {l:List Nod} {x:Nod} (hl:l.length<=1048576):∀ (m i:Nat),i<=l.length->l.length<i+m ->
  ∃ r:Int,A5q n m l (i:Int) x.1 x.2.1 x.2.2.1 x.2.2.2 (λz_2=>some z_2) (λ(_:Unit)=>some (-1))=some r/\(decide (r>=0))=hasN (l.drop i) x
 | 0,i,hi,hm=>by omega
 | m+1,i,hi,hm=>by
  rw [B77];unfold A9o;rw [QE];by_cases h:i<l.length
  . have e:l.drop i=l.getD i (0,0,0,0)::l.drop (i+1):=J0 h
    rw [QC (by omega),A2 (by simp;omega),QM,e]
    dsimp only
    have:∀ y:Nod,(y.1==x.1&&(y.2.1==x.2.1&&(y.2.2.1==x.2.2.1&&(y.2.2.2==x.2.2.2&&true))))=decide (y=x):=λy=>by rw [B48];exact decide_eq_decide.2 ⟨Eq.symm,Eq.symm⟩
    rw [this,QE];unfold hasN;by_cases h1:l.getD i (0,0,0,0)=x
    . rw [QC h1]
      exact ⟨_,rfl,by rw [JH,QS h1,QS (by omega)];rfl⟩
    . rw [QB h1,A8 (by omega) (by omega)]
      obtain ⟨r,h2,h3⟩:=Aji (n:=n) (x:=x) hl m (i+1) (by omega) (by omega)
      exact ⟨r,h2,by rw [h3,JH,QR h1];rfl⟩
  . rw [QB (by omega),ZB (by omega)]
    exact ⟨-1,rfl,rfl⟩

theorem Biu {n:Nat} {x:Nod} {i:Int} (hi:0<=i/\i<1152921504606846976):f182 n x i=some (decide (Bg x i)):=by
 obtain ⟨op,A,B,N⟩:=x;unfold f182
 simp only [Ho,Ky,A0,Kw,N8,Bin hi,A8 (x:=i-1) (by omega) (by omega),XE,QO,KU]
 have e:W (8*(if op=8 then 1 else 0))=if op=8 then 8 else 0:=by
  by_cases h:op=8 <;> simp [h] <;> exact A8 (by omega) (by omega)
 unfold Bg Fj Fc Aw;dsimp only;by_cases h1:3<=op/\op<=6
 . obtain h | h | h | h:op=3 \/ op=4 \/ op=5 \/ op=6:=by omega
   all_goals (subst h;simp;grind)
 . by_cases h2:op=7 \/ op=8
   . rcases h2 with h | h
     . subst h
       rw [QB (by omega),QC (by simp),e]
       by_cases a1:0<=A/\A<=i-1
       . by_cases a2:B=0
         . simp [a1,a2]
           rw [<- Bool.decide_and];exact decide_eq_decide.2 (by omega)
         . simp [a1,a2]
       . simp [a1]
     . subst h
       rw [QB (by omega),QC (by simp),e]
       by_cases a1:0<=A/\A<=i-1
       . by_cases a2:B=0
         . simp [a1,a2]
         . simp [a1,a2]
       . simp [a1]
   . simp only [QB h1,QB h2];congr 1;apply decide_eq_decide.2;grind

theorem Bd3 {n:Nat} {l:List Nod} {x:Nod} (hl:l.length<=1048576) (hn:1048577<=n):∃ r:Int,f183 n l x=some r/\decide (r>=0)=hasN l x:=by
 obtain ⟨r,h1,h2⟩:=Aji (n:=n) (x:=x) hl n 0 (by omega) (by omega)
 exact ⟨r,h1,by rw [h2,ZR]⟩

def An8 (e:List Nod) (k:Nat):Bool:=decide (Bg (e.getD k (0,0,0,0)) k) && !hasN (e.take k) (e.getD k (0,0,0,0))

def Nt (e:List Nod):Nat->Nat->Bool
 | _,0=>true
 | k,c+1=>An8 e k&&Nt e (k+1) c

def L9 (e:List Nod) (o:Int):Bool:=decide (1<=e.length/\e.length<=60)&&(o==(e.length:Int)-1&&Nt e 0 e.length)

theorem Aja {α:Type} {n:Nat} {e:List Nod} {o:Int} (hl:e.length<=1000) (hn:1048577<=n) {k0:Bool->Option α} {k1:Unit->Option α}:∀ (m i:Nat),i<=e.length->e.length<i+m ->
  A5l n m e (e.length:Int) (i:Int) e o k0 k1=bif Nt e i (e.length-i) then k1 () else k0 false
 | 0,i,hi,hm=>by omega
 | m+1,i,hi,hm=>by
  rw [B6r];unfold A93;rw [QE];by_cases h:i<e.length
  . obtain ⟨q,hq⟩:∃ q,e.length-i=q+1:=⟨e.length-i-1,by omega⟩
    have hq2:e.length-(i+1)=q:=by omega
    rw [QC (by omega),A2 (by simp;omega),QM,hq]
    dsimp only
    rw [Awc (by omega),A0,A2 (by simp;omega)]
    simp only [ZR,KZ]
    rw [Bi7 (by simp;omega) hn,A0,A8 (by omega) (by omega)]
    unfold Nt An8
    cases decide (Bg (e.getD i (0,0,0,0)) i) with
    | false=>rfl
    | true =>
     cases hasN (e.take i) (e.getD i (0,0,0,0)) with
     | true=>rfl
     | false =>
      have:=Aja hl hn (o:=o) (k0:=k0) (k1:=k1) m (i+1) (by omega) (by omega)
      rw [hq2] at this;exact this
  . rw [QB (by omega),show e.length-i=0 by omega];rfl

theorem Akb {α:Type} {n:Nat} {e:List Nod} {o:Int} (hl:e.length<=1000) (hn:1048577<=n) {k0:Bool->Option α} {k1:Unit->Option α}:∀ (m i:Nat),i<=e.length->e.length<i+m ->
  A69 n m (i:Int) e o k0 k1=bif Nt e i (e.length-i) then k1 () else k0 false
 | 0,i,hi,hm=>by omega
 | m+1,i,hi,hm=>by
  rw [B90];unfold Ab5;rw [QE];by_cases h:i<e.length
  . obtain ⟨q,hq⟩:∃ q,e.length-i=q+1:=⟨e.length-i-1,by omega⟩
    have hq2:e.length-(i+1)=q:=by omega
    rw [QC (by omega),A2 (by simp;omega),QM,hq]
    dsimp only
    rw [Biu (by omega),A0,A2 (by simp;omega),A2 (by simp;omega)]
    simp only [ZR,KZ]
    obtain ⟨r,h1,h2⟩:=Bd3 (n:=n) (l:=e.take i) (x:=e.getD i (0,0,0,0)) (by simp;omega) hn
    rw [h1,A0,h2,A8 (by omega) (by omega)]
    unfold Nt An8
    cases decide (Bg (e.getD i (0,0,0,0)) i) with
    | false=>rfl
    | true =>
     cases hasN (e.take i) (e.getD i (0,0,0,0)) with
     | true=>rfl
     | false =>
      have:=Akb hl hn (o:=o) (k0:=k0) (k1:=k1) m (i+1) (by omega) (by omega)
      rw [hq2] at this;exact this
  . rw [QB (by omega),show e.length-i=0 by omega];rfl

theorem Bif {n:Nat} {e:List Nod} {o:Int} (hN:e.length<=1048576) (hn:1048577<=n):f201 n (e,o)=some (L9 e o):=by
 unfold f201 L9;dsimp only;rw [Vz,A0];by_cases h1:(1:Int)<=(e.length:Int)/\(e.length:Int)<=60
 . rw [QS h1,QS (show 1<=e.length/\e.length<=60 by omega),A8 (by omega) (by omega)]
   simp only [ZJ,QP,ZZ]
   cases ho:(o==(e.length:Int)-1) with
   | false=>rw [show (o != (e.length:Int)-1)=true by rw [bne,ho];rfl];rfl
   | true =>
    rw [show (o != (e.length:Int)-1)=false by rw [bne,ho];rfl,QP]
    have:=Aja (n:=n) (e:=e) (o:=o) (by omega) hn (k0:=λz_5=>some z_5) (k1:=λ(_:Unit)=>some true) n 0 (by omega) (by omega)
    refine Eq.trans this ?_;rw [KZ]
    cases Nt e 0 e.length <;> rfl
 . rw [QR h1,QR (show ¬ (1<=e.length/\e.length<=60) by omega)];rfl

theorem Bkg {n:Nat} {e:List Nod} {o:Int} (hN:e.length<=1048576) (hn:1048577<=n):f115 n (e,o)=some (L9 e o):=by
 unfold f115 L9;dsimp only;rw [Kw,A0];by_cases h1:(1:Int)<=(e.length:Int)/\(e.length:Int)<=60
 . rw [QS h1,QS (show 1<=e.length/\e.length<=60 by omega),A8 (by omega) (by omega)]
   simp only [ZJ,QP,ZZ]
   cases ho:(o==(e.length:Int)-1) with
   | false=>rw [show (o != (e.length:Int)-1)=true by rw [bne,ho];rfl];rfl
   | true =>
    rw [show (o != (e.length:Int)-1)=false by rw [bne,ho];rfl,QP]
    have:=Akb (n:=n) (e:=e) (o:=o) (by omega) hn (k0:=λz_5=>some z_5) (k1:=λ(_:Unit)=>some true) n 0 (by omega) (by omega)
    refine Eq.trans this ?_;rw [KZ]
    cases Nt e 0 e.length <;> rfl
 . rw [QR h1,QR (show ¬ (1<=e.length/\e.length<=60) by omega)];rfl

theorem An7 {e:List Nod}:∀ {c k j:Nat},Nt e k c=true->k<=j->j<k+c->An8 e j=true
 | 0,k,j,h,h1,h2=>by omega
 | c+1,k,j,h,h1,h2=>by
  simp only [Nt,QH] at h;rcases JA h1 with h3 | h3
  . exact An7 h.2 (by omega) (by omega)
  . subst h3;exact h.1

theorem Bar {e:List Nod} {o d:Int} (h:L9 e o=true) (hd:H0 0 e<=d):allP e d/\1<=e.length/\e.length<=60/\o=(e.length:Int)-1:=by
 unfold L9 at h;simp only [QH,QO,KU] at h;obtain ⟨h1,h2,h3⟩:=h;refine ⟨λk hk=>?_,h1.1,h1.2,h2⟩
 have hs:=An7 h3 (KJ k) (by omega)
 unfold An8 at hs;simp only [QH,QO] at hs;have hp:=hs.1;refine ⟨hp,λh2=>?_⟩
 have hm:e.getD k (0,0,0,0) ∈ e:=by
  rw [QJ,QN hk];exact KX hk
 have:=(Ay0 e 0).2 _ hm h2 (by have:=hp.2.1;unfold Fc at this;rw [QB (by omega),QC h2] at this;exact this)
 omega

theorem Aic {α:Type} {n L k:Nat} {x:Rat} (hx:Sz x L) (hL:L<=1000) (hk:k<=10) (hn:68719476736<=n) {k0:Bool->Bool->List Int->List Int->Option α}:∀ (m i:Nat),i<=k->k<i+m ->
  A65 n m (k:Int) (i:Int) (rq x).1 (rq x).2.1 (rq x).2.2 false (rq (x ^ i)).1 (rq (x ^ i)).2.1 (rq (x ^ i)).2.2 k0=k0 false (rq (x ^ k)).1 (rq (x ^ k)).2.1 (rq (x ^ k)).2.2
 | 0,i,hi,hm=>by omega
 | m+1,i,hi,hm=>by
  rw [B8i];unfold Aan;rw [QE];by_cases h:i<k
  . have l1:L*i<=L*10:=XI _ (by omega)
    rw [QC (by omega)]
    show (ob (f140 n (rq (x ^ i)) (rq x)) λr_2=>_)=_
    rw [H9 (Ey hx i) hx (by omega) hn,A0,A8 (by omega) (by omega),<- Rat.pow_succ]
    exact Aic hx hL hk hn m (i+1) (by omega) (by omega)
  . obtain rfl:i=k:=by omega
    rw [QB (by omega)]

theorem Az1 {n L k:Nat} {x:Rat} (hx:Sz x L) (hL:L<=1000) (hk:k<=10) (hn:68719476736<=n):f144 n (rq x) (k:Int)=some (rq (x ^ k)):=by
 unfold f144;rw [sW1 hn,A0]
 have:=Aic (n:=n) hx hL hk hn (k0:=λz_3 z_4 z_5 z_6=>some ((z_4,z_5,z_6):Rt)) n 0 (by omega) (by omega)
 rw [Rat.pow_zero] at this;exact this

theorem div_one {x y:Rat}:x / y=x*(1 / y):=by rw [Rat.div_def,Rat.div_def,Rat.one_mul]

def Pc (q:Q4):Bool:=B6 q.f

def fq (q:Q4):Rt:=rq q.f

theorem Jq {l:List Q4} {k:Nat} (h:k<l.length):(l.map fq).getD k (false,[],[])=rq (l.getD k (Q4.cst 0)).f:=by
 simp [QJ,QN h,fq]

theorem B37 {α:Type} {n:Nat} {X:List Rat} {e:List Nod} {o:Int} {l:List Q4} {x:Nod} (hx:Bg x l.length) (he:e.getD l.length (0,0,0,0)=x) (hl:l.length<e.length) (hl2:l.length<=1000) (hd:x.1=2->x.2.2.2<X.length)
  (hs:∀ k,k<l.length->Sz (l.getD k (Q4.cst 0)).f 40) (hX:Sv X 40) (hn:68719476736<=n)
  {f:List Rt->Int->List Nod->Int->List Rt->Option α} {k0:List Rt->Int->Option α} {k1:List Rt->Option α} :
  Vm n (vq X) (l.length:Int) e o (l.map fq) f k0 k1 =
   if Dh l x then k0 [] 10 else if Pc (Ak (Ac X) (λ_=>0) (λ_=>0) l x)=true then f (vq X) ((l.length+1:Nat):Int) e o ((l++[Ak (Ac X) (λ_=>0) (λ_=>0) l x]).map fq) else k0 [] 7:=by
 have J : ∀ q : Q4, (ob (f145 n (rq q.f)) fun r_25 =>
       bif (!r_25) then
        k0 [] 7
       else
        ob (f127 n (rq q.f)) λr_26 =>
        gd (decide (((l.map fq).length+1)*56<=140737488355328)) (
         f (vq X) (W ((l.length:Int)+1)) e o (l.map fq++[r_26])))=if Pc q=true then f (vq X) ((l.length+1:Nat):Int) e o ((l++[q]).map fq) else k0 [] 7:=by
  intro q
  rw [Ayz,A0,A8 (by omega) (by omega)]
  unfold Pc
  cases hf:B6 q.f with
  | false=>rfl
  | true =>
   rw [ZJ,QP,Bqh (Cp.1 hf) (by omega),A0,A2 (by simp;omega),YS]
   simp only [if_true];rfl
 obtain ⟨op,A,B,N⟩:=x;obtain ⟨⟨o1,o2⟩,hN,hA,hB⟩:=hx;unfold Vm Dh
 rw [QE,QC (by omega),A2 (by simp;omega),QM,he]
 unfold Fc at hN;unfold Aw at hA hB;unfold Ak
 have hNb:N.natAbs<=1000000000:=by
  dsimp only at hN;split at hN
  . omega
  . split at hN
    . omega
    . split at hN <;> omega
 dsimp only at *
 rw [Lb (by omega) (by omega),A0]
 obtain rfl | rfl | rfl | rfl | rfl | rfl | rfl | rfl:op=1 \/ op=2 \/ op=3 \/ op=4 \/ op=5 \/ op=6 \/ op=7 \/ op=8:=by omega
 all_goals simp only [Int.reduceEq,JL,or_true,true_or,if_false,if_true,Int.reduceBEq,QW,QP,Int.reduceLT,gt_iff_lt,decide_true,decide_false,KI,Qaf] at *
 . exact J (Q4.cst (N:Rat))
 . have hd:=hd trivial
   rw [Ba,A2 (by simp;omega),Cc (by omega)]
   exact J ⟨Ac X N.toNat,0,0,0⟩
 all_goals (have lA:A.toNat<l.length:=by omega)
 . have lB:B.toNat<l.length:=by omega
   rw [ZA,A2 (by simp;omega),A2 (by simp;omega),A2 (by simp;omega),A2 (by simp;omega),Jq lA,Jq lB,Tx (hs _ lA) (hs _ lB) (by omega) hn,A0]
   have:=J (Q4.add (l.getD A.toNat (Q4.cst 0)) (l.getD B.toNat (Q4.cst 0)));rw [ZA] at this;exact this
 . have lB:B.toNat<l.length:=by omega
   rw [ZA,A2 (by simp;omega),A2 (by simp;omega),A2 (by simp;omega),A2 (by simp;omega),Jq lA,Jq lB,sLs (hs _ lA) (hs _ lB) (by omega) hn,A0,Rat.sub_eq_add_neg]
   have:=J (Q4.add (l.getD A.toNat (Q4.cst 0)) (Q4.neg (l.getD B.toNat (Q4.cst 0))));rw [ZA] at this;exact this
 . have lB:B.toNat<l.length:=by omega
   rw [ZA,A2 (by simp;omega),A2 (by simp;omega),A2 (by simp;omega),A2 (by simp;omega),Jq lA,Jq lB,H9 (hs _ lA) (hs _ lB) (by omega) hn,A0]
   have:=J (Q4.mul (l.getD A.toNat (Q4.cst 0)) (l.getD B.toNat (Q4.cst 0)));rw [ZA] at this;exact this
 . have lB:B.toNat<l.length:=by omega
   rw [ZA,A2 (by simp;omega),A2 (by simp;omega),Jq lB,show f141 n (rq (l.getD B.toNat (Q4.cst 0)).f)=some (decide ((l.getD B.toNat (Q4.cst 0)).f=0)) from Bli,A0,QE]
   by_cases h0:(l.getD B.toNat (Q4.cst 0)).f=0
   . rw [QC h0,QC h0]
   . rw [QB h0,QB h0,A2 (by simp;omega),A2 (by simp;omega),A2 (by simp;omega),A2 (by simp;omega),Jq lA,sOv (hs _ lA) (hs _ lB) h0 (by omega) hn,A0,div_one]
     have:=J (Q4.mul (l.getD A.toNat (Q4.cst 0)) (Q4.inv (l.getD B.toNat (Q4.cst 0))));rw [ZA] at this;exact this
 . rw [ZA,A2 (by simp;omega),A2 (by simp;omega),Jq lA,Ac3,A0]
   have:=J (Q4.neg (l.getD A.toNat (Q4.cst 0)));rw [ZA] at this;exact this
 . obtain ⟨N',rfl⟩:∃ N':Nat,N=(N':Int):=⟨N.toNat,by omega⟩
   rw [ZA,A2 (by simp;omega),A2 (by simp;omega),Jq lA,Az1 (hs _ lA) (by omega) (by omega) hn,A0,QM]
   have:=J (Q4.pow (l.getD A.toNat (Q4.cst 0)) N');rw [ZA,Q4.pow_eq] at this;rw [Q4.pow_eq];exact this

theorem Amv {α:Type} {n:Nat} {X:List Rat} {e:List Nod} {o:Int} (hp:allP e X.length) (he:e.length<=60) (hX:Sv X 40) (hn:68719476736<=n)
  {k0:List Rt->Int->Option α} {k1:List Rt->Option α}:∀ (m:Nat) (l:List Q4),(∀ k,k<l.length->Sz (l.getD k (Q4.cst 0)).f 40)->l.length<=e.length->e.length<l.length+m ->
  Acz n m (vq X) (l.length:Int) e o (l.map fq) k0 k1=match Fl Pc (Ac X) (λ_=>0) (λ_=>0) (e.drop l.length) l with
   | .inl l'=>k1 (l'.map fq)
   | .inr c=>k0 [] c
 | 0,l,hs,hl,hm=>by omega
 | m+1,l,hs,hl,hm=>by
  rw [Bcb];by_cases h:l.length<e.length
  . obtain ⟨h1,h2⟩:=hp _ h
    rw [B37 h1 rfl h (by omega) h2 hs hX hn,J0 h,Fl]
    by_cases hb:Dh l (e.getD l.length (0,0,0,0))
    . rw [QC hb,QC hb]
    . rw [QB hb,QB hb];generalize hq:Ak (Ac X) (λ_=>0) (λ_=>0) l (e.getD l.length (0,0,0,0))=q;by_cases hf:Pc q=true
      . rw [QC hf,QC hf]
        have:=Amv hp he hX hn (o:=o) (k0:=k0) (k1:=k1) m (l++[q]) (λk hk=>by
         simp only [ZC,QY,ZM] at hk;rcases ZT k l.length with h3 | h3
         . rw [A05 h3];exact hs k h3
         . obtain rfl:k=l.length:=by omega
           rw [A06];exact Cp.1 hf) (by simp;omega) (by simp;omega)
        rw [ZC] at this;exact this
      . rw [QB hf,QB hf]
  . have h0:l.length=e.length:=by omega
    unfold Vm
    rw [QE,QB (by omega),ZB (by omega)]
    rfl

theorem Bam {n:Nat} {X:List Rat} {e:List Nod} {o:Int} (hp:allP e X.length) (he:e.length<=60) (hX:Sv X 40) (hn:68719476736<=n) :
  f88 n (e,o) (vq X)=some (match Fl Pc (Ac X) (λ_=>0) (λ_=>0) e [] with
   | .inl l=>(l.map fq,0)
   | .inr c=>([],c)):=by
 unfold f88
 have:=Amv (n:=n) (o:=o) hp he hX hn (k0:=λz_28 z_29=>some ((z_28,z_29):List Rt × Int)) (k1:=λz_30=>some (z_30,0)) n [] (by simp) (by simp) (by simp;omega)
 refine Eq.trans this ?_;rw [ZM,ZR]
 cases Fl Pc (Ac X) (λ_=>0) (λ_=>0) e [] <;> rfl

def Gj (e:List Nod) (o:Int) (l:List Rt):Int:=if 4096<l.length then 2 else if L9 e o=true/\H7 l=true then (if (l.length:Int)<H0 0 e then 8 else 0) else 1

theorem Afw {n:Nat} {e:List Nod} {o:Int} {l:List Rt} (hN:e.length<=1048576) (hn:1048577<=n):f96 n (e,o) l=some (Gj e o l):=by
 unfold f96 f149 Gj
 rw [A56 (by simp) hn,A0,Bif hN hn,A0,D4,A0,A0,Ahg hn,A0,D4,A0,Gf (by simp) hn,A0]
 have hL:Xx [l]=decide (4096<l.length):=by simp [Xx]
 rw [hL];by_cases h1:4096<l.length
 . simp only [h1,decide_true,if_true]
   rw [show Fw [2,if L9 e o=true then 0 else 1,if H7 l=true then 0 else 1]=2 from rfl,show ((2:Int) != 0)=true from rfl,QW,D4,A0,Gf (by simp) hn];rfl
 . simp only [h1,decide_false,if_false,XG]
   cases h2:L9 e o with
   | true =>
    cases h3:H7 l with
    | true =>
     simp only [if_true,and_self]
     rw [show Fw [0,0,0]=0 from rfl,show ((0:Int) != 0)=false from rfl,QP,Axk hN hn,A0,D4,A0,Gf (by simp) hn,A0]
     by_cases h4:(l.length:Int)<H0 0 e
     . rw [QC h4,QB (by simp;omega)];rfl
     . rw [QB h4,QC (by simp;omega)];rfl
    | false =>
     simp only [if_true,XG,if_false,and_false]
     rw [show Fw [0,0,1]=1 from rfl,show ((1:Int) != 0)=true from rfl,QW,D4,A0,Gf (by simp) hn];rfl
   | false =>
    simp only [if_false,XG,KI]
    rw [show ∀ b:Int,Fw [0,1,b]=1 from λ_=>rfl,show ((1:Int) != 0)=true from rfl,QW,D4,A0,Gf (by simp) hn];rfl

theorem Avy {n:Nat} {e:List Nod} {o:Int} {l:List Rt} (hN:e.length<=1048576) (hn:1048577<=n):f65 n (e,o) l=some (Gj e o l):=by
 unfold f65 f117 Gj;rw [QE];by_cases h1:4096<l.length
 . rw [QC (by omega),QC h1]
 . rw [QB (by omega),QB h1,Bkg hN hn,A0]
   dsimp only
   cases h2:L9 e o with
   | true =>
    simp only [ZJ,QP];rw [Ahj hn,A0]
    cases h3:H7 l with
    | true =>
     simp only [ZJ,QP,and_self,if_true];rw [Bk7 hN hn,A0,A0,QE];by_cases h4:(l.length:Int)<H0 0 e
     . rw [QC h4,QC h4]
     . rw [QB h4,QB h4]
    | false=>simp
   | false=>simp

theorem Wt {e:List Nod} {o:Int} {l:List Rt} (h:Gj e o l=0):L9 e o=true/\H7 l=true/\H0 0 e<=l.length/\l.length<=4096:=by
 unfold Gj at h;split at h
 . omega
 . split at h
   . rename_i h1;split at h
     . omega
     . exact ⟨h1.1,h1.2,by omega,by omega⟩
   . omega

theorem Bki {n i:Nat} {l:List Q4} (h:i<l.length):f114 n (i:Int) (l.map B0)=some (rq (l.getD i (Q4.cst 0)).f):=by
 unfold f114
 rw [ZA,A2 (by simp;omega),QM,Aoh h];rfl

theorem Bhn {l:List Q4} {i:Nat} (h:i<l.length):(l.take (i+1)).map fq=(l.take i).map fq++[rq (l.getD i (Q4.cst 0)).f]:=by
 rw [KA h,YS,QJ,QN h];rfl

theorem Akg {α:Type} {n:Nat} {l:List Q4} (hl:l.length<=60) (hs:∀ k,k<l.length->Sz (l.getD k (Q4.cst 0)).f 40) {k0:List Rt->Option α}:∀ (m i:Nat),i<=l.length->l.length<i+m ->
  O3 n m (l.map B0) (l.length:Int) (i:Int) ((l.take i).map fq) k0=k0 (l.map fq)
 | 0,i,hi,hm=>by omega
 | m+1,i,hi,hm=>by
  rw [Al3];unfold Td;rw [QE];by_cases h:i<l.length
  . rw [QC (by omega),Bki h,A0,Avr (hs i h) (by omega),A0,A2 (by simp;omega),A8 (by omega) (by omega),<- Bhn h]
    exact Akg hl hs m (i+1) (by omega) (by omega)
  . rw [QB (by omega),XS (by omega)]

theorem Bks {n:Nat} {l:List Q4} (hl:l.length<=60) (hs:∀ k,k<l.length->Sz (l.getD k (Q4.cst 0)).f 40) (hn:1048577<=n):Zi n (l.length:Int) (l.map B0)=some (l.map fq):=by
 unfold Zi
 have:=Akg (n:=n) hl hs (k0:=λz_3=>some z_3) n 0 (by omega) (by omega)
 exact this

theorem Bb0 (x:Nat->Rat):Ea x (λ_:Bool=>λ_=>0) (λ_:Bool=>λ_=>0) (λp=>(p true).f=(p false).f/\(p false).v=0):=by
 refine ⟨λ_=>⟨rfl,rfl⟩,λ_=>⟨rfl,rfl⟩,?_,?_,?_,?_⟩
 . rintro p q ⟨h1,h2⟩ ⟨g1,g2⟩
   simp only [Q4.add,h1,h2,g1,g2]
   exact ⟨trivial,by grind⟩
 . rintro p ⟨h1,h2⟩
   simp only [Q4.neg,h1,h2]
   exact ⟨trivial,by grind⟩
 . rintro p q ⟨h1,h2⟩ ⟨g1,g2⟩
   simp only [Q4.mul,h1,h2,g1,g2]
   exact ⟨trivial,by grind⟩
 . rintro p ⟨h1,h2⟩
   simp only [Q4.inv,h1,h2]
   exact ⟨trivial,by grind⟩

theorem B4g {l m:List Q4} (h:l.length=m.length) (hk:∀ k,(l.getD k (Q4.cst 0)).f=(m.getD k (Q4.cst 0)).f):l.map fq=m.map fq:=by
 apply Qbg
 . simp [h]
 . intro i h1 h2;simp only [ZA] at h1 h2;have:=hk i;simp only [QJ,QN h1,QN h2,YN] at this;simp only [List.getElem_map,fq,this]

theorem Baq {X:List Rat} {e:List Nod}:(∃ c,Fl Pc (Ac X) (λ_=>0) (λ_=>0) e [] = .inr c/\Fl Kd (Ac X) (λ_=>0) (λ_=>0) e [] = .inr c/\c ≠ 0) \/
  ∃ l m,Fl Pc (Ac X) (λ_=>0) (λ_=>0) e [] = .inl l/\Fl Kd (Ac X) (λ_=>0) (λ_=>0) e [] = .inl m/\m.length=e.length/\l.map fq=m.map fq /\ ∀ k,k<m.length->Sz (m.getD k (Q4.cst 0)).f 40:=by
 rcases Beg (Bb0 (Ac X)) (f:=Pc) (g:=Kd) (λp hp=>by
   obtain ⟨h1,h2⟩:=hp;unfold Pc Kd
   rw [h1,h2,Bqu];simp) (λp hp=>hp.1) e with ⟨c,h1,h2⟩ | ⟨l,m,h1,h2,h3,h4,h5⟩
 . exact .inl ⟨c,h1,h2,by rcases As8 _ _ _ h1 with rfl | rfl <;> decide⟩
 . refine .inr ⟨l,m,h1,h2,h4,B4g (by omega) (λk=>(h5 k).1),λk hk=>?_⟩
   have:=(A6e e [] m (λk hk=>by simp at hk) h2).1 k hk
   unfold Kd at this;simp only [QH,Cp] at this;exact this.1

def Pm (F:List Rat) (k:Nat):Rat:=F.getD k 0

def A4s (p:Pt):Rt × Rt × Rt × Rt:=(rq p.a,rq p.b,rq p.da,rq p.db)

theorem B3m {n K k:Nat} {F D:List Rat} {x:Nod} (hx:Bg x k) (hF:F.length=k \/ k<=F.length) (hD:k<=D.length) (sF:Sv F 40) (sD:Sv D K) (hK:K<=10000000) (h6:x.1=6->Pm F x.2.2.1.toNat ≠ 0) (hn:68719476736<=n) :
  f148 n x (vq F) (vq D)=some (A4s (Bu (Pm F) (Pm D) x)):=by
 have hF:k<=F.length:=by omega
 obtain ⟨op,A,B,N⟩:=x;obtain ⟨⟨o1,o2⟩,hN,hA,hB⟩:=hx;unfold f148 Bu A4s;rw [sW0 hn,A0,sW1 hn,A0];unfold Fc at hN;unfold Aw at hA hB;dsimp only at *
 obtain rfl | rfl | rfl | rfl | rfl | rfl | rfl | rfl:op=1 \/ op=2 \/ op=3 \/ op=4 \/ op=5 \/ op=6 \/ op=7 \/ op=8:=by omega
 all_goals simp only [Int.reduceEq,JL,or_true,true_or,if_false,if_true,Int.reduceBEq,QW,QP,Int.reduceLT,gt_iff_lt] at *
 . rw [show f131 n (-1)=some (rq (-1)) from Lb (a:=-1) (by omega) (by omega),A0]
 . have lA:A.toNat<k:=by omega
   have lB:B.toNat<k:=by omega
   rw [Ba,Ba,A2 (by simp;omega),A2 (by simp;omega),A2 (by simp;omega),A2 (by simp;omega),Cc (by omega),Cc (by omega),Cc (by omega),Cc (by omega)];rfl
 . have lA:A.toNat<k:=by omega
   have lB:B.toNat<k:=by omega
   have h6:=h6 trivial
   have fA:=sF.get (show A.toNat<F.length by omega)
   have fB:=sF.get (show B.toNat<F.length by omega)
   have dA:=sD.get (show A.toNat<D.length by omega)
   have dB:=sD.get (show B.toNat<D.length by omega)
   have r:=P0 fB h6;have r2:=A7 r r;have r3:=A7 r2 r
   have k2:Sz 2 1:=A4a (c:=2) (by omega)
   have e1:=A7 dA r2;have e2:=A7 fA dB;have e3:=A7 e2 r3
   rw [Ba,Ba,A2 (by simp;omega),Cc (show B.toNat<F.length by omega),sOv (Ij (L:=1) (by omega)) fB h6 (by omega) hn,A0,H9 r r (by omega) hn,A0,H9 r2 r (by omega) hn,A0,
    A2 (by simp;omega),Cc (show B.toNat<D.length by omega),H9 dB r2 (by omega) hn,A0,Ac3,A0,A2 (by simp;omega),Cc (show A.toNat<F.length by omega),H9 fA r2 (by omega) hn,A0,Ac3,A0,
    A2 (by simp;omega),Cc (show A.toNat<D.length by omega),H9 dA r2 (by omega) hn,A0,Ac3,A0,sW2 hn,A0,A2 (by simp;omega),A2 (by simp;omega),H9 fA dB (by omega) hn,A0,H9 e2 r3 (by omega) hn,A0,H9 k2 e3 (by omega) hn,A0,
    Tx (Bj e1) (A7 k2 e3) (by omega) hn,A0];rfl
 . rw [show f131 n (-1)=some (rq (-1)) from Lb (a:=-1) (by omega) (by omega),A0]
 . have lA:A.toNat<k:=by omega
   obtain ⟨N',rfl⟩:∃ N':Nat,N=(N':Int):=⟨N.toNat,by omega⟩
   have fA:=sF.get (show A.toNat<F.length by omega)
   have dA:=sD.get (show A.toNat<D.length by omega)
   rw [QM]
   match N' with
   | 0=>simp [Q4.d1,Q4.d2,Rat.zero_mul]
   | 1 =>
    rw [show (((1:Nat):Int)==0)=false from rfl,QP,Lb (by omega) (by omega),A0,Ba,A2 (by simp;omega),Cc (by omega),show W (((1:Nat):Int)-1)=((0:Nat):Int) from rfl,Az1 fA (by omega) (by omega) hn,A0,
     H9 (Bx (a:=((1:Nat):Int)) (by omega)) (Ey fA 0) (by omega) hn,A0]
    simp [Q4.d1,Q4.d2,Rat.zero_mul]
   | N'+2 =>
    have h2:(N'+2)*(N'+1)<=8*8:=XF (by omega) (by omega)
    have p1:=Ey fA (N'+1);have p2:=Ey fA N'
    have i1:=Bx (a:=((N'+2:Nat):Int)) (by omega)
    have i2:=Bx (a:=(((N'+2)*(N'+1):Nat):Int)) (by rw [XK];omega)
    have l1:40*(N'+1)<=40*8:=XI _ (by omega)
    rw [show (((N'+2:Nat):Int)==0)=false by rw [beq_eq_false_iff_ne];omega,QP,Lb (by omega) (by omega),A0,Ba,Ba,A2 (by simp;omega),Cc (show A.toNat<F.length by omega),
     A8 (x:=((N'+2:Nat):Int)-1) (by omega) (by omega),show ((N'+2:Nat):Int)-1=((N'+1:Nat):Int) by omega,Az1 fA (by omega) (by omega) hn,A0,H9 i1 p1 (by omega) hn,A0,
     QE,QC (by omega),show ((N'+2:Nat):Int)*((N'+1:Nat):Int)=(((N'+2)*(N'+1):Nat):Int) by rw [XW],A8 (x:=(((N'+2)*(N'+1):Nat):Int)) (by omega) (by omega),Lb (by omega) (by omega),A0,
     A2 (by simp;omega),A8 (x:=((N'+2:Nat):Int)-2) (by omega) (by omega),show ((N'+2:Nat):Int)-2=((N':Nat):Int) by omega,Az1 fA (by omega) (by omega) hn,A0,H9 i2 p2 (by omega) hn,A0,
     A2 (by simp;omega),Cc (show A.toNat<D.length by omega),H9 (A7 i2 p2) dA (by omega) hn,A0]
    simp only [Q4.d1,Q4.d2,Pm,KC];rw [Rat.mul_comm (F.getD A.toNat 0 ^ (N'+1)),Rat.mul_comm (F.getD A.toNat 0 ^ N')]

theorem Bgy {f d d':Nat->Rat} {n:Nod}:(Bu f d n).a=(Bu f d' n).a/\(Bu f d n).b=(Bu f d' n).b:=by
 unfold Bu;dsimp only;repeat (first | exact ⟨rfl,rfl⟩ | split)

theorem Az7 {f d:Nat->Rat} {n:Nod} (hf:∀ k,Sz (f k) 40) (h6:n.1=6->f n.2.2.1.toNat ≠ 0) (h8:n.1=8->n.2.2.2.toNat<=8):Sz (Bu f d n).a 330/\Sz (Bu f d n).b 330:=by
 have z:Sz 0 330:=Bi.mono (by omega)
 have o:Sz 1 330:=Ij (by omega)
 have m:Sz (-1) 330:=Bj o;unfold Bu;dsimp only;split
 . exact ⟨o,o⟩
 split
 . exact ⟨o,m⟩
 split
 . exact ⟨(hf _).mono (by omega),(hf _).mono (by omega)⟩
 split
 . rename_i h;have r:=P0 (hf n.2.2.1.toNat) (h6 h)
   exact ⟨r.mono (by omega),(Bj (A7 (hf n.2.1.toNat) (A7 r r))).mono (by omega)⟩
 split
 . exact ⟨m,z⟩
 split
 . rename_i h
   exact ⟨(A6m (hf n.2.1.toNat) (h8 h)).mono (by omega),z⟩
 . exact ⟨z,z⟩

def bigH:Nat:=10000 ^ 400

set_option exponentiation.threshold 100000 in
theorem B2z {x:Rat} {L:Nat} (h:Sz x L) (hL:L<=400):Hb x bigH:=by
 have e:10000 ^ L<=bigH:=YG (by omega) hL
 exact ⟨by have:=Kq h.1;omega,by have:=Kq h.2;omega⟩

set_option exponentiation.threshold 100000 in
theorem Bel:1<=bigH:=Qby (by omega)

def A47 (i:Nat):Nat:=10000 ^ (801*i)

set_option exponentiation.threshold 100000 in
theorem Ast (i:Nat):2*(bigH*bigH*A47 i)<=A47 (i+1):=by
 unfold bigH A47;rw [<- Nat.pow_add,<- Nat.pow_add,Nat.mul_succ]
 have:(10000:Nat) ^ (801*i+801)=10000 ^ (400+400+801*i)*10000:=by rw [<- YL];congr 1;omega
 rw [this,KK 2]
 exact XI _ (by omega)

set_option exponentiation.threshold 100000 in
theorem Bqf {x:Rat} {i:Nat} (h:Hb x (A47 i)) (hi:i<=60):Sz x 48061:=by
 have e:A47 i<10000 ^ 48061:=by
  unfold A47
  exact Nat.pow_lt_pow_right (by omega) (by omega)
 exact ⟨Ek (JT h.1 e),Ek (JT h.2 e)⟩

structure D7 (X V:List Rat) (e:List Nod):Prop where
 all:allP e X.length
 len:e.length<=60
 vx:V.length=X.length
 sX:Sv X 40
 sV:Sv V 40
 fit:∀ k,Sz ((evs (Ac X) (λ_=>0) (Ac V) e []).getD k (Q4.cst 0)).f 40
 ok:∀ i,i<e.length->¬ Dh (evs (Ac X) (λ_=>0) (Ac V) (e.take i) []) (e.getD i (0,0,0,0))

theorem D7.of {X V:List Rat} {e:List Nod} {l:List Q4} (ha:allP e X.length) (hl:e.length<=60) (hv:V.length=X.length) (sX:Sv X 40) (sV:Sv V 40) (h:Fl Pc (Ac X) (λ_=>0) (λ_=>0) e [] = .inl l):D7 X V e:=by
 obtain ⟨h1,h2⟩:=A6e e [] l (λk hk=>by simp at hk) h
 refine ⟨ha,hl,hv,sX,sV,λk=>?_,λi hi hb=>?_⟩
 . rw [A4p (Ac X) (λ_=>0) (Ac V) (λ_=>0) (λ_=>0) e k,<- h2];rcases ZT k l.length with h3 | h3
   . exact Cp.1 (h1 k h3)
   . rw [J3 h3];exact Bi.mono (by omega)
 . refine Axy e [] l h i hi ⟨hb.1,?_⟩;rw [A4p (Ac X) (λ_=>0) (λ_=>0) (λ_=>0) (Ac V)];exact hb.2

theorem D7.pre {X V:List Rat} {e:List Nod} (h:D7 X V e) {i:Nat} (hi:i<=e.length) (k:Nat):Sz ((evs (Ac X) (λ_=>0) (Ac V) (e.take i) []).getD k (Q4.cst 0)).f 40:=by
 rcases ZT k i with h1 | h1
 . rw [L5 _ _ _ e h1 hi];exact h.fit k
 . rw [J3 (by rw [Ct];simp;omega)];exact Bi.mono (by omega)

theorem D7.cd {X V:List Rat} {e:List Nod} (h:D7 X V e):∀ {i:Nat},i<=e.length->CD ((evs (Ac X) (λ_=>0) (Ac V) (e.take i) []).map Q4.v) (A47 i)
 | 0,_=>by simpa [evs,A47] using Bqa
 | i+1,hi=>by
  have ih:=h.cd (i:=i) (by omega)
  have hi':i<e.length:=by omega
  obtain ⟨hp,hd⟩:=h.all i hi';have hbad:=h.ok i hi'
  have hf:=h.pre (i:=i) (by omega)
  rw [Zn _ _ _ _ hi',YS];generalize hl:evs (Ac X) (λ_=>0) (Ac V) (e.take i) []=l at *;generalize hx:e.getD i (0,0,0,0)=x at *;by_cases h2:x.1=2
  . have hv:(Ak (Ac X) (λ_=>0) (Ac V) l x).v=Ac V x.2.2.2.toNat:=by unfold Ak;rw [QB (by omega),QC h2]
    simp only [QT,XN,hv];have hN:=hp.2.1;unfold Fc at hN
    rw [QB (by omega),QC h2] at hN
    have:=hd h2
    have sv:Sz (Ac V x.2.2.2.toNat) 40:=h.sV.get (by have:=h.vx;omega)
    exact (ih.one (B2z sv (by omega)) Bel).mono (Ast i)
  . have hq:=(Afk (Ac X) (λ_=>0) (Ac V) (λk=>l.getD k (Q4.cst 0)) x hp.1 h2).2.1;rw [<- A4q] at hq;simp only [QT,XN]
    obtain ⟨sa,sb⟩:=Az7 (f:=λk=>(l.getD k (Q4.cst 0)).f) (d:=λk=>(l.getD k (Q4.cst 0)).v) (n:=x) hf (λh6 h0=>hbad ⟨h6,h0⟩) (λh8=>by
     have hN:=hp.2.1;unfold Fc at hN
     rw [QB (by omega),QB (by omega),QC h8] at hN;omega)
    have mem:∀ k,(l.getD k (Q4.cst 0)).v ∈ l.map Q4.v \/ (l.getD k (Q4.cst 0)).v=0:=λk=>by
     rcases ZT k l.length with h3 | h3
     . left;rw [QJ,QN h3];exact ZK.2 ⟨_,KX h3,rfl⟩
     . right;rw [J3 h3];rfl
    exact (ih.step (B2z sa (by omega)) (B2z sb (by omega)) (mem _) (mem _) hq).mono (Ast i)

theorem D7.sv {X V:List Rat} {e:List Nod} (h:D7 X V e) {i:Nat} (hi:i<=e.length) (k:Nat):Sz ((evs (Ac X) (λ_=>0) (Ac V) (e.take i) []).getD k (Q4.cst 0)).v 48061:=by
 generalize hl:evs (Ac X) (λ_=>0) (Ac V) (e.take i) []=l;rcases ZT k l.length with h3 | h3
 . have:=h.cd hi;rw [hl] at this
   have hm:(l.getD k (Q4.cst 0)).v ∈ l.map Q4.v:=by
    rw [QJ,QN h3];exact ZK.2 ⟨_,KX h3,rfl⟩
   exact Bqf (this.hb hm) (by have:=h.len;omega)
 . rw [J3 h3];exact Bi.mono (by omega)

theorem D7.szl {X V:List Rat} {e:List Nod} (h:D7 X V e) {i:Nat} (hi:i<=e.length):Bgh (evs (Ac X) (λ_=>0) (Ac V) (e.take i) []) 48061:=⟨h.pre hi,h.sv hi⟩

theorem D7.gives {X V:List Rat} {e:List Nod} (h:D7 X V e) (h1:1<=X.length) {n i:Nat} (hi:i<e.length) (hn:68719476736<=n) :
  Oy n (0,vq V) (e.getD i (0,0,0,0)) (vq X) ((evs (Ac X) (λ_=>0) (Ac V) (e.take i) []).map Ay)=some ((Ay (Ak (Ac X) (λ_=>0) (Ac V) (evs (Ac X) (λ_=>0) (Ac V) (e.take i) []) (e.getD i (0,0,0,0))),0),(evs (Ac X) (λ_=>0) (Ac V) (e.take i) []).map Ay):=by
 obtain ⟨hp,hd⟩:=h.all i hi;have hbad:=h.ok i hi;have hfit:=h.fit i;rw [Wm _ _ _ e hi] at hfit
 have hlen:(evs (Ac X) (λ_=>0) (Ac V) (e.take i) []).length=i:=by rw [Ct];simp;omega
 have vx:=h.vx
 rw [Bbq (X:=X) (V:=V) (by rw [hlen];exact hp) (λq=>⟨hd q,by rw [h.vx];exact hd q⟩) (by omega) (h.szl (by omega)) (by omega) hn]
 generalize evs (Ac X) (λ_=>0) (Ac V) (e.take i) []=l at *;generalize e.getD i (0,0,0,0)=x at *;have b1:¬ (x.1=6/\(l.getD x.2.2.1.toNat (Q4.cst 0)).f=0):=hbad
 have b2:¬ (x.1=8/\B6 ((l.getD x.2.1.toNat (Q4.cst 0)).f ^ x.2.2.2.toNat)=false):=λq=>by
  have:=Xs (x:=Ac X) (u:=λ_=>0) (w:=Ac V) (l:=l) q.1;rw [this] at hfit;rw [Cp.2 hfit] at q
  exact absurd q.2 (by simp)
 rw [QB b1,QB b2]

theorem An2 {α:Type} {X V:List Rat} {e:List Nod} (h:D7 X V e) (h1:1<=X.length) {n:Nat} (hn:68719476736<=n) {k0:List Jc->Option α}:∀ (m i:Nat),i<=e.length->e.length<i+m ->
  Ad5 n m (vq X) e (e.length:Int) (i:Int) 0 (vq V) ((evs (Ac X) (λ_=>0) (Ac V) (e.take i) []).map Ay) k0=k0 ((evs (Ac X) (λ_=>0) (Ac V) e []).map Ay)
 | 0,i,hi,hm=>by omega
 | m+1,i,hi,hm=>by
  have he:=h.len;rw [Bcm];unfold Ago;rw [QE];by_cases hh:i<e.length
  . rw [QC (by omega),A2 (by simp;omega),QM]
    dsimp only
    rw [h.gives h1 hh hn,A0,A2 (by simp),A2 (by simp [Ct];omega),A8 (by omega) (by omega)]
    have:=An2 h h1 hn (k0:=k0) m (i+1) (by omega) (by omega)
    rw [Zn _ _ _ _ hh,YS] at this;exact this
  . rw [QB (by omega),XS (by omega)]

def Qk (X V:List Rat) (e:List Nod):List Rat:=(evs (Ac X) (λ_=>0) (Ac V) e []).map Q4.v

end Go.Ev
