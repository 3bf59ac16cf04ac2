/- DERIVED. The plain laws: what the models compute. -/
import Derived.Test.YtaebdcandpfmgaaGreatZc

set_option linter.all false
set_option linter.unusedVariables false
set_option linter.unusedSimpArgs false

namespace Go.Ev
open Go

theorem Af {x:Int} (h:-9223372036854775808<=x) (h':x<9223372036854775808):W x=x:=Aug h h'

@[simp] theorem A2 {α β:Type} (r:β) (k:β->Option α):ob (some r) k=k r:=rfl

@[simp] theorem Bk5 {α β:Type} (k:β->Option α):ob (none:Option β) k=none:=rfl

@[simp] theorem I9 {α:Type} (x:Option α):gd true x=x:=rfl

@[simp] theorem Bk0 {α:Type} (x:Option α):gd false x=none:=rfl

theorem A4 {α:Type} {g:Bool} (h:g=true) (x:Option α):gd g x=x:=by rw [h];rfl

theorem Dl {α:Type} {l m:List α} {i:Nat} {d:α} (h:i<l.length):(l++m).getD i d=l.getD i d:=by
 simp [QG,ZA h]

theorem Dm {α:Type} {l:List α} {x d:α}:(l++[x]).getD l.length d=x:=by
 simp [QG]

theorem Qr {α:Type} {l r:List α} {x d:α} {k:Nat} (h:l.drop k=x::r):l.getD k d=x/\k<l.length/\l.drop (k+1)=r:=by
 have hk:k<l.length:=by
  rcases XE k l.length with h' | h'
  . exact h'
  . rw [ZD h'] at h;cases h
 have:=XO hk;rw [h] at this;injection this with h1 h2
 exact ⟨by simp [QG,hk,h1],hk,h2.symm⟩

def vl:List Int->Int
 | []=>0
 | x::r=>x+10000*vl r

def Lm (l:List Int):Prop:=∀ x ∈ l,0<=x/\x<10000

def dg (n:Nat):List Int:=if n=0 then [] else ((n % 10000:Nat):Int)::dg (n / 10000)
termination_by n
decreasing_by omega

theorem Cj:dg 0=[]:=by rw [dg];rfl

theorem Ez {n:Nat} (h:n ≠ 0):dg n=((n % 10000:Nat):Int)::dg (n / 10000):=by rw [dg,QJ h]

theorem Lm.nil:Lm []:=λ_ h=>by cases h

theorem Lm.cons {x:Int} {l:List Int} (hx:0<=x/\x<10000) (hl:Lm l):Lm (x::l):=λy hy=>by
 rcases QU.1 hy with rfl | hy
 . exact hx
 . exact hl y hy

theorem Lm.head {x:Int} {l:List Int} (h:Lm (x::l)):0<=x/\x<10000:=h x (by simp)

theorem Lm.tail {x:Int} {l:List Int} (h:Lm (x::l)):Lm l:=λy hy=>h y (by simp [hy])

theorem Lm.app {l m:List Int} (h:Lm l) (h':Lm m):Lm (l++m):=λy hy=>(QF.1 hy).elim (h y) (h' y)

theorem Lm.take {l:List Int} (h:Lm l) (k:Nat):Lm (l.take k):=λy hy=>h y (Qba hy)

theorem Lm.drop {l:List Int} (h:Lm l) (k:Nat):Lm (l.drop k):=λy hy=>h y (Qax hy)

theorem Lm.set {l:List Int} (h:Lm l) (k:Nat) {x:Int} (hx:0<=x/\x<10000):Lm (l.set k x):=λy hy=>by
 rcases Qad hy with hy | rfl
 . exact h y hy
 . exact hx

theorem Lm.get {l:List Int} (h:Lm l) (k:Nat):0<=l.getD k 0/\l.getD k 0<10000:=by
 rw [QG]
 cases e:l[k]? with
 | none=>simp
 | some x=>exact h x (QX e)

theorem Lm.rep (n:Nat):Lm (List.replicate n 0):=λy hy=>by
 obtain rfl:=(List.mem_replicate.1 hy).2;omega

theorem Dq (n:Nat):Lm (dg n):=by
 induction n using Nat.strongRecOn with
 | _ n ih =>
  by_cases h:n=0
  . subst h;rw [Cj];exact Lm.nil
  . rw [Ez h]
    exact Lm.cons (by omega) (ih _ (by omega))

theorem Bl (n:Nat):vl (dg n)=n:=by
 induction n using Nat.strongRecOn with
 | _ n ih =>
  by_cases h:n=0
  . subst h;rw [Cj];rfl
  . rw [Ez h,vl,ih _ (by omega)]
    omega

theorem B7 {l:List Int} (h:Lm l):0<=vl l:=by
 induction l with
 | nil=>exact JX _
 | cons x r ih =>
  have:=h.head;have:=ih h.tail;simp only [vl];omega

theorem Fh (k:Nat):(0:Int)<10000 ^ k:=Int.pow_pos (by omega)

theorem Bw (k:Nat):(10000:Int) ^ (k+1)=10000*10000 ^ k:=by rw [Int.pow_succ,Int.mul_comm]

theorem Yn {i j:Nat} (h:i<=j):(10000:Int) ^ i<=10000 ^ j:=by
 induction j with
 | zero => obtain rfl : i = 0 := by omega
           exact JX _
 | succ j ih =>
  by_cases e:i=j+1
  . subst e;exact JX _
  . have:=ih (by omega)
    have:=Fh j;rw [Bw];omega

theorem Aqp {i j:Nat} (h:(10000:Int) ^ i<10000 ^ j):i<j:=by
 rcases XE i j with h' | h'
 . exact h'
 . have:=Yn h';omega

theorem Hl {l:List Int} (h:Lm l):vl l<10000 ^ l.length:=by
 induction l with
 | nil=>simp [vl]
 | cons x r ih =>
  have:=h.head;have:=ih h.tail;simp only [vl,ZC,Bw];omega

theorem A5o (l m:List Int):vl (l++m)=vl l+10000 ^ l.length*vl m:=by
 induction l with
 | nil=>simp [vl]
 | cons x r ih=>simp only [YI,vl,ih,ZC,Bw];grind

theorem Qh (l:List Int) (x:Int):vl (l++[x])=vl l+10000 ^ l.length*x:=by rw [A5o];simp [vl]

theorem Vv (n:Nat):vl (List.replicate n 0)=0:=by
 induction n with
 | zero=>rfl
 | succ n ih=>simp [Qbg,vl,ih]

theorem C6 {l:List Int} {k:Nat} (h:k<l.length):vl (l.take (k+1))=vl (l.take k)+10000 ^ k*l.getD k 0:=by
 rw [YP h,Qh,YT,JM (by omega),QG,QN h]
 rfl

theorem Kv {l:List Int} {k:Nat} (x:Int) (h:k<l.length):vl (l.set k x)=vl l+10000 ^ k*(x-l.getD k 0):=by
 induction l generalizing k with
 | nil=>simp at h
 | cons y r ih =>
  cases k with
  | zero=>simp [vl];omega
  | succ k =>
   have:=ih (k:=k) (by simpa using h)
   simp only [List.set_cons_succ,vl,this,Qbh,Bw];grind

def Cn (l:List Int):Prop:=Lm l/\(l ≠ []->l.getD (l.length-1) 0 ≠ 0)

theorem Gt (n:Nat):Cn (dg n):=by
 refine ⟨Dq n,?_⟩
 induction n using Nat.strongRecOn with
 | _ n ih =>
  by_cases h:n=0
  . subst h;rw [Cj];exact λh=>absurd rfl h
  . rw [Ez h];intro _;by_cases e:dg (n / 10000)=[]
    . rw [e]
      have h0:n / 10000=0:=by
       have:=Bl (n / 10000);rw [e] at this;simp only [vl] at this;omega
      simp;omega
    . have:=ih (n / 10000) (by omega) e
      have hl:0<(dg (n / 10000)).length:=XA.2 e;simp only [ZC,Qag]
      rw [show (dg (n / 10000)).length=((dg (n / 10000)).length-1)+1 by omega,Qbh]
      exact this

theorem Cn.tail {x:Int} {l:List Int} (h:Cn (x::l)):Cn l:=by
 refine ⟨h.1.tail,λhn=>?_⟩
 have:=h.2 (by simp)
 have hl:0<l.length:=XA.2 hn;simp only [ZC,Qag] at this
 rw [show l.length=(l.length-1)+1 by omega,Qbh] at this
 exact this

theorem Cn.pos {l:List Int} (h:Cn l) (hn:l ≠ []):0<vl l:=by
 induction l with
 | nil=>exact absurd rfl hn
 | cons x r ih =>
  have hx:=h.1.head;have hr:=B7 h.1.tail;by_cases e:r=[]
  . subst e
    have:=h.2 (by simp)
    simp at this;simp only [vl];omega
  . have:=ih h.tail e;simp only [vl];omega

theorem Hp {l:List Int} (h:Cn l):dg (vl l).toNat=l:=by
 induction l with
 | nil=>exact Cj
 | cons x r ih =>
  have hx:=h.1.head;have hr:=B7 h.1.tail
  have hp:=h.pos (by simp)
  have ih:=ih h.tail;simp only [vl] at hp ⊢
  rw [Ez (by omega)]
  congr 1
  . omega
  . rw [<- ih];congr 1;rw [ih];omega

theorem Cn.ge {l:List Int} (h:Cn l) (hn:l ≠ []):(10000:Int) ^ (l.length-1)<=vl l:=by
 have hl:0<l.length:=XA.2 hn
 have h1:=C6 (l:=l) (k:=l.length-1) (by omega)
 rw [show l.length-1+1=l.length by omega,YF] at h1
 have h2:=h.2 hn;have h3:=h.1.get (l.length-1);have h4:=B7 (h.1.take (l.length-1));have h5:=Fh (l.length-1)
 have h6:(10000:Int) ^ (l.length-1)*1<=10000 ^ (l.length-1)*l.getD (l.length-1) 0:=XM (by omega) (by omega)
 omega

theorem Ru {n k:Nat}:(dg n).length<=k ↔ (n:Int)<10000 ^ k:=by
 constructor
 . intro h;have:=Hl (Dq n);rw [Bl] at this;exact Int.lt_of_lt_of_le this (Yn h)
 . intro h;by_cases e:dg n=[]
   . rw [e];simp
   . have:=(Gt n).ge e;rw [Bl] at this;have:=Aqp (Int.lt_of_le_of_lt this h);have hl:0<(dg n).length:=XA.2 e;omega

theorem Bhq {n:Nat}:dg n=[] ↔ n=0:=by
 constructor
 . intro h;have:=Bl n;rw [h] at this;simp only [vl] at this;omega
 . rintro rfl;exact Cj

theorem Bn {a b:Nat} (h:a<=b):(dg a).length<=(dg b).length:=by
 refine Ru.2 ?_;have:=Hl (Dq b);rw [Bl] at this;omega

def cm (x y:Int):Int:=if x<y then -1 else if x=y then 0 else 1

theorem Ut {a b:List Int} (ha:Lm a) (hb:Lm b) {k:Nat} (h1:k<a.length) (h2:k<b.length) (h:a.getD k 0<b.getD k 0):vl (a.take (k+1))<vl (b.take (k+1)):=by
 rw [C6 h1,C6 h2];have q1:=Hl (ha.take k)
 rw [YT,JM (by omega)] at q1
 have q2:=B7 (hb.take k)
 have q3:(10000:Int) ^ k*(a.getD k 0+1)<=10000 ^ k*b.getD k 0:=XM (by omega) (by have:=Fh k;omega)
 rw [Int.mul_add,Int.mul_one] at q3;omega

theorem Cn.lt_of_len {a b:List Int} (ha:Cn a) (hb:Cn b) (h:a.length<b.length):vl a<vl b:=by
 have h1:=Hl ha.1
 have h2:=hb.ge (by intro e;subst e;simp at h)
 have h3:(10000:Int) ^ a.length<=10000 ^ (b.length-1):=Yn (by omega)
 omega

theorem Cn.of_take {l:List Int} (h:Lm l) {t:Nat} (ht:t<=l.length) (hl:t=0 \/ l.getD (t-1) 0 ≠ 0):Cn (l.take t):=by
 refine ⟨h.take t,λhn=>?_⟩
 have hlen:(l.take t).length=t:=by simp;omega
 rcases hl with rfl | hl
 . simp at hn
 . have ht0:t ≠ 0:=by rintro rfl;simp at hn
   rw [hlen,QG,XG,QL (by omega),<- QG]
   exact hl

theorem tdv {x:Int} (h:0<=x):Int.tdiv x 10000=x / 10000:=KM h

theorem tmd {x:Int} (h:0<=x):Int.tmod x 10000=x % 10000:=Int.tmod_eq_emod_of_nonneg h

theorem An6 {α:Type} {n:Nat} {l:List Int} (hN:l.length<=1099511627776) {k0:List Int->Int->Option α}:∀ (m k:Nat),k<m->k<=l.length ->
  ∃ t,t<=k/\Zs n m l (k:Int) k0=k0 l (t:Int)/\vl (l.take t)=vl (l.take k)/\(t=0 \/ l.getD (t-1) 0 ≠ 0)
 | 0,k,h,_=>by omega
 | m+1,k,h,hk=>by
  rw [Ay3];unfold A2x;dsimp only;by_cases h0:k=0
  . subst h0;exact ⟨0,QY _,rfl,rfl,.inl rfl⟩
  . rw [QH,QL (by omega),Af (by omega) (by omega),A4 (by simp;omega)]
    have e:((k:Int)-1).toNat=k-1:=by omega
    rw [e,XI];by_cases hz:l.getD (k-1) 0=0
    . rw [QL (by rw [hz];rfl)]
      obtain ⟨t,h1,h2,h3,h4⟩:=An6 (n:=n) hN (k0:=k0) m (k-1) (by omega) (by omega)
      refine ⟨t,by omega,?_,?_,h4⟩
      . rw [show (k:Int)-1=((k-1:Nat):Int) by omega];exact h2
      . rw [h3]
        have:=C6 (l:=l) (k:=k-1) (by omega)
        rw [show k-1+1=k by omega,hz] at this
        rw [this];simp
    . rw [QJ (by simpa using hz)]
      exact ⟨k,QY _,rfl,rfl,.inr hz⟩

theorem Zr {n:Nat} {l:List Int} (hl:Lm l) (hN:l.length<=1099511627776) (hn:l.length<n):f218 n l=some (dg (vl l).toNat):=by
 unfold f218;obtain ⟨t,h1,h2,h3,h4⟩:=An6 (n:=n) hN (k0:=λb a=>gd (decide (0<=a)&&decide (a<=(b.length:Int))) (gd (decide ((0+((b.drop 0).take (a.toNat-0)).length)*8<=140737488355328)) (some ((b.drop 0).take (a.toNat-0))))) n l.length hn (QY _)
 rw [h2,A4 (by simp;omega),A4 (by simp;omega)]
 simp only [ZT,QR,KX];rw [YF] at h3
 rw [<- h3,Hp (Cn.of_take hl (by omega) h4)]

theorem An5 {α:Type} {n:Nat} {l:List Int} (hN:l.length<=1099511627776) {k0:List Int->Int->Option α}:∀ (m k:Nat),k<m->k<=l.length ->
  ∃ t,t<=k/\Zo n m l (k:Int) k0=k0 l (t:Int)/\vl (l.take t)=vl (l.take k)/\(t=0 \/ l.getD (t-1) 0 ≠ 0)
 | 0,k,h,_=>by omega
 | m+1,k,h,hk=>by
  rw [Axx];unfold A2m;dsimp only;by_cases h0:k=0
  . subst h0;exact ⟨0,QY _,rfl,rfl,.inl rfl⟩
  . rw [QH,QL (by omega),Af (by omega) (by omega),A4 (by simp;omega)]
    have e:((k:Int)-1).toNat=k-1:=by omega
    rw [e,XI];by_cases hz:l.getD (k-1) 0=0
    . rw [QL (by rw [hz];rfl)]
      obtain ⟨t,h1,h2,h3,h4⟩:=An5 (n:=n) hN (k0:=k0) m (k-1) (by omega) (by omega)
      refine ⟨t,by omega,?_,?_,h4⟩
      . rw [show (k:Int)-1=((k-1:Nat):Int) by omega];exact h2
      . rw [h3]
        have:=C6 (l:=l) (k:=k-1) (by omega)
        rw [show k-1+1=k by omega,hz] at this
        rw [this];simp
    . rw [QJ (by simpa using hz)]
      exact ⟨k,QY _,rfl,rfl,.inr hz⟩

theorem Qy {n:Nat} {l:List Int} (hl:Lm l) (hN:l.length<=1099511627776) (hn:l.length<n):f225 n l=some (dg (vl l).toNat):=by
 unfold f225;obtain ⟨t,h1,h2,h3,h4⟩:=An5 (n:=n) hN (k0:=λb a=>gd (decide (0<=a)&&decide (a<=(b.length:Int))) (some ((b.drop 0).take (a.toNat-0)))) n l.length hn (QY _)
 rw [h2,A4 (by simp;omega)]
 simp only [ZT,QR,KX];rw [YF] at h3
 rw [<- h3,Hp (Cn.of_take hl (by omega) h4)]

theorem Aft {α:Type} {n:Nat} {k0:List Int->Option α}:∀ (m x:Nat) (o:List Int),(x:Int)<=9223372036854775807->(dg x).length<m->o.length+(dg x).length<=1099511627776->A02 n m (x:Int) o k0=k0 (o++dg x)
 | 0,x,o,_,h,_=>by omega
 | m+1,x,o,hx,h,hN=>by
  rw [Azz];unfold A4d;dsimp only;by_cases h0:x=0
  . subst h0;rw [Cj];simp
  . rw [Ez h0] at h hN ⊢;simp only [ZC] at h hN
    rw [QH,QL (by omega),A4 (by simp;omega),tdv (by omega),tmd (by omega),Af (by omega) (by omega),show (x:Int) / 10000=((x / 10000:Nat):Int) by omega,show (x:Int) % 10000=((x % 10000:Nat):Int) by omega]
    rw [Aft (n:=n) m (x / 10000) _ (by omega) (by omega) (by simp;omega)]
    simp

theorem R8 {n:Nat} {x:Nat} (hx:(x:Int)<=9223372036854775807) (hn:10<n):f181 n (x:Int)=some (dg x):=by
 have hl:(dg x).length<=5:=Ru.2 (by rw [show (10000:Int) ^ 5=100000000000000000000 from rfl];omega)
 unfold f181
 rw [Aft (n:=n) n x [] hx (by omega) (by simp;omega)]
 simp

theorem Afu {α:Type} {n:Nat} {k0:List Int->Option α}:∀ (m x:Nat) (o:List Int),(x:Int)<=9223372036854775807->(dg x).length<m->o.length+(dg x).length<=1099511627776->A03 n m (x:Int) o k0=k0 (o++dg x)
 | 0,x,o,_,h,_=>by omega
 | m+1,x,o,hx,h,hN=>by
  rw [B01];unfold A4g;dsimp only;by_cases h0:x=0
  . subst h0;rw [Cj];simp
  . rw [Ez h0] at h hN ⊢;simp only [ZC] at h hN
    rw [QH,QL (by omega),A4 (by simp;omega),tdv (by omega),tmd (by omega),Af (by omega) (by omega),show (x:Int) / 10000=((x / 10000:Nat):Int) by omega,show (x:Int) % 10000=((x % 10000:Nat):Int) by omega]
    rw [Afu (n:=n) m (x / 10000) _ (by omega) (by omega) (by simp;omega)]
    simp

theorem Aam {n:Nat} {x:Nat} (hx:(x:Int)<=9223372036854775807) (hn:10<n):f179 n (x:Int)=some (dg x):=by
 have hl:(dg x).length<=5:=Ru.2 (by rw [show (10000:Int) ^ 5=100000000000000000000 from rfl];omega)
 unfold f179
 rw [Afu (n:=n) n x [] hx (by omega) (by simp;omega)]
 simp

theorem N6 {n:Nat} {b:Bool}:f170 n b=some (if b=true then 1 else 0):=by cases b <;> rfl

theorem Jb {x y:Int} (h:x<y):cm x y = -1:=by unfold cm;rw [QL h]

theorem Jd {x y:Int} (h:y<x):cm x y=1:=by unfold cm;rw [QJ (by omega),QJ (by omega)]

theorem Kt {x y:Int} (h:x=y):cm x y=0:=by unfold cm;rw [QJ (by omega),QL h]

theorem B1r (x y z:Int):cm (x+z) (y+z)=cm x y:=by
 rcases Int.lt_trichotomy x y with h | h | h
 . rw [Jb h,Jb (by omega)]
 . rw [Kt h,Kt (by omega)]
 . rw [Jd h,Jd (by omega)]

theorem B1q {α:Type} {n:Nat} {a b:List Int} (ha:Lm a) (hb:Lm b) (hab:a.length=b.length) (hN:a.length<=1099511627776) {k0:Int->Option α} {k1:Unit->Option α}:∀ (m k:Nat),k<m->k<=a.length ->
  Zz n m a b ((k:Int)-1) k0 k1=if vl (a.take k)=vl (b.take k) then k1 () else k0 (cm (vl (a.take k)) (vl (b.take k)))
 | 0,k,h,_=>by omega
 | m+1,k,h,hk=>by
  rw [Azo];unfold A3z;dsimp only;by_cases h0:k=0
  . subst h0;simp
  . rw [QH,QL (by omega),A4 (by simp;omega),A4 (by simp;omega)]
    have e:((k:Int)-1).toNat=k-1:=by omega
    rw [e,XI]
    have ta:=C6 (l:=a) (k:=k-1) (by omega)
    have tb:=C6 (l:=b) (k:=k-1) (by omega)
    rw [show k-1+1=k by omega] at ta tb
    by_cases hz:a.getD (k-1) 0=b.getD (k-1) 0
    . rw [QJ (by simpa using hz),Af (by omega) (by omega)]
      rw [show (k:Int)-1-1=((k-1:Nat):Int)-1 by omega,B1q (n:=n) ha hb hab hN m (k-1) (by omega) (by omega)]
      rw [ta,tb,hz];by_cases h1:vl (a.take (k-1))=vl (b.take (k-1))
      . rw [QL h1,QL (by omega)]
      . rw [QJ h1,QJ (by omega)]
        rw [B1r]
    . rw [QL (by simpa using hz),A4 (by simp;omega),A4 (by simp;omega),N6,A2]
      rcases Int.lt_or_gt_of_ne hz with h1 | h1
      . have:=Ut ha hb (k:=k-1) (by omega) (by omega) h1
        rw [show k-1+1=k by omega] at this
        rw [show (if vl (a.take k)=vl (b.take k) then k1 () else k0 (cm (vl (a.take k)) (vl (b.take k))))=k0 (-1) by rw [QJ (by omega),Jb this],QJ (by rw [QO];omega)]
        rfl
      . have:=Ut hb ha (k:=k-1) (by omega) (by omega) h1
        rw [show k-1+1=k by omega] at this
        rw [show (if vl (a.take k)=vl (b.take k) then k1 () else k0 (cm (vl (a.take k)) (vl (b.take k))))=k0 1 by rw [QJ (by omega),Jd this],QL (by rw [QO];omega)]
        rfl

theorem Bbe {n:Nat} {a b:List Int} (ha:Cn a) (hb:Cn b) (hN:a.length<=1099511627776) (hn:a.length<n):f188 n a b=some (cm (vl a) (vl b)):=by
 unfold f188;rw [XI];by_cases h:a.length=b.length
 . rw [QJ (by simp [h]),Af (by omega) (by omega),B1q (n:=n) ha.1 hb.1 h hN n a.length hn (QY _)]
   rw [YF,h,YF];by_cases h1:vl a=vl b
   . rw [QL h1,Kt h1]
   . rw [QJ h1]
 . rw [QL (by simp;omega),N6,A2]
   rcases Nat.lt_or_gt_of_ne h with h1 | h1
   . rw [Jb (ha.lt_of_len hb h1),QJ (by simp;omega)];rfl
   . rw [Jd (hb.lt_of_len ha h1),QL (by simp;omega)];rfl

theorem B1p {α:Type} {n:Nat} {a b:List Int} (ha:Lm a) (hb:Lm b) (hab:a.length=b.length) {k0 k1:Int->Option α}:∀ (k:Nat),k<=a.length ->
  Ob n a k a b 0 k0 k1=if vl (a.take k)=vl (b.take k) then k0 0 else k1 (cm (vl (a.take k)) (vl (b.take k)))
 | 0,_=>by rw [Ayn];simp
 | k+1,hk=>by
  rw [Ayl];unfold A3a;dsimp only
  rw [A4 (by simp;omega),XI]
  have ta:=C6 (l:=a) (k:=k) (by omega)
  have tb:=C6 (l:=b) (k:=k) (by omega)
  simp only [QR];by_cases hz:a.getD k 0=b.getD k 0
  . rw [QJ (by simpa using hz),A4 (by simp),B1p ha hb hab k (by omega)]
    rw [ta,tb,hz];by_cases h1:vl (a.take k)=vl (b.take k)
    . rw [QL h1,QL (by omega)]
    . rw [QJ h1,QJ (by omega)]
      rw [B1r]
  . rw [QL (by simpa using hz),A4 (by simp;omega),QH]
    rcases Int.lt_or_gt_of_ne hz with h1 | h1
    . have:=Ut ha hb (k:=k) (by omega) (by omega) h1
      rw [show (if vl (a.take (k+1))=vl (b.take (k+1)) then k0 0 else k1 (cm (vl (a.take (k+1))) (vl (b.take (k+1)))))=k1 (-1) by rw [QJ (by omega),Jb this],QL h1]
    . have:=Ut hb ha (k:=k) (by omega) (by omega) h1
      rw [show (if vl (a.take (k+1))=vl (b.take (k+1)) then k0 0 else k1 (cm (vl (a.take (k+1))) (vl (b.take (k+1)))))=k1 1 by rw [QJ (by omega),Jd this],QJ (by omega)]

theorem Bai {n:Nat} {a b:List Int} (ha:Cn a) (hb:Cn b) (hN:a.length<=1099511627776):f203 n a b=some (cm (vl a) (vl b)):=by
 unfold f203;rw [XI];by_cases h:a.length=b.length
 . rw [QJ (by simp [h])]
   rw [show f228 n a=some a from rfl,A2,Aym,A4 (by simp;omega),B1p ha.1 hb.1 h a.length (QY _)]
   rw [YF,h,YF];by_cases h1:vl a=vl b
   . rw [QL h1,Kt h1]
   . rw [QJ h1]
 . rw [QL (by simp;omega),QH]
   rcases Nat.lt_or_gt_of_ne h with h1 | h1
   . rw [Jb (ha.lt_of_len hb h1),QL (by omega)]
   . rw [Jd (hb.lt_of_len ha h1),QJ (by omega)]

theorem B9 (l:List Int) (k:Nat):vl (l.take (k+1))=vl (l.take k)+10000 ^ k*l.getD k 0:=by
 rcases XE k l.length with h | h
 . exact C6 h
 . rw [ZV (by omega),ZV (by omega),QG,KD h]
   simp

theorem Bg {l:List Int} {k:Nat} (h:l.length<=k):l.getD k 0=0:=by
 rw [QG,KD h];rfl

theorem Cn.of_ge {l:List Int} (h:Lm l) (hg:l ≠ []->(10000:Int) ^ (l.length-1)<=vl l):Cn l:=by
 refine ⟨h,λhn e=>?_⟩;have hl:0<l.length:=XA.2 hn;have h1:=B9 l (l.length-1)
 rw [show l.length-1+1=l.length by omega,YF,e] at h1
 have h2:=Hl (h.take (l.length-1))
 rw [YT,JM (by omega)] at h2
 have:=hg hn;omega

theorem Jo (l:List Int) {k:Nat} (h:l.length<=k):l.take k=l:=ZV h

theorem B27 {α:Type} {n:Nat} {a b:List Int} (ha:Cn a) (hb:Cn b) (hN:a.length<=1099511627776) (hNb:b.length<=1099511627776) {k0:List Int->Option α}:∀ (m i:Nat) (c:Int) (o:List Int),o.length=i->Lm o->0<=c->c<=1 ->
  vl o+10000 ^ i*c=vl (a.take i)+vl (b.take i)->(i<=max a.length b.length \/ (i=max a.length b.length+1/\c=0/\o.getD (i-1) 0 ≠ 0))->max a.length b.length+2<=i+m ->
  R5 n m a b c (i:Int) o k0=k0 (dg (vl a+vl b).toNat)
 | 0,i,c,o,ho,hlo,hc0,hc1,hv,hq,hm=>by omega
 | m+1,i,c,o,ho,hlo,hc0,hc1,hv,hq,hm=>by
  rw [Azr];unfold A42;dsimp only
  have fin:a.length<=i->b.length<=i->c=0->o=dg (vl a+vl b).toNat:=λh1 h2 h3=>by
   rw [Jo a h1,Jo b h2,h3] at hv
   have hv':vl o=vl a+vl b:=by simpa using hv
   have:Cn o:=Cn.of_ge hlo λhn=>by
    have hl:0<o.length:=XA.2 hn;rcases hq with hq | ⟨hq1,_,hq3⟩
    . have hmx:i=max a.length b.length:=by omega
      rw [ho,hv'];rcases Nat.le_total a.length b.length with hab | hab
      . have h4:=hb.ge (XA.1 (by omega))
        have h5:=B7 ha.1
        rw [show i-1=b.length-1 by omega];omega
      . have h4:=ha.ge (XA.1 (by omega))
        have h5:=B7 hb.1
        rw [show i-1=a.length-1 by omega];omega
    . have h1:=B9 o (o.length-1)
      rw [show o.length-1+1=o.length by omega,YF] at h1
      have h2:=B7 (hlo.take (o.length-1));have h3:=hlo.get (o.length-1);rw [<- ho] at hq3;have h4:=Fh (o.length-1)
      have h5:(10000:Int) ^ (o.length-1)*1<=10000 ^ (o.length-1)*o.getD (o.length-1) 0:=XM (by omega) (by omega)
      omega
   rw [<- hv',Hp this]
  have go:∀ (y:Int),y=c+a.getD i 0+b.getD i 0->(i<max a.length b.length \/ (i=max a.length b.length/\0<c))->R5 n m a b (W (Int.tdiv y 10000)) (W ((i:Int)+1)) (o++[Int.tmod y 10000]) k0=k0 (dg (vl a+vl b).toNat):=by
   intro y hy hi;have h1:=ha.1.get i;have h2:=hb.1.get i
   rw [tdv (by omega),tmd (by omega),Af (by omega) (by omega),Af (by omega) (by omega)]
   have ta:=B9 a i;have tb:=B9 b i
   have hyy:y=10000*(y / 10000)+y % 10000:=by omega
   refine B27 (n:=n) ha hb hN hNb m (i+1) _ _ (by simp [ho]) (hlo.app (Lm.cons (by omega) Lm.nil)) (by omega) (by omega) ?_ ?_ (by omega)
   . rw [Qh,ho,ta,tb,Bw];generalize y / 10000=q at *;generalize y % 10000=r at *;generalize (10000:Int) ^ i=P at *;grind
   . rcases hi with hi | ⟨hi,hc⟩
     . exact .inl (by omega)
     . right
       have e1:a.getD i 0=0:=Bg (by omega)
       have e2:b.getD i 0=0:=Bg (by omega)
       have e3:y=1:=by omega
       subst e3
       refine ⟨by omega,by rfl,?_⟩
       rw [Qag,<- ho,QG];simp
  have hcases:(i<a.length \/ i<b.length \/ 0<c)->(i<max a.length b.length \/ (i=max a.length b.length/\0<c)):=λh=>by
   rcases h with h | h | h
   . exact .inl (by omega)
   . exact .inl (by omega)
   . rcases hq with hq | ⟨_,h0,_⟩
     . omega
     . omega
  have ho2:(decide ((o.length+1)*8<=140737488355328))=true:=by
   rw [QO];rcases hq with hq | ⟨hq,_⟩ <;> omega
  have h1:=ha.1.get i;have h2:=hb.1.get i;by_cases hA:i<a.length
  . have dA:decide ((i:Int)<(a.length:Int))=true:=by rw [QO];omega
    simp only [dA,ZN,QR]
    rw [A4 (by simp;try omega),Af (x:=c+a.getD i 0) (by omega) (by omega)]
    by_cases hB:i<b.length
    . have dB:decide ((i:Int)<(b.length:Int))=true:=by rw [QO];omega
      simp only [dB,ZN]
      rw [A4 (by simp;try omega),A4 ho2,Af (x:=c+a.getD i 0+b.getD i 0) (by omega) (by omega)]
      exact go _ rfl (hcases (.inl hA))
    . have dB:decide ((i:Int)<(b.length:Int))=false:=by rw [ZS];omega
      simp only [dB,QV];rw [A4 ho2]
      exact go _ (by rw [Bg (l:=b) (by omega)];omega) (hcases (.inl hA))
  . have dA:decide ((i:Int)<(a.length:Int))=false:=by rw [ZS];omega
    simp only [dA,QV,QR];by_cases hB:i<b.length
    . have dB:decide ((i:Int)<(b.length:Int))=true:=by rw [QO];omega
      simp only [dB,ZN]
      rw [A4 (by simp;try omega),A4 ho2,Af (x:=c+b.getD i 0) (by omega) (by omega)]
      exact go _ (by rw [Bg (l:=a) (by omega)];omega) (hcases (.inr (.inl hB)))
    . have dB:decide ((i:Int)<(b.length:Int))=false:=by rw [ZS];omega
      simp only [dB,QV];rw [QH];by_cases hc:0<c
      . rw [QL (by omega),A4 ho2]
        exact go _ (by rw [Bg (l:=a) (by omega),Bg (l:=b) (by omega)];omega) (hcases (.inr (.inr hc)))
      . rw [QJ (by omega),fin (by omega) (by omega) (by omega)]

theorem Bbg {n:Nat} {a b:List Int} (ha:Cn a) (hb:Cn b) (hN:a.length<=1099511627776) (hNb:b.length<=1099511627776) (hn:max a.length b.length+2<=n):f187 n a b=some (dg (vl a+vl b).toNat):=by
 unfold f187
 have:=B27 (n:=n) ha hb hN hNb (k0:=λc=>some c) n 0 0 [] rfl Lm.nil (by omega) (by omega) (by simp [vl]) (.inl (by omega)) (by omega)
 exact this

theorem Auo {α:Type} {n:Nat} {a b:List Int} (ha:Lm a) (hb:Lm b) (hN:a.length<=1099511627776) {k0:List Int->Option α}:∀ (m i:Nat) (c:Int) (o:List Int),o.length=i->Lm o->0<=c->c<=1->i<=a.length ->
  vl o-10000 ^ i*c=vl (a.take i)-vl (b.take i)->a.length+1<=i+m ->
  ∃ o' c',N1 n m a b c (i:Int) o k0=k0 o'/\o'.length=a.length/\Lm o'/\0<=c'/\c'<=1/\vl o'-10000 ^ a.length*c'=vl a-vl (b.take a.length)
 | 0,i,c,o,ho,hlo,hc0,hc1,hi,hv,hm=>by omega
 | m+1,i,c,o,ho,hlo,hc0,hc1,hi,hv,hm=>by
  rw [Azm];unfold A3w;dsimp only;by_cases hA:i<a.length
  . rw [QH,QL (by omega),A4 (by simp;try omega)]
    have h1:=ha.get i;have h2:=hb.get i;have ta:=B9 a i;have tb:=B9 b i
    have ho2:(decide ((o.length+1)*8<=140737488355328))=true:=by
     rw [QO];omega
    have go:∀ y:Int,y=a.getD i 0-c-b.getD i 0->∃ o' c',N1 n m a b (if y<0 then 1 else 0) (W ((i:Int)+1)) (o++[W (y+W ((if y<0 then 1 else 0)*10000))]) k0=k0 o'/\o'.length=a.length/\Lm o'/\0<=c'/\c'<=1/\vl o'-10000 ^ a.length*c'=vl a-vl (b.take a.length):=by
     intro y hy
     obtain ⟨d,hd⟩:∃ d:Int,d=if y<0 then 1 else 0:=⟨_,rfl⟩
     have hd1:0<=d/\d<=1/\0<=y+d*10000/\y+d*10000<10000:=by
      rw [hd];split <;> omega
     rw [<- hd,Af (x:=d*10000) (by omega) (by omega),Af (x:=y+d*10000) (by omega) (by omega),Af (x:=(i:Int)+1) (by omega) (by omega)]
     refine Auo (n:=n) ha hb hN m (i+1) d _ (by simp [ho]) (hlo.app (Lm.cons (by omega) Lm.nil)) (by omega) (by omega) (by omega) ?_ (by omega)
     rw [Qh,ho,ta,tb,Bw];generalize (10000:Int) ^ i=P at *;grind
    simp only [QR];by_cases hB:i<b.length
    . have dB:decide ((i:Int)<(b.length:Int))=true:=by rw [QO];omega
      simp only [dB,ZN]
      rw [A4 (by simp;try omega)]
      simp only [Af (x:=a.getD i 0-c) (by omega) (by omega),Af (x:=a.getD i 0-c-b.getD i 0) (by omega) (by omega)]
      rw [N6,A2,A4 ho2];simp only [QO];exact go _ rfl
    . have dB:decide ((i:Int)<(b.length:Int))=false:=by rw [ZS];omega
      simp only [dB,QV]
      simp only [Af (x:=a.getD i 0-c) (by omega) (by omega)]
      rw [N6,A2,A4 ho2];simp only [QO]
      exact go _ (by rw [Bg (l:=b) (by omega)];omega)
  . rw [QH,QJ (by omega)]
    obtain rfl:i=a.length:=by omega
    rw [YF] at hv;exact ⟨o,c,rfl,ho,hlo,hc0,hc1,hv⟩

theorem Bbc {n:Nat} {a b:List Int} (ha:Cn a) (hb:Cn b) (hN:a.length<=1099511627776) (hn:a.length+1<=n) (hab:vl b<=vl a):f189 n a b=some (dg (vl a-vl b).toNat):=by
 have hl:b.length<=a.length:=by
  rcases XE a.length b.length with h | h
  . have:=ha.lt_of_len hb h;omega
  . exact h
 unfold f189
 obtain ⟨o,c,h1,h2,h3,h4,h5,h6⟩:=Auo (n:=n) ha.1 hb.1 hN (k0:=λd=>ob (f218 n d) λe=>some e) n 0 0 [] rfl Lm.nil (by omega) (by omega) (by omega) (by simp [vl]) (by omega)
 have h1:N1 n n a b 0 0 [] (λd=>ob (f218 n d) λe=>some e)=_:=h1
 rw [h1,Zr h3 (by omega) (by omega),A2]
 rw [Jo b hl] at h6;have h7:=Hl h3;rw [h2] at h7
 have:c=0:=by
  rcases Int.lt_or_eq_of_le h4 with h | h
  . have:c=1:=by omega
    rw [this] at h6;omega
  . exact h.symm
 rw [this] at h6
 rw [show vl o=vl a-vl b by simpa using h6]

theorem Mt {l:List Int} {k:Nat} (h:k<l.length):vl (l.drop k)=l.getD k 0+10000*vl (l.drop (k+1)):=by
 rw [XO h,vl,QG,QN h];rfl

theorem Agd {P o ok y q r c ai bk v' T:Int} (h:o+P*(c+ai*(bk+10000*v'))=T) (hy:y=ok+c+ai*bk) (hq:y=10000*q+r):o+P*(r-ok)+10000*P*(q+ai*v')=T:=by
 grind

theorem A1y {x y:Int} (hx:0<=x/\x<10000) (hy:0<=y/\y<10000):0<=x*y/\x*y<=99980001:=by
 have h1:=Int.mul_nonneg hx.1 hy.1
 have h2:x*y<=9999*y:=Int.mul_le_mul_of_nonneg_right (by omega) hy.1
 omega

theorem Avg {α:Type} {n:Nat} {a b:List Int} (ha:Lm a) (hb:Lm b) (i:Nat) (hi:i<a.length) {S:Nat} (hS:a.length+b.length<S) (hN:S<=1099511627776) {T:Int} (hT:T<10000 ^ S) {k0:List Int->List Int->Int->List Int->Option α} :
  ∀ (m k:Nat) (c:Int) (o:List Int),Lm o->o.length=S->0<=c->c<10000->i+k<=S->vl o+10000 ^ (i+k)*(c+a.getD i 0*vl (b.drop k))=T->S+1<=i+k+m ->
  ∃ o',Lm o'/\o'.length=S/\vl o'=T/\N2 n m a b (i:Int) c (k:Int) o k0=k0 a b (i:Int) o'
 | 0,k,c,o,hlo,ho,hc0,hc1,hik,hv,hm=>by omega
 | m+1,k,c,o,hlo,ho,hc0,hc1,hik,hv,hm=>by
  rw [Azu];unfold A45;dsimp only;have h1:=ha.get i;have h2:=hb.get k;have h3:=hlo.get (i+k);have h4:=A1y h1 h2;have hvo:=B7 hlo
  have go:∀ y:Int,i+k<S->(k<b.length \/ b.length<=k)->y=o.getD (i+k) 0+c+a.getD i 0*b.getD k 0 ->
    ∃ o',Lm o'/\o'.length=S/\vl o'=T/\N2 n m a b (i:Int) (W (Int.tdiv y 10000)) (W ((k:Int)+1)) (o.set (i+k) (Int.tmod y 10000)) k0=k0 a b (i:Int) o':=by
   intro y hlt hk hy
   rw [tdv (by omega),tmd (by omega),Af (by omega) (by omega),Af (by omega) (by omega)]
   refine Avg (n:=n) ha hb i hi hS hN hT m (k+1) _ _ (hlo.set _ (by omega)) (by simpa using ho) (by omega) (by omega) (by omega) ?_ (by omega)
   rw [Kv _ (by omega),show i+(k+1)=(i+k)+1 by omega,Bw]
   have hyy:y=10000*(y / 10000)+y % 10000:=by omega
   refine Agd (bk:=b.getD k 0) ?_ hy hyy;rcases hk with hk | hk
   . rw [<- Mt hk];exact hv
   . rw [ZD (by omega)] at hv ⊢
     rw [Bg hk];simpa [vl] using hv
  by_cases hB:k<b.length
  . have dB:decide ((k:Int)<(b.length:Int))=true:=by rw [QO];omega
    simp only [dB,ZN,QR]
    rw [Af (x:=(i:Int)+(k:Int)) (by omega) (by omega)]
    have e:((i:Int)+(k:Int)).toNat=i+k:=by omega
    simp only [e]
    rw [A4 (by simp;try omega),A4 (by simp;try omega),A4 (by simp;try omega),A4 (by simp;try omega),Af (x:=a.getD i 0*b.getD k 0) (by omega) (by omega),Af (x:=o.getD (i+k) 0+c) (by omega) (by omega),Af (x:=o.getD (i+k) 0+c+a.getD i 0*b.getD k 0) (by omega) (by omega),A4 (by simp;try omega),A4 (by simp;try omega)]
    exact go _ (by omega) (.inl hB) rfl
  . have dB:decide ((k:Int)<(b.length:Int))=false:=by rw [ZS];omega
    simp only [dB,QV];rw [QH]
    rw [ZD (by omega)] at hv
    by_cases hc:0<c
    . have hlt : i + k < S := by
       refine Aqp ?_
       have h5:(10000:Int) ^ (i+k)*1<=10000 ^ (i+k)*c:=XM (by omega) (by have:=Fh (i+k);omega)
       simp only [vl,Qah,Qbc] at hv;omega
      rw [QL (by omega),Af (x:=(i:Int)+(k:Int)) (by omega) (by omega)]
      have e:((i:Int)+(k:Int)).toNat=i+k:=by omega
      simp only [e]
      rw [A4 (by simp;try omega),A4 (by simp;try omega),A4 (by simp;try omega),A4 (by simp;try omega),Af (x:=o.getD (i+k) 0+c) (by omega) (by omega)]
      exact go _ hlt (.inr (by omega)) (by rw [Bg (l:=b) (by omega)];omega)
    . rw [QJ (by omega)]
      obtain rfl:c=0:=by omega
      exact ⟨o,hlo,ho,by simpa [vl] using hv,rfl⟩

theorem Avf {a b:List Int} (ha:Lm a) (hb:Lm b) {i S:Nat} (hS:i+b.length<=S):vl (a.take i)*vl b<10000 ^ S:=by
 have h1:=Hl (ha.take i);have h2:=Hl hb;have h3:=B7 (ha.take i);have h4:=B7 hb
 have h5:(10000:Int) ^ (a.take i).length<=10000 ^ i:=Yn (by simp;omega)
 have h6:=Fh i;have h7:=Fh b.length
 have h8:vl (a.take i)*vl b<=vl (a.take i)*10000 ^ b.length:=XM (by omega) h3
 have h9:vl (a.take i)*10000 ^ b.length<10000 ^ i*10000 ^ b.length:=Int.mul_lt_mul_of_pos_right (by omega) h7
 rw [<- Int.pow_add] at h9;have h10:(10000:Int) ^ (i+b.length)<=10000 ^ S:=Yn hS;omega

theorem Ani {α:Type} {n:Nat} {a b:List Int} (ha:Lm a) (hb:Lm b) {S:Nat} (hS:a.length+b.length<S) (hN:S<=1099511627776) (hn:S+1<=n) {k0:List Int->Option α} :
  ∀ (m i:Nat) (o:List Int),Lm o->o.length=S->i<=a.length->vl o=vl (a.take i)*vl b->a.length+1<=i+m ->
  ∃ o',Lm o'/\o'.length=S/\vl o'=vl a*vl b/\N3 n m a b (i:Int) o k0=k0 o'
 | 0,i,o,hlo,ho,hi,hv,hm=>by omega
 | m+1,i,o,hlo,ho,hi,hv,hm=>by
  rw [Azw];unfold A48;dsimp only;rw [QH];by_cases hA:i<a.length
  . rw [QL (by omega)]
    have hT:vl (a.take (i+1))*vl b<10000 ^ S:=Avf ha hb (by omega)
    obtain ⟨o',q1,q2,q3,q4⟩:=Avg (n:=n) ha hb i hA hS hN hT (k0:=λc d e f=>N3 n m c d (W (e+1)) f k0) n 0 0 o hlo ho (by omega) (by omega) (by omega) (by
     rw [hv,B9,ZT,KF];generalize (10000:Int) ^ i=P
     grind) (by omega)
    have q4:N2 n n a b (i:Int) 0 0 o _=_:=q4
    rw [q4,Af (by omega) (by omega)]
    exact Ani (n:=n) ha hb hS hN hn m (i+1) o' q1 q2 (by omega) q3 (by omega)
  . rw [QJ (by omega)]
    obtain rfl:i=a.length:=by omega
    rw [YF] at hv;exact ⟨o,hlo,ho,hv,rfl⟩

theorem Bbj {n:Nat} {a b:List Int} (ha:Lm a) (hb:Lm b) (hN:a.length+b.length<=1099511627770) (hn:a.length+b.length+2<=n):f185 n a b=some (dg (vl a*vl b).toNat):=by
 unfold f185
 rw [Af (x:=(a.length:Int)+(b.length:Int)) (by omega) (by omega),Af (x:=(a.length:Int)+(b.length:Int)+1) (by omega) (by omega),A4 (by simp;try omega)]
 have e:((a.length:Int)+(b.length:Int)+1).toNat=a.length+b.length+1:=by omega
 rw [e]
 obtain ⟨o,q1,q2,q3,q4⟩:=Ani (n:=n) ha hb (S:=a.length+b.length+1) (by omega) (by omega) (by omega) (k0:=λc=>ob (f218 n c) λd=>some d) n 0 (List.replicate (a.length+b.length+1) 0) (Lm.rep _) (by simp) (by omega) (by rw [Vv];simp [vl]) (by omega)
 have q4:N3 n n a b 0 _ _=_:=q4
 rw [q4,Zr q1 (by omega) (by omega),A2,q3]

theorem Avh {α:Type} {n:Nat} {a b:List Int} (ha:Lm a) (hb:Lm b) (i:Nat) (hi:i<a.length) {S:Nat} (hS:a.length+b.length<=S) (hN:S<=1099511627776) {T:Int} (hT:T<10000 ^ S) (q1:List Int) (q2 q3:Int) {k0:List Int->List Int->Int->Int->List Int->Option α} :
  ∀ (m k:Nat) (c:Int) (o:List Int),Lm o->o.length=S->0<=c->c<10000->i+k<=S->vl o+10000 ^ (i+k)*(c+a.getD i 0*vl (b.drop k))=T->S+1<=i+k+m ->
  ∃ o',Lm o'/\o'.length=S/\vl o'=T/\My n m b (i:Int) (a.getD i 0) c (k:Int) q1 q2 q3 o k0=k0 b q1 q2 q3 o'
 | 0,k,c,o,hlo,ho,hc0,hc1,hik,hv,hm=>by omega
 | m+1,k,c,o,hlo,ho,hc0,hc1,hik,hv,hm=>by
  rw [Ayt];unfold A3g;dsimp only;have h1:=ha.get i;have h2:=hb.get k;have h3:=hlo.get (i+k);have h4:=A1y h1 h2;have hvo:=B7 hlo
  have go:∀ y:Int,i+k<S->(k<b.length \/ b.length<=k)->y=o.getD (i+k) 0+c+a.getD i 0*b.getD k 0 ->
    ∃ o',Lm o'/\o'.length=S/\vl o'=T/\My n m b (i:Int) (a.getD i 0) (W (Int.tdiv y 10000)) (W ((k:Int)+1)) q1 q2 q3 (o.set (i+k) (Int.tmod y 10000)) k0=k0 b q1 q2 q3 o':=by
   intro y hlt hk hy
   rw [tdv (by omega),tmd (by omega),Af (by omega) (by omega),Af (by omega) (by omega)]
   refine Avh (n:=n) ha hb i hi hS hN hT q1 q2 q3 m (k+1) _ _ (hlo.set _ (by omega)) (by simpa using ho) (by omega) (by omega) (by omega) ?_ (by omega)
   rw [Kv _ (by omega),show i+(k+1)=(i+k)+1 by omega,Bw]
   have hyy:y=10000*(y / 10000)+y % 10000:=by omega
   refine Agd (bk:=b.getD k 0) ?_ hy hyy;rcases hk with hk | hk
   . rw [<- Mt hk];exact hv
   . rw [ZD (by omega)] at hv ⊢
     rw [Bg hk];simpa [vl] using hv
  by_cases hB:k<b.length
  . have dB:decide ((k:Int)<(b.length:Int))=true:=by rw [QO];omega
    simp only [dB,ZN,QR]
    rw [Af (x:=(i:Int)+(k:Int)) (by omega) (by omega)]
    have e:((i:Int)+(k:Int)).toNat=i+k:=by omega
    simp only [e]
    rw [A4 (by simp;try omega),Af (x:=a.getD i 0*b.getD k 0) (by omega) (by omega),Af (x:=c+a.getD i 0*b.getD k 0) (by omega) (by omega),A4 (by simp;try omega),A4 (by simp;try omega),A4 (by simp;try omega),A4 (by simp;try omega),Af (x:=c+a.getD i 0*b.getD k 0+o.getD (i+k) 0) (by omega) (by omega)]
    exact go _ (by omega) (.inl hB) (by omega)
  . have dB:decide ((k:Int)<(b.length:Int))=false:=by rw [ZS];omega
    simp only [dB,QV];rw [QH]
    rw [ZD (by omega)] at hv
    by_cases hc:0<c
    . have hlt : i + k < S := by
       refine Aqp ?_
       have h5:(10000:Int) ^ (i+k)*1<=10000 ^ (i+k)*c:=XM (by omega) (by have:=Fh (i+k);omega)
       simp only [vl,Qah,Qbc] at hv;omega
      rw [QL (by omega),Af (x:=(i:Int)+(k:Int)) (by omega) (by omega)]
      have e:((i:Int)+(k:Int)).toNat=i+k:=by omega
      simp only [e]
      rw [A4 (by simp;try omega),A4 (by simp;try omega),A4 (by simp;try omega),A4 (by simp;try omega),Af (x:=c+o.getD (i+k) 0) (by omega) (by omega)]
      exact go _ hlt (.inr (by omega)) (by rw [Bg (l:=b) (by omega)];omega)
    . rw [QJ (by omega)]
      obtain rfl:c=0:=by omega
      exact ⟨o,hlo,ho,by simpa [vl] using hv,rfl⟩

theorem Anj {α:Type} {n:Nat} {a b:List Int} (ha:Lm a) (hb:Lm b) {S:Nat} (hS:a.length+b.length<=S) (hN:S<=1099511627776) (hn:S+1<=n) {k0:List Int->Option α} :
  ∀ (m i:Nat) (o:List Int),Lm o->o.length=S->i<=a.length->vl o=vl (a.take i)*vl b->a.length+1<=i+m ->
  ∃ o',Lm o'/\o'.length=S/\vl o'=vl a*vl b/\Mz n m b a (a.length:Int) (i:Int) o k0=k0 o'
 | 0,i,o,hlo,ho,hi,hv,hm=>by omega
 | m+1,i,o,hlo,ho,hi,hv,hm=>by
  rw [Ayv];unfold A3j;dsimp only;rw [QH];by_cases hA:i<a.length
  . rw [QL (by omega),A4 (by simp;try omega)]
    simp only [QR]
    have hT:vl (a.take (i+1))*vl b<10000 ^ S:=Avf ha hb (by omega)
    obtain ⟨o',q1,q2,q3,q4⟩:=Avh (n:=n) ha hb i hA hS hN hT a (a.length:Int) (i:Int) (k0:=λc d e f g=>Mz n m c d e (W (f+1)) g k0) n 0 0 o hlo ho (by omega) (by omega) (by omega) (by
     rw [hv,B9,ZT,KF];generalize (10000:Int) ^ i=P
     grind) (by omega)
    have q4:My n n b (i:Int) (a.getD i 0) 0 0 a (a.length:Int) (i:Int) o _=_:=q4
    rw [q4,Af (by omega) (by omega)]
    exact Anj (n:=n) ha hb hS hN hn m (i+1) o' q1 q2 (by omega) q3 (by omega)
  . rw [QJ (by omega)]
    obtain rfl:i=a.length:=by omega
    rw [YF] at hv;exact ⟨o,hlo,ho,hv,rfl⟩

theorem Bao {n:Nat} {a b:List Int} (ha:Lm a) (hb:Lm b) (hN:a.length+b.length<=1099511627770) (hn:a.length+b.length+2<=n):f200 n a b=some (dg (vl a*vl b).toNat):=by
 unfold f200
 rw [Af (x:=(a.length:Int)+(b.length:Int)) (by omega) (by omega),A4 (by simp;try omega)]
 have e:((a.length:Int)+(b.length:Int)).toNat=a.length+b.length:=by omega
 rw [e]
 obtain ⟨o,q1,q2,q3,q4⟩:=Anj (n:=n) ha hb (S:=a.length+b.length) (by omega) (by omega) (by omega) (k0:=λc=>ob (f225 n c) λd=>some d) n 0 (List.replicate (a.length+b.length) 0) (Lm.rep _) (by simp) (by omega) (by rw [Vv];simp [vl]) (by omega)
 have q4:Mz n n b a (a.length:Int) 0 _ _=_:=q4
 rw [q4,Qy q1 (by omega) (by omega),A2,q3]

theorem pwc (k:Nat):((10000 ^ k:Nat):Int)=(10000:Int) ^ k:=by rw [Int.natCast_pow];rfl

theorem Bde (Q:Nat):((10000*Q:Nat):Int)=10000*(Q:Int):=by omega

theorem A5v (Q q:Nat):((10000*Q+q:Nat):Int)=10000*(Q:Int)+q:=by omega

theorem Aey (Q q:Nat):((q+10000*Q:Nat):Int)=q+10000*(Q:Int):=by omega

theorem H6 {n k:Nat} (h:n<10000 ^ k):(dg n).length<=k:=Ru.2 (by rw [<- pwc];omega)

theorem A5x (n:Nat):n<10000 ^ (dg n).length:=by
 have:=Ru.1 (QY (dg n).length);rw [<- pwc] at this;omega

theorem I8 {n k:Nat} (h:(dg n).length<=k):n<10000 ^ k:=by
 have:=Ru.1 h;rw [<- pwc] at this;omega

theorem Bo (a b:Nat):(dg (a*b)).length<=(dg a).length+(dg b).length:=by
 refine H6 ?_;rw [Nat.pow_add];exact Nat.mul_lt_mul'' (A5x a) (A5x b)

theorem Anp (a b:Nat):(dg (a+b)).length<=max (dg a).length (dg b).length+1:=by
 refine H6 ?_
 have h1:a<10000 ^ max (dg a).length (dg b).length:=I8 (by omega)
 have h2:b<10000 ^ max (dg a).length (dg b).length:=I8 (by omega)
 rw [KK];omega

theorem A8o {a:Nat} (h:a<10000):(dg a).length<=1:=H6 (by simpa using h)

theorem B8p (a:Nat) (x:Nat) (h:x<10000):(dg (x+10000*a)).length<=(dg a).length+1:=by
 refine H6 ?_;have:=A5x a;rw [KK];omega

theorem Aeu {n a b:Nat} (h:(dg a).length<=1099511627776) (hn:(dg a).length<n):f188 n (dg a) (dg b)=some (cm a b):=by
 rw [Bbe (Gt a) (Gt b) h hn,Bl,Bl]

theorem M7 {n a b:Nat} (h:(dg a).length+(dg b).length<=1099511627770) (hn:(dg a).length+(dg b).length+2<=n):f185 n (dg a) (dg b)=some (dg (a*b)):=by
 rw [Bbj (Dq a) (Dq b) h hn,Bl,Bl];congr 1

theorem Bi9 {n a b:Nat} (h:(dg a).length<=1099511627776) (h':(dg b).length<=1099511627776) (hn:max (dg a).length (dg b).length+2<=n):f187 n (dg a) (dg b)=some (dg (a+b)):=by
 rw [Bbg (Gt a) (Gt b) h h' hn,Bl,Bl];congr 1

theorem Aqh {n a b:Nat} (h:(dg a).length<=1099511627776) (hn:(dg a).length+1<=n) (hab:b<=a):f189 n (dg a) (dg b)=some (dg (a-b)):=by
 rw [Bbc (Gt a) (Gt b) h hn (by rw [Bl,Bl];omega),Bl,Bl]
 congr 2;omega

theorem Md {n a b:Nat} (h:(dg a).length+(dg b).length<=1099511627770) (hn:(dg a).length+(dg b).length+2<=n):f200 n (dg a) (dg b)=some (dg (a*b)):=by
 rw [Bao (Dq a) (Dq b) h hn,Bl,Bl];congr 1

theorem Af0 {n a b:Nat} (h:(dg a).length<=1099511627776):f203 n (dg a) (dg b)=some (cm a b):=by
 rw [Bai (Gt a) (Gt b) h,Bl,Bl]

theorem Ala {α:Type} {n B R:Nat} (hBl:(dg B).length<=1099511627700) (hn:(dg B).length+20<=n) (b:List Int) (c:Int) (d:List Int) {k0:List Int->List Int->List Int->Int->Int->List Int->Option α} :
  ∀ (m lo hi:Nat),lo<hi->hi<=10000->lo*B<=R->R<hi*B->hi<=lo+m ->
  O8 n m b (dg B) (dg R) c (lo:Int) (hi:Int) d k0=k0 b (dg B) (dg R) c ((R / B:Nat):Int) d
 | 0,lo,hi,h1,h2,h3,h4,h5=>by omega
 | m+1,lo,hi,h1,h2,h3,h4,h5=>by
  rw [Asj];unfold Xk;dsimp only
  rw [Af (x:=(hi:Int)-(lo:Int)) (by omega) (by omega),Af (x:=(lo:Int)+(hi:Int)) (by omega) (by omega)]
  have e:Int.tdiv ((lo:Int)+(hi:Int)) 2=(((lo+hi) / 2:Nat):Int):=by
   rw [KM (by omega)];omega
  rw [e,Af (x:=(((lo+hi) / 2:Nat):Int)) (by omega) (by omega)]
  generalize hmid:(lo+hi) / 2=mid;by_cases hc:lo+1<hi
  . rw [QH,QL (by omega),R8 (by omega) (by omega),A2]
    have hl:=A8o (a:=mid) (by omega)
    have hm:=Bo B mid
    rw [M7 (by omega) (by omega),A2,Aeu (by omega) (by omega),A2,QH]
    by_cases hle:B*mid<=R
    . have : cm ((B * mid : Nat) : Int) (R : Int) <= 0 := by
       rcases KY hle with h | h
       . rw [Jb (by omega)];omega
       . rw [Kt (by omega)];omega
      rw [QL this]
      exact Ala hBl hn b c d m mid hi (by omega) h2 (by rw [KO];exact hle) h4 (by omega)
    . have : ¬ cm ((B * mid : Nat) : Int) (R : Int) <= 0 := by
       rw [Jd (by omega)];omega
      rw [QJ this]
      exact Ala hBl hn b c d m lo mid (by omega) (by omega) h3 (by rw [KO];omega) (by omega)
  . rw [QH,QJ (by omega)]
    obtain rfl:hi=lo+1:=by omega
    have:R / B=lo:=by
     rw [Nat.div_eq_iff (YA (by rintro rfl;simp at h4))]
     rw [YM] at h4;omega
    rw [this]

theorem Akx {α:Type} {n L A B:Nat} (hB:0<B) (hA:(dg A).length<=L) (hBl:(dg B).length<=L) (hL:L<=1099511627000) (hn:L+10040<=n) {k0:List Int->List Int->Option α} :
  ∀ (k m Q R:Nat) (o:List Int),k<m->k<=(dg A).length->R<B->o.length=(dg A).length->Lm o->(∀ i,i<k->o.getD i 0=0)->vl o=10000 ^ k*(Q:Int)->(Q:Int)*B+R=vl ((dg A).drop k) ->
  ∃ o',Lm o'/\o'.length=(dg A).length/\vl o'=((A / B:Nat):Int)/\Qz n m (dg A) (dg B) (dg R) ((k:Int)-1) o k0=k0 (dg (A % B)) o'
 | _,0,_,_,_,h1,_,_,_,_,_,_,_=>by omega
 | 0,m+1,Q,R,o,h1,h2,h3,h4,h5,h6,h7,h8=>by
  rw [Aco];unfold Ti;dsimp only
  rw [QH,QJ (by omega)]
  rw [ZT,Bl] at h8
  have h8:Q*B+R=A:=by
   have:((Q*B+R:Nat):Int)=A:=by rw [JO,YD];exact h8
   omega
  have h9:A / B=Q:=by rw [<- h8,Nat.add_comm,Qas _ _ hB,JJ h3,YH]
  have h10:A % B=R:=by rw [<- h8,JW,KU h3]
  exact ⟨o,h5,h4,by rw [h7,h9];simp,by rw [h10]⟩
 | k+1,m+1,Q,R,o,h1,h2,h3,h4,h5,h6,h7,h8=>by
  rw [Aco];unfold Ti;dsimp only
  rw [QH,QL (by omega)]
  rw [show (((k+1:Nat):Int)-1)=(k:Int) by omega]
  simp only [QR];have hg:=(Dq A).get k
  obtain ⟨x,hx⟩:∃ x:Nat,(dg A).getD k 0=(x:Int):=⟨((dg A).getD k 0).toNat,by omega⟩
  have hlR:(dg R).length<=L:=ZK (Bn (by omega)) hBl
  have hlRx:=B8p R x (by omega)
  have hRx:vl ((dg A).drop k)=(x:Int)+10000*((Q:Int)*B+R):=by
   rw [Mt (by omega),hx,<- h8]
  have hR':x+10000*R<10000*B:=by omega
  rw [hx,A4 (by simp;try omega),A4 (by simp;try omega),Zr (Lm.app (Lm.cons (by omega) Lm.nil) (Dq R)) (by simp;omega) (by simp;omega),A2]
  have e1:(vl ([(x:Int)]++dg R)).toNat=x+10000*R:=by
   rw [YI,KQ,vl,Bl];omega
  rw [e1,Aeu (by omega) (by omega),A2,Af (x:=(k:Int)-1) (by omega) (by omega),QH]
  by_cases hlt:x+10000*R<B
  . rw [QL (by rw [Jb (by omega)];omega)]
    refine Akx hB hA hBl hL hn k m (10000*Q) (x+10000*R) o (by omega) (by omega) hlt h4 h5 (λi hi=>h6 i (by omega)) ?_ ?_
    . rw [h7,Bw,Bde];grind
    . rw [hRx,Bde,Aey];grind
  . rw [QJ (by
     rcases KY (Nat.le_of_not_lt hlt) with h | h
     . rw [Jd (by omega)];omega
     . rw [Kt (by omega)];omega)]
    have hbis := Ala (n := n) (B := B) (R := x + 10000 * R) (by omega) (by omega) (dg A) (k : Int) o (k0 := fun e c f a d b => (
            gd (decide (0<=a)&&decide (a<(b.length:Int))) (
             gd (decide (a.toNat<b.length)) (
              ob (f181 n d) λg =>
              ob (f185 n c g) λj =>
              ob (f189 n f j) λl =>
              Qz n m e c l (W (a-1)) (b.set a.toNat d) k0)))) n 0 10000 (by omega) (by omega) (by omega) hR' (by omega)
    have hbis:O8 n n (dg A) (dg B) (dg (x+10000*R)) (k:Int) 0 10000 o _=_:=hbis;rw [hbis];simp only [QR]
    have hq:(x+10000*R) / B<10000:=by
     rw [JB hB];omega
    have hqr:=Qae (x+10000*R) B;have hqm:=KP (x+10000*R) hB;generalize hqq:(x+10000*R) / B=q at *;generalize hrr:(x+10000*R) % B=r at *;have hl1:=A8o hq;have hl2:=Bo B q
    rw [A4 (by simp;try omega),A4 (by simp;try omega),R8 (by omega) (by omega),A2,M7 (by omega) (by omega),A2,Aqh (by omega) (by omega) (by omega),A2,Af (x:=(k:Int)-1) (by omega) (by omega),show x+10000*R-B*q=r by omega]
    refine Akx hB hA hBl hL hn k m (10000*Q+q) r _ (by omega) (by omega) hqm (by simpa using h4) (h5.set _ (by omega)) (λi hi=>?_) ?_ ?_
    . rw [QG,ZW (by omega),<- QG]
      exact h6 i (by omega)
    . rw [Kv _ (by omega),h7,h6 k (by omega),Bw,A5v]
      generalize (10000:Int) ^ k=P;grind
    . rw [hRx]
      have:(B:Int)*q+r=x+10000*R:=by
       rw [<- Aey,<- hqr,JO,YD]
      rw [A5v];grind

theorem Aqi {n L A B:Nat} (hB:0<B) (hA:(dg A).length<=L) (hBl:(dg B).length<=L) (hL:L<=1099511627000) (hn:L+10040<=n):f219 n (dg A) (dg B)=some (dg (A / B),dg (A % B)):=by
 unfold f219
 rw [A4 (by simp;try omega),Af (x:=((dg A).length:Int)-1) (by omega) (by omega)]
 simp only [QR]
 obtain ⟨o, h1, h2, h3, h4⟩ := Akx (n := n) hB hA hBl hL hn (k0 := fun a b => (
       ob (f218 n b) λc =>
       some (c,a))) (dg A).length n 0 0 (List.replicate (dg A).length 0) (by omega) (QY _) hB (by simp) (Lm.rep _) (λi hi=>by simp [QG,XV,hi]) (by rw [Vv];simp) (by simp [vl])
 rw [Cj] at h4
 rw [h4,Zr h1 (by omega) (by omega),A2,h3]
 rfl

theorem Agv {a b:Nat} (hb:0<b) (hr:0<a % b) {j:Nat} (h:b<2 ^ (j+1)):b % (a % b)<2 ^ j:=by
 have h1:=KP a hb;have h2:=KP b hr;have h3:=Qae b (a % b);generalize a % b=r at *
 have h4:1<=b / r:=by rw [Nat.le_div_iff_mul_le hr];omega
 have h5:r*1<=r*(b / r):=YB r h4;rw [KK] at h;omega

theorem Bdt {α:Type} {n L:Nat} (hL:L<=1099511627000) (hn:L+10040<=n) {k0:List Int->Option α} :
  ∀ (j m a b:Nat),b<2 ^ j->2*j+1<=m->(dg a).length<=L->(dg b).length<=L->K8 n m (dg a) (dg b) k0=k0 (dg (Nat.gcd b a)):=by
 have stop:∀ (m a:Nat),0<m->K8 n m (dg a) (dg 0) k0=k0 (dg (Nat.gcd 0 a)):=λm a hm=>by
  obtain ⟨m,rfl⟩:∃ m',m=m'+1:=⟨m-1,by omega⟩
  rw [Acr,Qan,Cj];rfl
 have step:∀ (m a b:Nat),0<b->(dg a).length<=L->(dg b).length<=L->K8 n (m+1) (dg a) (dg b) k0=K8 n m (dg b) (dg (a % b)) k0:=λm a b hb ha hbl=>by
  rw [Acr];unfold A30
  have:0<(dg b).length:=by rw [Ez (by omega)];simp
  rw [QH,QL (by omega),Aqi hb ha hbl hL hn,A2]
 intro j
 induction j with
 | zero =>
  intro m a b h1 h2 h3 h4
  obtain rfl:b=0:=by simpa using h1
  exact stop m a (by omega)
 | succ j ih =>
  intro m a b h1 h2 h3 h4;rcases YY b with rfl | hb
  . exact stop m a (by omega)
  obtain ⟨m,rfl⟩:∃ m',m=m'+2:=⟨m-2,by omega⟩
  have h5:(dg (a % b)).length<=L:=ZK (Bn (Nat.le_of_lt (KP a hb))) h4;rw [step _ _ _ hb h3 h4,Nat.gcd_rec b a];rcases YY (a % b) with hr | hr
  . rw [hr];exact stop _ _ (by omega)
  have h6:(dg (b % (a % b))).length<=L:=ZK (Bn (Nat.le_of_lt (KP b hr))) h5;rw [step _ _ _ hr h4 h5,Nat.gcd_rec (a % b) b]
  exact ih m _ _ (Agv hb hr h1) (by omega) h5 h6

theorem And {b L:Nat} (h:b<10000 ^ L):b<2 ^ (14*L):=by
 rw [Nat.pow_mul]
 exact ZU h (Nat.pow_le_pow_left (by decide) L)

theorem B6x {n L a b:Nat} (hL:L<=1099511627000) (hn:28*L+10040<=n) (ha:(dg a).length<=L) (hb:(dg b).length<=L):f217 n (dg a) (dg b)=some (dg (Nat.gcd a b)):=by
 unfold f217
 have h1:(dg (Nat.gcd b a)).length<=L:=by
  rcases YY b with rfl | h
  . rw [Qan];exact ha
  . exact ZK (Bn (Nat.gcd_le_left a h)) hb
 rw [Bdt hL (by omega) (14*L) n a b (And (I8 hb)) (by omega) ha hb,A4 (by simp;try omega),Nat.gcd_comm]

theorem Qo {pre w post:List Int} {i:Nat} (h:i<w.length):(pre++w++post).getD (pre.length+i) 0=w.getD i 0:=by
 rw [ZO,QG,QZ (by omega),Qak,ZA h,<- QG]

theorem Ank {pre w post:List Int} {i:Nat} (h:i<w.length) (x:Int):(pre++w++post).set (pre.length+i) x=pre++w.set i x++post:=by
 rw [ZO,KE _ _ (by omega),Qak,List.set_append_left _ _ h,ZO]

theorem B1w {y:Int} (h:y<0) (h':-1099511627776<y):W (Int.tdiv (W (W (y-10000)+1)) 10000)=y / 10000:=by
 rw [Af (x:=y-10000) (by omega) (by omega),Af (x:=y-10000+1) (by omega) (by omega)]
 have:Int.tdiv (y-10000+1) 10000=y / 10000:=by
  rw [show y-10000+1 = -(9999-y) by omega,Int.neg_tdiv,KM (by omega)]
  omega
 rw [this,Af (by omega) (by omega)]

theorem B2r {o P q c wi bi v' T y d r:Int} (h:o+P*(c-q*(bi+10000*v'))=T) (hy:y=wi+c-q*bi) (hd:y=10000*d+r):o+P*(r-wi)+10000*P*(d-q*v')=T:=by
 grind

theorem Av7 {o P c wi bi v' T y d r:Int} (h:o+P*(c+(bi+10000*v'))=T) (hy:y=wi+c+bi) (hd:y=10000*d+r):o+P*(r-wi)+10000*P*(d+v')=T:=by
 grind

theorem A1m {l:List Int} (k:Nat):vl (l.drop k)=l.getD k 0+10000*vl (l.drop (k+1)):=by
 rcases XE k l.length with h | h
 . exact Mt h
 . rw [ZD h,ZD (by omega),Bg h];rfl

theorem Aun {α:Type} {n N:Nat} {b pre post:List Int} (hb:Lm b) (hbN:b.length=N) (hN:pre.length+N+1+post.length<=1099511627776) {q:Int} (hq:0<=q/\q<10000) {T:Int} {k0:Nat->Nat->List Int->Int->Int->Int->List Int->Option α} :
  ∀ (m i:Nat) (c:Int) (w:List Int),Lm w->w.length=N+1->-9999<=c->c<=0->i<=N+1->vl w+10000 ^ i*(c-q*vl (b.drop i))=T->N+2<=i+m ->
  ∃ w' c',Lm w'/\w'.length=N+1/\c'<=0/\vl w'+10000 ^ (N+1)*c'=T/\G3 n m pre.length (N+1) b (b.length:Int) q c ((N+1:Nat):Int) (i:Int) (pre++w++post) k0=k0 pre.length (N+1) b (b.length:Int) q c' (pre++w'++post)
 | 0,i,c,w,h1,h2,h3,h4,h5,h6,h7=>by omega
 | m+1,i,c,w,h1,h2,h3,h4,h5,h6,h7=>by
  rw [As8];unfold X5;dsimp only;by_cases hi:i<N+1
  . rw [QH,QL (by omega)]
    simp only [QR]
    rw [A4 (by simp;try omega),A4 (by simp;try omega)]
    simp only [Qo (pre:=pre) (post:=post) (w:=w) (i:=i) (by omega)]
    have g1:=h1.get i;have g2:=hb.get i;have g3:=A1y hq g2
    have go:∀ y:Int,y=w.getD i 0+c-q*b.getD i 0 ->
      ∃ w' c',Lm w'/\w'.length=N+1/\c'<=0/\vl w'+10000 ^ (N+1)*c'=T /\
      (bif (decide (y<0)) then (gd (decide (0<=(i:Int))&&decide ((i:Int)<((N+1:Nat):Int))) (
        gd (decide ((pre.length+i)<(pre++w++post).length)) (
         G3 n m pre.length (N+1) b (b.length:Int) q (W (Int.tdiv (W ((W (y-10000))+1)) 10000)) ((N+1:Nat):Int) (W ((i:Int)+1)) ((pre++w++post).set (pre.length+i) (W (y-(W ((W (Int.tdiv (W ((W (y-10000))+1)) 10000))*10000))))) k0)))
       else (gd (decide (0<=(i:Int))&&decide ((i:Int)<((N+1:Nat):Int))) (
        gd (decide ((pre.length+i)<(pre++w++post).length)) (
         G3 n m pre.length (N+1) b (b.length:Int) q 0 ((N+1:Nat):Int) (W ((i:Int)+1)) ((pre++w++post).set (pre.length+i) (W (y-(W (0*10000))))) k0))))=k0 pre.length (N+1) b (b.length:Int) q c' (pre++w'++post):=by
     intro y hy
     have hd:y=10000*(y / 10000)+y % 10000:=by omega
     have go2 : ∀ d : Int, d = y / 10000 -> ∃ w' c', Lm w' /\ w'.length = N + 1 /\ c' <= 0 /\ vl w' + 10000 ^ (N + 1) * c' = T /\ (gd (decide (0 <= (i : Int)) && decide ((i : Int) < ((N + 1 : Nat) : Int))) (
           gd (decide ((pre.length+i)<(pre++w++post).length)) (
            G3 n m pre.length (N+1) b (b.length:Int) q d ((N+1:Nat):Int) (W ((i:Int)+1)) ((pre++w++post).set (pre.length+i) (W (y-(W (d*10000))))) k0)))=k0 pre.length (N+1) b (b.length:Int) q c' (pre++w'++post):=by
      intro d hdd
      rw [A4 (by simp;try omega),A4 (by simp;try omega),Ank (by omega),Af (x:=d*10000) (by omega) (by omega),Af (x:=y-d*10000) (by omega) (by omega),Af (x:=(i:Int)+1) (by omega) (by omega)]
      refine Aun (n:=n) hb hbN hN hq m (i+1) d _ (h1.set _ (by omega)) (by simpa using h2) (by omega) (by omega) (by omega) ?_ (by omega)
      rw [Kv _ (by omega),Bw]
      refine B2r (bi:=b.getD i 0) ?_ hy (by omega)
      rw [<- A1m];exact h6
     rw [QH];by_cases hneg:y<0
     . rw [QL hneg]
       simp only [B1w hneg (by omega)]
       exact go2 _ rfl
     . rw [QJ hneg]
       exact go2 0 (by omega)
    by_cases hB:i<b.length
    . have dB:decide ((i:Int)<(b.length:Int))=true:=by rw [QO];omega
      simp only [dB,ZN]
      rw [A4 (by simp;try omega)]
      simp only [Af (x:=q*b.getD i 0) (by omega) (by omega),Af (x:=w.getD i 0+c) (by omega) (by omega),Af (x:=w.getD i 0+c-q*b.getD i 0) (by omega) (by omega)]
      exact go _ rfl
    . have dB:decide ((i:Int)<(b.length:Int))=false:=by rw [ZS];omega
      simp only [dB,QV]
      simp only [Af (x:=w.getD i 0+c) (by omega) (by omega)]
      exact go _ (by rw [Bg (l:=b) (by omega)];omega)
  . rw [QH,QJ (by omega)]
    obtain rfl:i=N+1:=by omega
    rw [ZD (by omega)] at h6
    exact ⟨w,c,h1,h2,h4,by simpa [vl] using h6,rfl⟩

theorem Ane {α:Type} {n N:Nat} {b pre post:List Int} (hb:Lm b) (hbN:b.length=N) (hN:pre.length+N+1+post.length<=1099511627776) {q z:Int} {T:Int} {k0:Nat->Nat->List Int->Int->Int->Int->Int->List Int->Option α} :
  ∀ (m i:Nat) (c:Int) (w:List Int),Lm w->w.length=N+1->0<=c->c<=1->i<=N+1->vl w+10000 ^ i*(c+vl (b.drop i))=T->N+2<=i+m ->
  ∃ w' c',Lm w'/\w'.length=N+1/\0<=c'/\c'<=1/\vl w'+10000 ^ (N+1)*c'=T/\Ia n m pre.length (N+1) b (b.length:Int) q z c ((N+1:Nat):Int) (i:Int) (pre++w++post) k0=k0 pre.length (N+1) b (b.length:Int) q z c' (pre++w'++post)
 | 0,i,c,w,h1,h2,h3,h4,h5,h6,h7=>by omega
 | m+1,i,c,w,h1,h2,h3,h4,h5,h6,h7=>by
  rw [Amc];unfold T9;dsimp only;by_cases hi:i<N+1
  . rw [QH,QL (by omega)]
    simp only [QR]
    rw [A4 (by simp;try omega),A4 (by simp;try omega),Qo (by omega)]
    have g1:=h1.get i;have g2:=hb.get i
    have go : ∀ y : Int, y = w.getD i 0 + c + b.getD i 0 -> ∃ w' c', Lm w' /\ w'.length = N + 1 /\ 0 <= c' /\ c' <= 1 /\ vl w' + 10000 ^ (N + 1) * c' = T /\ (gd (decide (0 <= (i : Int)) && decide ((i : Int) < ((N + 1 : Nat) : Int))) (
            gd (decide ((pre.length+i)<(pre++w++post).length)) (
             Ia n m pre.length (N+1) b (b.length:Int) q z (W (Int.tdiv y 10000)) ((N+1:Nat):Int) (W ((i:Int)+1)) ((pre++w++post).set (pre.length+i) (Int.tmod y 10000)) k0)))=k0 pre.length (N+1) b (b.length:Int) q z c' (pre++w'++post):=by
     intro y hy
     have hd:y=10000*(y / 10000)+y % 10000:=by omega
     rw [A4 (by simp;try omega),A4 (by simp;try omega),Ank (by omega),tdv (by omega),tmd (by omega),Af (x:=y / 10000) (by omega) (by omega),Af (x:=(i:Int)+1) (by omega) (by omega)]
     refine Ane (n:=n) hb hbN hN m (i+1) _ _ (h1.set _ (by omega)) (by simpa using h2) (by omega) (by omega) (by omega) ?_ (by omega)
     rw [Kv _ (by omega),Bw]
     refine Av7 (bi:=b.getD i 0) ?_ hy hd;rw [<- A1m];exact h6
    by_cases hB:i<b.length
    . have dB:decide ((i:Int)<(b.length:Int))=true:=by rw [QO];omega
      simp only [dB,ZN]
      rw [A4 (by simp;try omega)]
      simp only [Af (x:=w.getD i 0+c) (by omega) (by omega),Af (x:=w.getD i 0+c+b.getD i 0) (by omega) (by omega)]
      exact go _ rfl
    . have dB:decide ((i:Int)<(b.length:Int))=false:=by rw [ZS];omega
      simp only [dB,QV]
      simp only [Af (x:=w.getD i 0+c) (by omega) (by omega)]
      exact go _ (by rw [Bg (l:=b) (by omega)];omega)
  . rw [QH,QJ (by omega)]
    obtain rfl:i=N+1:=by omega
    rw [ZD (by omega)] at h6
    exact ⟨w,c,h1,h2,h3,h4,by simpa [vl] using h6,rfl⟩

theorem B6k {P v c R qB:Int} (h1:v<P) (hP:0<P) (h:v+P*c=R-qB) (hc:c<0):R-qB<0:=by
 have:P*c<=P*(-1):=XM (by omega) (by omega)
 omega

theorem B6l {P v c R q B:Int} (h0:v<P) (h:v+P*c=R-q*B) (hB:0<=B) (hBP:B<P) (hR:0<=R) (hq:q<10000) (hq0:0<=q):-10000<=c:=by
 have h9:q*B<=10000*B:=Int.mul_le_mul_of_nonneg_right (by omega) (by omega)
 rcases Int.lt_or_le c (-10000) with h1 | h1
 . have h8:P*c<=P*(-10001):=XM (by omega) (by omega)
   exfalso;omega
 . exact h1

theorem B6j {v v' x x' R qB B:Int} (h:v+x=R-qB) (h':v'+x'=v+B):v'+(x+x')=R-(qB-B):=by omega

theorem Aq2 {α:Type} {n N R B:Nat} {pre post:List Int} (hB:0<B) (hbN:(dg B).length=N) (hN:pre.length+N+1+post.length<=1099511627776) (hn:N+2<=n) {k0:Int->List Int->Option α} :
  ∀ (m q:Nat) (c:Int) (w:List Int),Lm w->w.length=N+1->c<=0->vl w+10000 ^ (N+1)*c=(R:Int)-q*B->R / B<=q->q<10000->q<m ->
  ∃ w',Lm w'/\w'.length=N+1/\vl w'=((R % B:Nat):Int)/\Ib n m pre.length (N+1) (dg B) ((dg B).length:Int) (q:Int) c (pre++w++post) k0=k0 ((R / B:Nat):Int) (pre++w'++post)
 | 0,q,c,w,h1,h2,h3,h4,h5,h6,h7=>by omega
 | m+1,q,c,w,h1,h2,h3,h4,h5,h6,h7=>by
  rw [Ame];unfold Tc;dsimp only;have hw:=Hl h1;have hw0:=B7 h1;rw [h2] at hw;rw [QH];have hP:=Fh (N+1);have hBP:=A5x B;rw [hbN] at hBP;have hdm:=Qae R B;have hml:=KP R hB;by_cases hc:c<0
  . rw [QL hc];have hneg:=B6k hw hP h4 hc
    have hlt:R / B<q:=by
     rw [JB hB];have:((q*B:Nat):Int)=(q:Int)*B:=YD q B;omega
    have hq0:0<q:=Nat.lt_of_le_of_lt (KG _) hlt
    have hBi:(B:Int)<10000 ^ N:=by rw [<- pwc];omega
    have hBP':(B:Int)<10000 ^ (N+1):=by
     have:=Yn (show N<=N+1 by omega)
     omega
    have hcm:=B6l (q:=(q:Int)) hw h4 (by omega) hBP' (by omega) (by omega) (by omega)
    rw [Af (x:=(q:Int)-1) (by omega) (by omega),show (q:Int)-1=((q-1:Nat):Int) by omega]
    obtain ⟨w',c',q1,q2,q3,q4,q5,q6⟩:=Ane (n:=n) (Dq B) hbN hN (q:=((q-1:Nat):Int)) (z:=c) (T:=vl w+B) (k0:=λa b d f g h i j=>(
     Ib n m a b d f g (W (h+i)) j k0)) n 0 0 w h1 h2 (by omega) (by omega) (by omega) (by rw [ZT,Bl,Int.pow_zero,Int.one_mul,Int.zero_add]) (by omega)
    have q6:Ia n n pre.length (N+1) (dg B) ((dg B).length:Int) ((q-1:Nat):Int) c 0 ((N+1:Nat):Int) 0 (pre++w++post) _=_:=q6;rw [q6]
    have hq1:((q-1:Nat):Int)*B=q*B-B:=by
     rw [show ((q-1:Nat):Int)=(q:Int)-1 by omega,Int.sub_mul,Int.one_mul]
    have hnew:vl w'+10000 ^ (N+1)*(c+c')=(R:Int)-((q-1:Nat):Int)*B:=by
     rw [Int.mul_add,hq1];exact B6j h4 q5
    rw [Af (x:=c+c') (by omega) (by omega)]
    exact Aq2 hB hbN hN hn m (q-1) (c+c') w' q1 q2 (by omega) hnew (by omega) (by omega) (by omega)
  . rw [QJ hc]
    obtain rfl:c=0:=by omega
    rw [Qah,Qbc] at h4
    have e:R / B=q:=by
     refine Nat.le_antisymm h5 ?_;rw [Nat.le_div_iff_mul_le hB];have:((q*B:Nat):Int)=(q:Int)*B:=YD q B;omega
    refine ⟨w,h1,h2,?_,by rw [e]⟩
    have:((B*q:Nat):Int)=(q:Int)*B:=by rw [YD,Int.mul_comm]
    rw [e] at hdm;omega

theorem Bif {P lowR lowB high top t R B:Int} (hR:R=lowR+P*high) (hB:B=lowB+P*top) (h1:lowR<P) (h2:0<=lowB) (hP:0<P) (ht:0<=t) (hle:t*B<=R):t*top<=high:=by
 have h3:t*(P*top)<=t*B:=XM (by omega) ht
 have h4:P*(t*top)<P*(high+1):=by
  rw [Int.mul_add,Int.mul_one,show P*(t*top)=t*(P*top) by grind];omega
 have:=Int.lt_of_mul_lt_mul_left h4 (by omega)
 omega

theorem B50 {n M R B:Nat} {pre w post:List Int} (hbN:(dg B).length=M+2) (hN:pre.length+(M+2)+1+post.length<=1099511627776) (hn:M+10010<=n) (hw:Lm w) (hwl:w.length=M+3) (hv:vl w=(R:Int)) (hR:R<10000*B) :
  ∃ w',Lm w'/\w'.length=M+3/\vl w'=((R % B:Nat):Int)/\Af3 n (pre++w++post,pre.length,M+3) (dg B)=some (((R / B:Nat):Int),pre++w'++post):=by
 have hB:0<B:=by omega
 unfold Af3;dsimp only;rw [hbN]
 rw [Af (x:=((M+2:Nat):Int)-1) (by omega) (by omega),Af (x:=((M+2:Nat):Int)-2) (by omega) (by omega),show ((M+2:Nat):Int)-1=((M+1:Nat):Int) by omega,show ((M+2:Nat):Int)-2=(M:Int) by omega]
 simp only [QR];have hb:=Dq B;have g0:=hw.get (M+2);have g1:=hw.get (M+1);have g2:=hw.get M;have s:=hb.get (M+1);have t:=hb.get M
 have bt:(dg B).getD (M+1) 0 ≠ 0:=by
  have:=(Gt B).2 (XA.1 (by omega))
  rw [hbN] at this;exact this
 rw [A4 (by simp;try omega),A4 (by simp;try omega),A4 (by simp;try omega),A4 (by simp;try omega),A4 (by simp;try omega),A4 (by simp;try omega),A4 (by simp;try omega),A4 (by simp;try omega)]
 simp only [Qo (pre:=pre) (post:=post) (w:=w) (i:=M+2) (by omega),Qo (pre:=pre) (post:=post) (w:=w) (i:=M+1) (by omega),Qo (pre:=pre) (post:=post) (w:=w) (i:=M) (by omega)]
 simp only [Af (x:=(dg B).getD (M+1) 0*10000) (by omega) (by omega),Af (x:=(dg B).getD (M+1) 0*10000+(dg B).getD M 0) (by omega) (by omega),Af (x:=w.getD (M+2) 0*10000) (by omega) (by omega),Af (x:=w.getD (M+2) 0*10000+w.getD (M+1) 0) (by omega) (by omega),Af (x:=(w.getD (M+2) 0*10000+w.getD (M+1) 0)*10000) (by omega) (by omega),Af (x:=(w.getD (M+2) 0*10000+w.getD (M+1) 0)*10000+w.getD M 0) (by omega) (by omega)]
 rw [A4 (by simp only [QO];omega)]
 have vw:(R:Int)=vl (w.take M)+10000 ^ M*((w.getD (M+2) 0*10000+w.getD (M+1) 0)*10000+w.getD M 0):=by
  have t1:=B9 w (M+2);have t2:=B9 w (M+1);have t3:=B9 w M
  rw [Jo w (by omega),hv] at t1
  rw [t1,t2,t3,Bw,Bw];grind
 have vb:(B:Int)=vl ((dg B).take M)+10000 ^ M*((dg B).getD (M+1) 0*10000+(dg B).getD M 0):=by
  have t2:=B9 (dg B) (M+1);have t3:=B9 (dg B) M
  rw [Jo (dg B) (by omega),Bl] at t2
  rw [t2,t3,Bw];grind
 have lw:=Hl (hw.take M)
 rw [YT,JM (by omega)] at lw
 have lb:=B7 (hb.take M);generalize hhigh:(w.getD (M+2) 0*10000+w.getD (M+1) 0)*10000+w.getD M 0=high at *;generalize htop:(dg B).getD (M+1) 0*10000+(dg B).getD M 0=top at *
 have htop0:0<top:=by omega
 have hh0:0<=high/\high<1000000000000:=by omega
 rw [KM (by omega)]
 have hd0:0<=high / top:=Int.ediv_nonneg (by omega) (by omega)
 have hd1:high / top<=high:=Int.ediv_le_self _ (by omega)
 rw [Af (x:=high / top) (by omega) (by omega)]
 obtain ⟨q,hq⟩:∃ q:Nat,min (high / top) 9999=(q:Int):=⟨(min (high / top) 9999).toNat,by omega⟩
 have hql:q<10000:=by omega
 have hqr:R / B<=q:=by
  have h1:(((R / B:Nat):Int))*top<=high:=by
   refine Bif vw vb lw lb (Fh M) (Int.natCast_nonneg _) ?_;have:=Nat.div_mul_le_self R B;rw [<- YD];omega
  have h2:((R / B:Nat):Int)<=high / top:=by rw [Int.le_ediv_iff_mul_le htop0];exact h1
  have h3:R / B<10000:=by rw [JB hB];omega
  omega
 rw [hq]
 obtain ⟨w1, e, r1, r2, r3, r4, r5⟩ := Aun (n := n) (N := M + 2) (b := dg B) (pre := pre) (post := post) hb hbN hN (q := (q : Int)) (by omega) (T := (R : Int) - q * B) (k0 := fun f g h j k l m => (
                       Ib n n f g h j k l m
                        (λa c=>(
                         some (a,c))))) n 0 0 w hw hwl (by omega) (by omega) (by omega) (by rw [ZT,Bl,hv,Int.pow_zero,Int.one_mul,Int.zero_sub,Int.sub_eq_add_neg]) (by omega)
 obtain ⟨w2,o,p,r,d⟩:=Aq2 (n:=n) (N:=M+2) (R:=R) (B:=B) (pre:=pre) (post:=post) hB hbN hN (by omega) (k0:=λa c=>(some (a,c))) n q e w1 r1 r2 r3 r4 hqr hql (by omega)
 refine ⟨w2,o,p,r,?_⟩;rw [hbN] at r5 d;have r5:G3 n n pre.length (M+3) (dg B) ((M+2:Nat):Int) (q:Int) 0 ((M+3:Nat):Int) 0 (pre++w++post) _=_:=r5;rw [r5];exact d

theorem Bi4 (y b:Nat):Int.tdiv (y:Int) (b:Int)=((y / b:Nat):Int):=by
 rw [KM (by omega),Int.natCast_ediv]

theorem Bi3 (y b:Nat):Int.tmod (y:Int) (b:Int)=((y % b:Nat):Int):=by
 rw [Int.tmod_eq_emod_of_nonneg (by omega),Int.natCast_emod]

theorem An8 {o:List Int} {k i:Nat} {x:Int} (h:∀ i,i<k+1->o.getD i 0=0) (hi:i<k):(o.set k x).getD i 0=0:=by
 rw [QG,ZW (by omega),<- QG]
 exact h i (by omega)

theorem Afr {Q B R x q r y:Nat} (hy:x+10000*R=y) (hqr:B*q+r=y) {V:Int} (hV:(Q:Int)*B+R=V):((10000*Q+q:Nat):Int)*B+r=x+10000*V:=by
 have:(B:Int)*q+r=x+10000*R:=by
  rw [<- Aey,hy,<- hqr,JO,YD]
 rw [A5v,<- hV];grind

theorem Ava {α:Type} {n A B:Nat} (hB:0<B) (hB1:B<10000) (hlA:(dg A).length<=1099511627000) {k0:Int->List Int->Option α} :
  ∀ (k Q R:Nat) (o:List Int),k<=(dg A).length->R<B->o.length=(dg A).length->Lm o->(∀ i,i<k->o.getD i 0=0)->vl o=10000 ^ k*(Q:Int)->(Q:Int)*B+R=vl ((dg A).drop k) ->
  ∃ o',Lm o'/\o'.length=(dg A).length/\vl o'=((A / B:Nat):Int)/\K3 n (dg A) k (dg A) [(B:Int)] (R:Int) o k0=k0 ((A % B:Nat):Int) o'
 | 0,Q,R,o,h2,h3,h4,h5,h6,h7,h8=>by
  rw [Axu];rw [ZT,Bl] at h8
  have h8:Q*B+R=A:=by
   have:((Q*B+R:Nat):Int)=A:=by rw [JO,YD];exact h8
   omega
  have h9:A / B=Q:=by rw [<- h8,Nat.add_comm,Qas _ _ hB,JJ h3,YH]
  have h10:A % B=R:=by rw [<- h8,JW,KU h3]
  exact ⟨o,h5,h4,by rw [h7,h9];simp,by rw [h10]⟩
 | k+1,Q,R,o,h2,h3,h4,h5,h6,h7,h8=>by
  rw [Axs];unfold A2g;dsimp only;have hg:=(Dq A).get k
  obtain ⟨x,hx⟩:∃ x:Nat,(dg A).getD k 0=(x:Int):=⟨((dg A).getD k 0).toNat,by omega⟩
  have hRx:vl ((dg A).drop k)=(x:Int)+10000*vl ((dg A).drop (k+1)):=by
   rw [Mt (by omega),hx]
  simp only [QR]
  rw [A4 (by simp;try omega),A4 (by simp;omega),A4 (by simp;try omega),A4 (by simp;omega),A4 (by simp;try omega),A4 (by simp;try omega),A4 (by simp),hx]
  rw [Af (x:=(R:Int)*10000) (by omega) (by omega),Af (x:=(R:Int)*10000+(x:Int)) (by omega) (by omega),show (R:Int)*10000+(x:Int)=((x+10000*R:Nat):Int) by omega]
  have e0:([(B:Int)]).getD 0 0=(B:Int):=rfl;rw [e0,Bi4,Bi3]
  have hq:(x+10000*R) / B<10000:=by
   rw [JB hB];omega
  have hqr:=Qae (x+10000*R) B;have hqm:=KP (x+10000*R) hB;generalize (x+10000*R) / B=q at *;generalize (x+10000*R) % B=r at *
  rw [Af (x:=(q:Int)) (by omega) (by omega)]
  refine Ava hB hB1 hlA k (10000*Q+q) r _ (by omega) hqm (by simpa using h4) (h5.set _ (by omega)) (λi hi=>An8 h6 hi) ?_ ?_
  . rw [Kv _ (by omega),h7,h6 k (by omega),Bw,A5v]
    generalize (10000:Int) ^ k=P;grind
  . rw [hRx,<- h8];exact Afr rfl hqr rfl

theorem Ann {α:Type} {n A B M:Nat} (hM:(dg B).length=M+2) (hla:(dg B).length<=(dg A).length) (hlA:(dg A).length<=1099511627000) (hn:(dg A).length+10040<=n) {k0:List Int->List Int->Option α} :
  ∀ (k m Q R:Nat) (o u:List Int),k<m->k<=(dg A).length-(M+1)->R<B->o.length=(dg A).length-(M+1)->Lm o->(∀ i,i<k->o.getD i 0=0)->vl o=10000 ^ k*(Q:Int) ->
  Lm u->u.length+k=(dg A).length+1->vl u=(R:Int)->(Q:Int)*B+R=vl ((dg A).drop k) ->
  ∃ o' u',Lm o'/\o'.length=(dg A).length-(M+1)/\vl o'=((A / B:Nat):Int)/\Lm u'/\u'.length=(dg A).length+1/\vl u'=((A % B:Nat):Int) /\
   Te n m ((dg B).length:Int) ((k:Int)-1) (dg B) o ((dg A).take k++u) k0=k0 o' u'
 | _,0,_,_,_,_,h1,_,_,_,_,_,_,_,_,_,_=>by omega
 | 0,m+1,Q,R,o,u,h1,h2,h3,h4,h5,h6,h7,u1,u2,u3,h8=>by
  rw [A6n];unfold Pi;dsimp only
  rw [QH,QJ (by omega)]
  rw [ZT,Bl] at h8
  have h8:Q*B+R=A:=by
   have:((Q*B+R:Nat):Int)=A:=by rw [JO,YD];exact h8
   omega
  have hB:0<B:=by omega
  have h9:A / B=Q:=by rw [<- h8,Nat.add_comm,Qas _ _ hB,JJ h3,YH]
  have h10:A % B=R:=by rw [<- h8,JW,KU h3]
  exact ⟨o,u,h5,h4,by rw [h7,h9];simp,u1,by omega,by rw [u3,h10],by simp⟩
 | k+1,m+1,Q,R,o,u,h1,h2,h3,h4,h5,h6,h7,u1,u2,u3,h8=>by
  rw [A6n];unfold Pi;dsimp only
  have hB:0<B:=by omega
  rw [QH,QL (by omega)]
  rw [show (((k+1:Nat):Int)-1)=(k:Int) by omega]
  have hg:=(Dq A).get k
  obtain ⟨x,hx⟩:∃ x:Nat,(dg A).getD k 0=(x:Int):=⟨((dg A).getD k 0).toNat,by omega⟩
  have hRx:vl ((dg A).drop k)=(x:Int)+10000*vl ((dg A).drop (k+1)):=by
   rw [Mt (by omega),hx]
  have htk:(dg A).take (k+1)++u=(dg A).take k++((x:Int)::u):=by
   rw [YP (by omega),ZO]
   congr 1
   rw [<- hx,QG,QN (by omega)]
   rfl
  have hL:Lm ((x:Int)::u):=Lm.cons (by omega) u1
  have hv:vl ((x:Int)::u)=((x+10000*R:Nat):Int):=by rw [vl,u3,Aey]
  have hlt:x+10000*R<10000*B:=by omega
  obtain ⟨w,post,hwp,hw,hp,hwl⟩:∃ w post,(x:Int)::u=w++post/\Lm w/\Lm post/\w.length=M+3 :=
   ⟨((x:Int)::u).take (M+3),((x:Int)::u).drop (M+3),(JA _ _).symm,hL.take _,hL.drop _,by rw [YT,ZC];omega⟩
  have hlp:w.length+post.length=u.length+1:=by
   have:=XU List.length hwp;simpa using this.symm
  have hvp:vl post=0:=by
   have e:=hv;rw [hwp,A5o,hwl] at e
   have h10:B<10000 ^ (M+2):=I8 (by omega)
   have h11:((x+10000*R:Nat):Int)<10000 ^ (M+3):=by
    rw [Bw,<- pwc];omega
   have h12:=B7 hw;have h13:=B7 hp;rcases Int.lt_or_eq_of_le h13 with h | h
   . exfalso
     have h14:(10000:Int) ^ (M+3)*1<=10000 ^ (M+3)*vl post:=XM (by omega) (by have:=Fh (M+3);omega)
     generalize (10000:Int) ^ (M+3)*vl post=z at *;generalize (10000:Int) ^ (M+3)=P at *;omega
   . exact h.symm
  have hvw:vl w=((x+10000*R:Nat):Int):=by
   rw [<- hv,hwp,A5o,hvp];simp
  rw [htk,hwp,<- ZO]
  have hpl:((dg A).take k).length=k:=by rw [YT];omega
  obtain ⟨w',q1,q2,q3,q4⟩:=B50 (n:=n) (pre:=(dg A).take k) (post:=post) hM (by omega) (by omega) hw hwl hvw hlt
  rw [hpl] at q4
  rw [Af (x:=(k:Int)+((dg B).length:Int)) (by omega) (by omega),Af (x:=(k:Int)+((dg B).length:Int)+1) (by omega) (by omega)]
  rw [A4 (by simp only [QE,QO,XK,hpl];omega)]
  rw [show ((k:Int)+((dg B).length:Int)+1).toNat-(k:Int).toNat=M+3 by omega]
  simp only [QR];rw [q4,A2];dsimp only;have hqm:=KP (x+10000*R) hB;have hqr:=Qae (x+10000*R) B
  have hq:(x+10000*R) / B<10000:=by
   rw [JB hB];omega
  generalize (x+10000*R) / B=q at *;generalize (x+10000*R) % B=r at *
  rw [A4 (by simp [hwl,q2]),A4 (by simp;try omega),A4 (by simp;try omega),Af (x:=(k:Int)-1) (by omega) (by omega),ZO]
  refine Ann hM hla hlA hn k m (10000*Q+q) r _ _ (by omega) (by omega) hqm (by simpa using h4) (h5.set _ (by omega)) (λi hi=>An8 h6 hi) ?_ (q1.app hp) ?_ ?_ ?_
  . rw [Kv _ (by omega),h7,h6 k (by omega),Bw,A5v]
    generalize (10000:Int) ^ k=P;grind
  . rw [XK];omega
  . rw [A5o,hvp,q3];simp
  . rw [hRx,<- h8];exact Afr rfl hqr rfl

theorem Kc (n:Nat) {l:List Int} (h:l.length<=17592186044416):f117 n l=some l:=by
 unfold f117
 cases l with
 | nil=>rfl
 | cons x r =>
  unfold Atu
  rw [XI,QJ (by simp),A4 (by rfl),A4 (by simp only [QO];simp only [ZC] at *;omega)]

theorem Akl (n:Nat) {l:List Int} (h:l.length<=17592186044416) (h0:l ≠ []):Ml n l=some l:=by
 unfold Ml
 cases l with
 | nil=>exact absurd rfl h0
 | cons x r=>rw [A4 (by rfl),A4 (by simp only [QO];simp only [ZC] at *;omega)]

theorem Ar2 {n L A B:Nat} (hB:0<B) (hA:(dg A).length<=L) (hBl:(dg B).length<=L) (hL:L<=1099511627000) (hn:L+10040<=n):f227 n (dg A) (dg B)=some (dg (A / B),dg (A % B)):=by
 unfold f227
 rw [Af0 (by omega),A2,QH]
 by_cases hlt:A<B
 . rw [QL (by rw [Jb (by omega)];omega),Kc n (by omega),A2,JJ hlt,KU hlt,Cj]
 . rw [QJ (by
    rcases KY (Nat.le_of_not_lt hlt) with h | h
    . rw [Jd (by omega)];omega
    . rw [Kt (by omega)];omega)]
   have hmn:(dg B).length<=(dg A).length:=Bn (by omega)
   have hb0:0<(dg B).length:=by rw [Ez (by omega)];simp
   rw [XI];by_cases h1:(dg B).length=1
   . rw [QL (by simp [h1])]
     have hB1:B<10000:=by have:=I8 (n:=B) (k:=1) (by omega);simpa using this
     have hBd:dg B=[(B:Int)]:=by
      rw [Ez (by omega),KU hB1,JJ hB1,Cj]
     rw [A4 (by simp;try omega),show f228 n (dg A)=some (dg A) from rfl,A2,Axt,A4 (by simp;try omega),hBd]
     simp only [QR]
     obtain ⟨o, q1, q2, q3, q4⟩ := Ava (n := n) (A := A) hB hB1 (by omega) (k0 := fun a b => (
           ob (f225 n b) λc =>
           ob (f179 n a) λd =>
           some (c,d))) (dg A).length 0 0 (List.replicate (dg A).length 0) (QY _) hB (by simp) (Lm.rep _) (λi hi=>by simp [QG,XV,hi]) (by rw [Vv];simp) (by simp [vl])
     have q4:K3 n (dg A) (dg A).length (dg A) [(B:Int)] 0 _ _=_:=q4;have hm:=KP A hB
     rw [q4,Qy q1 (by omega) (by omega),A2,Aam (by omega) (by omega),A2,q3]
     rfl
   . rw [QJ (by simp;omega)]
     obtain ⟨M,hM⟩:∃ M,(dg B).length=M+2:=⟨(dg B).length-2,by omega⟩
     rw [Akl n (by omega) (XA.1 (by omega)),A2,A4 (by simp;try omega)]
     rw [Af (x:=((dg A).length:Int)-((dg B).length:Int)) (by omega) (by omega),Af (x:=((dg A).length:Int)-((dg B).length:Int)+1) (by omega) (by omega),A4 (by simp;try omega)]
     rw [show (((dg A).length:Int)-((dg B).length:Int)+1).toNat=(dg A).length-(M+1) by omega]
     have hR0:=B7 ((Dq A).drop ((dg A).length-(M+1)));obtain ⟨R,hR⟩:∃ R:Nat,vl ((dg A).drop ((dg A).length-(M+1)))=(R:Int):=⟨_,(Int.toNat_of_nonneg hR0).symm⟩
     have hRB:R<B:=by
      have:=Hl ((Dq A).drop ((dg A).length-(M+1)))
      rw [List.length_drop,show (dg A).length-((dg A).length-(M+1))=M+1 by omega,hR] at this
      have h2:=(Gt B).ge (XA.1 (by omega))
      rw [hM,Bl] at h2;have h2:(10000:Int) ^ (M+1)<=B:=h2;generalize (10000:Int) ^ (M+1)=P at *;omega
     obtain ⟨o, u, q1, q2, q3, q4, q5, q6, q7⟩ := Ann (n := n) (A := A) (B := B) hM hmn (by omega) (by omega) (k0 := fun e f => (
             ob (f225 n e) λg =>
             ob (f225 n f) λj =>
             some (g,j))) ((dg A).length-(M+1)) n 0 R (List.replicate ((dg A).length-(M+1)) 0) ((dg A).drop ((dg A).length-(M+1))++[0]) (by omega) (QY _) hRB (by simp) (Lm.rep _) (λi hi=>by simp [QG,XV,hi]) (by rw [Vv];simp) (((Dq A).drop _).app (Lm.cons (by omega) Lm.nil)) (by simp;omega) (by rw [Qh,hR];simp) (by rw [hR];simp)
     rw [<- ZO,JA] at q7
     rw [show ((dg A).length:Int)-((dg B).length:Int)=(((dg A).length-(M+1):Nat):Int)-1 by omega,q7,Qy q1 (by omega) (by omega),A2,Qy q4 (by omega) (by omega),A2,q3,q6]
     rfl

theorem Bds {α:Type} {n L:Nat} (hL:L<=1099511627000) (hn:L+10040<=n) {k0:List Int->Option α} :
  ∀ (j m a b:Nat),b<2 ^ j->2*j+1<=m->(dg a).length<=L->(dg b).length<=L->K5 n m (dg a) (dg b) k0=k0 (dg (Nat.gcd b a)):=by
 have stop:∀ (m a:Nat),0<m->K5 n m (dg a) (dg 0) k0=k0 (dg (Nat.gcd 0 a)):=λm a hm=>by
  obtain ⟨m,rfl⟩:∃ m',m=m'+1:=⟨m-1,by omega⟩
  rw [Acm,Qan,Cj];rfl
 have step:∀ (m a b:Nat),0<b->(dg a).length<=L->(dg b).length<=L->K5 n (m+1) (dg a) (dg b) k0=K5 n m (dg b) (dg (a % b)) k0:=λm a b hb ha hbl=>by
  rw [Acm];unfold A2j
  have:0<(dg b).length:=by rw [Ez (by omega)];simp
  rw [QH,QL (by omega),Ar2 hb ha hbl hL hn,A2]
 intro j
 induction j with
 | zero =>
  intro m a b h1 h2 h3 h4
  obtain rfl:b=0:=by simpa using h1
  exact stop m a (by omega)
 | succ j ih =>
  intro m a b h1 h2 h3 h4;rcases YY b with rfl | hb
  . exact stop m a (by omega)
  obtain ⟨m,rfl⟩:∃ m',m=m'+2:=⟨m-2,by omega⟩
  have h5:(dg (a % b)).length<=L:=ZK (Bn (Nat.le_of_lt (KP a hb))) h4;rw [step _ _ _ hb h3 h4,Nat.gcd_rec b a];rcases YY (a % b) with hr | hr
  . rw [hr];exact stop _ _ (by omega)
  have h6:(dg (b % (a % b))).length<=L:=ZK (Bn (Nat.le_of_lt (KP b hr))) h5;rw [step _ _ _ hr h4 h5,Nat.gcd_rec (a % b) b]
  exact ih m _ _ (Agv hb hr h1) (by omega) h5 h6

theorem B7d {n L a b:Nat} (hL:L<=1099511627000) (hn:28*L+10040<=n) (ha:(dg a).length<=L) (hb:(dg b).length<=L):f226 n (dg a) (dg b)=some (dg (Nat.gcd a b)):=by
 unfold f226
 rw [Bds hL (by omega) (14*L) n a b (And (I8 hb)) (by omega) ha hb,Nat.gcd_comm]

abbrev Rt:=Bool × List Int × List Int

abbrev P8:Rt:=(false,[],[])

def Sm (x:Rt):Prop:=x.2.1.length<=1048576/\x.2.2.length<=1048576

def Bd (x:Rt):Prop:=x.2.1.length<=9223372036854775807/\x.2.2.length<=9223372036854775807

theorem Apq {n:Nat} {l:List Int} {B:Int} (hB:0<=B/\B<=1048576) (hl:l.length<=9223372036854775807):f137 n l B=some (if (l.length:Int)<=B then B-l.length else -1):=by
 unfold f137
 rw [Af (x:=B-(l.length:Int)) (by omega) (by omega),QH]
 by_cases h:(l.length:Int)<=B
 . rw [QJ (by omega),QL h]
 . rw [QL (by omega),QJ h]

theorem Bef {n:Nat} {x:Rt} {B:Int} (hB:0<=B/\B<=1048576) (hx:Bd x):∃ r,f81 n x B=some r/\(r = -1 \/ (0<=r/\r<=B/\Sm x)):=by
 unfold f81;rw [Apq hB hx.1,A2];by_cases h:(x.2.1.length:Int)<=B
 . rw [QL h,QH,QJ (by omega),Apq (by omega) hx.2,A2]
   by_cases h':(x.2.2.length:Int)<=B-x.2.1.length
   . rw [QL h',QH,QJ (by omega)]
     exact ⟨_,rfl,.inr ⟨by omega,by omega,by unfold Sm;omega⟩⟩
   . rw [QJ h',QH,QL (by omega)]
     exact ⟨_,rfl,.inl rfl⟩
 . rw [QJ h,QH,QL (by omega)]
   exact ⟨_,rfl,.inl rfl⟩

theorem Ai4 {n:Nat} {l:List Rt} (hl:l.length<=1048576) (hb:∀ x ∈ l,Bd x):∀ (m i:Nat) (B:Int),0<=B/\B<=1048576->i<=l.length->l.length<i+m ->
  ∃ r,A6k n m l B (i:Int) (λz=>some z) (λz=>some z)=some r/\(r = -1 \/ (0<=r/\r<=B /\ ∀ x ∈ l.drop i,Sm x))
 | 0,i,B,hB,hi,hm=>by omega
 | m+1,i,B,hB,hi,hm=>by
  rw [B4w];unfold Aa6;dsimp only;rw [QH];by_cases h:i<l.length
  . rw [QL (by omega),A4 (by simp;try omega)]
    simp only [QR]
    have hd:l.drop i=l.getD i P8::l.drop (i+1):=by
     rw [XO h,QG,QN h];rfl
    have hmem:l.getD i P8 ∈ l:=Qax (i:=i) (by rw [hd];simp)
    obtain ⟨r,h1,h2⟩:=Bef (n:=n) hB (hb _ hmem);rw [h1,A2];rcases h2 with rfl | ⟨h2,h3,h4⟩
    . exact ⟨-1,rfl,.inl rfl⟩
    . rw [QH,QJ (by omega),Af (x:=(i:Int)+1) (by omega) (by omega)]
      obtain ⟨r',q1,q2⟩:=Ai4 hl hb m (i+1) r (by omega) (by omega) (by omega)
      refine ⟨r',q1,q2.imp id λ⟨q3,q4,q5⟩=>⟨q3,by omega,λx hx=>?_⟩⟩
      rw [hd] at hx;rcases QU.1 hx with rfl | hx
      . exact h4
      . exact q5 x hx
  . rw [QJ (by omega)]
    refine ⟨_,rfl,.inr ⟨hB.1,JX _,λx hx=>?_⟩⟩
    rw [ZD (by omega)] at hx
    cases hx

theorem Bf1 {n:Nat} {l:List Rt} {B:Int} (hB:0<=B/\B<=1048576) (hl:l.length<=9223372036854775807) (hb:∀ x ∈ l,Bd x) (hn:1048577<=n):∃ r,f30 n l B=some r/\(r = -1 \/ (0<=r/\r<=B/\l.length<=1048576 /\ ∀ x ∈ l,Sm x)):=by
 unfold f30
 rw [Af (x:=B-(l.length:Int)) (by omega) (by omega),QH]
 by_cases h:(l.length:Int)<=B
 . rw [QJ (by omega)]
   obtain ⟨r,h1,h2⟩:=Ai4 (n:=n) (l:=l) (by omega) hb n 0 (B-l.length) (by omega) (by omega) (by omega)
   exact ⟨r,h1,h2.imp id λ⟨q1,q2,q3⟩=>⟨q1,by omega,by omega,by simpa using q3⟩⟩
 . rw [QL (by omega)]
   exact ⟨_,rfl,.inl rfl⟩

theorem Us {α:Type} {l z:List α} {i:Nat} {d:α} (hi:i<l.length) (hz:z.length=l.length-i):(l.take i++z).set i (l.getD i d)=l.take (i+1)++z.drop 1:=by
 rw [KE _ _ (by rw [YT];omega),YT,JM (by omega),Nat.sub_self]
 cases z with
 | nil=>simp at hz;omega
 | cons y z=>rw [List.set_cons_zero,YP hi,QG,QN hi,ZO];rfl

theorem Adj {α:Type} {n:Nat} {l:List Int} (hl:l.length<=1048576) {k0:List Int->Option α}:∀ (m i:Nat) (z:List Int),z.length=l.length-i->i<=l.length->l.length<i+m->A08 n m l (i:Int) (l.take i++z) k0=k0 l
 | 0,i,z,hz,hi,hm=>by omega
 | m+1,i,z,hz,hi,hm=>by
  rw [B0n];unfold A4q;dsimp only;rw [QH];by_cases h:i<l.length
  . rw [QL (by omega)]
    simp only [QR]
    rw [A4 (by simp;try omega),A4 (by simp [hz];omega),A4 (by simp [hz];omega),Us h hz,Af (x:=(i:Int)+1) (by omega) (by omega)]
    exact Adj hl m (i+1) _ (by simp [hz];omega) (by omega) (by omega)
  . rw [QJ (by omega)]
    obtain rfl:z=[]:=XL (by omega)
    rw [ZV (by omega),XC]

theorem Apn {n:Nat} {l:List Int} (hl:l.length<=1048576) (hn:1048577<=n):f139 n l=some l:=by
 unfold f139
 rw [A4 (by simp;try omega)]
 have:=Adj (n:=n) hl (k0:=λa=>some a) n 0 (List.replicate l.length 0) (by simp) (by omega) (by omega)
 simpa using this

theorem Bea {n:Nat} {x:Rt} (h:Sm x) (hn:1048577<=n):f83 n x=some x:=by
 unfold f83;rw [Apn h.1 hn,A2,Apn h.2 hn,A2]

theorem Sm.get {l:List Rt} (h:∀ x ∈ l,Sm x) (i:Nat):Sm (l.getD i P8):=by
 rw [QG]
 cases e:l[i]? with
 | none=>exact ⟨by simp,by simp⟩
 | some x=>exact h x (QX e)

theorem Ahz {α:Type} {n:Nat} {l:List Rt} (hl:l.length<=1048576) (hs:∀ x ∈ l,Sm x) (hn:1048577<=n) {k0:List Rt->Option α}:∀ (m i:Nat) (z:List Rt),z.length=l.length-i->i<=l.length->l.length<i+m->A6j n m l (i:Int) (l.take i++z) k0=k0 l
 | 0,i,z,hz,hi,hm=>by omega
 | m+1,i,z,hz,hi,hm=>by
  rw [B4u];unfold Aa3;dsimp only;rw [QH];by_cases h:i<l.length
  . rw [QL (by omega)]
    simp only [QR]
    rw [A4 (by simp;try omega),Bea (Sm.get hs i) hn,A2,A4 (by simp [hz];omega),A4 (by simp [hz];omega),Us h hz,Af (x:=(i:Int)+1) (by omega) (by omega)]
    exact Ahz hl hs hn m (i+1) _ (by simp [hz];omega) (by omega) (by omega)
  . rw [QJ (by omega)]
    obtain rfl:z=[]:=XL (by omega)
    rw [ZV (by omega),XC]

theorem Axf {n:Nat} {l:List Rt} (hl:l.length<=1048576) (hs:∀ x ∈ l,Sm x) (hn:1048577<=n):f32 n l=some l:=by
 unfold f32
 rw [A4 (by simp;try omega)]
 have:=Ahz (n:=n) hl hs hn (k0:=λa=>some a) n 0 (List.replicate l.length P8) (by simp) (by omega) (by omega)
 simpa using this

theorem Ahe {α:Type} {n:Nat} {l:List Int} (hl:l.length<=1048576) {k0:Bool->Option α} {k1:Unit->Option α}:∀ (m i:Nat),i<=l.length->l.length<i+m->A6d n m l l (i:Int) k0 k1=k1 ()
 | 0,i,hi,hm=>by omega
 | m+1,i,hi,hm=>by
  rw [B4d];unfold A9i;dsimp only;rw [QH];by_cases h:i<l.length
  . rw [QL (by omega),A4 (by simp;try omega),A4 (by simp;try omega),XW,QV,Af (x:=(i:Int)+1) (by omega) (by omega)]
    exact Ahe hl m (i+1) (by omega) (by omega)
  . rw [QJ (by omega)]

theorem Awt {n:Nat} {l:List Int} (hl:l.length<=1048576) (hn:1048577<=n):f84 n l l=some true:=by
 unfold f84;rw [XW,QV]
 exact Ahe hl n 0 (by omega) (by omega)

theorem Bez {n:Nat} {x:Rt} (h:Sm x) (hn:1048577<=n):f33 n x x=some true:=by
 unfold f33;rw [Awt h.1 hn,Awt h.2 hn];simp

theorem Ahw {α:Type} {n:Nat} {l:List Rt} (hl:l.length<=1048576) (hs:∀ x ∈ l,Sm x) (hn:1048577<=n) {k0:Bool->Option α} {k1:Unit->Option α}:∀ (m i:Nat),i<=l.length->l.length<i+m->A6i n m l l (i:Int) k0 k1=k1 ()
 | 0,i,hi,hm=>by omega
 | m+1,i,hi,hm=>by
  rw [B4r];unfold Aa0;dsimp only;rw [QH];by_cases h:i<l.length
  . rw [QL (by omega),A4 (by simp;try omega),A4 (by simp;try omega)]
    simp only [QR]
    rw [Bez (Sm.get hs i) hn,A2,Af (x:=(i:Int)+1) (by omega) (by omega)]
    exact Ahw hl hs hn m (i+1) (by omega) (by omega)
  . rw [QJ (by omega)]

theorem Ahx {n:Nat} {l:List Rt} (hl:l.length<=1048576) (hs:∀ x ∈ l,Sm x) (hn:1048577<=n):f35 n l l=some true:=by
 unfold f35;rw [XW,QV]
 exact Ahw hl hs hn n 0 (by omega) (by omega)

def Hv (x:Int):Bool:=decide (0<=x/\x<=9999)

def Vf (l:List Int):Bool:=decide (l.length<=40)&&l.all Hv&&(l.isEmpty || decide (0<l.getD (l.length-1) 0))

theorem Qn {l:List Int} (h:Vf l=true):Cn l/\l.length<=40:=by
 unfold Vf at h;simp only [QE,QO,XN,QM,YK] at h;obtain ⟨⟨h1,h2⟩,h3⟩:=h;refine ⟨⟨λx hx=>?_,λhn=>?_⟩,h1⟩
 . have:=h2 x hx;unfold Hv at this;rw [QO] at this;omega
 . rcases h3 with h3 | h3
   . exact absurd h3 hn
   . omega

theorem A0k {α:Type} {l:List α} {p:α->Bool} {i:Nat} (h:i<l.length) (d:α):(l.drop i).all p=(p (l.getD i d)&&(l.drop (i+1)).all p):=by
 rw [XO h,XY,QG,QN h];rfl

theorem N5 {n:Nat} {a lo hi:Int}:f174 n a lo hi=some (decide (lo<=a/\a<=hi)):=by
 unfold f174;by_cases h:lo<=a <;> simp [h]

theorem A00 {n:Nat} {a lo hi:Int}:f184 n a lo hi=some (decide (lo<=a/\a<=hi)):=by
 unfold f184;by_cases h:lo<=a <;> simp [h]

theorem Acs {α:Type} {n:Nat} {l:List Int} (hl:l.length<=1048576) {k0:Bool->Option α} {k1:List Int->Option α}:∀ (m i:Nat),i<=l.length->l.length<i+m->R0 n m l (i:Int) k0 k1=if (l.drop i).all Hv=true then k1 l else k0 false
 | 0,i,hi,hm=>by omega
 | m+1,i,hi,hm=>by
  rw [Ay6];unfold A33;dsimp only;rw [QH];by_cases h:i<l.length
  . rw [QL (by omega),A4 (by simp;try omega)]
    simp only [QR];rw [N5,A2,A0k h 0]
    cases hp:Hv (l.getD i 0) with
    | true =>
     unfold Hv at hp
     rw [hp,Af (x:=(i:Int)+1) (by omega) (by omega)]
     simp only [ZR,QV,XS]
     exact Acs hl m (i+1) (by omega) (by omega)
    | false =>
     unfold Hv at hp;rw [hp];simp
  . rw [QJ (by omega),ZD (by omega)]
    rfl

theorem Aol {n:Nat} {l:List Int} (hn:1048577<=n):f216 n l=some (Vf l):=by
 unfold f216 Vf;rw [QH];by_cases h:l.length<=4096
 . rw [QJ (by omega)]
   have:=Acs (n:=n) (l:=l) (by omega) (k0:=λb=>some b) (k1:=λa=>(
     bif (decide ((a.length:Int)<=40)) then
      bif ((a.length:Int)==0) then
       some true
      else
       gd (decide (0<=(W ((a.length:Int)-1)))&&decide ((W ((a.length:Int)-1))<(a.length:Int))) (
        some (decide ((a.getD ((W ((a.length:Int)-1)).toNat) 0)>0)))
     else
      some false)) n 0 (by omega) (by omega)
   have this:R0 n n l 0 _ _=_:=this;rw [this,ZT]
   cases l.all Hv with
   | false=>simp
   | true =>
    rw [QL rfl,QH];by_cases h40:l.length<=40
    . rw [QL (by omega)]
      cases l with
      | nil=>rfl
      | cons x r =>
       rw [XI,QJ (by simp;omega),Af (x:=((x::r).length:Int)-1) (by omega) (by omega),A4 (by simp;omega),show (((x::r).length:Int)-1).toNat=(x::r).length-1 by omega]
       have h41:r.length<=39:=by simpa using h40
       simp [h41]
    . rw [QJ (by omega)]
      simp [h40]
 . rw [QL (by omega),QT (by omega)]
   rfl

theorem Vj {n:Nat} {l:List Int} (hl:l.length<=1048576):∀ (m i:Nat),i<=l.length->l.length<i+m->∃ r,Ha n m l (l.length:Int) (i:Int) (λz=>some z) (λ(_:Unit)=>some (-1))=some r/\decide (r>=0) = !(l.drop i).all Hv
 | 0,i,hi,hm=>by omega
 | m+1,i,hi,hm=>by
  rw [Aed];unfold Nv;dsimp only;rw [QH];by_cases h:i<l.length
  . rw [QL (by omega),A4 (by simp;try omega)]
    simp only [QR]
    have e:f239 n (l.getD i 0)=some (!Hv (l.getD i 0)):=by
     unfold f239 Hv;rw [QH];generalize l.getD i 0=x;by_cases h1:x<0
     . rw [QL h1,QT (by omega)];rfl
     . rw [QJ h1];by_cases h2:x<=9999
       . rw [QT (by omega),ZE (by omega)];rfl
       . rw [ZE (by omega),QT (by omega)];rfl
    rw [e,A2,A0k h 0]
    cases hp:Hv (l.getD i 0) with
    | true =>
     rw [Af (x:=(i:Int)+1) (by omega) (by omega)]
     simp only [ZR,QV,XS]
     exact Vj hl m (i+1) (by omega) (by omega)
    | false =>
     exact ⟨i,rfl,by simp⟩
  . rw [QJ (by omega),ZD (by omega)]
    exact ⟨-1,rfl,rfl⟩

theorem A1a {n:Nat} {l:List Int} (hl:l.length<=1048576) (hn:1048577<=n):Nw n l ()=some (!l.all Hv):=by
 unfold Nw A2f
 obtain ⟨r,h1,h2⟩:=Vj (n:=n) hl n 0 (by omega) (by omega)
 have h1:Ha n n l (l.length:Int) 0 _ _=_:=h1;rw [h1,A2,h2,ZT]

theorem Aoa {n:Nat} {l:List Int} (hn:1048577<=n):f231 n l=some (Vf l):=by
 unfold f231 Vf;rw [QH];by_cases h:l.length<=40
 . rw [QJ (by omega),ZE h,XS,QH]
   cases l with
   | nil=>rw [QJ (by simp),A1a (by omega) hn];rfl
   | cons x r =>
    rw [QL (by simp),Af (x:=((x::r).length:Int)-1) (by omega) (by omega),A4 (by simp;omega),show (((x::r).length:Int)-1).toNat=(x::r).length-1 by omega]
    rw [A1a (by omega) hn,A2,Bool.not_not,XI]
    by_cases hz:(x::r).getD ((x::r).length-1) 0=0
    . rw [QL (by rw [hz];rfl),hz];simp
    . rw [QJ (by rw [KT];exact hz)]
      cases ha:(x::r).all Hv with
      | false=>rfl
      | true =>
       have:Hv ((x::r).getD ((x::r).length-1) 0)=true:=by
        rw [QM] at ha;apply ha
        rw [QG,QN (by simp)]
        simp only [XR];exact KV _
       unfold Hv at this;rw [QO] at this
       rw [ZE (by omega)]
       simp
 . rw [QL (by omega),QT h];rfl

theorem Ar1 {α:Type} (l:List α):((l.length:Int)==0)=l.isEmpty:=by
 cases l with
 | nil=>rfl
 | cons x r=>rw [beq_eq_false_iff_ne.2 (by simp;omega)];rfl

def I6 (x:Rt):Bool:=Vf x.2.1&&Vf x.2.2 && !x.2.2.isEmpty && !(x.2.1.isEmpty&&x.1)&&decide (Nat.gcd (vl x.2.1).toNat (vl x.2.2).toNat=1)

theorem J9:dg 1=[1]:=by rw [Ez (by omega),show 1 / 10000=0 from rfl,Cj];rfl

theorem Al6 {g:Nat}:(cm (g:Int) ((1:Nat):Int)==0)=decide (g=1):=by
 unfold cm;by_cases h:g=1
 . subst h;rfl
 . rw [QT h];by_cases h2:(g:Int)<(1:Nat)
   . rw [QL h2];rfl
   . rw [QJ h2,QJ (by omega)];rfl

theorem Any {a b:Nat} (ha:(dg a).length<=40) (hb:(dg b).length<=40):(dg (Nat.gcd a b)).length<=40:=by
 rcases YY a with rfl | h
 . rw [Qan];exact hb
 . exact ZK (Bn (Nat.gcd_le_left b h)) ha

theorem Bbm {n:Nat} {x:Rt} (hn:1048577<=n):f177 n x=some (I6 x):=by
 obtain ⟨s,a,b⟩:=x;unfold f177 I6;dsimp only;simp only [Ar1];rw [Aol hn,A2,Aol hn,A2]
 cases ha:Vf a with
 | false=>rfl
 | true =>
  cases hb:Vf b with
  | false=>rfl
  | true =>
   obtain ⟨ca,la⟩:=Qn ha;obtain ⟨cb,lb⟩:=Qn hb;have ea:=Hp ca;have eb:=Hp cb
   have hg:f217 n a b=some (dg (Nat.gcd (vl a).toNat (vl b).toNat)):=by
    conv=>lhs;rw [<- ea,<- eb]
    exact B6x (L:=40) (by omega) (by omega) (by rw [ea];exact la) (by rw [eb];exact lb)
   have hgl:=Any (a:=(vl a).toNat) (b:=(vl b).toNat) (by rw [ea];exact la) (by rw [eb];exact lb)
   rw [hg,A2,<- J9,Aeu (by omega) (by omega),A2,Al6]
   cases b <;> cases a <;> cases s <;> simp

theorem Ba6 {n:Nat} {x:Rt} (hn:1048577<=n):f215 n x=some (I6 x):=by
 obtain ⟨s,a,b⟩:=x;unfold f215 I6;dsimp only;rw [Aoa hn,A2,Aoa hn,A2]
 cases ha:Vf a with
 | false=>rfl
 | true =>
  cases hb:Vf b with
  | false=>rfl
  | true =>
   obtain ⟨ca,la⟩:=Qn ha;obtain ⟨cb,lb⟩:=Qn hb;have ea:=Hp ca;have eb:=Hp cb
   have hg:f226 n a b=some (dg (Nat.gcd (vl a).toNat (vl b).toNat)):=by
    conv=>lhs;rw [<- ea,<- eb]
    exact B7d (L:=40) (by omega) (by omega) (by rw [ea];exact la) (by rw [eb];exact lb)
   have hgl:=Any (a:=(vl a).toNat) (b:=(vl b).toNat) (by rw [ea];exact la) (by rw [eb];exact lb)
   rw [hg,A2,show f180 n=some [1] from rfl,A2,<- J9,Af0 (by omega),A2,Al6,show f195 n (s,a,b)=some ((a.length:Int)==0) from rfl,A2,Ar1,Ar1]
   cases b <;> cases a <;> cases s <;> simp

theorem Vn {n:Nat} {l:List Rt} (hl:l.length<=1048576) (hn:1048577<=n):∀ (m i:Nat),i<=l.length->l.length<i+m->∃ r,Hh n m l (l.length:Int) (i:Int) (λz=>some z) (λ(_:Unit)=>some (-1))=some r/\decide (r>=0) = !(l.drop i).all I6
 | 0,i,hi,hm=>by omega
 | m+1,i,hi,hm=>by
  rw [Aeg];unfold Oh;dsimp only;rw [QH];by_cases h:i<l.length
  . rw [QL (by omega),A4 (by simp;try omega)]
    simp only [QR]
    have e:f214 n (l.getD i P8)=some (!I6 (l.getD i P8)):=by
     unfold f214;rw [Ba6 hn,A2]
    rw [e,A2,A0k h P8]
    cases hp:I6 (l.getD i P8) with
    | true =>
     rw [Af (x:=(i:Int)+1) (by omega) (by omega)]
     simp only [ZR,QV,XS]
     exact Vn hl hn m (i+1) (by omega) (by omega)
    | false=>exact ⟨i,rfl,by simp⟩
  . rw [QJ (by omega),ZD (by omega)]
    exact ⟨-1,rfl,rfl⟩

theorem Amr {n:Nat} {l:List Rt} (hl:l.length<=1048576) (hn:1048577<=n):Ub n l ()=some (!l.all I6):=by
 unfold Ub A49
 obtain ⟨r,h1,h2⟩:=Vn (n:=n) hl hn n 0 (by omega) (by omega)
 have h1:Hh n n l (l.length:Int) 0 _ _=_:=h1;rw [h1,A2,h2,ZT]

theorem Bbr {n:Nat} {l:List Rt} (hl:l.length<=1048576) (hn:1048577<=n):f173 n l=some (if l.all I6=true then 0 else 1):=by
 unfold f173;rw [Amr hl hn,A2]
 cases l.all I6 <;> rfl

def I5 (l:List Rt):Bool:=decide (1<=l.length/\l.length<=4)&&l.all I6

theorem Ado {α:Type} {n:Nat} {l:List Rt} (hl:l.length<=1048576) (hn:1048577<=n) {k0:Bool->Option α} {k1:List Rt->Option α}:∀ (m i:Nat),i<=l.length->l.length<i+m->Rm n m l (i:Int) k0 k1=if (l.drop i).all I6=true then k1 l else k0 false
 | 0,i,hi,hm=>by omega
 | m+1,i,hi,hm=>by
  rw [B0y];unfold A4z;dsimp only;rw [QH];by_cases h:i<l.length
  . rw [QL (by omega),A4 (by simp;try omega)]
    simp only [QR];rw [Bbm hn,A2,A0k h P8]
    cases hp:I6 (l.getD i P8) with
    | true =>
     rw [Af (x:=(i:Int)+1) (by omega) (by omega)]
     simp only [ZR,QV,XS]
     exact Ado hl hn m (i+1) (by omega) (by omega)
    | false=>simp
  . rw [QJ (by omega),ZD (by omega)]
    rfl

theorem Aas {n:Nat} {l:List Rt} (hn:1048577<=n):f119 n l=some (I5 l):=by
 unfold f119 I5;rw [QH];by_cases h:l.length<=4096
 . rw [QJ (by omega)]
   have h1:=Ado (n:=n) (l:=l) (by omega) hn (k0:=λa=>some a) (k1:=λb=>(
     ob (f174 n (b.length:Int) 1 4) λc =>
     some c)) n 0 (by omega) (by omega)
   have h1:Rm n n l 0 _ _=_:=h1;rw [h1,ZT,N5,A2]
   have e:decide ((1:Int)<=(l.length:Int)/\(l.length:Int)<=4)=decide (1<=l.length/\l.length<=4):=by
    apply decide_eq_decide.2;omega
   rw [e]
   cases l.all I6 <;> simp
 . rw [QL (by omega),QT (by omega)];rfl

theorem Aps {n:Nat} {l:List Rt} (hn:1048577<=n):f115 n l=some (I5 l):=by
 unfold f115 I5;rw [QH,QH];by_cases h:1<=l.length/\l.length<=4
 . rw [QL (by omega),QL (by omega),Bbr (by omega) hn,ZE h,A2]
   cases l.all I6 <;> rfl
 . rw [QT h];split
   . rw [QJ (by omega)];rfl
   . rfl

theorem Adl {n:Nat} {l:List Int} (hl:l.length<=1048576):∀ (m i:Nat),i<=l.length->l.length<i+m->∃ c,Rl n m 4096 l (l.length:Int) (i:Int) (λz=>some z) (λ(_:Unit)=>some 0)=some c/\((c=0 /\ ∀ x ∈ l.drop i,x<=4096) \/ (c=2 /\ ∃ x ∈ l,4096<x))
 | 0,i,hi,hm=>by omega
 | m+1,i,hi,hm=>by
  rw [B0r];unfold A4t;dsimp only;rw [QH];by_cases h:i<l.length
  . rw [QL (by omega),A4 (by simp;try omega)]
    simp only [QR];rw [QH];by_cases hx:4096<l.getD i 0
    . rw [QL hx];refine ⟨2,rfl,.inr ⟨rfl,l.getD i 0,?_,hx⟩⟩;rw [QG,QN h];exact KV h
    . rw [QJ hx,Af (x:=(i:Int)+1) (by omega) (by omega)]
      obtain ⟨c,h1,h2⟩:=Adl (n:=n) hl m (i+1) (by omega) (by omega)
      refine ⟨c,h1,h2.imp (λ⟨e,h3⟩=>⟨e,λx hx'=>?_⟩) (λh=>h)⟩;rw [XO h] at hx';rcases QU.1 hx' with rfl | hx'
      . rw [QG,QN h] at hx;exact Int.not_lt.1 hx
      . exact h3 x hx'
  . rw [QJ (by omega)]
    refine ⟨0,rfl,.inl ⟨rfl,λx hx=>?_⟩⟩
    rw [ZD (by omega)] at hx
    cases hx

theorem Ahk {α:Type} {n:Nat} {L:List (List Rt)} (hl:L.length<=1048576) {k0:List Int->Option α}:∀ (m i:Nat) (o:List Int),o.length<=i->i<=L.length->L.length<i+m->Wz n m L (L.length:Int) (i:Int) o k0=k0 (o++(L.drop i).map λv=>(v.length:Int))
 | 0,i,o,ho,hi,hm=>by omega
 | m+1,i,o,ho,hi,hm=>by
  rw [B4i];unfold A9n;dsimp only;rw [QH];by_cases h:i<L.length
  . rw [QL (by omega),A4 (by simp;try omega),A4 (by simp only [QO];omega)]
    simp only [QR]
    rw [Af (x:=(i:Int)+1) (by omega) (by omega),show (i:Int)+1=((i+1:Nat):Int) from rfl,Ahk hl m (i+1) _ (by simp;omega) (by omega) (by omega),XO h,QG,QN h,ZO]
    rfl
  . rw [QJ (by omega),ZD (by omega)]
    simp

theorem Bej {n:Nat} {L:List (List Rt)} (hl:L.length<=1048576) (hn:1048577<=n):∃ c,f65 n L=some c/\((c=0 /\ ∀ v ∈ L,v.length<=4096) \/ (c=2 /\ ∃ v ∈ L,4096<v.length)):=by
 unfold f65
 have h1:=Ahk (n:=n) (L:=L) hl (k0:=λa=>(
   ob (f121 n 4096 a) λb =>
   some b)) n 0 [] (by simp) (by omega) (by omega)
 have h1:Wz n n L (L.length:Int) 0 [] _=_:=h1;rw [h1,ZT,KQ];unfold f121
 obtain ⟨c,h2,h3⟩:=Adl (n:=n) (l:=L.map λv=>(v.length:Int)) (by simpa using hl) n 0 (by omega) (by simp;omega)
 have h2:Rl n n 4096 _ _ 0 _ _=_:=h2
 refine ⟨c,by rw [h2,A2],h3.imp (λ⟨e,h⟩=>⟨e,λv hv=>by have:=h _ (by rw [ZT];exact ZM.2 ⟨v,hv,rfl⟩);omega⟩) λ⟨e,x,hx,hx'⟩=>⟨e,?_⟩⟩
 obtain ⟨v,hv,rfl⟩:=ZM.1 hx
 exact ⟨v,hv,by omega⟩

def BdL (l:List Rt):Prop:=l.length<=9223372036854775807 /\ ∀ x ∈ l,Bd x

def SmL (l:List Rt):Prop:=l.length<=1048576 /\ ∀ x ∈ l,Sm x

theorem Ao6 {n:Nat} {l:List Rt} {B:Int} (hB:0<=B/\B<=1048576) (hl:BdL l) (hn:1048577<=n):∃ r,f30 n l B=some r/\(r = -1 \/ ((0<=r/\r<=1048576)/\SmL l)):=by
 obtain ⟨r,h1,h2⟩:=Bf1 (n:=n) hB hl.1 hl.2 hn
 exact ⟨r,h1,h2.imp id λ⟨q1,q2,q3,q4⟩=>⟨⟨q1,by omega⟩,q3,q4⟩⟩

abbrev Nod:=Int × Int × Int × Int

def D7 (op:Int):Int:=if op=3 \/ op=4 \/ op=5 \/ op=6 then 2 else if op=7 \/ op=8 then 1 else 0

theorem Aat {n:Nat} {x:Nod}:f109 n x=some (D7 x.1):=by
 unfold f109 D7;simp only [XI,KT];grind

def Hu (x:Nod):Prop:=if x.1=1 then 0<=x.2.2.2/\x.2.2.2<=999999999 else if x.1=2 then 0<=x.2.2.2/\x.2.2.2<=3 else if x.1=8 then 0<=x.2.2.2/\x.2.2.2<=8 else x.2.2.2=0

instance (x:Nod):Decidable (Hu x):=by unfold Hu;infer_instance

theorem B9v {n:Nat} {x:Nod}:f236 n x=some (decide (Hu x)):=by
 unfold f236 Hu;simp only [XI,KT,A00,A2];grind

theorem B9t {n:Nat} {h:Bool} {k i:Int} (hi:0<=i/\i<1152921504606846976):f237 n h k i=some (decide (if h=true then 0<=k/\k<=i-1 else k=0)):=by
 unfold f237
 simp only [A00,A2,Af (x:=i-1) (by omega) (by omega),XI]
 cases h <;> grind

def E6 (x:Nod) (i:Int):Prop:=(1<=x.1/\x.1<=8)/\Hu x/\(if D7 x.1>0 then 0<=x.2.1/\x.2.1<=i-1 else x.2.1=0)/\(if D7 x.1>1 then 0<=x.2.2.1/\x.2.2.1<=i-1 else x.2.2.1=0)

instance (x:Nod) (i:Int):Decidable (E6 x i):=by unfold E6;infer_instance

theorem Ba1 {n:Nat} {x:Nod} {i:Int} (hi:0<=i/\i<1152921504606846976):f229 n x i=some (decide (E6 x i)):=by
 unfold f229 E6;simp only [A00,B9v,Aat,A2,B9t hi,XI,QO];grind

theorem Ie {n:Nat} {a:Int}:f155 n a=some (decide (3<=a/\a<=6)):=by
 unfold f155;simp [N5]

theorem Rg {n:Nat} {a:Int}:f156 n a=some (decide (a=7 \/ a=8)):=by
 unfold f156;simp only [XI,KT];grind

def Sn (x:Nod) (i:Int):Prop:=(1<=x.1/\x.1<=8)/\(if 3<=x.1/\x.1<=6 then (0<=x.2.1/\x.2.1<=i-1)/\(x.2.1+1<=x.2.2.1/\x.2.2.1<=i-1)/\x.2.2.2=0
 else if x.1=7 \/ x.1=8 then x.2.1=i-1/\0<i/\x.2.2.1=0/\0<=x.2.2.2/\x.2.2.2<=(if x.1=8 then 8 else 0)
 else if x.1=2 then x.2.1=0/\x.2.2.1=0/\0<=x.2.2.2/\x.2.2.2<=3 else x.2.1=0/\x.2.2.1=0/\0<=x.2.2.2/\x.2.2.2<=999999999)

instance (x:Nod) (i:Int):Decidable (Sn x i):=by unfold Sn;infer_instance

theorem Bbp {n:Nat} {x:Nod} {i:Int} (hi:0<=i/\i<1152921504606846976):f175 n x i=some (decide (Sn x i)):=by
 unfold f175 Sn
 simp only [N5,Ie,Rg,N6,A2,Af (x:=i-1) (by omega) (by omega),XI,QO,KT]
 by_cases h0:1<=x.1/\x.1<=8
 . by_cases h1:3<=x.1/\x.1<=6
   . by_cases h2:0<=x.2.1/\x.2.1<=i-1
     . rw [Af (x:=x.2.1+1) (by omega) (by omega)]
       simp only [h0,h1,h2];by_cases h3:x.2.1+1<=x.2.2.1/\x.2.2.1<=i-1
       . simp [h3];rfl
       . simp [h3]
     . simp [h0,h1,h2]
   . by_cases h2:x.1=7 \/ x.1=8
     . have e : W (8 * (if (x.1 == 8) = true then 1 else 0)) = if x.1 = 8 then 8 else 0 := by
        by_cases h:x.1=8 <;> simp [h] <;> exact Af (by omega) (by omega)
       simp only [KT] at e;simp only [h0,h1,h2,e];grind
     . grind
 . simp [h0]

def okP (bs:List Int) (x:Nod) (i:Int):Prop:=Sn x i/\(3<=x.1/\x.1<=6->x.2.2.1=i-1/\bs.getD x.2.2.1.toNat 0=x.2.1+1)

instance (bs:List Int) (x:Nod) (i:Int):Decidable (okP bs x i):=by unfold okP;infer_instance

def nb (bs:List Int) (x:Nod) (i:Int):Int:=if 3<=x.1/\x.1<=8 then bs.getD x.2.1.toNat 0 else i

def nd (ds:List Int) (x:Nod):Int:=if 3<=x.1/\x.1<=6 then 1+max (ds.getD x.2.1.toNat 0) (ds.getD x.2.2.1.toNat 0) else if x.1=7 \/ x.1=8 then 1+ds.getD x.2.1.toNat 0 else 1

structure B6q (bs ds:List Int):Prop where
 len:ds.length=bs.length
 small:bs.length<=1048576
 b:∀ j,j<bs.length->0<=bs.getD j 0/\bs.getD j 0<=j
 d:∀ j,j<ds.length->1<=ds.getD j 0/\ds.getD j 0<=j+1

theorem S9 {a:Int} {k:Nat} (h0:0<=a) (h:a<=(k:Int)-1):a.toNat<k:=by omega

theorem B6q.step {bs ds:List Int} (h:B6q bs ds) {x:Nod} (hx:okP bs x bs.length) (hs:bs.length+1<=1048576):B6q (bs++[nb bs x bs.length]) (ds++[nd ds x]):=by
 obtain ⟨h1,h2,h3,h4⟩:=h;have hn:=hx.1;unfold Sn at hn
 refine ⟨by simp [h1],by simpa using hs,λj hj=>?_,λj hj=>?_⟩
 . simp only [XK,ZC,XB] at hj;rcases XE j bs.length with hlt | hge
   . rw [Dl hlt];exact h3 j hlt
   . obtain rfl:j=bs.length:=by omega
     rw [Dm];unfold nb;split
     . have ha : 0 <= x.2.1 /\ x.2.1 <= (bs.length : Int) - 1 := by
        split at hn
        . omega
        . split at hn
          . omega
          . omega
       have:=h3 _ (S9 ha.1 ha.2);omega
     . omega
 . simp only [XK,ZC,XB] at hj;rcases XE j ds.length with hlt | hge
   . rw [Dl hlt];exact h4 j hlt
   . obtain rfl:j=ds.length:=by omega
     rw [Dm];unfold nd;split
     . rename_i h2';rw [QL h2'] at hn
       have ha:=h4 _ (by rw [h1];exact S9 (k:=bs.length) (a:=x.2.1) (by omega) (by omega))
       have hb:=h4 _ (by rw [h1];exact S9 (k:=bs.length) (a:=x.2.2.1) (by omega) (by omega))
       omega
     . rename_i h2';rw [QJ h2'] at hn;split
       . rename_i h3';rw [QL h3'] at hn
         have ha:=h4 _ (by rw [h1];exact S9 (k:=bs.length) (a:=x.2.1) (by omega) (by omega))
         omega
       . omega

def Ran (e:List Nod) (bs:List Int):Prop:=∀ j,j<bs.length->okP (bs.take j) (e.getD j (0,0,0,0)) j/\bs.getD j 0=nb (bs.take j) (e.getD j (0,0,0,0)) j

theorem Ran.step {e:List Nod} {bs:List Int} (h:Ran e bs) {x:Nod} (hx:e.getD bs.length (0,0,0,0)=x) (hok:okP bs x bs.length):Ran e (bs++[nb bs x bs.length]):=by
 intro j hj;simp only [XK,ZC,XB] at hj;rcases XE j bs.length with hlt | hge
 . rw [Dl hlt,List.take_append_of_le_length (by omega)]
   exact h j hlt
 . obtain rfl:j=bs.length:=by omega
   rw [Dm,List.take_left',hx]
   . exact ⟨hok,rfl⟩
   . rfl

theorem Ae2 {α:Type} {n:Nat} {e:List Nod} (hN:e.length<=1048576) {k0:List Nod->Option α}:∀ (r:List Nod) (m:Nat) (out:List Nod),e.drop out.length=r->out.length+r.length=e.length->r.length<m ->
  (∀ j,j<out.length->out.getD j (0,0,0,0)=e.getD j (0,0,0,0))->Wy n m e (out.length:Int) (out++List.replicate r.length (0,0,0,0)) k0=k0 e
 | [],m+1,out,hd,hl,hm,ho=>by
  rw [Ahh];unfold Zc;simp only [XB] at hl
  rw [QH,QJ (by omega)]
  congr 1;simp only [XB,List.replicate_zero,XC]
  apply List.ext_getElem (by omega)
  intro j h1 h2;have:=ho j h1;simpa [QG,h1,h2] using this
 | x::r,m+1,out,hd,hl,hm,ho=>by
  obtain ⟨hx,hlt,hd'⟩:=Qr (d:=(0,0,0,0)) hd;rw [Ahh];unfold Zc;simp only [ZC] at hl hm
  rw [QH,QL (by omega),A4 (by simp;omega),Af (by omega) (by omega)]
  simp only [QR,hx];unfold f138
  rw [A2,A4 (by simp;omega),A4 (by simp)]
  have es:(out++List.replicate (x::r).length (0,0,0,0)).set out.length x=(out++[x])++List.replicate r.length (0,0,0,0):=by
   rw [KE _ _ (QY _)];simp [Qbg]
  rw [es]
  have ih:=Ae2 hN r m (out++[x]) (by simpa using hd') (by simp;omega) (by omega) (λj hj=>by
   simp only [XK,ZC,XB] at hj;rcases XE j out.length with h | h
   . rw [Dl h];exact ho j h
   . obtain rfl:j=out.length:=by omega
     rw [Dm,hx]) (n:=n) (k0:=k0)
  simp only [XK,ZC,XB,YH] at ih;exact ih

theorem B0l {n:Nat} {x:Nod}:f140 n x x=some true:=by unfold f140;simp

theorem Abr {α:Type} {n:Nat} {e:List Nod} (hN:e.length<=1048576) {k0:Bool->Option α} {k1:Unit->Option α}:∀ (m k:Nat),k<=e.length->e.length-k<m->A6c n m e e (k:Int) k0 k1=k1 ()
 | m+1,k,hk,hm=>by
  rw [B4a];unfold A9f;by_cases h:k<e.length
  . rw [QH,QL (by omega),A4 (by simp;omega),Af (by omega) (by omega)]
    simp only [B0l,A2,ZR,QV]
    rw [A4 (by simp;omega)]
    exact Abr hN m (k+1) (by omega) (by omega)
  . rw [QH,QJ (by omega)]

theorem B8g {x:Rt} (h:I6 x=true):∃ (s:Bool) (N D:Nat),x=(s,dg N,dg D)/\(dg N).length<=40/\(dg D).length<=40/\0<D/\(s=true->0<N):=by
 obtain ⟨s,a,b⟩:=x;unfold I6 at h;simp only [QE,ZJ,QO] at h;obtain ⟨⟨⟨⟨ha,hb⟩,hb0⟩,hs⟩,_⟩:=h;obtain ⟨ca,la⟩:=Qn ha;obtain ⟨cb,lb⟩:=Qn hb
 have hb0:b ≠ []:=by rintro rfl;cases hb0
 refine ⟨s,(vl a).toNat,(vl b).toNat,by rw [Hp ca,Hp cb],by rw [Hp ca];exact la,by rw [Hp cb];exact lb,?_,λe=>?_⟩
 . have:=cb.pos hb0;omega
 . have ha0:a ≠ []:=by rintro rfl;rw [e] at hs;cases hs
   have:=ca.pos ha0;omega

theorem Yc {m:Nat}:(((dg m).length:Int)==0)=decide (m=0):=by
 rw [Ar1];by_cases h:m=0
 . subst h;rw [Cj];rfl
 . rw [QT h,Ez h];rfl

theorem Akz {m:Nat}:decide (((dg m).length:Int)>0)=decide (m ≠ 0):=by
 by_cases h:m=0
 . subst h;rw [Cj];rfl
 . rw [Ez h];simp [h]

def I2 (s:Int) (l:List Nod):Int:=l.foldl (λs x=>if x.1=2 then max s (W (x.2.2.2+1)) else s) s

abbrev nd0:Nod:=(0,0,0,0)

theorem Aky {l:List Nod} {i:Nat} (h:i<l.length) (s:Int):I2 s (l.drop i)=I2 (if (l.getD i nd0).1=2 then max s (W ((l.getD i nd0).2.2.2+1)) else s) (l.drop (i+1)):=by
 rw [XO h,QG,QN h];rfl

theorem Y0 {α:Type} {n:Nat} {l:List Nod} (hl:l.length<=1048576) {k0:Int->Option α}:∀ (m i:Nat) (s:Int),i<=l.length->l.length<i+m->A09 n m s (i:Int) l k0=k0 (I2 s (l.drop i))
 | 0,i,s,hi,hm=>by omega
 | m+1,i,s,hi,hm=>by
  rw [B0v];unfold A4w;dsimp only;rw [QH];by_cases h:i<l.length
  . rw [QL (by omega),A4 (by simp;try omega),A4 (by simp;try omega),Aky h]
    simp only [QR]
    rw [XI,Af (x:=(i:Int)+1) (by omega) (by omega)]
    by_cases hv:(l.getD i nd0).1=2
    . rw [QL (by rw [KT];exact hv),QL hv]
      exact Y0 hl m (i+1) _ (by omega) (by omega)
    . rw [QJ (by rw [KT];exact hv),QJ hv]
      exact Y0 hl m (i+1) _ (by omega) (by omega)
  . rw [QJ (by omega),ZD (by omega)]
    rfl

theorem Y1 {α:Type} {n:Nat} {l:List Nod} (hl:l.length<=1048576) {k0:Int->Option α}:∀ (m i:Nat) (s:Int),i<=l.length->l.length<i+m->A0a n m s l (l.length:Int) (i:Int) k0=k0 (I2 s (l.drop i))
 | 0,i,s,hi,hm=>by omega
 | m+1,i,s,hi,hm=>by
  rw [B11];unfold A53;dsimp only;rw [QH];by_cases h:i<l.length
  . rw [QL (by omega),A4 (by simp;try omega),Aky h]
    simp only [QR]
    rw [XI,Af (x:=(i:Int)+1) (by omega) (by omega)]
    by_cases hv:(l.getD i nd0).1=2
    . rw [QL (by rw [KT];exact hv),QL hv]
      exact Y1 hl m (i+1) _ (by omega) (by omega)
    . rw [QJ (by rw [KT];exact hv),QJ hv]
      exact Y1 hl m (i+1) _ (by omega) (by omega)
  . rw [QJ (by omega),ZD (by omega)]
    rfl

theorem Bcd {n:Nat} {l:List Nod} (hl:l.length<=1048576) (hn:1048577<=n):f120 n l=some (I2 0 l):=by
 unfold f120
 have:=Y0 (n:=n) hl (k0:=λa=>some a) n 0 0 (by omega) (by omega)
 simpa using this

theorem Bci {n:Nat} {l:List Nod} (hl:l.length<=1048576) (hn:1048577<=n):f116 n l=some (I2 0 l):=by
 unfold f116
 have:=Y1 (n:=n) hl (k0:=λa=>some a) n 0 0 (by omega) (by omega)
 simpa using this

theorem B28 {α:Type} {n:Nat} {a b:List Int} (ha:Cn a) (hb:Cn b) (hN:a.length<=1099511627776) (hNb:b.length<=1099511627776) {k0:List Int->Option α}:∀ (m i:Nat) (c:Int) (o:List Int),o.length=i->Lm o->0<=c->c<=1 ->
  vl o+10000 ^ i*c=vl (a.take i)+vl (b.take i)->(i<=max a.length b.length \/ (i=max a.length b.length+1/\c=0/\o.getD (i-1) 0 ≠ 0))->max a.length b.length+2<=i+m ->
  Mx n m a b c (i:Int) o k0=k0 (dg (vl a+vl b).toNat)
 | 0,i,c,o,ho,hlo,hc0,hc1,hv,hq,hm=>by omega
 | m+1,i,c,o,ho,hlo,hc0,hc1,hv,hq,hm=>by
  rw [Ayq];unfold A3d;dsimp only
  have fin:a.length<=i->b.length<=i->c=0->o=dg (vl a+vl b).toNat:=λh1 h2 h3=>by
   rw [Jo a h1,Jo b h2,h3] at hv
   have hv':vl o=vl a+vl b:=by simpa using hv
   have:Cn o:=Cn.of_ge hlo λhn=>by
    have hl:0<o.length:=XA.2 hn;rcases hq with hq | ⟨hq1,_,hq3⟩
    . have hmx:i=max a.length b.length:=by omega
      rw [ho,hv'];rcases Nat.le_total a.length b.length with hab | hab
      . have h4:=hb.ge (XA.1 (by omega))
        have h5:=B7 ha.1
        rw [show i-1=b.length-1 by omega];omega
      . have h4:=ha.ge (XA.1 (by omega))
        have h5:=B7 hb.1
        rw [show i-1=a.length-1 by omega];omega
    . have h1:=B9 o (o.length-1)
      rw [show o.length-1+1=o.length by omega,YF] at h1
      have h2:=B7 (hlo.take (o.length-1));have h3:=hlo.get (o.length-1);rw [<- ho] at hq3;have h4:=Fh (o.length-1)
      have h5:(10000:Int) ^ (o.length-1)*1<=10000 ^ (o.length-1)*o.getD (o.length-1) 0:=XM (by omega) (by omega)
      omega
   rw [<- hv',Hp this]
  have go:∀ (y:Int),y=c+a.getD i 0+b.getD i 0->(i<max a.length b.length \/ (i=max a.length b.length/\0<c))->Mx n m a b (W (Int.tdiv y 10000)) (W ((i:Int)+1)) (o++[Int.tmod y 10000]) k0=k0 (dg (vl a+vl b).toNat):=by
   intro y hy hi;have h1:=ha.1.get i;have h2:=hb.1.get i
   rw [tdv (by omega),tmd (by omega),Af (by omega) (by omega),Af (by omega) (by omega)]
   have ta:=B9 a i;have tb:=B9 b i
   have hyy:y=10000*(y / 10000)+y % 10000:=by omega
   refine B28 (n:=n) ha hb hN hNb m (i+1) _ _ (by simp [ho]) (hlo.app (Lm.cons (by omega) Lm.nil)) (by omega) (by omega) ?_ ?_ (by omega)
   . rw [Qh,ho,ta,tb,Bw];generalize y / 10000=q at *;generalize y % 10000=r at *;generalize (10000:Int) ^ i=P at *;grind
   . rcases hi with hi | ⟨hi,hc⟩
     . exact .inl (by omega)
     . right
       have e1:a.getD i 0=0:=Bg (by omega)
       have e2:b.getD i 0=0:=Bg (by omega)
       have e3:y=1:=by omega
       subst e3
       refine ⟨by omega,by rfl,?_⟩
       rw [Qag,<- ho,QG];simp
  have hcases:(i<a.length \/ i<b.length \/ 0<c)->(i<max a.length b.length \/ (i=max a.length b.length/\0<c)):=λh=>by
   rcases h with h | h | h
   . exact .inl (by omega)
   . exact .inl (by omega)
   . rcases hq with hq | ⟨_,h0,_⟩
     . omega
     . omega
  have ho2:(decide ((o.length+1)*8<=140737488355328))=true:=by
   rw [QO];rcases hq with hq | ⟨hq,_⟩ <;> omega
  have h1:=ha.1.get i;have h2:=hb.1.get i;by_cases hA:i<a.length
  . have dA:decide ((i:Int)<(a.length:Int))=true:=by rw [QO];omega
    have dM:decide ((i:Int)<max (a.length:Int) (b.length:Int))=true:=by rw [QO];omega
    simp only [dM,dA,ZN,QR]
    rw [A4 (by simp;try omega),Af (x:=c+a.getD i 0) (by omega) (by omega)]
    by_cases hB:i<b.length
    . have dB:decide ((i:Int)<(b.length:Int))=true:=by rw [QO];omega
      simp only [dB,ZN]
      rw [A4 (by simp;try omega),A4 ho2,Af (x:=c+a.getD i 0+b.getD i 0) (by omega) (by omega)]
      exact go _ rfl (hcases (.inl hA))
    . have dB:decide ((i:Int)<(b.length:Int))=false:=by rw [ZS];omega
      simp only [dB,QV];rw [A4 ho2]
      exact go _ (by rw [Bg (l:=b) (by omega)];omega) (hcases (.inl hA))
  . have dA:decide ((i:Int)<(a.length:Int))=false:=by rw [ZS];omega
    by_cases hB:i<b.length
    . have dB:decide ((i:Int)<(b.length:Int))=true:=by rw [QO];omega
      have dM:decide ((i:Int)<max (a.length:Int) (b.length:Int))=true:=by rw [QO];omega
      simp only [dM,dA,dB,ZN,QV,QR]
      rw [A4 (by simp;try omega),A4 ho2,Af (x:=c+b.getD i 0) (by omega) (by omega)]
      exact go _ (by rw [Bg (l:=a) (by omega)];omega) (hcases (.inr (.inl hB)))
    . have dB:decide ((i:Int)<(b.length:Int))=false:=by rw [ZS];omega
      have dM:decide ((i:Int)<max (a.length:Int) (b.length:Int))=false:=by rw [ZS];omega
      simp only [dM,dA,dB,QV];rw [QH];by_cases hc:0<c
      . rw [QL (by omega),A4 ho2]
        exact go _ (by rw [Bg (l:=a) (by omega),Bg (l:=b) (by omega)];omega) (hcases (.inr (.inr hc)))
      . rw [QJ (by omega),fin (by omega) (by omega) (by omega)]

theorem Bie {n a b:Nat} (h:(dg a).length<=1099511627776) (h':(dg b).length<=1099511627776) (hn:max (dg a).length (dg b).length+2<=n):f202 n (dg a) (dg b)=some (dg (a+b)):=by
 unfold f202
 have:=B28 (n:=n) (Gt a) (Gt b) h h' (k0:=λc=>some c) n 0 0 [] rfl Lm.nil (by omega) (by omega) (by simp [vl]) (.inl (by omega)) (by omega)
 have this:Mx n n (dg a) (dg b) 0 0 [] _=_:=this;rw [this,Bl,Bl];congr 1

theorem Avt {o P c wi bi v' T y d r:Int} (h:o-P*(c+(bi+10000*v'))=T) (hy:y=wi-c-bi) (hd:y=r-10000*d):o+P*(r-wi)-10000*P*(d+v')=T:=by
 grind

theorem Aup {α:Type} {n:Nat} {b:List Int} (hb:Lm b) {N:Nat} (hN:N<=1099511627776) {T:Int} {k0:List Int->Option α}:∀ (m i:Nat) (c:Int) (o:List Int),o.length=N->Lm o->0<=c->c<=1->i<=N ->
  vl o-10000 ^ i*(c+vl (b.drop i))=T->N+1<=i+m ->
  ∃ o' c',Ic n m b c (N:Int) (i:Int) o k0=k0 o'/\o'.length=N/\Lm o'/\0<=c'/\c'<=1/\vl o'-10000 ^ N*(c'+vl (b.drop N))=T
 | 0,i,c,o,ho,hlo,hc0,hc1,hi,hv,hm=>by omega
 | m+1,i,c,o,ho,hlo,hc0,hc1,hi,hv,hm=>by
  rw [Ayj];unfold A39;dsimp only;by_cases hA:i<N
  . rw [QH,QL (by omega),A4 (by simp;try omega),A4 (by simp;try omega)]
    have h1:=hlo.get i;have h2:=hb.get i;simp only [QR]
    have go:∀ (d r:Int),d=(if o.getD i 0-c-b.getD i 0<0 then 1 else 0)->r=o.getD i 0-c-b.getD i 0+10000*d->∃ o' c',Ic n m b d (N:Int) (W ((i:Int)+1)) (o.set i r) k0=k0 o'/\o'.length=N/\Lm o'/\0<=c'/\c'<=1/\vl o'-10000 ^ N*(c'+vl (b.drop N))=T:=by
     intro d r hd hr
     have hd1:0<=d/\d<=1/\0<=r/\r<10000:=by
      rw [hr,hd];split <;> omega
     rw [Af (x:=(i:Int)+1) (by omega) (by omega)]
     refine Aup (n:=n) hb hN m (i+1) d _ (by simpa using ho) (hlo.set _ (by omega)) (by omega) (by omega) (by omega) ?_ (by omega)
     rw [Kv _ (by omega),Bw]
     refine Avt (bi:=b.getD i 0) (y:=o.getD i 0-c-b.getD i 0) ?_ rfl (by omega)
     rw [<- A1m];exact hv
    have go2 : ∀ y : Int, y = o.getD i 0 - c - b.getD i 0 -> ∃ o' c', (bif (decide (y < 0)) then
          gd (decide (0<=(i:Int))&&decide ((i:Int)<(o.length:Int))) (
           gd (decide (i<o.length)) (
            Ic n m b 1 (N:Int) (W ((i:Int)+1)) (o.set i (W (y+10000))) k0))
      else
       gd (decide (0<=(i:Int))&&decide ((i:Int)<(o.length:Int))) (
        gd (decide (i<o.length)) (
         Ic n m b 0 (N:Int) (W ((i:Int)+1)) (o.set i y) k0)))=k0 o'/\o'.length=N/\Lm o'/\0<=c'/\c'<=1/\vl o'-10000 ^ N*(c'+vl (b.drop N))=T:=by
     intro y hy;rw [QH];by_cases hneg:y<0
     . rw [QL hneg,A4 (by simp;try omega),A4 (by simp;try omega),Af (x:=y+10000) (by omega) (by omega)]
       exact go 1 _ (by rw [QL (by omega)]) (by omega)
     . rw [QJ hneg,A4 (by simp;try omega),A4 (by simp;try omega)]
       exact go 0 _ (by rw [QJ (by omega)]) (by omega)
    by_cases hB:i<b.length
    . have dB:decide ((i:Int)<(b.length:Int))=true:=by rw [QO];omega
      simp only [dB,ZN]
      rw [A4 (by simp;try omega)]
      simp only [Af (x:=o.getD i 0-c) (by omega) (by omega),Af (x:=o.getD i 0-c-b.getD i 0) (by omega) (by omega)]
      exact go2 _ rfl
    . have dB:decide ((i:Int)<(b.length:Int))=false:=by rw [ZS];omega
      simp only [dB,QV]
      simp only [Af (x:=o.getD i 0-c) (by omega) (by omega)]
      exact go2 _ (by rw [Bg (l:=b) (by omega)];omega)
  . rw [QH,QJ (by omega)]
    obtain rfl:i=N:=by omega
    exact ⟨o,c,rfl,ho,hlo,hc0,hc1,hv⟩

theorem B7c {n a b:Nat} (h:(dg a).length<=1099511627000) (hn:(dg a).length+1<=n) (hab:b<=a) (ha:0<a):f204 n (dg a) (dg b)=some (dg (a-b)):=by
 have hlab:=Bn hab;unfold f204
 rw [Akl n (by omega) (λe=>by have:=Bhq.1 e;omega),A2]
 obtain ⟨o,c,h1,h2,h3,h4,h5,h6⟩:=Aup (n:=n) (Dq b) (N:=(dg a).length) (by omega) (T:=(a:Int)-b) (k0:=λd=>(
   ob (f225 n d) λf =>
   some f)) n 0 0 (dg a) rfl (Dq a) (by omega) (by omega) (by omega) (by rw [ZT,Bl,Bl,Int.pow_zero,Int.one_mul,Int.zero_add]) (by omega)
 have h1:Ic n n (dg b) 0 ((dg a).length:Int) 0 (dg a) _=_:=h1
 rw [ZD (by omega)] at h6
 have h7:=Hl h3;rw [h2] at h7;have h8:=B7 h3
 have:c=0:=by
  rcases Int.lt_or_eq_of_le h4 with h | h
  . have:c=1:=by omega
    rw [this] at h6;simp only [vl,Qbc,Int.mul_one] at h6;generalize (10000:Int) ^ (dg a).length=P at *;omega
  . exact h.symm
 rw [this] at h6;simp only [vl,Qbc,Qah,Int.sub_zero] at h6
 rw [h1,Qy h3 (by omega) (by omega),A2,h6,show ((a:Int)-(b:Int)).toNat=a-b by omega]

def rq (x:Rat):Rt:=(decide (x.num<0),dg x.num.natAbs,dg x.den)

def mq (s:Bool) (a d:Nat):Rat:=mkRat (if s=true then -(a:Int) else a) d

def Sz (x:Rat) (L:Nat):Prop:=(dg x.num.natAbs).length<=L/\(dg x.den).length<=L

theorem Wj (s:Bool) (a:Nat):(if s=true then -(a:Int) else a).natAbs=a:=by cases s <;> simp

theorem Avi {s:Bool} {a d:Nat} (hd:0<d):(mq s a d).num=if s=true then -((a / Nat.gcd a d:Nat):Int) else ((a / Nat.gcd a d:Nat):Int):=by
 unfold mq
 rw [Rat.num_mkRat,QJ (by omega),Wj,Nat.gcd_comm d a]
 cases s with
 | false=>simp
 | true =>
  simp only [if_true]
  rw [Int.neg_ediv_of_dvd (by exact_mod_cast Nat.gcd_dvd_left a d)]
  simp

theorem Avj {s:Bool} {a d:Nat} (hd:0<d):(mq s a d).den=d / Nat.gcd a d:=by
 unfold mq
 rw [Rat.den_mkRat,QJ (by omega),Wj,Nat.gcd_comm d a]

theorem Aql {s:Bool} {a d:Nat} (hd:0<d):rq (mq s a d)=(s&&decide (a / Nat.gcd a d ≠ 0),dg (a / Nat.gcd a d),dg (d / Nat.gcd a d)):=by
 unfold rq;rw [Avi hd,Avj hd];generalize a / Nat.gcd a d=q
 cases s with
 | false=>simp
 | true =>
  simp only [if_true,XS,Qbj,XX];congr 1;apply decide_eq_decide.2;omega

theorem Aub {s:Bool} {a d L:Nat} (hd:0<d) (h1:(dg a).length<=L) (h2:(dg d).length<=L):Sz (mq s a d) L:=by
 unfold Sz;rw [Avi hd,Avj hd,Wj];exact ⟨ZK (Bn (Qbd _ _)) h1,ZK (Bn (Qbd _ _)) h2⟩

theorem W8 {n L x d:Nat} {s:Bool} (hd:0<d) (hx:(dg x).length<=L) (hdl:(dg d).length<=L) (hL:L<=1099511627000) (hn:28*L+10040<=n):f186 n s (dg x) (dg d)=some (rq (mq s x d)):=by
 have hg:0<Nat.gcd x d:=Nat.gcd_pos_of_pos_right x hd;have hgl:(dg (Nat.gcd x d)).length<=L:=ZK (Bn (Nat.gcd_le_right x hd)) hdl;rw [Aql hd];unfold f186
 rw [B6x hL hn hx hdl,A2,Aqi hg hx hgl hL (by omega),A2,Aqi hg hdl hgl hL (by omega),A2]
 dsimp only;rw [Akz]
 cases s <;> rfl

theorem Wt {n L x d:Nat} {s:Bool} (hd:0<d) (hx:(dg x).length<=L) (hdl:(dg d).length<=L) (hL:L<=1099511627000) (hn:28*L+10040<=n):f201 n s (dg x) (dg d)=some (rq (mq s x d)):=by
 have hg:0<Nat.gcd x d:=Nat.gcd_pos_of_pos_right x hd;have hgl:(dg (Nat.gcd x d)).length<=L:=ZK (Bn (Nat.gcd_le_right x hd)) hdl;have hq1:(dg (x / Nat.gcd x d)).length<=L:=ZK (Bn (Qbd _ _)) hx;have hq2:(dg (d / Nat.gcd x d)).length<=L:=ZK (Bn (Qbd _ _)) hdl;rw [Aql hd];unfold f201;dsimp only
 rw [B7d hL hn hx hdl,A2,show f180 n=some [1] from rfl,A2,<- J9,Af0 (by omega),A2]
 have fin:∀ y z:List Int,y=dg (x / Nat.gcd x d)->z=dg (d / Nat.gcd x d)->(bif s then
   ob (f117 n y) λa =>
   ob (f117 n z) λb =>
   some ((decide ((y.length:Int)>0)),a,b)
  else
   ob (f117 n y) λc =>
   ob (f117 n z) λf =>
   some (false,c,f))=some (s&&decide (x / Nat.gcd x d ≠ 0),dg (x / Nat.gcd x d),dg (d / Nat.gcd x d)):=by
  rintro y z rfl rfl
  rw [Kc n (by omega),A2,Kc n (by omega),A2,Akz]
  cases s <;> rfl
 by_cases h1:Nat.gcd x d=1
 . have e:(cm ((Nat.gcd x d:Nat):Int) ((1:Nat):Int) != 0)=false:=by rw [h1,Kt rfl];rfl
   rw [e,QV]
   exact fin _ _ (by rw [h1,Nat.div_one]) (by rw [h1,Nat.div_one])
 . have e : (cm ((Nat.gcd x d : Nat) : Int) ((1 : Nat) : Int) != 0) = true := by
    rw [bne,Al6,QT h1];rfl
   rw [e,ZN,Ar2 hg hx hgl hL (by omega),A2,Ar2 hg hdl hgl hL (by omega),A2]
   exact fin _ _ rfl rfl

theorem Kx (x:Rat):x.num=if decide (x.num<0)=true then -(x.num.natAbs:Int) else x.num.natAbs:=by
 by_cases h:x.num<0
 . rw [ZE h,QL rfl];omega
 . rw [QT h,QJ (by decide)];omega

theorem Alj {x y:Rat} (h:decide (x.num<0)=decide (y.num<0)):x+y=mq (decide (x.num<0)) (x.num.natAbs*y.den+y.num.natAbs*x.den) (x.den*y.den):=by
 rw [Rat.add_def'];unfold mq;congr 1;have hx:=Kx x;have hy:=Kx y;rw [<- h] at hy;generalize decide (x.num<0)=s at *;generalize x.num.natAbs=p at *;generalize y.num.natAbs=q at *;rw [hx,hy]
 cases s with
 | true=>simp only [if_true,JO,YD];grind
 | false=>simp

theorem A85 {x y:Rat} (h:decide (x.num<0) ≠ decide (y.num<0)) (hle:y.num.natAbs*x.den<=x.num.natAbs*y.den):x+y=mq (decide (x.num<0)) (x.num.natAbs*y.den-y.num.natAbs*x.den) (x.den*y.den):=by
 rw [Rat.add_def'];unfold mq;congr 1;have hx:=Kx x;have hy:=Kx y
 have h':decide (y.num<0) = !decide (x.num<0):=by
  generalize decide (x.num<0)=s at h;generalize decide (y.num<0)=t at h
  cases s <;> cases t <;> first | rfl | exact absurd rfl h
 rw [h'] at hy;generalize decide (x.num<0)=s at *;generalize x.num.natAbs=p at *;generalize y.num.natAbs=q at *;rw [hx,hy,Int.natCast_sub hle]
 cases s with
 | true=>simp only [if_true,YD,ZR];simp;grind
 | false=>simp only [YD,XH,if_true];simp;grind

theorem Auw {n L:Nat} {x y:Rat} (hx:Sz x L) (hy:Sz y L) (hL:2*L+1<=1099511627000) (hn:28*(2*L+1)+10040<=n):f148 n (rq x) (rq y)=some (rq (x+y)):=by
 obtain ⟨x1,x2⟩:=hx;obtain ⟨y1,y2⟩:=hy;have l1:=Bo x.num.natAbs y.den;have l2:=Bo y.num.natAbs x.den;have l3:=Bo x.den y.den;have l4:=Anp (x.num.natAbs*y.den) (y.num.natAbs*x.den);have hd:0<x.den*y.den:=KN (YA x.den_nz) (YA y.den_nz);unfold f148 rq;dsimp only
 rw [M7 (by omega) (by omega),A2,M7 (by omega) (by omega),A2,M7 (by omega) (by omega),A2,XI]
 by_cases hs:decide (x.num<0)=decide (y.num<0)
 . rw [QL (by rw [hs];simp),Bi9 (by omega) (by omega) (by omega),A2,W8 hd (L:=2*L+1) (by omega) (by omega) hL hn,A2,Alj hs];rfl
 . rw [QJ (by simpa using hs),Aeu (by omega) (by omega),A2,QH]
   by_cases hle:y.num.natAbs*x.den<=x.num.natAbs*y.den
   . have l5:=Bn (Nat.sub_le (x.num.natAbs*y.den) (y.num.natAbs*x.den))
     rw [QL (by
      rcases KY hle with h | h
      . rw [Jd (by omega)];omega
      . rw [Kt (by omega)];omega),Aqh (by omega) (by omega) hle,A2,W8 hd (L:=2*L+1) (by omega) (by omega) hL hn,A2,A85 hs hle];rfl
   . have l5:=Bn (Nat.sub_le (y.num.natAbs*x.den) (x.num.natAbs*y.den))
     rw [QJ (by rw [Jb (by omega)];omega),Aqh (by omega) (by omega) (by omega),A2,W8 hd (L:=2*L+1) (by omega) (by omega) hL hn,A2,Rat.add_comm,A85 (λe=>hs e.symm) (by omega),KO y.den x.den];rfl

theorem Bdn {n L:Nat} {x y:Rat} (hx:Sz x L) (hy:Sz y L) (hL:2*L+1<=1099511627000) (hn:28*(2*L+1)+10040<=n):f161 n (rq x) (rq y)=some (rq (x+y)):=by
 obtain ⟨x1,x2⟩:=hx;obtain ⟨y1,y2⟩:=hy;have l1:=Bo x.num.natAbs y.den;have l2:=Bo y.num.natAbs x.den;have l3:=Bo x.den y.den;have l4:=Anp (x.num.natAbs*y.den) (y.num.natAbs*x.den);have hd:0<x.den*y.den:=KN (YA x.den_nz) (YA y.den_nz);unfold f161 rq;dsimp only
 rw [Md (by omega) (by omega),A2,Md (by omega) (by omega),A2,Md (by omega) (by omega),A2,XI]
 by_cases hs:decide (x.num<0)=decide (y.num<0)
 . rw [QL (by rw [hs];simp),Bie (by omega) (by omega) (by omega),A2,Wt hd (L:=2*L+1) (by omega) (by omega) hL hn,A2,Alj hs];rfl
 . rw [QJ (by simpa using hs),Af0 (by omega),A2,QH]
   by_cases hle:y.num.natAbs*x.den<=x.num.natAbs*y.den
   . have l5:=Bn (Nat.sub_le (x.num.natAbs*y.den) (y.num.natAbs*x.den))
     have hp:0<x.num.natAbs*y.den:=by
      rcases YY (x.num.natAbs*y.den) with h | h
      . exfalso;have hyd:=y.den_nz;have hxd:=x.den_nz
        have h2:y.num.natAbs*x.den=0:=by omega
        have e1:x.num=0:=by rcases Qat.1 h with h | h <;> omega
        have e2:y.num=0:=by rcases Qat.1 h2 with h | h <;> omega
        exact hs (by rw [e1,e2])
      . exact h
     rw [QL (by
      rcases KY hle with h | h
      . rw [Jd (by omega)];omega
      . rw [Kt (by omega)];omega),B7c (by omega) (by omega) hle hp,A2,Wt hd (L:=2*L+1) (by omega) (by omega) hL hn,A2,A85 hs hle];rfl
   . have l5:=Bn (Nat.sub_le (y.num.natAbs*x.den) (x.num.natAbs*y.den))
     rw [QJ (by rw [Jb (by omega)];omega),B7c (by omega) (by omega) (by omega) (by omega),A2,Wt hd (L:=2*L+1) (by omega) (by omega) hL hn,A2,Rat.add_comm,A85 (λe=>hs e.symm) (by omega),KO y.den x.den];rfl

theorem Agf (x y:Rat):x*y=mq (!(decide (x.num<0)==decide (y.num<0))) (x.num.natAbs*y.num.natAbs) (x.den*y.den):=by
 rw [Rat.mul_def'];unfold mq;congr 1;have hx:=Kx x;have hy:=Kx y;generalize decide (x.num<0)=s at *;generalize decide (y.num<0)=t at *;generalize x.num.natAbs=p at *;generalize y.num.natAbs=q at *;rw [hx,hy]
 cases s <;> cases t <;> simp [Int.neg_mul,Int.mul_neg]

theorem B8c {n L:Nat} {x y:Rat} (hx:Sz x L) (hy:Sz y L) (hL:2*L+1<=1099511627000) (hn:28*(2*L+1)+10040<=n):f150 n (rq x) (rq y)=some (rq (x*y)):=by
 obtain ⟨x1,x2⟩:=hx;obtain ⟨y1,y2⟩:=hy;have l1:=Bo x.num.natAbs y.num.natAbs;have l3:=Bo x.den y.den;have hd:0<x.den*y.den:=KN (YA x.den_nz) (YA y.den_nz);unfold f150 rq;dsimp only
 rw [M7 (by omega) (by omega),A2,M7 (by omega) (by omega),A2,W8 hd (L:=2*L+1) (by omega) (by omega) hL hn,A2,Agf];rfl

theorem B8x {n L:Nat} {x y:Rat} (hx:Sz x L) (hy:Sz y L) (hL:2*L+1<=1099511627000) (hn:28*(2*L+1)+10040<=n):f178 n (rq x) (rq y)=some (rq (x*y)):=by
 obtain ⟨x1,x2⟩:=hx;obtain ⟨y1,y2⟩:=hy;have l1:=Bo x.num.natAbs y.num.natAbs;have l3:=Bo x.den y.den;have hd:0<x.den*y.den:=KN (YA x.den_nz) (YA y.den_nz);unfold f178 rq;dsimp only
 rw [Md (by omega) (by omega),A2,Md (by omega) (by omega),A2,Wt hd (L:=2*L+1) (by omega) (by omega) hL hn,A2,Agf];rfl

theorem Akw {x y:Rat} (hy:y ≠ 0):x / y=mq (!(decide (x.num<0)==decide (y.num<0))) (x.num.natAbs*y.den) (x.den*y.num.natAbs):=by
 have hyn:y.num ≠ 0:=λe=>hy (JC.1 e)
 have key:mq (!(decide (x.num<0)==decide (y.num<0))) (x.num.natAbs*y.den) (x.den*y.num.natAbs)*y=x:=by
  conv=>lhs;rhs;rw [<- Rat.mkRat_self y]
  conv=>rhs;rw [<- Rat.mkRat_self x]
  unfold mq
  rw [Rat.mkRat_mul_mkRat,Rat.mkRat_eq_iff (Nat.mul_ne_zero (Nat.mul_ne_zero x.den_nz (by omega)) y.den_nz) x.den_nz]
  have hx:=Kx x;have hy:=Kx y;generalize decide (x.num<0)=s at *;generalize decide (y.num<0)=t at *;generalize x.num.natAbs=p at *;generalize y.num.natAbs=q at *;rw [hx,hy];simp only [YD]
  cases s <;> cases t <;> simp <;> grind
 conv=>lhs;rw [<- key]
 exact Rat.mul_div_cancel hy

theorem Bd7 {n L:Nat} {x y:Rat} (hx:Sz x L) (hy:Sz y L) (hy0:y ≠ 0) (hL:2*L+1<=1099511627000) (hn:28*(2*L+1)+10040<=n):f151 n (rq x) (rq y)=some (rq (x / y)):=by
 obtain ⟨x1,x2⟩:=hx;obtain ⟨y1,y2⟩:=hy;have l1:=Bo x.num.natAbs y.den;have l3:=Bo x.den y.num.natAbs;have hyn:y.num ≠ 0:=λe=>hy0 (JC.1 e)
 have hd:0<x.den*y.num.natAbs:=KN (YA x.den_nz) (by omega)
 unfold f151 rq;dsimp only
 rw [M7 (by omega) (by omega),A2,M7 (by omega) (by omega),A2,W8 hd (L:=2*L+1) (by omega) (by omega) hL hn,A2,Akw hy0];rfl

theorem Bdo {n L:Nat} {x y:Rat} (hx:Sz x L) (hy:Sz y L) (hy0:y ≠ 0) (hL:2*L+1<=1099511627000) (hn:28*(2*L+1)+10040<=n):f223 n (rq x) (rq y)=some (rq (x / y)):=by
 obtain ⟨x1,x2⟩:=hx;obtain ⟨y1,y2⟩:=hy;have l1:=Bo x.num.natAbs y.den;have l3:=Bo x.den y.num.natAbs;have hyn:y.num ≠ 0:=λe=>hy0 (JC.1 e)
 have hd:0<x.den*y.num.natAbs:=KN (YA x.den_nz) (by omega)
 unfold f223 rq;dsimp only
 rw [Md (by omega) (by omega),A2,Md (by omega) (by omega),A2,Wt hd (L:=2*L+1) (by omega) (by omega) hL hn,A2,Akw hy0];rfl

theorem A5t {n:Nat} {x:Rat}:f152 n (rq x)=some (rq (-x)):=by
 unfold f152 rq;dsimp only;rw [Rat.neg_num,Rat.neg_den,Qbj,Akz];by_cases h:x.num<0
 . rw [ZE h,QT (show ¬ -x.num<0 by omega)];rfl
 . rw [QT h]
   have:decide (x.num.natAbs ≠ 0)=decide (-x.num<0):=decide_eq_decide.2 (by omega)
   rw [this];rfl

theorem Bid {n L:Nat} {x:Rat} (hx:Sz x L) (hL:L<=1099511627000):f206 n (rq x)=some (rq (-x)):=by
 obtain ⟨x1,x2⟩:=hx;unfold f206 rq;dsimp only
 rw [Rat.neg_num,Rat.neg_den,Qbj,show f195 n (decide (x.num<0),dg x.num.natAbs,dg x.den)=some (((dg x.num.natAbs).length:Int)==0) from rfl,A2,Kc n (by omega),A2,Kc n (by omega),A2,Yc]
 by_cases h:x.num<0
 . rw [ZE h,QT (show ¬ -x.num<0 by omega)];rfl
 . rw [QT h]
   have:(!decide (x.num.natAbs=0))=decide (-x.num<0):=by
    by_cases h2:x.num.natAbs=0
    . rw [ZE h2,QT (by omega)];rfl
    . rw [QT h2,ZE (by omega)];rfl
   rw [this];rfl

theorem Ll {x:Rat} {L:Nat} (h:Sz x L):Sz (-x) L:=by
 unfold Sz at *;rw [Rat.neg_num,Rat.neg_den,Qbj];exact h

theorem Sz.mono {x:Rat} {L M:Nat} (h:Sz x L) (hLM:L<=M):Sz x M:=⟨ZK h.1 hLM,ZK h.2 hLM⟩

theorem Bd8 {n L:Nat} {x y:Rat} (hx:Sz x L) (hy:Sz y L) (hL:2*L+1<=1099511627000) (hn:28*(2*L+1)+10040<=n):f149 n (rq x) (rq y)=some (rq (x-y)):=by
 unfold f149;rw [A5t,A2,Auw hx (Ll hy) hL hn,A2,Rat.sub_eq_add_neg]

theorem Bd5 {n:Nat} {x:Rat}:f145 n (rq x)=some (decide (x=0)):=by
 unfold f145 rq;dsimp only;rw [Yc];congr 1
 exact decide_eq_decide.2 ⟨λh=>JC.1 (by omega),λh=>by rw [h];rfl⟩

theorem Aw1 {n:Nat} {x:Rat}:f195 n (rq x)=some (decide (x=0)):=by
 unfold f195 rq;dsimp only;rw [Yc];congr 1
 exact decide_eq_decide.2 ⟨λh=>JC.1 (by omega),λh=>by rw [h];rfl⟩

theorem Bdb {r:Rt} (h:I6 r=true):∃ x:Rat,r=rq x/\Sz x 40:=by
 obtain ⟨s,N,D,rfl,h1,h2,h3,h4⟩:=B8g h
 have hg:Nat.gcd N D=1:=by
  unfold I6 at h;simp only [QE,QO,Bl,QR] at h;exact h.2
 refine ⟨mq s N D,?_,Aub h3 h1 h2⟩;rw [Aql h3,hg,Nat.div_one,Nat.div_one];congr 1
 cases s with
 | false=>rfl
 | true=>have:=h4 rfl;rw [ZE (by omega)];rfl

theorem Bca {n:Nat} {a:Int} (h:-1000000000<=a/\a<=1000000000) (hn:1048577<=n):f127 n a=some (decide (a<0),dg a.natAbs,dg 1):=by
 unfold f127;rw [QH,J9];by_cases hc:a<0
 . rw [QL hc,Af (x:=0-a) (by omega) (by omega),show 0-a=(a.natAbs:Int) by omega,R8 (by omega) (by omega),A2,ZE hc]
 . rw [QJ hc]
   conv=>lhs;rw [show a=(a.natAbs:Int) by omega]
   rw [R8 (by omega) (by omega),A2,QT hc]

def vq (x:List Rat):List Rt:=x.map rq

def Sv (x:List Rat) (L:Nat):Prop:=∀ a ∈ x,Sz a L

def Cb (acc:Rat):List Rat->List Rat->Rat
 | a::x,b::y=>Cb (acc+a*b) x y
 | _,_=>acc

def Bt (x:Rat):Bool:=decide ((dg x.num.natAbs).length<=40)&&decide ((dg x.den).length<=40)

theorem F9 {x:Rat}:Bt x=true ↔ Sz x 40:=by unfold Bt Sz;simp

@[simp] theorem C5 (x:List Rat):(vq x).length=x.length:=by simp [vq]

theorem Cc {x:List Rat} {i:Nat} (h:i<x.length):(vq x).getD i (false,[],[])=rq (x.getD i 0):=by
 unfold vq;rw [QG,QK,QG,QN h];rfl

theorem B70 {x:List Rat} {i:Nat} (h:i<x.length):x.drop i=x.getD i 0::x.drop (i+1):=by
 rw [XO h,QG,QN h];rfl

theorem Sv.get {x:List Rat} {L i:Nat} (hs:Sv x L) (h:i<x.length):Sz (x.getD i 0) L:=by
 refine hs _ ?_;rw [QG,QN h];exact KV h

theorem Sv.mono {x:List Rat} {L M:Nat} (h:Sv x L) (hLM:L<=M):Sv x M:=λa ha=>(h a ha).mono hLM

theorem Gr:Sz 0 1:=by
 refine ⟨?_,?_⟩
 . rw [show (0:Rat).num=0 from rfl,show (0:Int).natAbs=0 from rfl,Cj];simp
 . rw [show (0:Rat).den=1 from rfl,J9];simp

theorem Vp {n:Nat} {x:List Rat} (hl:x.length<=1048576):∀ (m i:Nat),i<=x.length->x.length<i+m ->
  ∃ r,Hi n m (vq x) (x.length:Int) (i:Int) (λa=>some a) (λ(_:Unit)=>some (-1))=some r/\decide (r>=0) = !(x.drop i).all Bt
 | 0,i,hi,hm=>by omega
 | m+1,i,hi,hm=>by
  rw [Aej];unfold Ok;dsimp only;rw [QH];by_cases h:i<x.length
  . rw [QL (by omega),A4 (by simp;omega),QR,Cc h,B70 h,XY]
    have e:f130 n (rq (x.getD i 0))=some (!Bt (x.getD i 0)):=by
     unfold f130 f131 rq Bt;dsimp only;generalize (dg (x.getD i 0).num.natAbs).length=p;generalize (dg (x.getD i 0).den).length=q;rw [QH];by_cases c:p<=40
     . rw [QL (by omega),A2,ZE c,XS];congr 2;exact decide_eq_decide.2 (by omega)
     . rw [QJ (by omega),A2,QT c,Bool.false_and]
    rw [e,A2]
    cases hf:Bt (x.getD i 0) with
    | false=>exact ⟨(i:Int),by simp,by simp⟩
    | true =>
     rw [ZR,QV,Af (x:=(i:Int)+1) (by omega) (by omega),XS]
     exact Vp hl m (i+1) (by omega) (by omega)
  . rw [QJ (by omega),ZD (by omega)]
    exact ⟨-1,rfl,rfl⟩

theorem Agu {n:Nat} {x:List Rat} (hl:x.length<=1048576) (hn:1048577<=n):f76 n (vq x)=some (if x.all Bt=true then (vq x,0) else ([],7)):=by
 unfold f76 Ka A4a
 obtain ⟨r,h1,h2⟩:=Vp (n:=n) hl n 0 (by omega) (by omega)
 have h1:Hi n n (vq x) (x.length:Int) 0 _ _=_:=h1;rw [C5,h1,A2,A2,h2,ZT]
 cases x.all Bt <;> rfl

def Bq (x:Rat) (N D:Nat):Prop:=x.num.natAbs<=N/\x.den<=D

def Bv (x:List Rat) (N D:Nat):Prop:=∀ a ∈ x,Bq a N D

theorem Bq.mono {x:Rat} {N D N' D':Nat} (h:Bq x N D) (h1:N<=N') (h2:D<=D'):Bq x N' D':=⟨ZK h.1 h1,ZK h.2 h2⟩

theorem Bv.get {x:List Rat} {N D i:Nat} (hs:Bv x N D) (h:i<x.length):Bq (x.getD i 0) N D:=by
 refine hs _ ?_;rw [QG,QN h];exact KV h

theorem Aux (c:Nat):rq (c:Rat)=(false,dg c,dg 1):=by
 unfold rq
 rw [Rat.num_natCast,Rat.den_natCast,XX,QT (by omega)]

theorem B2a {c:Nat} (hc:c<=100):Sz (c:Rat) 1:=by
 unfold Sz;rw [Rat.num_natCast,Rat.den_natCast,XX]
 exact ⟨H6 (by omega),H6 (by omega)⟩

theorem A7g {α:Type} {n:Nat} {l:List Int} (hl:l.length<=1048576) {k0:List Int->Option α}:∀ (m i:Nat) (z:List Int),z.length=l.length-i->i<=l.length->l.length<i+m->Ua n m l (i:Int) (l.take i++z) k0=k0 l
 | 0,i,z,hz,hi,hm=>by omega
 | m+1,i,z,hz,hi,hm=>by
  rw [Atn];unfold Xz;dsimp only;rw [QH];by_cases h:i<l.length
  . rw [QL (by omega)]
    simp only [QR]
    rw [A4 (by simp;try omega),A4 (by simp [hz];omega),A4 (by simp [hz];omega),Us h hz,Af (x:=(i:Int)+1) (by omega) (by omega)]
    exact A7g hl m (i+1) _ (by simp [hz];omega) (by omega) (by omega)
  . rw [QJ (by omega)]
    obtain rfl:z=[]:=XL (by omega)
    rw [ZV (by omega),XC]

theorem Ake {n:Nat} {l:List Int} (hl:l.length<=1048576) (hn:1048577<=n):A7i n l=some l:=by
 unfold A7i
 rw [A4 (by simp;try omega)]
 have:=A7g (n:=n) hl (k0:=λa=>some a) n 0 (List.replicate l.length 0) (by simp) (by omega) (by omega)
 simpa using this

theorem B9c {n:Nat} {x:Rt} (h:Sm x) (hn:1048577<=n):Arp n x=some x:=by
 unfold Arp;rw [Ake h.1 hn,A2,Ake h.2 hn,A2]

theorem Acj {α:Type} {n:Nat} {l:List Rt} (hl:l.length<=1048576) (hs:∀ x ∈ l,Sm x) (hn:1048577<=n) {k0:List Rt->Option α}:∀ (m i:Nat) (z:List Rt),z.length=l.length-i->i<=l.length->l.length<i+m->Zm n m l (i:Int) (l.take i++z) k0=k0 l
 | 0,i,z,hz,hi,hm=>by omega
 | m+1,i,z,hz,hi,hm=>by
  rw [Axh];unfold A2e;dsimp only;rw [QH];by_cases h:i<l.length
  . rw [QL (by omega)]
    simp only [QR]
    rw [A4 (by simp;try omega),B9c (Sm.get hs i) hn,A2,A4 (by simp [hz];omega),A4 (by simp [hz];omega),Us h hz,Af (x:=(i:Int)+1) (by omega) (by omega)]
    exact Acj hl hs hn m (i+1) _ (by simp [hz];omega) (by omega) (by omega)
  . rw [QJ (by omega)]
    obtain rfl:z=[]:=XL (by omega)
    rw [ZV (by omega),XC]

theorem Ao5 {n:Nat} {l:List Rt} (h:SmL l) (hn:1048577<=n):Ai3 n l=some l:=by
 obtain ⟨hl,hs⟩:=h;unfold Ai3
 rw [A4 (by simp;try omega)]
 have:=Acj (n:=n) hl hs hn (k0:=λa=>some a) n 0 (List.replicate l.length P8) (by simp) (by omega) (by omega)
 simpa using this

def F6 (k:Int):Nat->List Int
 | 0=>[]
 | m+1=>k::F6 (k+1) m

theorem Fy:∀ (m:Nat) (k:Int),(F6 k m).length=m
 | 0,_=>rfl
 | m+1,k=>by simp [F6,Fy m]

theorem Agg {β:Type} {pre r:List β} {x y:β}:(pre++x::r).set pre.length y=pre++y::r:=by
 rw [KE _ _ (QY _)];simp

theorem B34 {β:Type} {pre r:List β} {x d:β}:(pre++x::r).getD pre.length d=x:=by simp

theorem B35 {β:Type} {pre r:List β} {x:β}:pre++x::r=(pre++[x])++r:=by simp

theorem Ac9 {α:Type} {n:Nat} {k0:Int->List Int->Option α}:∀ (r:List Int) (m:Nat) (pre:List Int) (k:Int),pre.length+r.length<=1048576->r.length<m->0<=k->k+r.length<=1152921504606846976 ->
  Z7 n m k (pre.length:Int) (pre++r) k0=k0 (k+r.length) (pre++F6 k r.length)
 | [],m+1,pre,k,hN,hm,h0,hk=>by
  rw [Acb];unfold Sx
  rw [QH,QJ (by simp)]
  simp [F6]
 | x::r,m+1,pre,k,hN,hm,h0,hk=>by
  simp only [ZC] at hN hm hk;rw [Acb];unfold Sx
  rw [QH,QL (by simp;omega),A4 (by simp;omega),A4 (by simp)]
  rw [QR,Agg,Af (x:=k+1) (by omega) (by omega),Af (x:=(pre.length:Int)+1) (by omega) (by omega),B35]
  have ih:=Ac9 (n:=n) (k0:=k0) r m (pre++[k]) (k+1) (by simp;omega) (by omega) (by omega) (by omega)
  simp only [XK,ZC,XB,YH] at ih;refine Eq.trans ih ?_
  rw [show k+1+(r.length:Int)=k+((r.length+1:Nat):Int) by omega]
  simp [F6]

theorem A9b {n:Nat} {l:List Int} {k:Int} (hl:l.length<=1048576) (h0:0<=k) (hk:k+l.length<=1152921504606846976) (hn:1048577<=n):A9c n l k=some (k+l.length,F6 k l.length):=by
 unfold A9c
 exact Ac9 (n:=n) (k0:=λz w=>some (z,w)) l n [] k (by simpa using hl) (by omega) h0 hk

theorem B98 {n:Nat} {k:Int} (hn:1048577<=n):f87 n [] k=some k:=by
 unfold f87
 obtain ⟨m,rfl⟩:∃ m,n=m+1:=⟨n-1,by omega⟩
 rw [B48];rfl

theorem Ah5 {α:Type} {n:Nat} {l:List Int} {k0 k1:Int->Option α} (hl:l.length<=1048576):∀ (q m i:Nat) (k:Int),l.drop i=F6 k q->i+q=l.length->q<m->0<=k->k+q<=1152921504606846976 ->
  A6b n m l k (i:Int) k0 k1=k1 (k+q)
 | 0,m+1,i,k,hd,hq,hm,h0,hk=>by
  rw [Ah7];unfold Z5
  rw [QH,QJ (by omega)]
  simp
 | q+1,m+1,i,k,hd,hq,hm,h0,hk=>by
  have hlt:i<l.length:=by omega
  have hx:l.drop i=l.getD i 0::l.drop (i+1):=by
   rw [XO hlt];simp [QG,hlt]
  rw [hx] at hd;simp only [F6,Qay] at hd;rw [Ah7];unfold Z5
  rw [QH,QL (by omega),A4 (by simp;omega),QR,hd.1,XW,QV,Af (x:=k+1) (by omega) (by omega),Af (x:=(i:Int)+1) (by omega) (by omega)]
  refine (Ah5 (n:=n) (k0:=k0) (k1:=k1) hl q m (i+1) (k+1) hd.2 (by omega) (by omega) (by omega) (by omega)).trans ?_
  rw [show k+1+(q:Int)=k+((q+1:Nat):Int) by omega]

theorem Awk {n m:Nat} {k:Int} (hm:m<=1048576) (h0:0<=k) (hk:k+m<=1152921504606846976) (hn:1048577<=n):f88 n (F6 k m) k=some (k+m):=by
 unfold f88
 exact Ah5 (n:=n) (k0:=λz=>some z) (k1:=λz=>some z) (by rw [Fy];exact hm) m n 0 k rfl (by rw [Fy];omega) (by omega) h0 hk

def Bz:List Rt->Int->Int × List Rt
 | [],k=>(k,[])
 | x::r,k=>((Bz r (k+1+x.2.1.length+x.2.2.length)).1,(Int.tmod k 3==0,F6 (k+1) x.2.1.length,F6 (k+1+x.2.1.length) x.2.2.length)::(Bz r (k+1+x.2.1.length+x.2.2.length)).2)

theorem L3:∀ (l:List Rt) (k:Int),(Bz l k).2.length=l.length
 | [],_=>rfl
 | x::r,k=>by simp [Bz,L3 r]

theorem Sp:∀ (l:List Rt) (k:Int),k<=(Bz l k).1
 | [],k=>JX k
 | x::r,k=>by have:=Sp r (k+1+x.2.1.length+x.2.2.length);simp only [Bz];omega

theorem Acg {α:Type} {n:Nat} (hn:1048577<=n) {k0:Int->List Rt->Option α}:∀ (r:List Rt) (m:Nat) (pre:List Rt) (k:Int),pre.length+r.length<=1048576->(∀ x ∈ r,Sm x)->r.length<m->0<=k->k+2097153*r.length<=1125899906842624 ->
  Qu n m k (pre.length:Int) (pre++r) k0=k0 (Bz r k).1 (pre++(Bz r k).2)
 | [],m+1,pre,k,hN,hs,hm,h0,hk=>by
  rw [Aci];unfold T3
  rw [QH,QJ (by simp)]
  simp [Bz]
 | x::r,m+1,pre,k,hN,hs,hm,h0,hk=>by
  simp only [ZC] at hN hm hk;obtain ⟨s,a,b⟩:=x
  obtain ⟨h1,h2⟩:=hs (s,a,b) (by simp)
  simp only at h1 h2
  have ih:=λy=>Acg hn (k0:=k0) r m (pre++[y]) (k+1+a.length+b.length) (by simp;omega) (λz hz=>hs z (by simp [hz])) (by omega) (by omega) (by omega)
  simp only [XK,ZC,XB,YH] at ih
  have ea:∀ (l:List Int) (k:Int),l.isEmpty=true->F6 k l.length=l/\k+(l.length:Int)=k:=λl k h=>by
   rw [YK] at h;subst h;simp [F6]
  rw [Aci];unfold T3
  rw [QH,QL (by simp;omega),A4 (by simp;omega),A4 (by simp)]
  simp only [QR,Agg,B34]
  have g1:∀ (y:Rt),(decide (0<=(pre.length:Int))&&decide ((pre.length:Int)<((pre++y::r).length:Int)))=true:=λy=>by simp;omega
  have g2:∀ (y:Rt),decide (pre.length<(pre++y::r).length)=true:=λy=>by simp
  have w1:W (k+1)=k+1:=Af (by omega) (by omega)
  have w2:W ((pre.length:Int)+1)=((pre.length+1:Nat):Int):=by rw [Af (by omega) (by omega)];rfl
  simp only [g1,g2,I9,w1,w2,B98 hn,A9b h1 (show 0<=k+1 by omega) (show k+1+(a.length:Int)<=1152921504606846976 by omega) hn,A2,Fy,XF,XP]
  have fin:∀ (y:Rt),Qu n m (k+1+a.length+b.length) ((pre.length+1:Nat):Int) (pre++y::r) k0=k0 (Bz r (k+1+a.length+b.length)).1 (pre++y::(Bz r (k+1+a.length+b.length)).2):=λy=>by
   have:=ih y;rw [ZO,ZO] at this;exact this
  show _=k0 (Bz r (k+1+a.length+b.length)).1 (pre++(Int.tmod k 3==0,F6 (k+1) a.length,F6 (k+1+a.length) b.length)::(Bz r (k+1+a.length+b.length)).2);rw [<- fin]
  cases ha:a.isEmpty with
  | true =>
   obtain rfl:=YK.1 ha
   cases hb:b.isEmpty with
   | true =>
    obtain rfl:=YK.1 hb;simp [F6]
   | false =>
    simp only [ZN,QV,A9b h2 (show 0<=k+1 by omega) (show k+1+(b.length:Int)<=1152921504606846976 by omega) hn,A2,Fy,XF,XP,I9]
    simp [F6]
  | false =>
   cases hb:b.isEmpty with
   | true =>
    obtain rfl:=YK.1 hb;simp [F6]
   | false =>
    simp only [QV,A9b h2 (show 0<=k+1+(a.length:Int) by omega) (show k+1+(a.length:Int)+(b.length:Int)<=1152921504606846976 by omega) hn,A2,Fy,XF,XP,I9]

theorem A9x {n:Nat} {l:List Rt} {k:Int} (hl:SmL l) (h0:0<=k) (hk:k<=8796093022208) (hn:1048577<=n):X1 n l k=some (Bz l k):=by
 unfold X1
 refine (Acg (n:=n) hn (k0:=λz w=>some (z,w)) l n [] k (by simpa using hl.1) hl.2 (by have:=hl.1;omega) h0 ?_).trans ?_
 . have:=hl.1;omega
 . simp

theorem Aho {α:Type} {n:Nat} {l:List Rt} {k0 k1:Int->Option α} (hl:l.length<=1048576) (hn:1048577<=n):∀ (r:List Rt) (m i:Nat) (k:Int),l.drop i=(Bz r k).2->i+r.length=l.length->(∀ x ∈ r,Sm x)->r.length<m->0<=k->k+2097153*r.length<=1125899906842624 ->
  A6g n m l k (i:Int) k0 k1=k1 (Bz r k).1
 | [],m+1,i,k,hd,hq,hs,hm,h0,hk=>by
  rw [A29];unfold Zh
  rw [QH,QJ (by simp at hq;omega)]
  rfl
 | x::r,m+1,i,k,hd,hq,hs,hm,h0,hk=>by
  simp only [ZC] at hq hm hk
  obtain ⟨h1,h2⟩:=hs x (by simp)
  have hlt:i<l.length:=by omega
  have hx:l.drop i=l.getD i (false,[],[])::l.drop (i+1):=by
   rw [XO hlt];simp [QG,hlt]
  rw [hx] at hd;simp only [Bz,Qay] at hd;rw [A29];unfold Zh
  rw [QH,QL (by omega),A4 (by simp;omega)]
  simp only [QR,hd.1,BEq.rfl,ZR,QV]
  rw [A4 (by simp;omega),Af (x:=k+1) (by omega) (by omega),Awk h1 (by omega) (by omega) hn,A2,QH,QJ (by omega),A4 (by simp;omega),Awk h2 (by omega) (by omega) hn,A2,QH,QJ (by omega),
   Af (x:=(i:Int)+1) (by omega) (by omega)]
  exact Aho (n:=n) (k0:=k0) (k1:=k1) hl hn r m (i+1) _ hd.2 (by omega) (λz hz=>hs z (by simp [hz])) (by omega) (by omega) (by omega)

theorem Bem {n:Nat} {l:List Rt} {k:Int} (hl:SmL l) (h0:0<=k) (hk:k<=8796093022208) (hn:1048577<=n):f47 n (Bz l k).2 k=some (Bz l k).1:=by
 unfold f47;have:=hl.1
 exact Aho (n:=n) (k0:=λz=>some z) (k1:=λz=>some z) (by rw [L3];exact hl.1) hn l n 0 k rfl (by rw [L3];omega) hl.2 (by omega) h0 (by omega)

theorem B9r {n:Nat} {k:Int} (hn:1048577<=n):f37 n [] k=some k:=by
 unfold f37
 obtain ⟨m,rfl⟩:∃ m,n=m+1:=⟨n-1,by omega⟩
 rw [B4p];rfl

theorem B9k {n:Nat} {k:Int} (hn:1048577<=n):f47 n [] k=some k:=by
 unfold f47
 obtain ⟨m,rfl⟩:∃ m,n=m+1:=⟨n-1,by omega⟩
 rw [A29];rfl

theorem Adr {n:Nat} {l:List Int} (h:l.length<=17592186044416):Rn n l=some (if l=[] then .inr () else .inl l):=by
 unfold Rn Ml
 cases l with
 | nil=>rfl
 | cons a r =>
  simp only [List.isEmpty_cons,QV,XH,I9]
  rw [A4 (by simp at h ⊢;omega)]
  rfl

def K1:List Int->Int
 | []=>0
 | c::r=>if c=0 then K1 r else c

theorem Ahm {n:Nat} {l:List Int} (hl:l.length<=1048576):∀ (m i:Nat),i<=l.length->l.length<i+m->A6f n m l (l.length:Int) (i:Int) (λz=>some z) (λ(_:Unit)=>some 0)=some (K1 (l.drop i))
 | 0,i,hi,hm=>by omega
 | m+1,i,hi,hm=>by
  rw [B4k];unfold A9q;rw [QH];by_cases h:i<l.length
  . have hx : l.drop i = l.getD i 0 :: l.drop (i + 1) := by
     rw [XO h];simp [QG,h]
    rw [QL (by omega),A4 (by simp;try omega),QR,hx]
    unfold K1;by_cases c:l.getD i 0=0
    . rw [c,XW,QV,QL rfl,Af (x:=(i:Int)+1) (by omega) (by omega)]
      exact Ahm hl m (i+1) (by omega) (by omega)
    . rw [QJ c,show (l.getD i 0 != 0)=true by rw [bne_iff_ne];exact c,ZN]
  . rw [QJ (by omega),ZD (by omega)];rfl

theorem Ns {n:Nat} {l:List Int} (hl:l.length<=1048576) (hn:1048577<=n):f64 n l=some (K1 l):=by
 unfold f64
 have:=Ahm (n:=n) hl n 0 (by omega) (by omega)
 simpa using this

def A1x (L:List (List Rt)):Bool:=L.any λv=>decide (4096<v.length)

theorem Ao1 {n:Nat} {L:List (List Rt)} (hl:L.length<=1048576) (hn:1048577<=n):f65 n L=some (if A1x L=true then 2 else 0):=by
 obtain ⟨c,h1,h2⟩:=Bej (n:=n) hl hn;rw [h1];rcases h2 with ⟨rfl,h⟩ | ⟨rfl,v,hv,h⟩
 . rw [QJ];intro c;obtain ⟨v,hv,h3⟩:=ZZ.1 c;have:=h v hv;have:=JF h3;omega
 . rw [QL];exact ZZ.2 ⟨v,hv,ZE h⟩

def Aqa (L:List (List Rt)):Int:=if A1x L=true then 2 else if (L.all I5)=true then (if (L.all λv=>v.length==(L.getD 0 []).length)=true then 0 else 8) else 1

theorem B67 {n:Nat} {x y:List Rt} (hn:1048577<=n):f128 n x y=some (Aqa [x,y]):=by
 unfold f128 Aqa A1x;dsimp only;rw [QH];simp only [YW,List.any_nil,Qao,XY,Qaz,XP];by_cases a:x.length<=4096
 . rw [QJ (by omega),QT (show ¬ 4096<x.length by omega),YO]
   by_cases b:y.length<=4096
   . rw [QT (by omega),QT (by omega),QV,Aas hn,A2,QJ (by simp)]
     cases hx:I5 x with
     | false=>rfl
     | true =>
      rw [ZR,QV,Aas hn,A2]
      cases hy:I5 y with
      | false=>rfl
      | true =>
       simp only [ZR,QV,ZG,if_true];by_cases c:x.length=y.length
       . rw [show ((x.length:Int) != (y.length:Int))=false by simp;omega,QV,QL (by simp [c])]
       . rw [show ((x.length:Int) != (y.length:Int))=true by rw [bne_iff_ne];omega,ZN,QJ (by simp;omega)]
   . rw [ZE (by omega),ZE (by omega),ZN,QL rfl]
 . rw [QL (by omega),ZE (show 4096<x.length by omega),Qav,ZN,QL rfl]

theorem B6t:∀ {l:List Rt},l.all I6=true->∃ X:List Rat,l=vq X/\Sv X 40
 | [],_=>⟨[],rfl,λa h=>by simp at h⟩
 | r::l,h=>by
  simp only [XY,QE] at h;obtain ⟨x,rfl,hx⟩:=Bdb h.1;obtain ⟨X,rfl,hX⟩:=B6t h.2
  exact ⟨x::X,rfl,λa ha=>by rcases QU.1 ha with rfl | ha;exact hx;exact hX a ha⟩

theorem Bji {x:Rat} {L:Nat} (h:Sz x L) (hL:L<=1048576):Sm (rq x):=⟨ZK h.1 hL,ZK h.2 hL⟩

theorem Bhy {X:List Rat} {L:Nat} (h:Sv X L) (hL:L<=1048576) (hl:X.length<=1048576):SmL (vq X):=⟨by rw [C5];exact hl,λr hr=>by
 obtain ⟨x,hx,rfl⟩:=ZM.1 hr
 exact Bji (h x hx) hL⟩

def Qa (X:List Rat):List Rt × Int:=if X.all Bt=true then (vq X,0) else ([],7)

theorem B91 {X:List Rat} (h:X.length<=1048576):SmL (Qa X).1:=by
 unfold Qa;split
 . rename_i e
   exact Bhy (L:=40) (λa ha=>F9.1 (QM.1 e a ha)) (by omega) h
 . exact ⟨by simp,λx h=>by simp at h⟩

theorem Bhr {x:Rat}:(rq x).2.2 ≠ []:=by
 unfold rq;dsimp only;intro h;have h2:=Yc (m:=x.den);rw [h] at h2;have h3:=x.den_nz;rw [QT h3] at h2
 cases h2

theorem B9h {n:Nat} {x:Rat} (h:Sz x 1000000):Arw n (rq x)=some (if (rq x).2.1=[] then .inr (.inl ((rq x).1,(),(rq x).2.2)) else .inl (rq x)):=by
 obtain ⟨h1,h2⟩:=h;have h1:(rq x).2.1.length<=1000000:=h1;have h2:(rq x).2.2.length<=1000000:=h2;unfold Arw
 rw [Adr (by omega),A2,Adr (by omega),A2]
 rw [QJ Bhr];by_cases c:(rq x).2.1=[]
 . rw [QL c,QL c];rfl
 . rw [QJ c,QJ c];rfl

theorem Ams {n:Nat} {x:List Rat} (hl:x.length<=1048576) (hn:1048577<=n):Ka n (vq x) ()=some (!x.all Bt):=by
 have h:=Agu (n:=n) (x:=x) hl hn;unfold f76 at h
 cases e:Ka n (vq x) () with
 | none=>rw [e] at h;cases h
 | some r =>
  rw [e,A2] at h
  cases r with
  | true =>
   rw [ZN] at h;by_cases c:x.all Bt=true
   . rw [QL c] at h;simp at h
   . rw [Bool.eq_false_iff.2 c];rfl
  | false =>
   rw [QV] at h;by_cases c:x.all Bt=true
   . rw [c];rfl
   . rw [QJ c] at h;simp at h

theorem Agi:∀ (l:List Rt) (k:Int),(∀ x ∈ l,Sm x)->(Bz l k).1<=k+2097153*l.length
 | [],k,_=>by simp [Bz]
 | x::r,k,h=>by
  obtain ⟨h1,h2⟩:=h x (by simp)
  have:=Agi r (k+1+x.2.1.length+x.2.2.length) λy hy=>h y (by simp [hy])
  simp only [Bz,ZC];omega

theorem G5 {n:Nat} {b:Bool} {c:Int}:f114 n b c=some (if b=true then 0 else c):=by
 unfold f114;cases b <;> rfl

theorem B90 {X:List Rat} (h:(Qa X).2 ≠ 0):(Qa X).1=[]:=by
 unfold Qa at h ⊢;split
 . rename_i e;rw [QL e] at h;exact absurd rfl h
 . rfl

def Bju (X:List Rat) (k i:Nat):List Rat:=(X.drop (i*k)).take k

def mvR (A X:List Rat):List Rat:=(List.range X.length).map λi=>Cb 0 (Bju A X.length i) X

def Afb (w:Nat) (row:List Rt) (v:Nat->Rat):Prop:=row.length=w /\ ∀ c,c<w->row.getD c P8=rq (v c)

def Alq (m w:Nat) (R:List (List Rt)) (M:Nat->Nat->Rat):Prop:=R.length=m /\ ∀ r,r<m->Afb w (R.getD r []) (M r)

def SzM (M:Nat->Nat->Rat) (L:Nat):Prop:=∀ r c,Sz (M r c) L

theorem Anu {n L:Nat} {x:Rat} (hx:Sz x L) (hL:L<=1099511627000):f61 n (rq x)=some (rq x):=by
 obtain ⟨x1,x2⟩:=hx;unfold f61 rq;dsimp only
 rw [Kc n (by omega),A2,Kc n (by omega),A2]

theorem SzM.mono {M:Nat->Nat->Rat} {L L':Nat} (h:SzM M L) (hL:L<=L'):SzM M L':=λr c=>(h r c).mono hL

theorem Afb.congr {w:Nat} {row:List Rt} {u v:Nat->Rat} (h:Afb w row u) (e:∀ c,c<w->u c=v c):Afb w row v:=⟨h.1,λc hc=>by rw [h.2 c hc,e c hc]⟩

theorem Alq.congr {m w:Nat} {R:List (List Rt)} {M M':Nat->Nat->Rat} (h:Alq m w R M) (e:∀ r c,r<m->c<w->M r c=M' r c):Alq m w R M':=⟨h.1,λr hr=>(h.2 r hr).congr λc hc=>e r c hr hc⟩

structure Kl (m:Nat) (a b:List Rt) (M:Nat->Nat->Rat):Prop where
 la:a.length=m*m
 lb:b.length=m
 at_:∀ r c,r<m->c<m->a.getD (r*m+c) P8=rq (M r c)
 bt:∀ r,r<m->b.getD r P8=rq (M r m)

theorem Kl.congr {m:Nat} {a b:List Rt} {M M':Nat->Nat->Rat} (h:Kl m a b M) (e:∀ r c,r<m->c<=m->M r c=M' r c):Kl m a b M' :=
 ⟨h.la,h.lb,λr c hr hc=>by rw [h.at_ r c hr hc,e r c hr (by omega)],λr hr=>by rw [h.bt r hr,e r m hr (QY _)]⟩

theorem Kl.gA {m r c:Nat} {a b:List Rt} {M:Nat->Nat->Rat} (h:Kl m a b M) (hr:r<m) (hc:c<m):a.getD (r*m+c) (false,[],[])=rq (M r c):=h.at_ r c hr hc

theorem Kl.gB {m r:Nat} {a b:List Rt} {M:Nat->Nat->Rat} (h:Kl m a b M) (hr:r<m):b.getD r (false,[],[])=rq (M r m):=h.bt r hr

theorem Bi8 {n c:Nat} (hc:c<=1000000) (hn:1048577<=n):f127 n (c:Int)=some (rq (c:Rat)):=by
 unfold f127
 rw [QT (by omega),QV,R8 (by omega) (by omega),A2,Aux,J9]

theorem Yj {L:Nat} (h:1<=L):Sz (1:Rat) L:=(B2a (c:=1) (by omega)).mono h

theorem W7 {α:Type} {n m:Nat} (hm:m<=100) (hn:1048577<=n) {k0:List Rt->Option α}:∀ (fu i:Nat),i<=m->m<i+fu->A6a n fu (m:Int) (i:Int) (vq (List.replicate i 0)) k0=k0 (vq (List.replicate m 0))
 | 0,i,hi,hf=>by omega
 | fu+1,i,hi,hf=>by
  rw [B44];unfold A96;rw [QH];by_cases h:i<m
  . have e0:f127 n 0=some (rq 0):=Bi8 (c:=0) (by omega) hn
    have e:vq (List.replicate i 0)++[rq 0]=vq (List.replicate (i+1) 0):=by rw [List.replicate_succ'];simp [vq]
    rw [QL (by omega),e0,A2,A4 (by simp;omega),e,Af (x:=(i:Int)+1) (by omega) (by omega)]
    exact W7 hm hn fu (i+1) (by omega) (by omega)
  . obtain rfl:i=m:=by omega
    rw [QJ (by omega)]

theorem B8b {n m:Nat} (hm:m<=100) (hn:1048577<=n):f90 n (m:Int)=some (vq (List.replicate m 0)):=by
 unfold f90
 exact W7 (n:=n) (k0:=λa=>some a) hm hn n 0 (by omega) (by omega)

theorem Auy (a:Int):rq (a:Rat)=(decide (a<0),dg a.natAbs,dg 1):=by
 unfold rq;rw [Rat.num_intCast,Rat.den_intCast]

theorem Im {n:Nat} {a:Int} (h:-1000000000<=a/\a<=1000000000) (hn:1048577<=n):f127 n a=some (rq (a:Rat)):=by rw [Bca h hn,Auy]

theorem Aez {n:Nat} {x:Rat}:f131 n (rq x)=some (Bt x):=by
 unfold f131 Bt rq;dsimp only;rw [QH];by_cases h:(dg x.num.natAbs).length<=40
 . rw [QL (by omega),ZE h,XS]
   by_cases c:(dg x.den).length<=40
   . rw [ZE c,ZE (by omega)]
   . rw [QT c,QT (by omega)]
 . rw [QJ (by omega),QT h];rfl

theorem B6y {n:Nat} {x:Rat}:f154 n (rq x)=some (Bt x):=by
 unfold f154 Bt rq;dsimp only;rw [QH];by_cases h:(dg x.num.natAbs).length<=40
 . rw [QL (by omega),ZE h,XS]
   by_cases c:(dg x.den).length<=40
   . rw [ZE c,ZE (by omega)]
   . rw [QT c,QT (by omega)]
 . rw [QJ (by omega),QT h];rfl

theorem B0 {x y:Rat} {L K:Nat} (hx:Sz x L) (hy:Sz y K):Sz (x*y) (L+K+1):=by
 obtain ⟨x1,x2⟩:=hx;obtain ⟨y1,y2⟩:=hy;have l1:=Bo x.num.natAbs y.num.natAbs;have l3:=Bo x.den y.den;rw [Agf]
 exact Aub (KN (YA x.den_nz) (YA y.den_nz)) (by omega) (by omega)

theorem S6 {x y:Rat} {L K:Nat} (hx:Sz x L) (hy:Sz y K) (hy0:y ≠ 0):Sz (x / y) (L+K+1):=by
 obtain ⟨x1,x2⟩:=hx;obtain ⟨y1,y2⟩:=hy;have l1:=Bo x.num.natAbs y.den;have l3:=Bo x.den y.num.natAbs;have hyn:y.num ≠ 0:=λe=>hy0 (JC.1 e);rw [Akw hy0]
 exact Aub (KN (YA x.den_nz) (by omega)) (by omega) (by omega)

def Bjv (M:Nat->Nat->Rat) (m i:Nat):List Rat:=(List.range m).map (M i)

def bsV (M:Nat->Nat->Rat) (m i:Nat) (X:List Rat):Rat:=(M i m-Cb 0 (Bjv M m i) X) / M i i

def bs (M:Nat->Nat->Rat) (m:Nat):Nat->List Rat->List Rat
 | 0,X=>X
 | i+1,X=>bs M m i (X.set i (bsV M m i X))

theorem Bhx {k L:Nat} (h:1<=L):Sv (List.replicate k 0) L:=λa ha=>by
 rw [(List.mem_replicate.1 ha).2];exact Gr.mono h

theorem I1:∀ (x y:List Rat) (a:Rat),Cb a x y=a+Cb 0 x y
 | [],_,a=>by simp [Cb,Rat.add_zero]
 | p::x,[],a=>by simp [Cb,Rat.add_zero]
 | p::x,q::y,a=>by
  simp only [Cb];rw [I1 x y (a+p*q),I1 x y (0+p*q)];grind

theorem Ac8 {n:Nat} {x:List Rat} (hl:x.length<=4096) {k1:List Rt->Option (List Rt × Int)}:∀ (m i:Nat) (o:List Rt),o.length<=i->i<=x.length->x.length<i+m ->
  Wx n m (vq x) (i:Int) o (λa b=>some (b,a)) k1=if (x.drop i).all Bt=true then k1 (o++vq (x.drop i)) else some ([],7)
 | 0,i,o,ho,hi,hm=>by omega
 | m+1,i,o,ho,hi,hm=>by
  rw [B3x];unfold A91;dsimp only;rw [QH,C5];by_cases h:i<x.length
  . rw [QL (by omega),A4 (by simp;omega),QR,Cc h,B70 h,XY,B6y,A2]
    cases hf:Bt (x.getD i 0) with
    | false=>simp
    | true =>
     obtain ⟨z1,z2⟩:=F9.1 hf
     have e2:f91 n (rq (x.getD i 0))=some (rq (x.getD i 0)):=by
      unfold f91
      rw [A4 (by simp only [QO];show (0+(dg (x.getD i 0).num.natAbs).length)*8<=_;omega),A4 (by simp only [QO];show (0+(dg (x.getD i 0).den).length)*8<=_;omega)]
     rw [ZR,QV,A4 (by simp;omega),e2,A2,A4 (by simp;omega),Af (x:=(i:Int)+1) (by omega) (by omega),XS]
     have:=Ac8 hl (n:=n) (k1:=k1) m (i+1) (o++[rq (x.getD i 0)]) (by simp;omega) (by omega) (by omega)
     rw [show (i:Int)+1=((i+1:Nat):Int) from rfl,this,ZO];rfl
  . rw [QJ (by omega),ZD (by omega)]
    simp [vq]

theorem B8e {n:Nat} {x:List Rat} (hl:x.length<=4096) (hn:1048577<=n):f94 n (vq x)=some (Qa x):=by
 unfold f94 Qa
 have h1:=Ac8 (n:=n) hl (k1:=λa=>some (a,0)) n 0 [] (by simp) (by omega) (by omega)
 have h1:Wx n n (vq x) 0 [] _ _=_:=h1;rw [h1,ZT];split <;> rfl

theorem Ae1:∀ (x y:List Rat),Cb 0 x y=Cb 0 y x
 | [],[]=>rfl
 | [],_::_=>rfl
 | _::_,[]=>rfl
 | p::x,q::y=>by
  simp only [Cb];rw [I1,I1 y,Ae1 x y];grind

theorem Uq:∀ (x:List Rat),0<=Cb 0 x x
 | []=>by simp only [Cb];exact Rat.le_refl
 | p::x=>by
  have:=Uq x
  have h2:(0:Rat)<=p*p:=by
   rcases Rat.le_total (a:=0) (b:=p) with h | h
   . exact Qbk h h
   . have:=Qbk (a:=-p) (b:=-p) (by grind) (by grind)
     grind
  simp only [Cb];rw [I1];grind

theorem Aqf (p:Rat):0<=p*p:=by
 rcases Rat.le_total (a:=0) (b:=p) with h | h
 . exact Qbk h h
 . have:=Qbk (a:=-p) (b:=-p) (by grind) (by grind)
   grind

theorem Akv:∀ {x:List Rat},Cb 0 x x=0->∀ i,x.getD i 0=0
 | [],_,i=>by simp
 | p::x,h,i=>by
  simp only [Cb] at h;rw [I1] at h;have h1:=Uq x;have h2:=Aqf p
  have h3:Cb 0 x x=0:=by grind
  have h4:p*p=0:=by grind
  have h5:p=0:=by rcases Rat.mul_eq_zero.1 h4 with h | h <;> exact h
  cases i with
  | zero=>simpa using h5
  | succ i=>simpa using Akv h3 i

theorem Ae0:∀ {x:List Rat} (z:List Rat),(∀ i,x.getD i 0=0)->Cb 0 x z=0
 | [],_,_=>rfl
 | p::x,[],_=>rfl
 | p::x,c::z,h=>by
  have h0:p=0:=by simpa using h 0
  have h1:=Ae0 (x:=x) z λi=>by simpa using h (i+1)
  simp only [Cb];rw [I1,h1,h0];grind

structure Pd (A:List Rat) (k:Nat):Prop where
 sa:∀ X Y,X.length=k->Y.length=k->Cb 0 (mvR A X) Y=Cb 0 X (mvR A Y)
 pd:∀ X,X.length=k->Cb 0 X X<=Cb 0 X (mvR A X)

structure CgI (A R D:List Rat) (k:Nat):Prop where
 lR:R.length=k
 lD:D.length=k
 i1:Cb 0 R D=Cb 0 R R
 i2:Cb 0 R (mvR A D)=Cb 0 D (mvR A D)

theorem CgI.p {A R D:List Rat} {k:Nat} (h:CgI A R D k) (hA:Pd A k) (hr:Cb 0 R R ≠ 0):Cb 0 D (mvR A D) ≠ 0:=by
 intro e;have h1:=hA.pd D h.lD;have h2:=Uq D
 have h3:Cb 0 D D=0:=by grind
 have h4:=Ae0 R (Akv h3);rw [Ae1,h.i1] at h4;exact hr h4

theorem A7t {α:Type} {n:Nat} {e:List Nod} (hN:e.length<=1048576) {k0:List Nod->Option α}:∀ (r:List Nod) (m:Nat) (out:List Nod),e.drop out.length=r->out.length+r.length=e.length->r.length<m ->
  (∀ j,j<out.length->out.getD j (0,0,0,0)=e.getD j (0,0,0,0))->Qt n m e (out.length:Int) (out++List.replicate r.length (0,0,0,0)) k0=k0 e
 | [],m+1,out,hd,hl,hm,ho=>by
  rw [Acf];unfold T1;simp only [XB] at hl
  rw [QH,QJ (by omega)]
  congr 1;simp only [XB,List.replicate_zero,XC]
  apply List.ext_getElem (by omega)
  intro j h1 h2;have:=ho j h1;simpa [QG,h1,h2] using this
 | x::r,m+1,out,hd,hl,hm,ho=>by
  obtain ⟨hx,hlt,hd'⟩:=Qr (d:=(0,0,0,0)) hd;rw [Acf];unfold T1;simp only [ZC] at hl hm
  rw [QH,QL (by omega),A4 (by simp;omega),Af (by omega) (by omega)]
  simp only [QR,hx];unfold f138
  rw [A2,A4 (by simp;omega),A4 (by simp)]
  have es:(out++List.replicate (x::r).length (0,0,0,0)).set out.length x=(out++[x])++List.replicate r.length (0,0,0,0):=by
   rw [KE _ _ (QY _)];simp [Qbg]
  rw [es]
  have ih:=A7t hN r m (out++[x]) (by simpa using hd') (by simp;omega) (by omega) (λj hj=>by
   simp only [XK,ZC,XB] at hj;rcases XE j out.length with h | h
   . rw [Dl h];exact ho j h
   . obtain rfl:j=out.length:=by omega
     rw [Dm,hx]) (n:=n) (k0:=k0)
  simp only [XK,ZC,XB,YH] at ih;exact ih

theorem Be8 {n:Nat} {e:List Nod} (hN:e.length<=1048576) (hn:1048577<=n):f85 n e e=some true:=by
 unfold f85;simp only [XW,QV]
 exact Abr (n:=n) hN (k0:=λz=>some z) (k1:=λ_=>some true) n 0 (by omega) (by omega)

theorem Bep {n:Nat} {e:List Nod} {o:Int} (hN:e.length<=1048576) (hn:1048577<=n):f45 n (e,o) (e,o)=some true:=by
 unfold f45;simp [Be8 hN hn]

def mkL (k:Int):Nat->List Nod
 | 0=>[]
 | m+1=>(k,k+1,k+2,k+3)::mkL (k+4) m

theorem Yp:∀ (m:Nat) (k:Int),(mkL k m).length=m
 | 0,_=>rfl
 | m+1,k=>by simp [mkL,Yp m]

theorem gds {l:List Nod} {i:Nat} {a d:Nod} (h:i<l.length):(l.set i a).getD i d=a:=by
 simp [QG,h]

theorem Aqy {α:Type} {n:Nat} {b:List Nod} {i:Nat} {k:Int} (hi:i<b.length) (hN:b.length<=1048576) (hk:0<=k/\k<1000000000) {f} {k0:Int->List Nod->Option α} :
  Nr n k (i:Int) b f k0=f (k+4) ((i:Int)+1) (b.set i (k,k+1,k+2,k+3)):=by
 unfold Nr
 have w1:W (k+1)=k+1:=Af (by omega) (by omega)
 have w2:W (k+1+1)=k+2:=by rw [Af (by omega) (by omega)];omega
 have w3:W (k+2+1)=k+3:=by rw [Af (by omega) (by omega)];omega
 have w4:W (k+3+1)=k+4:=by rw [Af (by omega) (by omega)];omega
 simp only [w1,w2,w3,w4,QR,Qaw,gds hi,JN]
 have g1:(decide (0<=(i:Int))&&decide ((i:Int)<(b.length:Int)))=true:=by simp;omega
 have g2:decide (i<b.length)=true:=by simpa using hi
 rw [QH,QL (by omega)]
 simp only [g1,g2,I9]
 rw [Af (by omega) (by omega)]

theorem Abv {α:Type} {n:Nat} {k0:Int->List Nod->Option α}:∀ (r:List Nod) (m:Nat) (pre:List Nod) (k:Int),pre.length+r.length<=1048576->r.length<m->0<=k->k+4*r.length<1000000000 ->
  Z8 n m k (pre.length:Int) (pre++r) k0=k0 (k+4*r.length) (pre++mkL k r.length)
 | [],m+1,pre,k,hN,hm,h0,hk=>by
  rw [Acd];unfold Nr
  rw [QH,QJ (by simp)]
  simp [mkL]
 | x::r,m+1,pre,k,hN,hm,h0,hk=>by
  simp only [ZC] at hN hm hk
  rw [Acd,Aqy (by simp) (by simp;omega) ⟨h0,by omega⟩]
  have es:(pre++x::r).set pre.length (k,k+1,k+2,k+3)=(pre++[(k,k+1,k+2,k+3)])++r:=by
   rw [KE _ _ (QY _)];simp
  rw [es]
  have ih:=Abv (n:=n) (k0:=k0) r m (pre++[(k,k+1,k+2,k+3)]) (k+4) (by simp;omega) (by omega) (by omega) (by omega)
  simp only [XK,ZC,XB,YH] at ih;refine Eq.trans ih ?_
  rw [show k+4+4*(r.length:Int)=k+4*((r.length+1:Nat):Int) by omega]
  simp [mkL]

theorem B9a {n:Nat} {e:List Nod} (hN:e.length<=1048576) (hn:1048577<=n):Arl n e 1=some (1+4*(e.length:Int),mkL 1 e.length):=by
 unfold Arl
 exact Abv (n:=n) (k0:=λz w=>some (z,w)) e n [] 1 (by simpa using hN) (by omega) (by omega) (by omega)

theorem B9m {n:Nat} {e:List Nod} {o:Int} (hN:e.length<=1048576) (hn:1048577<=n):Ahq n (e,o) 1=some (1+4*(e.length:Int),mkL 1 e.length):=by
 unfold Ahq
 rw [B9a hN hn,A2,A4 (by simp [Yp])]

structure Q4 where
 f:Rat
 a:Rat
 v:Rat
 c:Rat

theorem Q4.ext' {p q:Q4} (h1:p.f=q.f) (h2:p.a=q.a) (h3:p.v=q.v) (h4:p.c=q.c):p=q:=by
 cases p;cases q;simp only at h1 h2 h3 h4;rw [h1,h2,h3,h4]

def Q4.cst (k:Rat):Q4:=⟨k,0,0,0⟩

def Q4.add (p q:Q4):Q4:=⟨p.f+q.f,p.a+q.a,p.v+q.v,p.c+q.c⟩

def Q4.neg (p:Q4):Q4:=⟨-p.f,-p.a,-p.v,-p.c⟩

def Q4.mul (p q:Q4):Q4:=⟨p.f*q.f,p.a*q.f+p.f*q.a,p.v*q.f+p.f*q.v,p.c*q.f+p.f*q.c+(p.a*q.v+p.v*q.a)⟩

def Q4.inv (p:Q4):Q4:=⟨1 / p.f,-(p.a*(1 / p.f*(1 / p.f))),-(p.v*(1 / p.f*(1 / p.f))),2*(1 / p.f*(1 / p.f)*(1 / p.f))*(p.a*p.v)-p.c*(1 / p.f*(1 / p.f))⟩

def Q4.pow (p:Q4):Nat->Q4
 | 0=>cst 1
 | n+1=>mul (pow p n) p

def Q4.d1 (f:Rat):Nat->Rat
 | 0=>0
 | n+1=>f ^ n*((n+1:Nat):Rat)

def Q4.d2 (f:Rat):Nat->Rat
 | 0=>0
 | 1=>0
 | n+2=>f ^ n*(((n+2)*(n+1):Nat):Rat)

theorem Q4.d1_suc (f:Rat) (n:Nat):d1 f (n+1)=d1 f n*f+f ^ n:=by
 cases n with
 | zero=>simp [d1];grind
 | succ n=>simp only [d1,Rat.pow_succ];push_cast;grind

theorem Q4.d2_suc (f:Rat) (n:Nat):d2 f (n+1)=d2 f n*f+2*d1 f n:=by
 match n with
 | 0=>simp [d2,d1];grind
 | 1=>simp [d2,d1];grind
 | n+2=>simp only [d2,d1,Rat.pow_succ];push_cast;grind

theorem Q4.pow_eq (p:Q4):∀ n,pow p n=⟨p.f ^ n,d1 p.f n*p.a,d1 p.f n*p.v,d2 p.f n*p.a*p.v+d1 p.f n*p.c⟩
 | 0=>by simp [pow,cst,d1,d2];grind
 | n+1=>by
  rw [pow,pow_eq p n];simp only [mul];refine ext' ?_ ?_ ?_ ?_
  . simp only [Rat.pow_succ]
  . simp only [d1_suc];grind
  . simp only [d1_suc];grind
  . simp only [d1_suc,d2_suc];grind

structure Z4 where
 f:Int
 a:Int
 v:Int
 c:Int

def Z4.q (p:Z4):Q4:=⟨(p.f:Rat),(p.a:Rat),(p.v:Rat),(p.c:Rat)⟩

def Z4.n (p:Z4):Nat:=p.f.natAbs+p.a.natAbs+p.v.natAbs+p.c.natAbs

def Z4.add (p q:Z4):Z4:=⟨p.f+q.f,p.a+q.a,p.v+q.v,p.c+q.c⟩

def Z4.mul (p q:Z4):Z4:=⟨p.f*q.f,p.a*q.f+p.f*q.a,p.v*q.f+p.f*q.v,p.c*q.f+p.f*q.c+(p.a*q.v+p.v*q.a)⟩

theorem Z4.q_mul (p q:Z4):(mul p q).q=Q4.mul p.q q.q:=by
 refine Q4.ext' ?_ ?_ ?_ ?_ <;> simp only [Z4.q,mul,Q4.mul] <;> push_cast <;> rfl

theorem Z4.q_add (p q:Z4):(add p q).q=Q4.add p.q q.q:=by
 refine Q4.ext' ?_ ?_ ?_ ?_ <;> simp only [Z4.q,add,Q4.add] <;> push_cast <;> rfl

theorem Z4.n_add (p q:Z4):(add p q).n<=p.n+q.n:=by
 have h1:=YV p.f q.f;have h2:=YV p.a q.a;have h3:=YV p.v q.v;have h4:=YV p.c q.c;simp only [n,add];omega

theorem Z4.n_mul (p q:Z4):(mul p q).n<=p.n*q.n:=by
 have h2:=YV (p.a*q.f) (p.f*q.a);have h3:=YV (p.v*q.f) (p.f*q.v);have h4:=YV (p.c*q.f+p.f*q.c) (p.a*q.v+p.v*q.a);have h5:=YV (p.c*q.f) (p.f*q.c);have h6:=YV (p.a*q.v) (p.v*q.a);simp only [n,mul,YM,Nat.mul_add,KW] at *;generalize p.f.natAbs*q.f.natAbs=x1 at *;generalize p.a.natAbs*q.f.natAbs=x2 at *;generalize p.f.natAbs*q.a.natAbs=x3 at *;generalize p.v.natAbs*q.f.natAbs=x4 at *;generalize p.f.natAbs*q.v.natAbs=x5 at *;generalize p.c.natAbs*q.f.natAbs=x6 at *;generalize p.f.natAbs*q.c.natAbs=x7 at *;generalize p.a.natAbs*q.v.natAbs=x8 at *;generalize p.v.natAbs*q.a.natAbs=x9 at *;omega

def Em (q:Q4) (M:Nat):Prop:=∃ P Q:Z4,Q.f ≠ 0/\Q4.mul q Q.q=P.q/\P.n<=M/\Q.n<=M

theorem Em.mono {q:Q4} {M N:Nat} (h:Em q M) (hN:M<=N):Em q N:=by
 obtain ⟨P,Q,h1,h2,h3,h4⟩:=h;exact ⟨P,Q,h1,h2,ZK h3 hN,ZK h4 hN⟩

theorem Q4.mul_comm (p q:Q4):mul p q=mul q p:=by
 refine ext' ?_ ?_ ?_ ?_ <;> simp only [mul] <;> grind

theorem Q4.mul_assoc (p q r:Q4):mul (mul p q) r=mul p (mul q r):=by
 refine ext' ?_ ?_ ?_ ?_ <;> simp only [mul] <;> grind

theorem Q4.add_mul (p q r:Q4):mul (add p q) r=add (mul p r) (mul q r):=by
 refine ext' ?_ ?_ ?_ ?_ <;> simp only [mul,add] <;> grind

theorem Q4.neg_mul (p r:Q4):mul (neg p) r=neg (mul p r):=by
 refine ext' ?_ ?_ ?_ ?_ <;> simp only [mul,neg] <;> grind

theorem Q4.inv_mul (p:Q4) (h:p.f ≠ 0):mul (inv p) p=cst 1:=by
 have h1:1 / p.f*p.f=1:=by grind
 generalize hr:1 / p.f=r at h1;refine ext' ?_ ?_ ?_ ?_ <;> simp only [mul,inv,cst,hr] <;> grind

theorem Q4.one_mul (p:Q4):mul (cst 1) p=p:=by
 refine ext' ?_ ?_ ?_ ?_ <;> simp only [mul,cst] <;> grind

theorem Q4.mul4 (p q r s:Q4):mul (mul p q) (mul r s)=mul (mul p r) (mul q s):=by
 rw [mul_assoc,<- mul_assoc q,mul_comm q r,mul_assoc r,<- mul_assoc]

theorem Age {a b:Int} (ha:a ≠ 0) (hb:b ≠ 0):a*b ≠ 0:=by
 intro h;rcases Int.mul_eq_zero.1 h with h | h
 . exact ha h
 . exact hb h

theorem Em.mul {p q:Q4} {M N:Nat} (hp:Em p M) (hq:Em q N):Em (Q4.mul p q) (M*N):=by
 obtain ⟨P,Q,h1,h2,h3,h4⟩:=hp;obtain ⟨R,S,g1,g2,g3,g4⟩:=hq;refine ⟨Z4.mul P R,Z4.mul Q S,Age h1 g1,?_,ZK (Z4.n_mul _ _) (XQ h3 g3),ZK (Z4.n_mul _ _) (XQ h4 g4)⟩;rw [Z4.q_mul,Z4.q_mul,Q4.mul4,h2,g2]

theorem Em.add {p q:Q4} {M N:Nat} (hp:Em p M) (hq:Em q N):Em (Q4.add p q) (2*(M*N)):=by
 obtain ⟨P,Q,h1,h2,h3,h4⟩:=hp;obtain ⟨R,S,g1,g2,g3,g4⟩:=hq;have e1:=XQ h3 g4;have e2:=XQ h4 g3;have e3:=XQ h4 g4;have n1:=Z4.n_mul P S;have n2:=Z4.n_mul R Q;have n3:=Z4.n_mul Q S;have n4:=Z4.n_add (Z4.mul P S) (Z4.mul R Q);rw [KO R.n] at n2
 refine ⟨Z4.add (Z4.mul P S) (Z4.mul R Q),Z4.mul Q S,Age h1 g1,?_,by omega,by omega⟩
 rw [Z4.q_add,Z4.q_mul,Z4.q_mul,Z4.q_mul,Q4.add_mul,<- h2,<- g2,Q4.mul_assoc,Q4.mul_assoc,Q4.mul_comm Q.q S.q]

theorem Em.neg {p:Q4} {M:Nat} (hp:Em p M):Em (Q4.neg p) M:=by
 obtain ⟨P,Q,h1,h2,h3,h4⟩:=hp
 refine ⟨⟨-P.f,-P.a,-P.v,-P.c⟩,Q,h1,?_,by simpa [Z4.n] using h3,h4⟩
 rw [Q4.neg_mul,h2];refine Q4.ext' ?_ ?_ ?_ ?_ <;> simp only [Q4.neg,Z4.q] <;> push_cast <;> rfl

theorem Em.inv {p:Q4} {M:Nat} (hp:Em p M) (h0:p.f ≠ 0):Em (Q4.inv p) M:=by
 obtain ⟨P,Q,h1,h2,h3,h4⟩:=hp;refine ⟨Q,P,?_,?_,h4,h3⟩
 . have:p.f*(Q.f:Rat)=(P.f:Rat):=XU Q4.f h2;intro h;rw [h] at this
   have hq:(Q.f:Rat) ≠ 0:=by simpa using h1
   grind
 . rw [<- h2,<- Q4.mul_assoc,Q4.inv_mul p h0,Q4.one_mul]

theorem Em.one:Em (Q4.cst 1) 1:=⟨⟨1,0,0,0⟩,⟨1,0,0,0⟩,by decide,by
 refine Q4.ext' ?_ ?_ ?_ ?_ <;> simp only [Q4.mul,Q4.cst,Z4.q] <;> simp [Rat.add_zero],by decide,by decide⟩

theorem Em.cst (k:Int):Em (Q4.cst (k:Rat)) (max k.natAbs 1):=⟨⟨k,0,0,0⟩,⟨1,0,0,0⟩,by simp,by
 refine Q4.ext' ?_ ?_ ?_ ?_ <;> simp only [Q4.mul,Q4.cst,Z4.q] <;> simp [Rat.add_zero],by simp [Z4.n];omega,by simp [Z4.n];omega⟩

theorem Em.pow {p:Q4} {M:Nat} (hp:Em p M):∀ n,Em (Q4.pow p n) (M ^ n)
 | 0=>by simpa [Q4.pow] using Em.one
 | n+1=>by simpa only [Q4.pow,KK] using (Em.pow hp n).mul hp

def Hb (x:Rat) (B:Nat):Prop:=x.num.natAbs<=B/\x.den<=B

theorem Hb.mono {x:Rat} {B C:Nat} (h:Hb x B) (hC:B<=C):Hb x C:=⟨ZK h.1 hC,ZK h.2 hC⟩

theorem Sg (x:Rat):x*((x.den:Int):Rat)=(x.num:Rat):=by
 have h1:mkRat x.num x.den=x:=Rat.mkRat_self x;rw [Rat.mkRat_eq_div] at h1
 have h2:((x.den:Int):Rat) ≠ 0:=by have:=x.den_nz;simpa using this
 rw [KB] at h2 ⊢;generalize (x.den:Rat)=d at *;grind

theorem Em.var {x w:Rat} {δ:Int} {A B C D:Nat} (hx:x.num.natAbs<=A) (hxd:x.den<=B) (hw:w.num.natAbs<=C) (hwd:w.den<=D) (hδ:δ.natAbs<=1):Em ⟨x,(δ:Rat),w,0⟩ (A*D+B*D+C*B):=by
 have h1:=Sg x;have h2:=Sg w;have e1:=XQ hx hwd;have e2:=XQ hxd hwd;have e3:=XQ hw hxd;have e4:δ.natAbs*(x.den*w.den)<=1*(x.den*w.den):=XT _ hδ
 refine ⟨⟨x.num*w.den,δ*(x.den*w.den),w.num*x.den,0⟩,⟨(x.den:Int)*w.den,0,0,0⟩,Age (by have:=x.den_nz;omega) (by have:=w.den_nz;omega),?_,?_,?_⟩
 . refine Q4.ext' ?_ ?_ ?_ ?_ <;> simp only [Q4.mul,Z4.q] <;> simp only [Qaf,<- h1,<- h2] <;> grind
 . simp only [Z4.n,KW,XX];have:((0:Int).natAbs)=0:=rfl;omega
 . simp only [Z4.n,KW,XX];have:((0:Int).natAbs)=0:=rfl;omega

theorem Bd0 {x:Rat} {z d:Int} {B:Nat} (h:x*(d:Rat)=(z:Rat)) (hd:d ≠ 0) (h1:z.natAbs<=B) (h2:d.natAbs<=B):Hb x B:=by
 have hx:x.num*d=z*x.den:=by
  have:=Sg x
  have h3:(x.num:Rat)*(d:Rat)=(z:Rat)*((x.den:Int):Rat):=by grind
  exact_mod_cast h3
 have hc:=x.reduced
 have e1:x.num.natAbs*d.natAbs=z.natAbs*x.den:=by
  have:=XU Int.natAbs hx;simpa only [KW,XX] using this
 have d1:x.den ∣ d.natAbs:=hc.symm.dvd_of_dvd_mul_left (by rw [e1];exact Nat.dvd_mul_left _ _)
 have d2:x.num.natAbs ∣ z.natAbs:=hc.dvd_of_dvd_mul_right (by rw [<- e1];exact Nat.dvd_mul_right _ _)
 have p1:0<d.natAbs:=by omega
 refine ⟨?_,ZK (Nat.le_of_dvd p1 d1) h2⟩;rcases YY z.natAbs with h0 | h0
 . rw [h0] at d2
   have:x.num.natAbs=0:=by
    rw [h0,JI] at e1;rcases Qat.1 e1 with h | h
    . exact h
    . omega
   omega
 . exact ZK (Nat.le_of_dvd h0 d2) h1

abbrev Nd:=Int × Int × Int × Int

def B8 (x u w:Nat->Rat) (l:List Q4) (n:Nd):Q4 :=
 if n.1=1 then Q4.cst (n.2.2.2:Rat)
 else if n.1=2 then ⟨x n.2.2.2.toNat,u n.2.2.2.toNat,w n.2.2.2.toNat,0⟩
 else if n.1=3 then Q4.add (l.getD n.2.1.toNat (Q4.cst 0)) (l.getD n.2.2.1.toNat (Q4.cst 0))
 else if n.1=4 then Q4.add (l.getD n.2.1.toNat (Q4.cst 0)) (Q4.neg (l.getD n.2.2.1.toNat (Q4.cst 0)))
 else if n.1=5 then Q4.mul (l.getD n.2.1.toNat (Q4.cst 0)) (l.getD n.2.2.1.toNat (Q4.cst 0))
 else if n.1=6 then Q4.mul (l.getD n.2.1.toNat (Q4.cst 0)) (Q4.inv (l.getD n.2.2.1.toNat (Q4.cst 0)))
 else if n.1=7 then Q4.neg (l.getD n.2.1.toNat (Q4.cst 0))
 else Q4.pow (l.getD n.2.1.toNat (Q4.cst 0)) n.2.2.2.toNat

def evs (x u w:Nat->Rat):List Nd->List Q4->List Q4
 | [],l=>l
 | n::r,l=>evs x u w r (l++[B8 x u w l n])

theorem Cr (x u w:Nat->Rat):∀ (ns:List Nd) (l:List Q4),(evs x u w ns l).length=l.length+ns.length
 | [],l=>by simp [evs]
 | n::r,l=>by rw [evs,Cr x u w r];simp;omega

theorem Ab2 (x u w:Nat->Rat):∀ (ns ms:List Nd) (l:List Q4),evs x u w (ns++ms) l=evs x u w ms (evs x u w ns l)
 | [],ms,l=>rfl
 | n::r,ms,l=>by rw [YI,evs,Ab2 x u w r,evs]

theorem Apv (x u w:Nat->Rat):∀ (ns:List Nd) (l:List Q4) (k:Nat),k<l.length->(evs x u w ns l).getD k (Q4.cst 0)=l.getD k (Q4.cst 0)
 | [],l,k,h=>rfl
 | n::r,l,k,h=>by
  rw [evs,Apv x u w r _ k (by simp;omega)]
  simp only [QG,ZA h]

structure Fm {ι:Type} (x:Nat->Rat) (u w:ι->Nat->Rat) (R:(ι->Q4)->Prop):Prop where
 cst:∀ k:Rat,R λ_=>Q4.cst k
 var:∀ n,R λi=>⟨x n,u i n,w i n,0⟩
 add:∀ {p q:ι->Q4},R p->R q->R λi=>Q4.add (p i) (q i)
 neg:∀ {p:ι->Q4},R p->R λi=>Q4.neg (p i)
 mul:∀ {p q:ι->Q4},R p->R q->R λi=>Q4.mul (p i) (q i)
 inv:∀ {p:ι->Q4},R p->R λi=>Q4.inv (p i)

theorem Fm.pow {ι:Type} {x:Nat->Rat} {u w:ι->Nat->Rat} {R:(ι->Q4)->Prop} (h:Fm x u w R) {p:ι->Q4} (hp:R p):∀ n,R λi=>Q4.pow (p i) n
 | 0=>h.cst 1
 | n+1=>h.mul (h.pow hp n) hp

theorem Fm.of {ι:Type} {x:Nat->Rat} {u w:ι->Nat->Rat} {R:(ι->Q4)->Prop} (h:Fm x u w R) {l:ι->List Q4} (hl:∀ k,R λi=>(l i).getD k (Q4.cst 0)) (n:Nd):R λi=>B8 x (u i) (w i) (l i) n:=by
 unfold B8;by_cases h1:n.1=1
 . simp only [QL h1];exact h.cst _
 by_cases h2:n.1=2
 . simp only [QJ h1,QL h2];exact h.var _
 by_cases h3:n.1=3
 . simp only [QJ h1,QJ h2,QL h3];exact h.add (hl _) (hl _)
 by_cases h4:n.1=4
 . simp only [QJ h1,QJ h2,QJ h3,QL h4];exact h.add (hl _) (h.neg (hl _))
 by_cases h5:n.1=5
 . simp only [QJ h1,QJ h2,QJ h3,QJ h4,QL h5];exact h.mul (hl _) (hl _)
 by_cases h6:n.1=6
 . simp only [QJ h1,QJ h2,QJ h3,QJ h4,QJ h5,QL h6];exact h.mul (hl _) (h.inv (hl _))
 by_cases h7:n.1=7
 . simp only [QJ h1,QJ h2,QJ h3,QJ h4,QJ h5,QJ h6,QL h7];exact h.neg (hl _)
 . simp only [QJ h1,QJ h2,QJ h3,QJ h4,QJ h5,QJ h6,QJ h7];exact h.pow (hl _) _

theorem Fm.evs {ι:Type} {x:Nat->Rat} {u w:ι->Nat->Rat} {R:(ι->Q4)->Prop} (h:Fm x u w R):∀ (ns:List Nd) {l:ι->List Q4} {N:Nat},(∀ i,(l i).length=N)->(∀ k,R λi=>(l i).getD k (Q4.cst 0))->∀ k,R λi=>(evs x (u i) (w i) ns (l i)).getD k (Q4.cst 0)
 | [],l,N,_,hl,k=>hl k
 | n::r,l,N,hN,hl,k=>by
  simp only [Go.Ev.evs]
  refine h.evs r (N:=N+1) (λi=>by simp [hN i]) (λk=>?_) k
  rcases JR k N with hk | hk | hk
  . have e : (fun i => (l i ++ [B8 x (u i) (w i) (l i) n]).getD k (Q4.cst 0)) = fun i => (l i).getD k (Q4.cst 0) := by
     funext i
     simp only [QG,ZA (show k<(l i).length by rw [hN i];exact hk)]
    rw [e];exact hl k
  . have e : (fun i => (l i ++ [B8 x (u i) (w i) (l i) n]).getD k (Q4.cst 0)) = fun i => B8 x (u i) (w i) (l i) n := by
     funext i
     rw [QG,QZ (by rw [hN i];omega),hN i,hk];simp
    rw [e];exact h.of hl n
  . have e : (fun i => (l i ++ [B8 x (u i) (w i) (l i) n]).getD k (Q4.cst 0)) = fun _ => Q4.cst 0 := by
     funext i
     rw [QG,KD (by simp [hN i];omega)];rfl
    rw [e];exact h.cst 0

theorem Fm.run {ι:Type} {x:Nat->Rat} {u w:ι->Nat->Rat} {R:(ι->Q4)->Prop} (h:Fm x u w R) (ns:List Nd) (k:Nat):R λi=>(Go.Ev.evs x (u i) (w i) ns []).getD k (Q4.cst 0) :=
 h.evs ns (N:=0) (λ_=>rfl) (λk=>by simpa using h.cst 0) k

theorem Aqk (x:Nat->Rat) (u w u' w':Nat->Rat) (ns:List Nd) (k:Nat):((evs x u w ns []).getD k (Q4.cst 0)).f=((evs x u' w' ns []).getD k (Q4.cst 0)).f:=by
 have h:Fm x (λb:Bool=>bif b then u else u') (λb:Bool=>bif b then w else w') (λp=>(p true).f=(p false).f):=by
  refine ⟨λ_=>rfl,λ_=>rfl,λh1 h2=>?_,λh1=>?_,λh1 h2=>?_,λh1=>?_⟩ <;> simp only [Q4.add,Q4.neg,Q4.mul,Q4.inv,h1] <;> (try simp only [h2])
 exact h.run ns k

def Gz (l:List Q4) (n:Nd):Prop:=n.1=6/\(l.getD n.2.2.1.toNat (Q4.cst 0)).f=0

instance (l:List Q4) (n:Nd):Decidable (Gz l n):=by unfold Gz;infer_instance

def Eb (fit:Q4->Bool) (x u w:Nat->Rat):List Nd->List Q4->List Q4 ⊕ Int
 | [],l=>.inl l
 | n::r,l=>if Gz l n then .inr 10 else if fit (B8 x u w l n)=true then Eb fit x u w r (l++[B8 x u w l n]) else .inr 7

theorem A0e {fit:Q4->Bool} {x u w:Nat->Rat}:∀ (ns:List Nd) (l l':List Q4),(∀ k,k<l.length->fit (l.getD k (Q4.cst 0))=true)->Eb fit x u w ns l = .inl l'->(∀ k,k<l'.length->fit (l'.getD k (Q4.cst 0))=true)/\l'=evs x u w ns l
 | [],l,l',h,e=>by obtain rfl:=Sum.inl.inj e;exact ⟨h,rfl⟩
 | n::r,l,l',h,e=>by
  simp only [Eb] at e;by_cases hb:Gz l n
  . rw [QL hb] at e;cases e
  . rw [QJ hb] at e;by_cases hf:fit (B8 x u w l n)=true
    . rw [QL hf] at e;refine A0e r _ l' (λk hk=>?_) e;simp only [XK,ZC,XB] at hk;rcases XE k l.length with h1 | h1
      . rw [QG,ZA h1,<- QG];exact h k h1
      . obtain rfl:k=l.length:=by omega
        rw [QG,QZ (QY _)];simpa using hf
    . rw [QJ hf] at e;cases e

theorem Aks {fit:Q4->Bool} {x u w:Nat->Rat}:∀ (ns:List Nd) (l:List Q4) (c:Int),Eb fit x u w ns l = .inr c->c=7 \/ c=10
 | [],l,c,e=>by cases e
 | n::r,l,c,e=>by
  simp only [Eb] at e;by_cases hb:Gz l n
  . rw [QL hb] at e;exact .inr (Sum.inr.inj e).symm
  . rw [QJ hb] at e;by_cases hf:fit (B8 x u w l n)=true
    . rw [QL hf] at e;exact Aks r _ c e
    . rw [QJ hf] at e;exact .inl (Sum.inr.inj e).symm

theorem Apw {x:Nat->Rat} {u w:Bool->Nat->Rat} {R:(Bool->Q4)->Prop} (h:Fm x u w R) {f g:Q4->Bool} (hfg:∀ p,R p->f (p true)=g (p false)) (hv:∀ p,R p->(p true).f=(p false).f) :
  ∀ (ns:List Nd) (l m:List Q4),l.length=m.length->(∀ k,R λb=>bif b then l.getD k (Q4.cst 0) else m.getD k (Q4.cst 0)) ->
   (∃ c,Eb f x (u true) (w true) ns l = .inr c/\Eb g x (u false) (w false) ns m = .inr c) \/
   ∃ l' m',Eb f x (u true) (w true) ns l = .inl l'/\Eb g x (u false) (w false) ns m = .inl m'/\l'.length=l.length+ns.length/\m'.length=l.length+ns.length /\ ∀ k,R λb=>bif b then l'.getD k (Q4.cst 0) else m'.getD k (Q4.cst 0)
 | [],l,m,hl,hk=>.inr ⟨l,m,rfl,rfl,by simp,by simp [hl],hk⟩
 | n::r,l,m,hl,hk=>by
  simp only [Eb]
  have hb:Gz l n ↔ Gz m n:=by
   unfold Gz;have:=hv _ (hk n.2.2.1.toNat);simp only [ZN,QV] at this;rw [this]
  have hr:=h.of (l:=λb=>bif b then l else m) (λk=>by
   have:=hk k
   have e:(λi=>((λb=>bif b then l else m) i).getD k (Q4.cst 0))=λb=>bif b then l.getD k (Q4.cst 0) else m.getD k (Q4.cst 0):=by funext b;cases b <;> rfl
   rw [e];exact this) n
  have hq:=hfg _ hr;simp only [ZN,QV] at hq;by_cases h1:Gz l n
  . rw [QL h1,QL (hb.1 h1)];exact .inl ⟨10,rfl,rfl⟩
  . rw [QJ h1,QJ (λq=>h1 (hb.2 q))];by_cases h2:f (B8 x (u true) (w true) l n)=true
    . rw [QL h2,QL (by rw [<- hq];exact h2)]
      have:=Apw h hfg hv r (l++[B8 x (u true) (w true) l n]) (m++[B8 x (u false) (w false) m n]) (by simp [hl]) (λk=>by
       rcases JR k l.length with hkl | hkl | hkl
       . have e1:(l++[B8 x (u true) (w true) l n]).getD k (Q4.cst 0)=l.getD k (Q4.cst 0):=by simp only [QG,ZA hkl]
         have e2:(m++[B8 x (u false) (w false) m n]).getD k (Q4.cst 0)=m.getD k (Q4.cst 0):=by simp only [QG,ZA (show k<m.length by omega)]
         rw [e1,e2];exact hk k
       . have e1:(l++[B8 x (u true) (w true) l n]).getD k (Q4.cst 0)=B8 x (u true) (w true) l n:=by rw [QG,QZ (by omega),hkl];simp
         have e2:(m++[B8 x (u false) (w false) m n]).getD k (Q4.cst 0)=B8 x (u false) (w false) m n:=by rw [QG,QZ (by omega),hkl,hl];simp
         rw [e1,e2]
         have e:(λi=>B8 x (u i) (w i) ((λb=>bif b then l else m) i) n)=λb=>bif b then B8 x (u true) (w true) l n else B8 x (u false) (w false) m n:=by funext b;cases b <;> rfl
         rw [<- e];exact hr
       . have e1:(l++[B8 x (u true) (w true) l n]).getD k (Q4.cst 0)=Q4.cst 0:=by rw [QG,KD (by simp;omega)];rfl
         have e2:(m++[B8 x (u false) (w false) m n]).getD k (Q4.cst 0)=Q4.cst 0:=by rw [QG,KD (by simp;omega)];rfl
         rw [e1,e2]
         have e:(λb:Bool=>bif b then Q4.cst 0 else Q4.cst 0)=λ_=>Q4.cst 0:=by funext b;cases b <;> rfl
         rw [e];exact h.cst 0)
      rcases this with h3 | ⟨l',m',a1,a2,a3,a4,a5⟩
      . exact .inl h3
      . exact .inr ⟨l',m',a1,a2,by rw [a3];simp;omega,by rw [a4];simp;omega,a5⟩
    . rw [QJ h2,QJ (by rw [<- hq];exact h2)];exact .inl ⟨7,rfl,rfl⟩

theorem B6c {x:Nat->Rat} {u w:Bool->Nat->Rat} {R:(Bool->Q4)->Prop} (h:Fm x u w R) {f g:Q4->Bool} (hfg:∀ p,R p->f (p true)=g (p false)) (hv:∀ p,R p->(p true).f=(p false).f) (ns:List Nd) :
  (∃ c,Eb f x (u true) (w true) ns [] = .inr c/\Eb g x (u false) (w false) ns [] = .inr c) \/
  ∃ l' m',Eb f x (u true) (w true) ns [] = .inl l'/\Eb g x (u false) (w false) ns [] = .inl m'/\l'.length=ns.length/\m'.length=ns.length /\ ∀ k,R λb=>bif b then l'.getD k (Q4.cst 0) else m'.getD k (Q4.cst 0):=by
 have:=Apw h hfg hv ns [] [] rfl (λk=>by
  have e:(λb:Bool=>bif b then ([]:List Q4).getD k (Q4.cst 0) else ([]:List Q4).getD k (Q4.cst 0))=λ_=>Q4.cst 0:=by funext b;cases b <;> simp
  rw [e];exact h.cst 0)
 simpa using this

structure Pt where
 a:Rat
 b:Rat
 da:Rat
 db:Rat

def Ce (f d:Nat->Rat) (n:Nd):Pt :=
 let A:=n.2.1.toNat;let B:=n.2.2.1.toNat
 if n.1=3 then ⟨1,1,0,0⟩
 else if n.1=4 then ⟨1,-1,0,0⟩
 else if n.1=5 then ⟨f B,f A,d B,d A⟩
 else if n.1=6 then ⟨1 / f B,-(f A*(1 / f B*(1 / f B))),-(d B*(1 / f B*(1 / f B))),-(d A*(1 / f B*(1 / f B)))+2*(f A*d B*(1 / f B*(1 / f B)*(1 / f B)))⟩
 else if n.1=7 then ⟨-1,0,0,0⟩
 else if n.1=8 then ⟨Q4.d1 (f A) n.2.2.2.toNat,0,Q4.d2 (f A) n.2.2.2.toNat*d A,0⟩
 else ⟨0,0,0,0⟩

def A8e (n:Nd):Bool:=decide (n.1=3) || decide (n.1=4) || decide (n.1=5) || decide (n.1=6)

def Bjw (n:Nd):Bool:=decide (n.1=7) || decide (n.1=8)

def Bka (n:Nd) (k:Nat):Prop:=(1<=n.1/\n.1<=8)/\(A8e n=true \/ Bjw n=true->n.2.1.toNat<k)/\(A8e n=true->n.2.2.1.toNat<k)

def Ag7 (x u w:Nat->Rat) (Q:Nat->Q4) (n:Nd):Q4 :=
 if n.1=1 then Q4.cst (n.2.2.2:Rat)
 else if n.1=2 then ⟨x n.2.2.2.toNat,u n.2.2.2.toNat,w n.2.2.2.toNat,0⟩
 else if n.1=3 then Q4.add (Q n.2.1.toNat) (Q n.2.2.1.toNat)
 else if n.1=4 then Q4.add (Q n.2.1.toNat) (Q4.neg (Q n.2.2.1.toNat))
 else if n.1=5 then Q4.mul (Q n.2.1.toNat) (Q n.2.2.1.toNat)
 else if n.1=6 then Q4.mul (Q n.2.1.toNat) (Q4.inv (Q n.2.2.1.toNat))
 else if n.1=7 then Q4.neg (Q n.2.1.toNat)
 else Q4.pow (Q n.2.1.toNat) n.2.2.2.toNat

theorem Anb (x u w:Nat->Rat) (l:List Q4) (n:Nd):B8 x u w l n=Ag7 x u w (λk=>l.getD k (Q4.cst 0)) n:=rfl

theorem Anc (x u w:Nat->Rat) (Q:Nat->Q4) (n:Nd) (hn:1<=n.1/\n.1<=8) (h2:n.1 ≠ 2) :
  (Ag7 x u w Q n).a=(Ce (λk=>(Q k).f) (λk=>(Q k).v) n).a*(Q n.2.1.toNat).a+(Ce (λk=>(Q k).f) (λk=>(Q k).v) n).b*(Q n.2.2.1.toNat).a /\
  (Ag7 x u w Q n).v=(Ce (λk=>(Q k).f) (λk=>(Q k).v) n).a*(Q n.2.1.toNat).v+(Ce (λk=>(Q k).f) (λk=>(Q k).v) n).b*(Q n.2.2.1.toNat).v /\
  (Ag7 x u w Q n).c=((Ce (λk=>(Q k).f) (λk=>(Q k).v) n).a*(Q n.2.1.toNat).c+(Ce (λk=>(Q k).f) (λk=>(Q k).v) n).da*(Q n.2.1.toNat).a)+((Ce (λk=>(Q k).f) (λk=>(Q k).v) n).b*(Q n.2.2.1.toNat).c+(Ce (λk=>(Q k).f) (λk=>(Q k).v) n).db*(Q n.2.2.1.toNat).a):=by
 unfold Ce Ag7;dsimp only;generalize Q n.2.1.toNat=P;generalize Q n.2.2.1.toNat=Q
 obtain h | h | h | h | h | h | h:n.1=1 \/ n.1=3 \/ n.1=4 \/ n.1=5 \/ n.1=6 \/ n.1=7 \/ n.1=8:=by omega
 all_goals simp only [h,if_true]
 . simp only [show ¬ ((1:Int)=3) by decide,show ¬ ((1:Int)=4) by decide,show ¬ ((1:Int)=5) by decide,show ¬ ((1:Int)=6) by decide,show ¬ ((1:Int)=7) by decide,show ¬ ((1:Int)=8) by decide,if_false,Q4.cst]
   refine ⟨?_,?_,?_⟩ <;> grind
 . simp only [show ¬ ((3:Int)=1) by decide,show ¬ ((3:Int)=2) by decide,if_false,Q4.add]
   refine ⟨?_,?_,?_⟩ <;> grind
 . simp only [show ¬ ((4:Int)=1) by decide,show ¬ ((4:Int)=2) by decide,show ¬ ((4:Int)=3) by decide,if_false,Q4.add,Q4.neg]
   refine ⟨?_,?_,?_⟩ <;> grind
 . simp only [show ¬ ((5:Int)=1) by decide,show ¬ ((5:Int)=2) by decide,show ¬ ((5:Int)=3) by decide,show ¬ ((5:Int)=4) by decide,if_false,Q4.mul]
   refine ⟨?_,?_,?_⟩ <;> grind
 . simp only [show ¬ ((6:Int)=1) by decide,show ¬ ((6:Int)=2) by decide,show ¬ ((6:Int)=3) by decide,show ¬ ((6:Int)=4) by decide,show ¬ ((6:Int)=5) by decide,if_false,Q4.mul,Q4.inv]
   generalize 1 / Q.f=r;refine ⟨?_,?_,?_⟩ <;> grind
 . simp only [show ¬ ((7:Int)=1) by decide,show ¬ ((7:Int)=2) by decide,show ¬ ((7:Int)=3) by decide,show ¬ ((7:Int)=4) by decide,show ¬ ((7:Int)=5) by decide,show ¬ ((7:Int)=6) by decide,if_false,Q4.neg]
   refine ⟨?_,?_,?_⟩ <;> grind
 . simp only [show ¬ ((8:Int)=1) by decide,show ¬ ((8:Int)=2) by decide,show ¬ ((8:Int)=3) by decide,show ¬ ((8:Int)=4) by decide,show ¬ ((8:Int)=5) by decide,show ¬ ((8:Int)=6) by decide,show ¬ ((8:Int)=7) by decide,if_false,Q4.pow_eq]
   refine ⟨?_,?_,?_⟩ <;> grind

theorem B8k {f d:Nat->Rat} {n:Nd} (h:A8e n=false):(Ce f d n).b=0/\(Ce f d n).db=0:=by
 simp only [A8e,Bool.or_eq_false_iff,ZS] at h;obtain ⟨⟨⟨h3,h4⟩,h5⟩,h6⟩:=h;unfold Ce;dsimp only;rw [QJ h3,QJ h4,QJ h5,QJ h6];split
 . exact ⟨rfl,rfl⟩
 . split <;> exact ⟨rfl,rfl⟩

def CD (l:List Rat) (M:Nat):Prop:=∃ D:Nat,0<D/\D<=M /\ ∀ x ∈ l,∃ z:Int,x*(D:Rat)=(z:Rat)/\z.natAbs<=M

theorem CD.mono {l:List Rat} {M N:Nat} (h:CD l M) (hN:M<=N):CD l N:=by
 obtain ⟨D,h1,h2,h3⟩:=h
 exact ⟨D,h1,ZK h2 hN,λx hx=>by obtain ⟨z,q1,q2⟩:=h3 x hx;exact ⟨z,q1,ZK q2 hN⟩⟩

theorem Bi1:CD [] 1:=⟨1,by decide,QY _,λx hx=>by cases hx⟩

theorem W6 (x:Rat):x*(x.den:Rat)=(x.num:Rat):=by
 have:=Sg x
 rwa [KB] at this

theorem CD.step {l:List Rat} {M H:Nat} (h:CD l M) {p q a b x:Rat} (hp:Hb p H) (hq:Hb q H) (ha:a ∈ l \/ a=0) (hb:b ∈ l \/ b=0) (hx:x=p*a+q*b):CD (l++[x]) (2*(H*H*M)):=by
 obtain ⟨D,h1,h2,h3⟩:=h;have pd:=p.den_pos;have qd:=q.den_pos;have hdd:p.den*q.den<=H*H:=XQ hp.2 hq.2;have e1:p.den*q.den*D<=H*H*M:=XQ hdd h2
 refine ⟨p.den*q.den*D,KN (KN pd qd) h1,by omega,λy hy=>?_⟩
 rcases QF.1 hy with hy | hy
 . obtain ⟨z,q1,q2⟩:=h3 y hy;refine ⟨(p.den*q.den:Nat)*z,?_,?_⟩
   . simp only [Qbe,Qaf,KB,<- q1];grind
   . rw [KW,XX];have:=XQ hdd q2;omega
 . obtain rfl:y=x:=by simpa using hy
   have za:∃ z:Int,a*(D:Rat)=(z:Rat)/\z.natAbs<=M:=by
    rcases ha with ha | rfl
    . exact h3 a ha
    . exact ⟨0,by simp,by simp⟩
   have zb:∃ z:Int,b*(D:Rat)=(z:Rat)/\z.natAbs<=M:=by
    rcases hb with hb | rfl
    . exact h3 b hb
    . exact ⟨0,by simp,by simp⟩
   obtain ⟨u,u1,u2⟩:=za;obtain ⟨v,v1,v2⟩:=zb;refine ⟨p.num*q.den*u+q.num*p.den*v,?_,?_⟩
   . have c:=W6 p;have d:=W6 q;simp only [Qbe,Rat.intCast_add,Qaf,KB,<- c,<- d,<- u1,<- v1,hx];grind
   . have t0:=YV (p.num*q.den*u) (q.num*p.den*v);have t1:p.num.natAbs*q.den<=H*H:=XQ hp.1 hq.2;have t2:q.num.natAbs*p.den<=H*H:=XQ hq.1 hp.2;have t3:=XQ t1 u2;have t4:=XQ t2 v2;simp only [KW,XX] at t0;omega

theorem CD.one {l:List Rat} {M H:Nat} (h:CD l M) {x:Rat} (hx:Hb x H) (h1:1<=H):CD (l++[x]) (2*(H*H*M)):=by
 obtain ⟨D,d1,d2,d3⟩:=h;have xd:=x.den_pos;have e0:x.den*D<=H*M:=XQ hx.2 d2;have e2:H*M*1<=H*M*H:=YB _ h1
 have e3:H*M*H=H*H*M:=by rw [Nat.mul_assoc,KO M H,<- Nat.mul_assoc]
 refine ⟨x.den*D,KN xd d1,by omega,λy hy=>?_⟩
 rcases QF.1 hy with hy | hy
 . obtain ⟨z,q1,q2⟩:=d3 y hy;refine ⟨(x.den:Nat)*z,?_,?_⟩
   . simp only [Qbe,Qaf,KB,<- q1];grind
   . rw [KW,XX];have:=XQ hx.2 q2;omega
 . obtain rfl:y=x:=by simpa using hy
   refine ⟨y.num*D,?_,?_⟩
   . have a:=W6 y;simp only [Qbe,Qaf,KB,<- a];grind
   . rw [KW,XX];have:=XQ hx.1 d2;omega

theorem CD.hb {l:List Rat} {M:Nat} (h:CD l M) {x:Rat} (hx:x ∈ l):Hb x M:=by
 obtain ⟨D,h1,h2,h3⟩:=h;obtain ⟨z,q1,q2⟩:=h3 x hx
 exact Bd0 (d:=(D:Int)) (z:=z) (by rw [KB];exact q1) (by omega) q2 (by simpa using h2)

theorem Apx {fit:Q4->Bool} {x u w:Nat->Rat}:∀ (ns:List Nd) (l l':List Q4),Eb fit x u w ns l = .inl l'->∀ i,i<ns.length->¬ Gz (evs x u w (ns.take i) l) (ns.getD i (0,0,0,0))
 | [],l,l',e,i,hi=>by simp at hi
 | n::r,l,l',e,i,hi=>by
  simp only [Eb] at e;by_cases hb:Gz l n
  . rw [QL hb] at e;cases e
  . rw [QJ hb] at e;by_cases hf:fit (B8 x u w l n)=true
    . rw [QL hf] at e
      cases i with
      | zero=>simpa [evs] using hb
      | succ i =>
       have:=Apx r _ l' e i (by simpa using hi)
       simpa [evs] using this
    . rw [QJ hf] at e;cases e

theorem Ox (x u w:Nat->Rat) (ns:List Nd) {i:Nat} (h:i<ns.length):evs x u w (ns.take (i+1)) []=evs x u w (ns.take i) []++[B8 x u w (evs x u w (ns.take i) []) (ns.getD i (0,0,0,0))]:=by
 rw [YP h,Ab2];rw [QG,QN h];rfl

theorem Ab1 (x u w:Nat->Rat) (ns:List Nd) {i k:Nat} (hk:k<i) (hi:i<=ns.length):(evs x u w (ns.take i) []).getD k (Q4.cst 0)=(evs x u w ns []).getD k (Q4.cst 0):=by
 conv=>rhs;rw [<- JA i ns,Ab2]
 exact (Apv x u w (ns.drop i) (evs x u w (ns.take i) []) k (by rw [Cr];simp;omega)).symm

theorem Bhp (x u w:Nat->Rat) (ns:List Nd) {i:Nat} (h:i<ns.length):(evs x u w ns []).getD i (Q4.cst 0)=B8 x u w (evs x u w (ns.take i) []) (ns.getD i (0,0,0,0)):=by
 rw [<- Ab1 x u w ns (Nat.lt_succ_self i) (by omega),Ox x u w ns h]
 have hl:(evs x u w (ns.take i) []).length=i:=by rw [Cr];simp;omega
 rw [QG,QZ (by omega),hl];simp

theorem iPl {n L K:Nat} {x y:Rat} (hx:Sz x L) (hy:Sz y K) (hL:L+K<=1000000000) (hn:68719476736<=n):f161 n (rq x) (rq y)=some (rq (x+y)):=Bdn (L:=L+K) (hx.mono (by omega)) (hy.mono (by omega)) (by omega) (by omega)

theorem Fu {n L K:Nat} {x y:Rat} (hx:Sz x L) (hy:Sz y K) (hL:L+K<=1000000000) (hn:68719476736<=n):f178 n (rq x) (rq y)=some (rq (x*y)):=B8x (L:=L+K) (hx.mono (by omega)) (hy.mono (by omega)) (by omega) (by omega)

theorem iOv {n L K:Nat} {x y:Rat} (hx:Sz x L) (hy:Sz y K) (h0:y ≠ 0) (hL:L+K<=1000000000) (hn:68719476736<=n):f223 n (rq x) (rq y)=some (rq (x / y)):=Bdo (L:=L+K) (hx.mono (by omega)) (hy.mono (by omega)) h0 (by omega) (by omega)

theorem iNg {n L:Nat} {x:Rat} (hx:Sz x L) (hL:L<=1000000000):f206 n (rq x)=some (rq (-x)):=Bid hx (by omega)

theorem sPl {n L K:Nat} {x y:Rat} (hx:Sz x L) (hy:Sz y K) (hL:L+K<=1000000000) (hn:68719476736<=n):f148 n (rq x) (rq y)=some (rq (x+y)):=Auw (L:=L+K) (hx.mono (by omega)) (hy.mono (by omega)) (by omega) (by omega)

theorem Ly {n L K:Nat} {x y:Rat} (hx:Sz x L) (hy:Sz y K) (hL:L+K<=1000000000) (hn:68719476736<=n):f150 n (rq x) (rq y)=some (rq (x*y)):=B8c (L:=L+K) (hx.mono (by omega)) (hy.mono (by omega)) (by omega) (by omega)

theorem sOv {n L K:Nat} {x y:Rat} (hx:Sz x L) (hy:Sz y K) (h0:y ≠ 0) (hL:L+K<=1000000000) (hn:68719476736<=n):f151 n (rq x) (rq y)=some (rq (x / y)):=Bd7 (L:=L+K) (hx.mono (by omega)) (hy.mono (by omega)) h0 (by omega) (by omega)

theorem sLs {n L K:Nat} {x y:Rat} (hx:Sz x L) (hy:Sz y K) (hL:L+K<=1000000000) (hn:68719476736<=n):f149 n (rq x) (rq y)=some (rq (x-y)):=Bd8 (L:=L+K) (hx.mono (by omega)) (hy.mono (by omega)) (by omega) (by omega)

theorem Bs {a:Int} (h:a.natAbs<=1000000000):Sz (a:Rat) 3:=by
 unfold Sz;rw [Rat.num_intCast,Rat.den_intCast]
 exact ⟨H6 (by omega),H6 (by omega)⟩

theorem iW {n:Nat} {a:Int} (h:a.natAbs<=1000000000) (hn:68719476736<=n):f126 n a=some (rq (a:Rat)):=by
 unfold f126;rw [QH,Auy];by_cases h0:a<0
 . rw [QL h0,Af (by omega) (by omega),show (0-a:Int)=((a.natAbs:Nat):Int) by omega,Aam (by omega) (by omega),A2,show f180 n=some [1] from rfl,A2,ZE h0,J9]
 . rw [QJ h0]
   conv=>lhs;rw [show a=((a.natAbs:Nat):Int) by omega]
   rw [Aam (by omega) (by omega),A2,show f180 n=some [1] from rfl,A2,QT h0,J9]

theorem iW0 {n:Nat} (hn:68719476736<=n):f126 n 0=some (rq 0):=iW (a:=0) (by omega) hn

theorem iW1 {n:Nat} (hn:68719476736<=n):f126 n 1=some (rq 1):=iW (a:=1) (by omega) hn

theorem iW2 {n:Nat} (hn:68719476736<=n):f126 n 2=some (rq 2):=iW (a:=2) (by omega) hn

theorem iWm {n:Nat} (hn:68719476736<=n):f126 n (-1)=some (rq (-1)):=iW (a:=-1) (by omega) hn

theorem B8a (a:Int) (i:Nat):(!(decide (a ^ i<0)==decide (a<0)))=decide (a ^ (i+1)<0):=by
 rw [Int.pow_succ];by_cases h0:a=0
 . subst h0
   have:¬ (0:Int) ^ i<0:=by cases i with | zero=>decide | succ i=>rw [Int.pow_succ,Qah];decide
   rw [Qah,QT this];rfl
 . have hp:a ^ i ≠ 0:=Int.pow_ne_zero h0;generalize a ^ i=p at hp;rcases Int.lt_trichotomy p 0 with ha | ha | ha <;> rcases Int.lt_trichotomy a 0 with hb | hb | hb
   . have:=Int.mul_pos_of_neg_of_neg ha hb
     rw [ZE ha,ZE hb,QT (by omega)];rfl
   . exact absurd hb h0
   . have:=Int.mul_neg_of_neg_of_pos ha hb
     rw [ZE ha,QT (by omega),ZE this];rfl
   . exact absurd ha hp
   . exact absurd ha hp
   . exact absurd ha hp
   . have:=Int.mul_neg_of_pos_of_neg ha hb
     rw [QT (show ¬ p<0 by omega),ZE hb,ZE this];rfl
   . exact absurd hb h0
   . have:=Int.mul_pos ha hb
     rw [QT (show ¬ p<0 by omega),QT (show ¬ a<0 by omega),QT (by omega)];rfl

theorem Qq (a L:Nat) (h:(dg a).length<=L):∀ i,(dg (a ^ i)).length<=L*i+1
 | 0=>by rw [Nat.pow_zero];exact ZK (A8o (by decide)) (by omega)
 | i+1=>by
  have h1:=Bo (a ^ i) a;have h2:=Qq a L h i;rw [KK,Nat.mul_succ];omega

theorem Ag9 {α:Type} {n L k:Nat} {x:Rat} (hx:Sz x L) (hL:L<=10000000) (hk:k<=10) (hn:68719476736<=n) {k0:Bool->Bool->List Int->List Int->Option α}:∀ (m i:Nat),i<=k->k<i+m ->
  R4 n m (k:Int) (i:Int) (rq x).1 (rq x).2.1 (rq x).2.2 false (decide (x.num ^ i<0)) (dg (x.num.natAbs ^ i)) (dg (x.den ^ i)) k0=k0 false (decide (x.num ^ k<0)) (dg (x.num.natAbs ^ k)) (dg (x.den ^ k))
 | 0,i,hi,hm=>by omega
 | m+1,i,hi,hm=>by
  rw [Az3];unfold A3p;rw [QH];by_cases h:i<k
  . have l1:=Qq x.num.natAbs L hx.1 i;have l2:=Qq x.den L hx.2 i;have h1:=hx.1;have h2:=hx.2
    have h3:L*i<=L*10:=YB _ (by omega)
    rw [QL (by omega)]
    show ob (f200 n (dg (x.num.natAbs ^ i)) (dg x.num.natAbs)) _=_
    rw [Md (by omega) (by omega),A2]
    show ob (f200 n (dg (x.den ^ i)) (dg x.den)) _=_
    rw [Md (by omega) (by omega),A2,Af (x:=(i:Int)+1) (by omega) (by omega),<- KK,<- KK]
    show R4 n m (k:Int) ((i+1:Nat):Int) (rq x).1 (rq x).2.1 (rq x).2.2 false (!(decide (x.num ^ i<0)==decide (x.num<0))) _ _ k0=_;rw [B8a]
    exact Ag9 hx hL hk hn m (i+1) (by omega) (by omega)
  . obtain rfl:i=k:=by omega
    rw [QJ (by omega)]

theorem Q8 {n L k:Nat} {x:Rat} (hx:Sz x L) (hL:L<=10000000) (hk:k<=10) (hn:68719476736<=n):f197 n (rq x) (k:Int)=some (rq (x ^ k)):=by
 unfold f197;rw [iW1 hn,A2]
 have h1:=Ag9 (n:=n) hx hL hk hn (k0:=λm f b c=>(
   bif f then
    ob (f195 n (f,b,c)) λe =>
    ob (f195 n ((!e),b,c)) λg =>
    bif g then
     ob (f180 n) λi =>
     some ((!e),b,i)
    else
     some ((!e),b,c)
   else
    ob (f195 n (false,b,c)) λj =>
    bif j then
     ob (f180 n) λl =>
     some (false,b,l)
    else
     some (false,b,c))) n 0 (by omega) (by omega)
 rw [Int.pow_zero,Nat.pow_zero,Nat.pow_zero,show decide ((1:Int)<0)=false from rfl,show ((0:Nat):Int)=0 from rfl] at h1;rw [show rq 1=(false,dg 1,dg 1) from Aux 1,h1]
 have f195e:∀ (s:Bool) (a d:Nat),f195 n (s,dg a,dg d)=some (decide (a=0)):=λs a d=>by
  unfold f195;dsimp only;rw [Yc]
 have key:rq (x ^ k)=(decide (x.num ^ k<0),dg (x.num.natAbs ^ k),dg (x.den ^ k)):=by
  unfold rq;rw [Rat.num_pow,Rat.den_pow,Int.natAbs_pow]
 have hz:x.num.natAbs ^ k=0->x.den ^ k=1:=λh=>by
  rcases YY k with h2 | h2
  . subst h2;rfl
  . have h3:x.num.natAbs=0:=(Nat.pow_eq_zero.1 h).1
    have:x=0:=JC.1 (by omega)
    rw [this];exact Nat.one_pow k
 have hs:x.num.natAbs ^ k=0->¬ x.num ^ k<0:=λh=>by rw [<- Int.natAbs_pow] at h;omega
 rw [key];by_cases h2:x.num ^ k<0
 . rw [ZE h2,ZN,f195e,A2,f195e,A2];have h3:¬ x.num.natAbs ^ k=0:=λh=>hs h h2;rw [QT h3];rfl
 . rw [QT h2,QV,f195e,A2];by_cases h3:x.num.natAbs ^ k=0
   . rw [ZE h3,ZN,show f180 n=some [1] from rfl,A2,hz h3,J9]
   . rw [QT h3];rfl

abbrev Jn:=Rt × List Rt × Unit × Rt

abbrev Jc:=Rt × List Rt × List Rt × Rt

def jn (f v:Rat):Jn:=(rq f,[],(),rq v)

def jc (f v:Rat):Jc:=(rq f,[],[],rq v)

theorem Bdp {n:Nat} (hn:68719476736<=n):f100 n 0=some []:=by
 obtain ⟨m,rfl⟩:∃ m,n=m+1:=⟨n-1,by omega⟩
 rfl

theorem B7e {n:Nat} (hn:68719476736<=n):A7q n 0=some []:=by
 obtain ⟨m,rfl⟩:∃ m,n=m+1:=⟨n-1,by omega⟩
 rfl

theorem B3m {n:Nat} (hn:68719476736<=n):f76 n []=some ([],0):=by
 have:=Agu (n:=n) (x:=[]) (by simp) (by omega)
 exact this

theorem Gf {x:Rat} {L:Nat} (h:Sz x L) (k:Nat):Sz (x ^ k) (L*k+1):=by
 unfold Sz;rw [Rat.num_pow,Rat.den_pow,Int.natAbs_pow];exact ⟨Qq _ _ h.1 k,Qq _ _ h.2 k⟩

theorem Auc {x:Rat} {L k:Nat} (h:Sz x L) (hk:k<=8):Sz (Q4.d1 x k) (L*8+5):=by
 cases k with
 | zero=>exact Gr.mono (by omega)
 | succ k =>
  have h1:=B0 (Gf h k) (Bs (a:=((k+1:Nat):Int)) (by omega))
  have:L*k<=L*8:=YB _ (by omega)
  exact h1.mono (by omega)

def Ar (V:List Rat) (k:Nat):Rat:=V.getD k 0

theorem B3f {n:Nat} {f:Rat} (hn:68719476736<=n):f190 n (0,()) (rq f)=some (jn f 0):=by
 unfold f190;dsimp only;rw [Bdp hn,A2,iW0 hn,A2];rfl

theorem Anq {n L K:Nat} {f g v w:Rat} (hf:Sz f L) (hg:Sz g L) (hv:Sz v K) (hw:Sz w K) (hL:L<=1000) (hK:K<=100000000) (hn:68719476736<=n):f192 n (jn f v) (jn g w)=some (jn (f+g) (v+w)):=by
 unfold f192 jn;dsimp only
 rw [iPl hf hg (by omega) hn,A2,iPl hv hw (by omega) hn,A2];rfl

theorem B78 {n L K:Nat} {f v k:Rat} (hf:Sz f L) (hv:Sz v K) (hk:Sz k 10) (hL:L<=1000) (hK:K<=100000000) (hn:68719476736<=n):f193 n (jn f v) (rq k)=some (jn (f*k) (v*k)):=by
 unfold f193 jn;dsimp only
 rw [Fu hf hk (by omega) hn,A2,Fu hv hk (by omega) hn,A2];rfl

theorem Ago {n L K:Nat} {f g v w:Rat} (hf:Sz f L) (hg:Sz g L) (hv:Sz v K) (hw:Sz w K) (hL:L<=1000) (hK:K<=100000000) (hn:68719476736<=n):f194 n (jn f v) (jn g w)=some (jn (f*g) (v*g+f*w)):=by
 unfold f194 jn;dsimp only
 rw [Fu hf hg (by omega) hn,A2,Fu hv hg (by omega) hn,A2,Fu hf hw (by omega) hn,A2,iPl (B0 hv hg) (B0 hf hw) (by omega) hn,A2];rfl

theorem Agq {n L K:Nat} {f v g d:Rat} {e:Rt} (hd:Sz d L) (hv:Sz v K) (hL:L<=100000) (hK:K<=100000000) (hn:68719476736<=n):f224 n (jn f v) (rq g) (rq d) e=some (jn g (d*v)):=by
 unfold f224 jn;dsimp only
 rw [Fu hd hv (by omega) hn,A2];rfl

theorem Bdj {n L K:Nat} {f v:Rat} (hf:Sz f L) (h0:f ≠ 0) (hv:Sz v K) (hL:L<=1000) (hK:K<=100000000) (hn:68719476736<=n):f196 n (jn f v)=some (jn (1 / f) (-(1 / f*(1 / f))*v)):=by
 have h1:=S6 (Bs (a:=1) (by omega)) hf h0
 have h1:Sz (1 / f) (3+L+1):=h1;have h2:=B0 h1 h1;have h3:=B0 h2 h1
 have t2:f178 n (rq (1 / f*(1 / f)*(1 / f))) (rq 2)=some (rq (1 / f*(1 / f)*(1 / f)*2)):=Fu h3 (Bs (a:=2) (by omega)) (by omega) hn
 unfold f196
 rw [iW1 hn,A2,show (jn f v).1=rq f from rfl,iOv (Yj (L:=1) (by omega)) hf h0 (by omega) hn,A2,Fu h1 h1 (by omega) hn,A2,iNg h2 (by omega),A2,Fu h2 h1 (by omega) hn,A2,iW2 hn,A2,t2,A2]
 have:=Agq (n:=n) (f:=f) (g:=1 / f) (e:=rq (1 / f*(1 / f)*(1 / f)*2)) (Ll h2) hv (by omega) hK hn
 have this:f224 n (rq f,(jn f v).2.1,(),(jn f v).2.2.2) (rq (1 / f)) (rq (-(1 / f*(1 / f)))) (rq (1 / f*(1 / f)*(1 / f)*2))=_:=this;rw [this,A2]

theorem Avx {n L k:Nat} {f:Rat} {v:Rat} (hf:Sz f L) (hL:L<=1000) (hk:k<=8) (hn:68719476736<=n):f209 n (jn f v) (k:Int)=some (rq (Q4.d1 f k),rq (Q4.d2 f k)):=by
 unfold f209;rw [iW0 hn,A2,A2];dsimp only;rw [show (jn f v).1=rq f from rfl]
 match k with
 | 0=>rfl
 | 1 =>
  rw [show decide (((1:Nat):Int)>=1)=true from rfl,ZN,show W (((1:Nat):Int)-1)=((0:Nat):Int) from rfl,Q8 hf (by omega) (by omega) hn,A2,iW (by omega) hn,A2,Fu (Gf hf 0) (Bs (a:=((1:Nat):Int)) (by omega)) (by omega) hn,A2]
  rfl
 | k+2 =>
  have h2:(k+2)*(k+1)<=8*8:=XQ (by omega) (by omega)
  have l1:L*(k+1)<=L*8:=YB _ (by omega)
  have l2:L*k<=L*8:=YB _ (by omega)
  rw [QH,QL (by omega),Af (x:=((k+2:Nat):Int)-1) (by omega) (by omega),show ((k+2:Nat):Int)-1=((k+1:Nat):Int) by omega,Q8 hf (by omega) (by omega) hn,A2,iW (by omega) hn,A2,
   Fu (Gf hf (k+1)) (Bs (a:=((k+2:Nat):Int)) (by omega)) (by omega) hn,A2,QH,QL (by omega),
   Af (x:=((k+2:Nat):Int)-2) (by omega) (by omega),show ((k+2:Nat):Int)-2=((k:Nat):Int) by omega,Q8 hf (by omega) (by omega) hn,A2,show ((k+2:Nat):Int)*((k+1:Nat):Int)=(((k+2)*(k+1):Nat):Int) by rw [YD],
   Af (x:=(((k+2)*(k+1):Nat):Int)) (by omega) (by omega),iW (by rw [XX];omega) hn,A2,Fu (Gf hf k) (Bs (a:=(((k+2)*(k+1):Nat):Int)) (by rw [XX];omega)) (by omega) hn,A2]
  rfl

theorem B3d {n L K k:Nat} {f v:Rat} (hf:Sz f L) (hv:Sz v K) (hL:L<=1000) (hK:K<=100000000) (hk:k<=8) (hn:68719476736<=n):f198 n (jn f v) (k:Int)=some (jn (f ^ k) (Q4.d1 f k*v)):=by
 unfold f198
 rw [Avx hf hL hk hn,A2,show (jn f v).1=rq f from rfl,Q8 hf (by omega) (by omega) hn,A2]
 have:=Agq (n:=n) (f:=f) (g:=f ^ k) (e:=rq (Q4.d2 f k)) (Auc hf hk) hv (by omega) hK hn
 dsimp only;rw [this,A2]

theorem B8s {n:Nat} {f v:Rat} (hn:68719476736<=n):f167 n (jn f v)=some (Bt f&&Bt v):=by
 unfold f167 jn;dsimp only;rw [B3m hn,A2,Aez,A2,Aez]
 cases Bt f <;> cases Bt v <;> rfl

theorem Bdi {n:Nat} {f:Rat} {k:Int} {V:List Rat} (hk:0<=k/\k<V.length) (hn:68719476736<=n):f191 n (0,()) (rq f) k=some (jn f 0):=by
 unfold f191 At9;dsimp only
 rw [B7e hn,A2,iW0 hn,A2,A2,QH,QJ (by omega)];rfl

def At (q:Q4):Jn:=jn q.f q.v

theorem Agp {l:List Q4} {k:Nat} (h:k<l.length):(l.map At).getD k ((false,[],[]),[],(),(false,[],[]))=At (l.getD k (Q4.cst 0)):=by
 simp [QG,QN h]

structure B82 (l:List Q4) (K:Nat):Prop where
 f:∀ k,Sz (l.getD k (Q4.cst 0)).f 40
 v:∀ k,Sz (l.getD k (Q4.cst 0)).v K

theorem B3e {n K:Nat} {X V:List Rat} {l:List Q4} {x:Nod} (hx:E6 x l.length) (hd:x.1=2->x.2.2.2<X.length/\x.2.2.2<V.length) (hs:B82 l K) (hK:K<=90000000) (hn:68719476736<=n) :
  Af7 n (0,()) x (vq X) (l.map At)=some ((if x.1=6/\(l.getD x.2.2.1.toNat (Q4.cst 0)).f=0 then (((false,[],[]),[],(),(false,[],[])),10) else if x.1=8/\Bt ((l.getD x.2.1.toNat (Q4.cst 0)).f ^ x.2.2.2.toNat)=false then (((false,[],[]),[],(),(false,[],[])),7) else (At (B8 (Ar X) (λ_=>0) (λ_=>0) l x),0)),l.map At):=by
 obtain ⟨op,A,B,N⟩:=x;obtain ⟨⟨o1,o2⟩,hN,hA,hB⟩:=hx;unfold Af7;simp only [Aat,A2];unfold Hu at hN;unfold D7 at hA hB ⊢;unfold B8;dsimp only at *
 obtain rfl | rfl | rfl | rfl | rfl | rfl | rfl | rfl:op=1 \/ op=2 \/ op=3 \/ op=4 \/ op=5 \/ op=6 \/ op=7 \/ op=8:=by omega
 . simp only [Int.reduceEq,Qbl,if_false,if_true,Int.reduceBEq,ZN,QV,Int.reduceLT,gt_iff_lt,decide_false,Qai] at *
   rw [iW (by omega) hn,A2,B3f  hn,A2];rfl
 . simp only [Int.reduceEq,Qbl,if_false,if_true,Int.reduceBEq,ZN,QV,Int.reduceLT,gt_iff_lt,decide_false,Qai] at *;have hd:=hd trivial
   rw [C5,A4 (by simp;omega),Cc (by omega),Bdi (V:=V) ⟨hN.1,hd.2⟩ hn,A2];rfl
 all_goals simp only [Int.reduceEq,Qbl,or_true,true_or,if_false,if_true,Int.reduceBEq,ZN,QV,Int.reduceLT,gt_iff_lt,decide_true,Qai,true_and] at *
 all_goals (have lA:A.toNat<l.length:=by omega)
 all_goals (have lB:B.toNat<l.length:=by omega)
 all_goals (rw [ZB,A4 (by simp;omega),A4 (by simp;omega),A4 (by simp;omega),A4 (by simp;omega),Agp lA])
 all_goals (try rw [Agp lB])
 all_goals (have a1:=hs.f A.toNat;have a2:=hs.v A.toNat;have b:=hs.f B.toNat;have d:=hs.v B.toNat)
 all_goals (generalize hP:l.getD A.toNat (Q4.cst 0)=P at a1 a2 ⊢;generalize hQ:l.getD B.toNat (Q4.cst 0)=Q at b d ⊢)
 . have e:f192 n (At P) (At Q)=_:=Anq a1 b a2 d (by omega) (by omega) hn
   have e:f192 n (((At P).1.1,(At P).1.2.1,(At P).1.2.2),(At P).2.1,(),(At P).2.2.2.1,(At P).2.2.2.2.1,(At P).2.2.2.2.2) (((At Q).1.1,(At Q).1.2.1,(At Q).1.2.2),(At Q).2.1,(),(At Q).2.2.2.1,(At Q).2.2.2.2.1,(At Q).2.2.2.2.2)=some _:=e;rw [e,A2];rfl
 . have e:f193 n (At Q) (rq (-1))=_:=B78 b d (Bs (a:=-1) (by omega) |>.mono (by omega)) (by omega) (by omega) hn
   have e:f193 n (((At Q).1.1,(At Q).1.2.1,(At Q).1.2.2),(At Q).2.1,(),(At Q).2.2.2.1,(At Q).2.2.2.2.1,(At Q).2.2.2.2.2) (rq (-1))=some _:=e
   have e2:f192 n (At P) (jn (Q.f * -1) (Q.v * -1))=_:=Anq (L:=60) (K:=K+5) (a1.mono (by omega)) ((B0 b (Bs (a:=-1) (by omega))).mono (by omega)) (a2.mono (by omega)) ((B0 d (Bs (a:=-1) (by omega))).mono (by omega)) (by omega) (by omega) hn
   have e2:f192 n (((At P).1.1,(At P).1.2.1,(At P).1.2.2),(At P).2.1,(),(At P).2.2.2.1,(At P).2.2.2.2.1,(At P).2.2.2.2.2) (jn (Q.f * -1) (Q.v * -1))=some _:=e2;rw [iWm hn,A2,e,A2,e2,A2,JP,JQ,JP,JQ];rfl
 . have e:f194 n (At P) (At Q)=_:=Ago a1 b a2 d (by omega) (by omega) hn
   have e:f194 n (((At P).1.1,(At P).1.2.1,(At P).1.2.2),(At P).2.1,(),(At P).2.2.2.1,(At P).2.2.2.2.1,(At P).2.2.2.2.2) (((At Q).1.1,(At Q).1.2.1,(At Q).1.2.2),(At Q).2.1,(),(At Q).2.2.2.1,(At Q).2.2.2.2.1,(At Q).2.2.2.2.2)=some _:=e;rw [e,A2];rfl
 . have z:f195 n (rq Q.f)=_:=Aw1;have z:f195 n ((rq Q.f).1,(rq Q.f).2.1,(rq Q.f).2.2)=_:=z;have z:f195 n ((At Q).1.1,(At Q).1.2.1,(At Q).1.2.2)=_:=z;rw [z,A2,QH];by_cases h0:Q.f=0
   . rw [QL h0,QL h0]
   . rw [QJ h0,QJ h0]
     have e:f196 n (At Q)=_:=Bdj b h0 d (by omega) (by omega) hn
     have e:f196 n (((At Q).1.1,(At Q).1.2.1,(At Q).1.2.2),(At Q).2.1,(),(At Q).2.2.2.1,(At Q).2.2.2.2.1,(At Q).2.2.2.2.2)=some _:=e
     have g:Sz (1 / Q.f) (3+40+1):=S6 (Bs (a:=1) (by omega)) b h0
     have e2:f194 n (At P) (jn (1 / Q.f) (-(1 / Q.f*(1 / Q.f))*Q.v))=_:=Ago (L:=60) (K:=K+100) (a1.mono (by omega)) (g.mono (by omega)) (a2.mono (by omega)) ((B0 (Ll (B0 g g)) d).mono (by omega)) (by omega) (by omega) hn
     have e2:f194 n (((At P).1.1,(At P).1.2.1,(At P).1.2.2),(At P).2.1,(),(At P).2.2.2.1,(At P).2.2.2.2.1,(At P).2.2.2.2.2) (jn (1 / Q.f) (-(1 / Q.f*(1 / Q.f))*Q.v))=some _:=e2;rw [e,A2,e2,A2]
     have c:P.v*(1 / Q.f)+P.f*(-(1 / Q.f*(1 / Q.f))*Q.v)=(Q4.mul P (Q4.inv Q)).v:=by
      simp only [Q4.mul,Q4.inv];generalize 1 / Q.f=r;grind
     rw [c];rfl
 . have e:f193 n (At P) (rq (-1))=_:=B78 a1 a2 (Bs (a:=-1) (by omega) |>.mono (by omega)) (by omega) (by omega) hn
   have e:f193 n (((At P).1.1,(At P).1.2.1,(At P).1.2.2),(At P).2.1,(),(At P).2.2.2.1,(At P).2.2.2.2.1,(At P).2.2.2.2.2) (rq (-1))=some _:=e;rw [iWm hn,A2,e,A2,JP,JQ,JP,JQ];rfl
 . obtain ⟨N',rfl⟩:∃ N':Nat,N=(N':Int):=⟨N.toNat,by omega⟩
   have e0:f197 n (rq P.f) (N':Int)=_:=Q8 a1 (by omega) (by omega) hn
   have e0:f197 n ((At P).1.1,(At P).1.2.1,(At P).1.2.2) (N':Int)=some _:=e0
   have e:f198 n (At P) (N':Int)=_:=B3d a1 a2 (by omega) (by omega) (by omega) hn
   have e:f198 n (((At P).1.1,(At P).1.2.1,(At P).1.2.2),(At P).2.1,(),(At P).2.2.2.1,(At P).2.2.2.2.1,(At P).2.2.2.2.2) (N':Int)=some _:=e;rw [e0,A2,Aez,A2,QR]
   cases hfit:Bt (P.f ^ N') with
   | false=>simp only [XH,ZN,if_true]
   | true =>
    simp only [ZR,QV,Bool.true_eq_false,if_false];rw [e,A2,Q4.pow_eq];rfl

theorem B3i {n:Nat} {f:Rat} {V:List Rat} (hV:0<V.length) (hn:68719476736<=n):Af6 n (0,vq V) (rq f)=some (jc f 0):=by
 unfold Af6;dsimp only
 rw [Bdp hn,A2,iW0 hn,A2,A4 (by simp [vq];intro e;rw [e] at hV;simp at hV),A2];rfl

theorem Ans {n L K:Nat} {f g v w:Rat} (hf:Sz f L) (hg:Sz g L) (hv:Sz v K) (hw:Sz w K) (hL:L<=1000) (hK:K<=100000000) (hn:68719476736<=n):Mk n (jc f v) (jc g w)=some (jc (f+g) (v+w)):=by
 unfold Mk jc;dsimp only
 rw [iPl hf hg (by omega) hn,A2,iPl hv hw (by omega) hn,A2];rfl

theorem B79 {n L K:Nat} {f v k:Rat} (hf:Sz f L) (hv:Sz v K) (hk:Sz k 10) (hL:L<=1000) (hK:K<=100000000) (hn:68719476736<=n):Mj n (jc f v) (rq k)=some (jc (f*k) (v*k)):=by
 unfold Mj jc;dsimp only
 rw [Fu hf hk (by omega) hn,A2,Fu hv hk (by omega) hn,A2];rfl

theorem Agr {n L K:Nat} {f g v w:Rat} (hf:Sz f L) (hg:Sz g L) (hv:Sz v K) (hw:Sz w K) (hL:L<=1000) (hK:K<=100000000) (hn:68719476736<=n):Mi n (jc f v) (jc g w)=some (jc (f*g) (v*g+f*w)):=by
 unfold Mi jc;dsimp only
 rw [Fu hf hg (by omega) hn,A2,Fu hv hg (by omega) hn,A2,Fu hf hw (by omega) hn,A2,iPl (B0 hv hg) (B0 hf hw) (by omega) hn,A2];rfl

theorem Agt {n L K:Nat} {f v g d:Rat} {e:Rt} (hd:Sz d L) (hv:Sz v K) (hL:L<=100000) (hK:K<=100000000) (hn:68719476736<=n):Zp n (jc f v) (rq g) (rq d) e=some (jc g (d*v)):=by
 unfold Zp jc;dsimp only
 rw [Fu hd hv (by omega) hn,A2];rfl

theorem Bdl {n L K:Nat} {f v:Rat} (hf:Sz f L) (h0:f ≠ 0) (hv:Sz v K) (hL:L<=1000) (hK:K<=100000000) (hn:68719476736<=n):Zx n (jc f v)=some (jc (1 / f) (-(1 / f*(1 / f))*v)):=by
 have h1:=S6 (Bs (a:=1) (by omega)) hf h0
 have h1:Sz (1 / f) (3+L+1):=h1;have h2:=B0 h1 h1;have h3:=B0 h2 h1
 have t2:f178 n (rq (1 / f*(1 / f)*(1 / f))) (rq 2)=some (rq (1 / f*(1 / f)*(1 / f)*2)):=Fu h3 (Bs (a:=2) (by omega)) (by omega) hn
 unfold Zx
 rw [iW1 hn,A2,show (jc f v).1=rq f from rfl,iOv (Yj (L:=1) (by omega)) hf h0 (by omega) hn,A2,Fu h1 h1 (by omega) hn,A2,iNg h2 (by omega),A2,Fu h2 h1 (by omega) hn,A2,iW2 hn,A2,t2,A2]
 have:=Agt (n:=n) (f:=f) (g:=1 / f) (e:=rq (1 / f*(1 / f)*(1 / f)*2)) (Ll h2) hv (by omega) hK hn
 have this:Zp n (jc f v) (rq (1 / f)) (rq (-(1 / f*(1 / f)))) (rq (1 / f*(1 / f)*(1 / f)*2))=_:=this;rw [this,A2]

theorem Avy {n L k:Nat} {f:Rat} {v:Rat} (hf:Sz f L) (hL:L<=1000) (hk:k<=8) (hn:68719476736<=n):Af4 n (jc f v) (k:Int)=some (rq (Q4.d1 f k),rq (Q4.d2 f k)):=by
 unfold Af4;rw [iW0 hn,A2,A2];dsimp only;rw [show (jc f v).1=rq f from rfl]
 match k with
 | 0=>rfl
 | 1 =>
  rw [show decide (((1:Nat):Int)>=1)=true from rfl,ZN,show W (((1:Nat):Int)-1)=((0:Nat):Int) from rfl,Q8 hf (by omega) (by omega) hn,A2,iW (by omega) hn,A2,Fu (Gf hf 0) (Bs (a:=((1:Nat):Int)) (by omega)) (by omega) hn,A2]
  rfl
 | k+2 =>
  have h2:(k+2)*(k+1)<=8*8:=XQ (by omega) (by omega)
  have l1:L*(k+1)<=L*8:=YB _ (by omega)
  have l2:L*k<=L*8:=YB _ (by omega)
  rw [QH,QL (by omega),Af (x:=((k+2:Nat):Int)-1) (by omega) (by omega),show ((k+2:Nat):Int)-1=((k+1:Nat):Int) by omega,Q8 hf (by omega) (by omega) hn,A2,iW (by omega) hn,A2,
   Fu (Gf hf (k+1)) (Bs (a:=((k+2:Nat):Int)) (by omega)) (by omega) hn,A2,QH,QL (by omega),
   Af (x:=((k+2:Nat):Int)-2) (by omega) (by omega),show ((k+2:Nat):Int)-2=((k:Nat):Int) by omega,Q8 hf (by omega) (by omega) hn,A2,show ((k+2:Nat):Int)*((k+1:Nat):Int)=(((k+2)*(k+1):Nat):Int) by rw [YD],
   Af (x:=(((k+2)*(k+1):Nat):Int)) (by omega) (by omega),iW (by rw [XX];omega) hn,A2,Fu (Gf hf k) (Bs (a:=(((k+2)*(k+1):Nat):Int)) (by rw [XX];omega)) (by omega) hn,A2]
  rfl

theorem B3g {n L K k:Nat} {f v:Rat} (hf:Sz f L) (hv:Sz v K) (hL:L<=1000) (hK:K<=100000000) (hk:k<=8) (hn:68719476736<=n):Zw n (jc f v) (k:Int)=some (jc (f ^ k) (Q4.d1 f k*v)):=by
 unfold Zw
 rw [Avy hf hL hk hn,A2,show (jc f v).1=rq f from rfl,Q8 hf (by omega) (by omega) hn,A2]
 have:=Agt (n:=n) (f:=f) (g:=f ^ k) (e:=rq (Q4.d2 f k)) (Auc hf hk) hv (by omega) hK hn
 dsimp only;rw [this,A2]

theorem Bdk {n:Nat} {f:Rat} {k:Int} {V:List Rat} (hk:0<=k/\k<V.length) (hn:68719476736<=n):Af5 n (0,vq V) (rq f) k=some (jc f (V.getD k.toNat 0)):=by
 unfold Af5 Ajp;dsimp only
 rw [B7e hn,A2,iW0 hn,A2,A4 (by simp [vq];intro e;rw [e] at hk;simp at hk;omega),A2,A2,QH,QJ (by omega),A4 (by simp [vq];intro e;rw [e] at hk;simp at hk;omega),A4 (by simp;omega),Cc (by omega)];rfl

def Aq (q:Q4):Jc:=jc q.f q.v

theorem Ags {l:List Q4} {k:Nat} (h:k<l.length):(l.map Aq).getD k ((false,[],[]),[],[],(false,[],[]))=Aq (l.getD k (Q4.cst 0)):=by
 simp [QG,QN h]

structure B83 (l:List Q4) (K:Nat):Prop where
 f:∀ k,Sz (l.getD k (Q4.cst 0)).f 40
 v:∀ k,Sz (l.getD k (Q4.cst 0)).v K

theorem B3h {n K:Nat} {X V:List Rat} {l:List Q4} {x:Nod} (hx:E6 x l.length) (hd:x.1=2->x.2.2.2<X.length/\x.2.2.2<V.length) (hV:0<V.length) (hs:B83 l K) (hK:K<=90000000) (hn:68719476736<=n) :
  Rf n (0,vq V) x (vq X) (l.map Aq)=some ((if x.1=6/\(l.getD x.2.2.1.toNat (Q4.cst 0)).f=0 then (((false,[],[]),[],[],(false,[],[])),10) else if x.1=8/\Bt ((l.getD x.2.1.toNat (Q4.cst 0)).f ^ x.2.2.2.toNat)=false then (((false,[],[]),[],[],(false,[],[])),7) else (Aq (B8 (Ar X) (λ_=>0) (Ar V) l x),0)),l.map Aq):=by
 obtain ⟨op,A,B,N⟩:=x;obtain ⟨⟨o1,o2⟩,hN,hA,hB⟩:=hx;unfold Rf;simp only [Aat,A2];unfold Hu at hN;unfold D7 at hA hB ⊢;unfold B8;dsimp only at *
 obtain rfl | rfl | rfl | rfl | rfl | rfl | rfl | rfl:op=1 \/ op=2 \/ op=3 \/ op=4 \/ op=5 \/ op=6 \/ op=7 \/ op=8:=by omega
 . simp only [Int.reduceEq,Qbl,if_false,if_true,Int.reduceBEq,ZN,QV,Int.reduceLT,gt_iff_lt,decide_false,Qai] at *
   rw [iW (by omega) hn,A2,B3i hV hn,A2];rfl
 . simp only [Int.reduceEq,Qbl,if_false,if_true,Int.reduceBEq,ZN,QV,Int.reduceLT,gt_iff_lt,decide_false,Qai] at *;have hd:=hd trivial
   rw [C5,A4 (by simp;omega),Cc (by omega),Bdk (V:=V) ⟨hN.1,hd.2⟩ hn,A2];rfl
 all_goals simp only [Int.reduceEq,Qbl,or_true,true_or,if_false,if_true,Int.reduceBEq,ZN,QV,Int.reduceLT,gt_iff_lt,decide_true,Qai,true_and] at *
 all_goals (have lA:A.toNat<l.length:=by omega)
 all_goals (have lB:B.toNat<l.length:=by omega)
 all_goals (rw [ZB,A4 (by simp;omega),A4 (by simp;omega),A4 (by simp;omega),A4 (by simp;omega),Ags lA])
 all_goals (try rw [Ags lB])
 all_goals (have a1:=hs.f A.toNat;have a2:=hs.v A.toNat;have b:=hs.f B.toNat;have d:=hs.v B.toNat)
 all_goals (generalize hP:l.getD A.toNat (Q4.cst 0)=P at a1 a2 ⊢;generalize hQ:l.getD B.toNat (Q4.cst 0)=Q at b d ⊢)
 . have e:Mk n (Aq P) (Aq Q)=_:=Ans a1 b a2 d (by omega) (by omega) hn
   have e:Mk n (((Aq P).1.1,(Aq P).1.2.1,(Aq P).1.2.2),(Aq P).2.1,(Aq P).2.2.1,(Aq P).2.2.2.1,(Aq P).2.2.2.2.1,(Aq P).2.2.2.2.2) (((Aq Q).1.1,(Aq Q).1.2.1,(Aq Q).1.2.2),(Aq Q).2.1,(Aq Q).2.2.1,(Aq Q).2.2.2.1,(Aq Q).2.2.2.2.1,(Aq Q).2.2.2.2.2)=some _:=e;rw [e,A2];rfl
 . have e:Mj n (Aq Q) (rq (-1))=_:=B79 b d (Bs (a:=-1) (by omega) |>.mono (by omega)) (by omega) (by omega) hn
   have e:Mj n (((Aq Q).1.1,(Aq Q).1.2.1,(Aq Q).1.2.2),(Aq Q).2.1,(Aq Q).2.2.1,(Aq Q).2.2.2.1,(Aq Q).2.2.2.2.1,(Aq Q).2.2.2.2.2) (rq (-1))=some _:=e
   have e2:Mk n (Aq P) (jc (Q.f * -1) (Q.v * -1))=_:=Ans (L:=60) (K:=K+5) (a1.mono (by omega)) ((B0 b (Bs (a:=-1) (by omega))).mono (by omega)) (a2.mono (by omega)) ((B0 d (Bs (a:=-1) (by omega))).mono (by omega)) (by omega) (by omega) hn
   have e2:Mk n (((Aq P).1.1,(Aq P).1.2.1,(Aq P).1.2.2),(Aq P).2.1,(Aq P).2.2.1,(Aq P).2.2.2.1,(Aq P).2.2.2.2.1,(Aq P).2.2.2.2.2) (jc (Q.f * -1) (Q.v * -1))=some _:=e2;rw [iWm hn,A2,e,A2,e2,A2,JP,JQ,JP,JQ];rfl
 . have e:Mi n (Aq P) (Aq Q)=_:=Agr a1 b a2 d (by omega) (by omega) hn
   have e:Mi n (((Aq P).1.1,(Aq P).1.2.1,(Aq P).1.2.2),(Aq P).2.1,(Aq P).2.2.1,(Aq P).2.2.2.1,(Aq P).2.2.2.2.1,(Aq P).2.2.2.2.2) (((Aq Q).1.1,(Aq Q).1.2.1,(Aq Q).1.2.2),(Aq Q).2.1,(Aq Q).2.2.1,(Aq Q).2.2.2.1,(Aq Q).2.2.2.2.1,(Aq Q).2.2.2.2.2)=some _:=e;rw [e,A2];rfl
 . have z:f195 n (rq Q.f)=_:=Aw1;have z:f195 n ((rq Q.f).1,(rq Q.f).2.1,(rq Q.f).2.2)=_:=z;have z:f195 n ((Aq Q).1.1,(Aq Q).1.2.1,(Aq Q).1.2.2)=_:=z;rw [z,A2,QH];by_cases h0:Q.f=0
   . rw [QL h0,QL h0]
   . rw [QJ h0,QJ h0]
     have e:Zx n (Aq Q)=_:=Bdl b h0 d (by omega) (by omega) hn
     have e:Zx n (((Aq Q).1.1,(Aq Q).1.2.1,(Aq Q).1.2.2),(Aq Q).2.1,(Aq Q).2.2.1,(Aq Q).2.2.2.1,(Aq Q).2.2.2.2.1,(Aq Q).2.2.2.2.2)=some _:=e
     have g:Sz (1 / Q.f) (3+40+1):=S6 (Bs (a:=1) (by omega)) b h0
     have e2:Mi n (Aq P) (jc (1 / Q.f) (-(1 / Q.f*(1 / Q.f))*Q.v))=_:=Agr (L:=60) (K:=K+100) (a1.mono (by omega)) (g.mono (by omega)) (a2.mono (by omega)) ((B0 (Ll (B0 g g)) d).mono (by omega)) (by omega) (by omega) hn
     have e2:Mi n (((Aq P).1.1,(Aq P).1.2.1,(Aq P).1.2.2),(Aq P).2.1,(Aq P).2.2.1,(Aq P).2.2.2.1,(Aq P).2.2.2.2.1,(Aq P).2.2.2.2.2) (jc (1 / Q.f) (-(1 / Q.f*(1 / Q.f))*Q.v))=some _:=e2;rw [e,A2,e2,A2]
     have c:P.v*(1 / Q.f)+P.f*(-(1 / Q.f*(1 / Q.f))*Q.v)=(Q4.mul P (Q4.inv Q)).v:=by
      simp only [Q4.mul,Q4.inv];generalize 1 / Q.f=r;grind
     rw [c];rfl
 . have e:Mj n (Aq P) (rq (-1))=_:=B79 a1 a2 (Bs (a:=-1) (by omega) |>.mono (by omega)) (by omega) (by omega) hn
   have e:Mj n (((Aq P).1.1,(Aq P).1.2.1,(Aq P).1.2.2),(Aq P).2.1,(Aq P).2.2.1,(Aq P).2.2.2.1,(Aq P).2.2.2.2.1,(Aq P).2.2.2.2.2) (rq (-1))=some _:=e;rw [iWm hn,A2,e,A2,JP,JQ,JP,JQ];rfl
 . obtain ⟨N',rfl⟩:∃ N':Nat,N=(N':Int):=⟨N.toNat,by omega⟩
   have e0:f197 n (rq P.f) (N':Int)=_:=Q8 a1 (by omega) (by omega) hn
   have e0:f197 n ((Aq P).1.1,(Aq P).1.2.1,(Aq P).1.2.2) (N':Int)=some _:=e0
   have e:Zw n (Aq P) (N':Int)=_:=B3g a1 a2 (by omega) (by omega) (by omega) hn
   have e:Zw n (((Aq P).1.1,(Aq P).1.2.1,(Aq P).1.2.2),(Aq P).2.1,(Aq P).2.2.1,(Aq P).2.2.2.1,(Aq P).2.2.2.2.1,(Aq P).2.2.2.2.2) (N':Int)=some _:=e;rw [e0,A2,Aez,A2,QR]
   cases hfit:Bt (P.f ^ N') with
   | false=>simp only [XH,ZN,if_true]
   | true =>
    simp only [ZR,QV,Bool.true_eq_false,if_false];rw [e,A2,Q4.pow_eq];rfl

structure SzQ (q:Q4) (L:Nat):Prop where
 f:Sz q.f L
 a:Sz q.a L
 v:Sz q.v L
 c:Sz q.c L

theorem SzQ.mono {q:Q4} {L K:Nat} (h:SzQ q L) (hK:L<=K):SzQ q K:=⟨h.f.mono hK,h.a.mono hK,h.v.mono hK,h.c.mono hK⟩

theorem B2b {x:Rat} {L:Nat} (h:Sz x L) (h0:x ≠ 0):Sz (1 / x) (L+4):=(S6 (Yj (L:=1) (by omega)) h h0).mono (by omega)

theorem sW0 {n:Nat} (hn:68719476736<=n):f127 n 0=some (rq 0):=Im (a:=0) (by omega) (by omega)

theorem sW1 {n:Nat} (hn:68719476736<=n):f127 n 1=some (rq 1):=Im (a:=1) (by omega) (by omega)

theorem sW2 {n:Nat} (hn:68719476736<=n):f127 n 2=some (rq 2):=Im (a:=2) (by omega) (by omega)

def A5n (e:List Nod) (d:Int):Prop:=∀ k,k<e.length->E6 (e.getD k (0,0,0,0)) k/\((e.getD k (0,0,0,0)).1=2->(e.getD k (0,0,0,0)).2.2.2<d)

theorem Mm {e:List Nod} {i:Nat} (h:i<e.length):e.drop i=e.getD i (0,0,0,0)::e.drop (i+1):=by
 rw [XO h,QG,QN h];rfl

def Hw (q:Q4):Bool:=Bt q.f&&Bt q.v

theorem A83 {l:List Q4} {q:Q4} {k:Nat} (h:k<l.length):(l++[q]).getD k (Q4.cst 0)=l.getD k (Q4.cst 0):=by
 simp only [QG,ZA h]

theorem A84 {l:List Q4} {q:Q4}:(l++[q]).getD l.length (Q4.cst 0)=q:=by
 rw [QG,QZ (QY _)];simp

theorem Jh {l:List Q4} {k:Nat} (h:l.length<=k):l.getD k (Q4.cst 0)=Q4.cst 0:=by
 rw [QG,KD h];rfl

theorem Ag6 {x u w:Nat->Rat} {l:List Q4} {n:Nod} (h:n.1=8):(B8 x u w l n).f=(l.getD n.2.1.toNat (Q4.cst 0)).f ^ n.2.2.2.toNat:=by
 unfold B8
 rw [QJ (by omega),QJ (by omega),QJ (by omega),QJ (by omega),QJ (by omega),QJ (by omega),QJ (by omega),Q4.pow_eq]

theorem Bi5 {l:List Q4} (h:∀ k,k<l.length->Hw (l.getD k (Q4.cst 0))=true):B82 l 40:=by
 have key:∀ k,Sz (l.getD k (Q4.cst 0)).f 40/\Sz (l.getD k (Q4.cst 0)).v 40:=λk=>by
  rcases XE k l.length with h1 | h1
  . have:=h k h1;unfold Hw at this;simp only [QE,F9] at this;exact this
  . rw [Jh h1];exact ⟨Gr.mono (by omega),Gr.mono (by omega)⟩
 exact ⟨λk=>(key k).1,λk=>(key k).2⟩

theorem Anr {α:Type} {n:Nat} {X V:List Rat} {e:List Nod} (hp:A5n e X.length) (he:e.length<=60) (hVX:V.length=X.length) (hn:68719476736<=n)
  {k0:Int->Option α} {k1:List Jn->Option α}:∀ (m:Nat) (l:List Q4),(∀ k,k<l.length->Hw (l.getD k (Q4.cst 0))=true)->l.length<=e.length->e.length<l.length+m ->
  A0c n m (vq X) e (e.length:Int) (l.length:Int) 0 (l.map At) k0 k1=match Eb Hw (Ar X) (λ_=>0) (λ_=>0) (e.drop l.length) l with
   | .inl l'=>k1 (l'.map At)
   | .inr c=>k0 c
 | 0,l,hs,hl,hm=>by omega
 | m+1,l,hs,hl,hm=>by
  rw [B19];unfold A59;rw [QH];by_cases h:l.length<e.length
  . obtain ⟨h1,h2⟩:=hp _ h
    rw [QL (by omega),A4 (by simp;omega),QR,Mm h,Eb]
    generalize hx:e.getD l.length (0,0,0,0)=x at h1 h2
    have hg:=B3e (n:=n) (X:=X) (V:=V) h1 (λh=>⟨h2 h,by rw [hVX];exact h2 h⟩) (Bi5 hs) (by omega) hn
    dsimp only
    rw [hg,A2,A4 (by simp)]
    generalize hq:B8 (Ar X) (λ_=>0) (λ_=>0) l x=q;by_cases hb:Gz l x
    . have hb':x.1=6/\(l.getD x.2.2.1.toNat (Q4.cst 0)).f=0:=hb;rw [QL hb,QL hb'];rfl
    . have hb':¬ (x.1=6/\(l.getD x.2.2.1.toNat (Q4.cst 0)).f=0):=hb;rw [QJ hb,QJ hb'];by_cases h8:x.1=8/\Bt ((l.getD x.2.1.toNat (Q4.cst 0)).f ^ x.2.2.2.toNat)=false
      . rw [QL h8]
        have:Hw q=false:=by
         unfold Hw;rw [<- hq,Ag6 h8.1,h8.2];rfl
        rw [this,QJ (by simp)];rfl
      . rw [QJ h8];show (ob (f167 n (jn q.f q.v)) λa=>_)=_;rw [B8s hn,A2]
        show (bif (!Hw q) then k0 7 else _)=_
        cases hf:Hw q with
        | false=>rfl
        | true =>
         rw [ZR,QV,A4 (by simp;omega),Af (by omega) (by omega)]
         simp only [if_true]
         have:=Anr hp he hVX hn (k0:=k0) (k1:=k1) m (l++[q]) (λk hk=>by
          simp only [XK,ZC,XB] at hk;rcases XE k l.length with h3 | h3
          . rw [A83 h3];exact hs k h3
          . obtain rfl:k=l.length:=by omega
            rw [A84];exact hf) (by simp;omega) (by simp;omega)
         rw [XK,YX] at this;exact this
  . have h0:l.length=e.length:=by omega
    rw [QJ (by omega),ZD (by omega)]
    rfl

theorem B8r {n:Nat} {X V:List Rat} {e:List Nod} (hp:A5n e X.length) (he:e.length<=60) (hVX:V.length=X.length) (hn:68719476736<=n) :
  f104 n (0,()) e (vq X)=some (match Eb Hw (Ar X) (λ_=>0) (λ_=>0) e [] with
   | .inl l=>(l.map At,0)
   | .inr c=>([],c)):=by
 unfold f104
 have:=Anr (n:=n) hp he hVX hn (k0:=λa=>(some (([],a):List Jn × Int))) (k1:=λb=>some (b,0)) n [] (by simp) (by simp) (by simp;omega)
 refine Eq.trans this ?_;rw [XB,ZT]
 cases Eb Hw (Ar X) (λ_=>0) (λ_=>0) e [] <;> rfl

theorem Apy:∀ (l:List Nod) (s:Int),s<=I2 s l /\ ∀ x ∈ l,x.1=2->0<=x.2.2.2/\x.2.2.2<=3->x.2.2.2<I2 s l
 | [],s=>⟨JX _,λx h=>by simp at h⟩
 | y::l,s=>by
  obtain ⟨h1,h2⟩:=Apy l (if y.1=2 then max s (W (y.2.2.2+1)) else s)
  have e:I2 s (y::l)=I2 (if y.1=2 then max s (W (y.2.2.2+1)) else s) l:=rfl
  rw [e];refine ⟨Int.le_trans ?_ h1,λx hx hx2 hx3=>?_⟩
  . split <;> omega
  . rcases QU.1 hx with rfl | hx
    . rw [QL hx2,Af (by omega) (by omega)] at h1 ⊢
      omega
    . exact h2 x hx hx2 hx3

theorem Aui {l:List Rt} (h:I5 l=true):∃ X:List Rat,l=vq X/\Sv X 40/\1<=X.length/\X.length<=4:=by
 unfold I5 at h;simp only [QE,QO] at h;obtain ⟨X,rfl,hX⟩:=B6t h.2;rw [C5] at h;exact ⟨X,rfl,hX,h.1.1,h.1.2⟩

theorem Bi7 {n:Nat} {x:Rat} {L:Nat} (h:Sz x L) (hL:L<=1000000000):f91 n (rq x)=some (rq x):=by
 obtain ⟨h1,h2⟩:=h;unfold f91
 rw [A4 (by show decide ((0+(dg x.num.natAbs).length)*8<=_)=true;simp;omega),A4 (by show decide ((0+(dg x.den).length)*8<=_)=true;simp;omega)]

theorem Bih:Bt 0=true:=F9.2 (Gr.mono (by omega))

def S7 (x v:List Rt):Int:=if I5 v=true then (if v.length=x.length then 0 else 8) else 1

theorem B9g {n:Nat} {x v:List Rt} (hn:1048577<=n):f66 n x v=some (S7 x v):=by
 unfold f66 S7
 rw [Aps hn,A2,G5,A2,G5,A2,Ns (by simp) hn,A2]
 cases h1:I5 v with
 | false=>rfl
 | true =>
  simp only [if_true];by_cases h2:v.length=x.length
  . rw [QL h2,QL (by simp [h2])];rfl
  . rw [QJ h2,QJ (by simp;omega)];rfl

theorem Bdf {x v:List Rt}:A1x [x,v]=decide (4096<x.length \/ 4096<v.length):=by
 unfold A1x;by_cases h1:4096<x.length <;> by_cases h2:4096<v.length <;> simp [h1,h2]

def hasN (l:List Nod) (x:Nod):Bool:=l.any λy=>decide (y=x)

theorem Ave {x y:Nod}:(x.1==y.1&&(x.2.1==y.2.1&&(x.2.2.1==y.2.2.1&&(x.2.2.2==y.2.2.2&&true))))=decide (y=x):=by
 obtain ⟨a,b,c,d⟩:=x;obtain ⟨a',b',c',d'⟩:=y;by_cases h:(a',b',c',d')=(a,b,c,d)
 . obtain ⟨rfl,rfl,rfl,rfl⟩:a'=a/\b'=b/\c'=c/\d'=d:=by simpa using h
   simp
 . rw [QT h];simp only [XP,Bool.and_eq_false_iff,beq_eq_false_iff_ne];by_cases h1:a=a'
   . by_cases h2:b=b'
     . by_cases h3:c=c'
       . exact .inr (.inr (.inr λh4=>h (by rw [h1,h2,h3,h4])))
       . exact .inr (.inr (.inl h3))
     . exact .inr (.inl h2)
   . exact .inl h1

theorem Adt {n:Nat} {l:List Nod} {x:Nod} (hl:l.length<=1048576):∀ (m i:Nat),i<=l.length->l.length<i+m ->
  ∃ r:Int,Ro n m l (l.length:Int) (i:Int) x.1 x.2.1 x.2.2.1 x.2.2.2 (λa=>some a) (λ(_:Unit)=>some (-1))=some r/\(decide (r>=0))=hasN (l.drop i) x
 | 0,i,hi,hm=>by omega
 | m+1,i,hi,hm=>by
  rw [B14];unfold A56;rw [QH];by_cases h:i<l.length
  . have e:l.drop i=l.getD i (0,0,0,0)::l.drop (i+1):=Mm h
    rw [QL (by omega),A4 (by simp;omega),QR,e]
    dsimp only;rw [Ave,QH];unfold hasN;by_cases h1:l.getD i (0,0,0,0)=x
    . rw [QL h1]
      exact ⟨_,rfl,by rw [YW,ZE h1,ZE (by omega)];rfl⟩
    . rw [QJ h1,Af (by omega) (by omega)]
      obtain ⟨r,h2,h3⟩:=Adt (n:=n) (x:=x) hl m (i+1) (by omega) (by omega)
      exact ⟨r,h2,by rw [h3,YW,QT h1];rfl⟩
  . rw [QJ (by omega),ZD (by omega)]
    exact ⟨-1,rfl,rfl⟩

theorem B9z {n:Nat} {l:List Nod} {x:Nod} (hl:l.length<=1048576) (hn:1048577<=n):f230 n l x=some (hasN l x):=by
 obtain ⟨r,h1,h2⟩:=Adt (n:=n) (x:=x) hl n 0 (by omega) (by omega)
 unfold f230 f110;have h1:Ro n n l (l.length:Int) 0 x.1 x.2.1 x.2.2.1 x.2.2.2 _ _=_:=h1;rw [h1,A2,h2,ZT]

theorem Acz {n:Nat} {l:List Nod} {x:Nod} (hl:l.length<=1048576):∀ (m i:Nat),i<=l.length->l.length<i+m ->
  ∃ r:Int,Zv n m l (i:Int) x.1 x.2.1 x.2.2.1 x.2.2.2 (λa=>some a) (λ(_:Unit)=>some (-1))=some r/\(decide (r>=0))=hasN (l.drop i) x
 | 0,i,hi,hm=>by omega
 | m+1,i,hi,hm=>by
  rw [Ayy];unfold A3m;rw [QH];by_cases h:i<l.length
  . have e:l.drop i=l.getD i (0,0,0,0)::l.drop (i+1):=Mm h
    rw [QL (by omega),A4 (by simp;omega),QR,e]
    dsimp only
    have:∀ y:Nod,(y.1==x.1&&(y.2.1==x.2.1&&(y.2.2.1==x.2.2.1&&(y.2.2.2==x.2.2.2&&true))))=decide (y=x):=λy=>by rw [Ave];exact decide_eq_decide.2 ⟨Eq.symm,Eq.symm⟩
    rw [this,QH];unfold hasN;by_cases h1:l.getD i (0,0,0,0)=x
    . rw [QL h1]
      exact ⟨_,rfl,by rw [YW,ZE h1,ZE (by omega)];rfl⟩
    . rw [QJ h1,Af (by omega) (by omega)]
      obtain ⟨r,h2,h3⟩:=Acz (n:=n) (x:=x) hl m (i+1) (by omega) (by omega)
      exact ⟨r,h2,by rw [h3,YW,QT h1];rfl⟩
  . rw [QJ (by omega),ZD (by omega)]
    exact ⟨-1,rfl,rfl⟩

theorem Bac {n:Nat} {x:Nod} {i:Int} (hi:0<=i/\i<1152921504606846976):f210 n x i=some (decide (E6 x i)):=by
 obtain ⟨op,A,B,N⟩:=x;unfold f210
 simp only [Ie,Rg,A2,N5,N6,Bbp hi,Af (x:=i-1) (by omega) (by omega),XI,QO,KT]
 have e:W (8*(if op=8 then 1 else 0))=if op=8 then 8 else 0:=by
  by_cases h:op=8 <;> simp [h] <;> exact Af (by omega) (by omega)
 unfold E6 Sn Hu D7;dsimp only;by_cases h1:3<=op/\op<=6
 . obtain h | h | h | h:op=3 \/ op=4 \/ op=5 \/ op=6:=by omega
   all_goals (subst h;simp;grind)
 . by_cases h2:op=7 \/ op=8
   . rcases h2 with h | h
     . subst h
       rw [QJ (by omega),QL (by simp),e]
       by_cases a1:0<=A/\A<=i-1
       . by_cases a2:B=0
         . simp [a1,a2]
           rw [<- Bool.decide_and];exact decide_eq_decide.2 (by omega)
         . simp [a1,a2]
       . simp [a1]
     . subst h
       rw [QJ (by omega),QL (by simp),e]
       by_cases a1:0<=A/\A<=i-1
       . by_cases a2:B=0
         . simp [a1,a2]
         . simp [a1,a2]
       . simp [a1]
   . simp only [QJ h1,QJ h2];congr 1;apply decide_eq_decide.2;grind

theorem Bar {n:Nat} {l:List Nod} {x:Nod} (hl:l.length<=1048576) (hn:1048577<=n):∃ r:Int,f199 n l x=some r/\decide (r>=0)=hasN l x:=by
 obtain ⟨r,h1,h2⟩:=Acz (n:=n) (x:=x) hl n 0 (by omega) (by omega)
 exact ⟨r,h1,by rw [h2,ZT]⟩

def Afq (e:List Nod) (k:Nat):Bool:=decide (E6 (e.getD k (0,0,0,0)) k) && !hasN (e.take k) (e.getD k (0,0,0,0))

def Km (e:List Nod):Nat->Nat->Bool
 | _,0=>true
 | k,c+1=>Afq e k&&Km e (k+1) c

def Ik (e:List Nod) (o:Int):Bool:=decide (1<=e.length/\e.length<=60)&&(o==(e.length:Int)-1&&Km e 0 e.length)

theorem Acv {α:Type} {n:Nat} {e:List Nod} {o:Int} (hl:e.length<=1000) (hn:1048577<=n) {k0:Bool->Option α} {k1:Unit->Option α}:∀ (m i:Nat),i<=e.length->e.length<i+m ->
  Zt n m e (e.length:Int) (i:Int) e o k0 k1=bif Km e i (e.length-i) then k1 () else k0 false
 | 0,i,hi,hm=>by omega
 | m+1,i,hi,hm=>by
  rw [Ayb];unfold A36;rw [QH];by_cases h:i<e.length
  . obtain ⟨q,hq⟩:∃ q,e.length-i=q+1:=⟨e.length-i-1,by omega⟩
    have hq2:e.length-(i+1)=q:=by omega
    rw [QL (by omega),A4 (by simp;omega),QR,hq]
    dsimp only
    rw [Ba1 (by omega),A2,A4 (by simp;omega)]
    simp only [ZT,KX]
    rw [B9z (by simp;omega) hn,A2,Af (by omega) (by omega)]
    unfold Km Afq
    cases decide (E6 (e.getD i (0,0,0,0)) i) with
    | false=>rfl
    | true =>
     cases hasN (e.take i) (e.getD i (0,0,0,0)) with
     | true=>rfl
     | false =>
      have:=Acv hl hn (o:=o) (k0:=k0) (k1:=k1) m (i+1) (by omega) (by omega)
      rw [hq2] at this;exact this
  . rw [QJ (by omega),show e.length-i=0 by omega];rfl

theorem Ade {α:Type} {n:Nat} {e:List Nod} {o:Int} (hl:e.length<=1000) (hn:1048577<=n) {k0:Bool->Option α} {k1:Unit->Option α}:∀ (m i:Nat),i<=e.length->e.length<i+m ->
  A04 n m (i:Int) e o k0 k1=bif Km e i (e.length-i) then k1 () else k0 false
 | 0,i,hi,hm=>by omega
 | m+1,i,hi,hm=>by
  rw [B08];unfold A4j;rw [QH];by_cases h:i<e.length
  . obtain ⟨q,hq⟩:∃ q,e.length-i=q+1:=⟨e.length-i-1,by omega⟩
    have hq2:e.length-(i+1)=q:=by omega
    rw [QL (by omega),A4 (by simp;omega),QR,hq]
    dsimp only
    rw [Bac (by omega),A2,A4 (by simp;omega),A4 (by simp;omega)]
    simp only [ZT,KX]
    obtain ⟨r,h1,h2⟩:=Bar (n:=n) (l:=e.take i) (x:=e.getD i (0,0,0,0)) (by simp;omega) hn
    rw [h1,A2,h2,Af (by omega) (by omega)]
    unfold Km Afq
    cases decide (E6 (e.getD i (0,0,0,0)) i) with
    | false=>rfl
    | true =>
     cases hasN (e.take i) (e.getD i (0,0,0,0)) with
     | true=>rfl
     | false =>
      have:=Ade hl hn (o:=o) (k0:=k0) (k1:=k1) m (i+1) (by omega) (by omega)
      rw [hq2] at this;exact this
  . rw [QJ (by omega),show e.length-i=0 by omega];rfl

theorem Baa {n:Nat} {e:List Nod} {o:Int} (hN:e.length<=1048576) (hn:1048577<=n):f211 n (e,o)=some (Ik e o):=by
 unfold f211 Ik;dsimp only;rw [A00,A2];by_cases h1:(1:Int)<=(e.length:Int)/\(e.length:Int)<=60
 . rw [ZE h1,ZE (show 1<=e.length/\e.length<=60 by omega),Af (by omega) (by omega)]
   simp only [ZR,QV,XS]
   cases ho:(o==(e.length:Int)-1) with
   | false=>rw [show (o != (e.length:Int)-1)=true by rw [bne,ho];rfl];rfl
   | true =>
    rw [show (o != (e.length:Int)-1)=false by rw [bne,ho];rfl,QV]
    have:=Acv (n:=n) (e:=e) (o:=o) (by omega) hn (k0:=λa=>some a) (k1:=λ(_:Unit)=>some true) n 0 (by omega) (by omega)
    refine Eq.trans this ?_;rw [KX]
    cases Km e 0 e.length <;> rfl
 . rw [QT h1,QT (show ¬ (1<=e.length/\e.length<=60) by omega)];rfl

theorem Bbw {n:Nat} {e:List Nod} {o:Int} (hN:e.length<=1048576) (hn:1048577<=n):f163 n (e,o)=some (Ik e o):=by
 unfold f163 Ik;dsimp only;rw [N5,A2];by_cases h1:(1:Int)<=(e.length:Int)/\(e.length:Int)<=60
 . rw [ZE h1,ZE (show 1<=e.length/\e.length<=60 by omega),Af (by omega) (by omega)]
   simp only [ZR,QV,XS]
   cases ho:(o==(e.length:Int)-1) with
   | false=>rw [show (o != (e.length:Int)-1)=true by rw [bne,ho];rfl];rfl
   | true =>
    rw [show (o != (e.length:Int)-1)=false by rw [bne,ho];rfl,QV]
    have:=Ade (n:=n) (e:=e) (o:=o) (by omega) hn (k0:=λa=>some a) (k1:=λ(_:Unit)=>some true) n 0 (by omega) (by omega)
    refine Eq.trans this ?_;rw [KX]
    cases Km e 0 e.length <;> rfl
 . rw [QT h1,QT (show ¬ (1<=e.length/\e.length<=60) by omega)];rfl

theorem Afp {e:List Nod}:∀ {c k j:Nat},Km e k c=true->k<=j->j<k+c->Afq e j=true
 | 0,k,j,h,h1,h2=>by omega
 | c+1,k,j,h,h1,h2=>by
  simp only [Km,QE] at h;rcases KY h1 with h3 | h3
  . exact Afp h.2 (by omega) (by omega)
  . subst h3;exact h.1

theorem B2o {e:List Nod} {o d:Int} (h:Ik e o=true) (hd:I2 0 e<=d):A5n e d/\1<=e.length/\e.length<=60/\o=(e.length:Int)-1:=by
 unfold Ik at h;simp only [QE,QO,KT] at h;obtain ⟨h1,h2,h3⟩:=h;refine ⟨λk hk=>?_,h1.1,h1.2,h2⟩
 have hs:=Afp h3 (KG k) (by omega)
 unfold Afq at hs;simp only [QE,QO] at hs;have hp:=hs.1;refine ⟨hp,λh2=>?_⟩
 have hm:e.getD k (0,0,0,0) ∈ e:=by
  rw [QG,QN hk];exact KV hk
 have:=(Apy e 0).2 _ hm h2 (by have:=hp.2.1;unfold Hu at this;rw [QJ (by omega),QL h2] at this;exact this)
 omega

theorem Abo {α:Type} {n L k:Nat} {x:Rat} (hx:Sz x L) (hL:L<=1000) (hk:k<=10) (hn:68719476736<=n) {k0:Bool->Bool->List Int->List Int->Option α}:∀ (m i:Nat),i<=k->k<i+m ->
  A06 n m (k:Int) (i:Int) (rq x).1 (rq x).2.1 (rq x).2.2 false (rq (x ^ i)).1 (rq (x ^ i)).2.1 (rq (x ^ i)).2.2 k0=k0 false (rq (x ^ k)).1 (rq (x ^ k)).2.1 (rq (x ^ k)).2.2
 | 0,i,hi,hm=>by omega
 | m+1,i,hi,hm=>by
  rw [B0h];unfold A4n;rw [QH];by_cases h:i<k
  . have l1:L*i<=L*10:=YB _ (by omega)
    rw [QL (by omega)]
    show (ob (f150 n (rq (x ^ i)) (rq x)) λa=>_)=_
    rw [Ly (Gf hx i) hx (by omega) hn,A2,Af (by omega) (by omega),<- Rat.pow_succ]
    exact Abo hx hL hk hn m (i+1) (by omega) (by omega)
  . obtain rfl:i=k:=by omega
    rw [QJ (by omega)]

theorem Aqj {n L k:Nat} {x:Rat} (hx:Sz x L) (hL:L<=1000) (hk:k<=10) (hn:68719476736<=n):f153 n (rq x) (k:Int)=some (rq (x ^ k)):=by
 unfold f153;rw [sW1 hn,A2]
 have:=Abo (n:=n) hx hL hk hn (k0:=λd a b c=>some ((a,b,c):Rt)) n 0 (by omega) (by omega)
 rw [Rat.pow_zero] at this;exact this

theorem div_one {x y:Rat}:x / y=x*(1 / y):=by rw [Rat.div_def,Rat.div_def,Rat.one_mul]

def Lt (q:Q4):Bool:=Bt q.f

def fq (q:Q4):Rt:=rq q.f

theorem H9 {l:List Q4} {k:Nat} (h:k<l.length):(l.map fq).getD k (false,[],[])=rq (l.getD k (Q4.cst 0)).f:=by
 simp [QG,QN h,fq]

theorem Auk {α:Type} {n:Nat} {X:List Rat} {e:List Nod} {o:Int} {l:List Q4} {x:Nod} (hx:E6 x l.length) (he:e.getD l.length (0,0,0,0)=x) (hl:l.length<e.length) (hl2:l.length<=1000) (hd:x.1=2->x.2.2.2<X.length)
  (hs:∀ k,k<l.length->Sz (l.getD k (Q4.cst 0)).f 40) (hX:Sv X 40) (hn:68719476736<=n)
  {f:List Rt->Int->List Nod->Int->List Rt->Option α} {k0:List Rt->Int->Option α} {k1:List Rt->Option α} :
  Qs n (vq X) (l.length:Int) e o (l.map fq) f k0 k1 =
   if Gz l x then k0 [] 10 else if Lt (B8 (Ar X) (λ_=>0) (λ_=>0) l x)=true then f (vq X) ((l.length+1:Nat):Int) e o ((l++[B8 (Ar X) (λ_=>0) (λ_=>0) l x]).map fq) else k0 [] 7:=by
 have J : ∀ q : Q4, (ob (f154 n (rq q.f)) fun a =>
       bif (!a) then
        k0 [] 7
       else
        ob (f91 n (rq q.f)) λb =>
        gd (decide (((l.map fq).length+1)*56<=140737488355328)) (
         f (vq X) (W ((l.length:Int)+1)) e o (l.map fq++[b])))=if Lt q=true then f (vq X) ((l.length+1:Nat):Int) e o ((l++[q]).map fq) else k0 [] 7:=by
  intro q
  rw [B6y,A2,Af (by omega) (by omega)]
  unfold Lt
  cases hf:Bt q.f with
  | false=>rfl
  | true =>
   rw [ZR,QV,Bi7 (F9.1 hf) (by omega),A2,A4 (by simp;omega),YX]
   simp only [if_true];rfl
 obtain ⟨op,A,B,N⟩:=x;obtain ⟨⟨o1,o2⟩,hN,hA,hB⟩:=hx;unfold Qs Gz
 rw [QH,QL (by omega),A4 (by simp;omega),QR,he]
 unfold Hu at hN;unfold D7 at hA hB;unfold B8
 have hNb:N.natAbs<=1000000000:=by
  dsimp only at hN;split at hN
  . omega
  . split at hN
    . omega
    . split at hN <;> omega
 dsimp only at *
 rw [Im (by omega) (by omega),A2]
 obtain rfl | rfl | rfl | rfl | rfl | rfl | rfl | rfl:op=1 \/ op=2 \/ op=3 \/ op=4 \/ op=5 \/ op=6 \/ op=7 \/ op=8:=by omega
 all_goals simp only [Int.reduceEq,Qbl,or_true,true_or,if_false,if_true,Int.reduceBEq,ZN,QV,Int.reduceLT,gt_iff_lt,decide_true,decide_false,Qai,true_and] at *
 . exact J (Q4.cst (N:Rat))
 . have hd:=hd trivial
   rw [C5,A4 (by simp;omega),Cc (by omega)]
   exact J ⟨Ar X N.toNat,0,0,0⟩
 all_goals (have lA:A.toNat<l.length:=by omega)
 . have lB:B.toNat<l.length:=by omega
   rw [ZB,A4 (by simp;omega),A4 (by simp;omega),A4 (by simp;omega),A4 (by simp;omega),H9 lA,H9 lB,sPl (hs _ lA) (hs _ lB) (by omega) hn,A2]
   have:=J (Q4.add (l.getD A.toNat (Q4.cst 0)) (l.getD B.toNat (Q4.cst 0)));rw [ZB] at this;exact this
 . have lB:B.toNat<l.length:=by omega
   rw [ZB,A4 (by simp;omega),A4 (by simp;omega),A4 (by simp;omega),A4 (by simp;omega),H9 lA,H9 lB,sLs (hs _ lA) (hs _ lB) (by omega) hn,A2,Rat.sub_eq_add_neg]
   have:=J (Q4.add (l.getD A.toNat (Q4.cst 0)) (Q4.neg (l.getD B.toNat (Q4.cst 0))));rw [ZB] at this;exact this
 . have lB:B.toNat<l.length:=by omega
   rw [ZB,A4 (by simp;omega),A4 (by simp;omega),A4 (by simp;omega),A4 (by simp;omega),H9 lA,H9 lB,Ly (hs _ lA) (hs _ lB) (by omega) hn,A2]
   have:=J (Q4.mul (l.getD A.toNat (Q4.cst 0)) (l.getD B.toNat (Q4.cst 0)));rw [ZB] at this;exact this
 . have lB:B.toNat<l.length:=by omega
   rw [ZB,A4 (by simp;omega),A4 (by simp;omega),H9 lB,show f145 n (rq (l.getD B.toNat (Q4.cst 0)).f)=some (decide ((l.getD B.toNat (Q4.cst 0)).f=0)) from Bd5,A2,QH]
   by_cases h0:(l.getD B.toNat (Q4.cst 0)).f=0
   . rw [QL h0,QL h0]
   . rw [QJ h0,QJ h0,A4 (by simp;omega),A4 (by simp;omega),A4 (by simp;omega),A4 (by simp;omega),H9 lA,sOv (hs _ lA) (hs _ lB) h0 (by omega) hn,A2,div_one]
     have:=J (Q4.mul (l.getD A.toNat (Q4.cst 0)) (Q4.inv (l.getD B.toNat (Q4.cst 0))));rw [ZB] at this;exact this
 . rw [ZB,A4 (by simp;omega),A4 (by simp;omega),H9 lA,A5t,A2]
   have:=J (Q4.neg (l.getD A.toNat (Q4.cst 0)));rw [ZB] at this;exact this
 . obtain ⟨N',rfl⟩:∃ N':Nat,N=(N':Int):=⟨N.toNat,by omega⟩
   rw [ZB,A4 (by simp;omega),A4 (by simp;omega),H9 lA,Aqj (hs _ lA) (by omega) (by omega) hn,A2,QR]
   have:=J (Q4.pow (l.getD A.toNat (Q4.cst 0)) N');rw [ZB,Q4.pow_eq] at this;rw [Q4.pow_eq];exact this

theorem Afg {α:Type} {n:Nat} {X:List Rat} {e:List Nod} {o:Int} (hp:A5n e X.length) (he:e.length<=60) (hX:Sv X 40) (hn:68719476736<=n)
  {k0:List Rt->Int->Option α} {k1:List Rt->Option α}:∀ (m:Nat) (l:List Q4),(∀ k,k<l.length->Sz (l.getD k (Q4.cst 0)).f 40)->l.length<=e.length->e.length<l.length+m ->
  A69 n m (vq X) (l.length:Int) e o (l.map fq) k0 k1=match Eb Lt (Ar X) (λ_=>0) (λ_=>0) (e.drop l.length) l with
   | .inl l'=>k1 (l'.map fq)
   | .inr c=>k0 [] c
 | 0,l,hs,hl,hm=>by omega
 | m+1,l,hs,hl,hm=>by
  rw [B40];by_cases h:l.length<e.length
  . obtain ⟨h1,h2⟩:=hp _ h
    rw [Auk h1 rfl h (by omega) h2 hs hX hn,Mm h,Eb]
    by_cases hb:Gz l (e.getD l.length (0,0,0,0))
    . rw [QL hb,QL hb]
    . rw [QJ hb,QJ hb];generalize hq:B8 (Ar X) (λ_=>0) (λ_=>0) l (e.getD l.length (0,0,0,0))=q;by_cases hf:Lt q=true
      . rw [QL hf,QL hf]
        have:=Afg hp he hX hn (o:=o) (k0:=k0) (k1:=k1) m (l++[q]) (λk hk=>by
         simp only [XK,ZC,XB] at hk;rcases XE k l.length with h3 | h3
         . rw [A83 h3];exact hs k h3
         . obtain rfl:k=l.length:=by omega
           rw [A84];exact F9.1 hf) (by simp;omega) (by simp;omega)
        rw [XK] at this;exact this
      . rw [QJ hf,QJ hf]
  . have h0:l.length=e.length:=by omega
    unfold Qs
    rw [QH,QJ (by omega),ZD (by omega)]
    rfl

theorem B2j {n:Nat} {X:List Rat} {e:List Nod} {o:Int} (hp:A5n e X.length) (he:e.length<=60) (hX:Sv X 40) (hn:68719476736<=n) :
  f93 n (e,o) (vq X)=some (match Eb Lt (Ar X) (λ_=>0) (λ_=>0) e [] with
   | .inl l=>(l.map fq,0)
   | .inr c=>([],c)):=by
 unfold f93
 have:=Afg (n:=n) (o:=o) hp he hX hn (k0:=λa b=>some ((a,b):List Rt × Int)) (k1:=λd=>some (d,0)) n [] (by simp) (by simp) (by simp;omega)
 refine Eq.trans this ?_;rw [XB,ZT]
 cases Eb Lt (Ar X) (λ_=>0) (λ_=>0) e [] <;> rfl

def I4 (e:List Nod) (o:Int) (l:List Rt):Int:=if 4096<l.length then 2 else if Ik e o=true/\I5 l=true then (if (l.length:Int)<I2 0 e then 8 else 0) else 1

theorem Akq {n:Nat} {e:List Nod} {o:Int} {l:List Rt} (hN:e.length<=1048576) (hn:1048577<=n):f103 n (e,o) l=some (I4 e o l):=by
 unfold f103 f166 I4
 rw [Ao1 (by simp) hn,A2,Baa hN hn,A2,G5,A2,A2,Aps hn,A2,G5,A2,Ns (by simp) hn,A2]
 have hL:A1x [l]=decide (4096<l.length):=by simp [A1x]
 rw [hL];by_cases h1:4096<l.length
 . simp only [h1,decide_true,if_true]
   rw [show K1 [2,if Ik e o=true then 0 else 1,if I5 l=true then 0 else 1]=2 from rfl,show ((2:Int) != 0)=true from rfl,ZN,G5,A2,Ns (by simp) hn];rfl
 . simp only [h1,decide_false,if_false,YE]
   cases h2:Ik e o with
   | true =>
    cases h3:I5 l with
    | true =>
     simp only [if_true,and_self]
     rw [show K1 [0,0,0]=0 from rfl,show ((0:Int) != 0)=false from rfl,QV,Bci hN hn,A2,G5,A2,Ns (by simp) hn,A2]
     by_cases h4:(l.length:Int)<I2 0 e
     . rw [QL h4,QJ (by simp;omega)];rfl
     . rw [QJ h4,QL (by simp;omega)];rfl
    | false =>
     simp only [if_true,YE,if_false,and_false]
     rw [show K1 [0,0,1]=1 from rfl,show ((1:Int) != 0)=true from rfl,ZN,G5,A2,Ns (by simp) hn];rfl
   | false =>
    simp only [if_false,YE,Qai]
    rw [show ∀ b:Int,K1 [0,1,b]=1 from λ_=>rfl,show ((1:Int) != 0)=true from rfl,ZN,G5,A2,Ns (by simp) hn];rfl

theorem B69 {n:Nat} {e:List Nod} {o:Int} {l:List Rt} (hN:e.length<=1048576) (hn:1048577<=n):f101 n (e,o) l=some (I4 e o l):=by
 unfold f101 f164 I4;rw [QH];by_cases h1:4096<l.length
 . rw [QL (by omega),QL h1]
 . rw [QJ (by omega),QJ h1,Bbw hN hn,A2]
   dsimp only
   cases h2:Ik e o with
   | true =>
    simp only [ZR,QV];rw [Aas hn,A2]
    cases h3:I5 l with
    | true =>
     simp only [ZR,QV,and_self,if_true];rw [Bcd hN hn,A2,A2,QH];by_cases h4:(l.length:Int)<I2 0 e
     . rw [QL h4,QL h4]
     . rw [QJ h4,QJ h4]
    | false=>simp
   | false=>simp

theorem Aq3 {e:List Nod} {o:Int} {l:List Rt} (h:I4 e o l=0):Ik e o=true/\I5 l=true/\I2 0 e<=l.length/\l.length<=4096:=by
 unfold I4 at h;split at h
 . omega
 . split at h
   . rename_i h1;split at h
     . omega
     . exact ⟨h1.1,h1.2,by omega,by omega⟩
   . omega

theorem Bcl {n i:Nat} {l:List Q4} (h:i<l.length):f106 n (i:Int) (l.map At)=some (rq (l.getD i (Q4.cst 0)).f):=by
 unfold f106
 rw [ZB,A4 (by simp;omega),QR,Agp h];rfl

theorem B8y {l:List Q4} {i:Nat} (h:i<l.length):(l.take (i+1)).map fq=(l.take i).map fq++[rq (l.getD i (Q4.cst 0)).f]:=by
 rw [YP h,YX,QG,QN h];rfl

theorem Adv {α:Type} {n:Nat} {l:List Q4} (hl:l.length<=60) (hs:∀ k,k<l.length->Sz (l.getD k (Q4.cst 0)).f 40) {k0:List Rt->Option α}:∀ (m i:Nat),i<=l.length->l.length<i+m ->
  Kp n m (l.map At) (l.length:Int) (i:Int) ((l.take i).map fq) k0=k0 (l.map fq)
 | 0,i,hi,hm=>by omega
 | m+1,i,hi,hm=>by
  rw [Aeo];unfold Ou;rw [QH];by_cases h:i<l.length
  . rw [QL (by omega),Bcl h,A2,Anu (hs i h) (by omega),A2,A4 (by simp;omega),Af (by omega) (by omega),<- B8y h]
    exact Adv hl hs m (i+1) (by omega) (by omega)
  . rw [QJ (by omega),ZV (by omega)]

theorem Bcm {n:Nat} {l:List Q4} (hl:l.length<=60) (hs:∀ k,k<l.length->Sz (l.getD k (Q4.cst 0)).f 40) (hn:1048577<=n):Ul n (l.length:Int) (l.map At)=some (l.map fq):=by
 unfold Ul
 have:=Adv (n:=n) hl hs (k0:=λa=>some a) n 0 (by omega) (by omega)
 exact this

theorem B2y (x:Nat->Rat):Fm x (λ_:Bool=>λ_=>0) (λ_:Bool=>λ_=>0) (λp=>(p true).f=(p false).f/\(p false).v=0):=by
 refine ⟨λ_=>⟨rfl,rfl⟩,λ_=>⟨rfl,rfl⟩,?_,?_,?_,?_⟩
 . rintro p q ⟨h1,h2⟩ ⟨g1,g2⟩
   simp only [Q4.add,h1,h2,g1,g2]
   exact ⟨trivial,by grind⟩
 . rintro p ⟨h1,h2⟩
   simp only [Q4.neg,h1,h2]
   exact ⟨trivial,by grind⟩
 . rintro p q ⟨h1,h2⟩ ⟨g1,g2⟩
   simp only [Q4.mul,h1,h2,g1,g2]
   exact ⟨trivial,by grind⟩
 . rintro p ⟨h1,h2⟩
   simp only [Q4.inv,h1,h2]
   exact ⟨trivial,by grind⟩

theorem Avo {l m:List Q4} (h:l.length=m.length) (hk:∀ k,(l.getD k (Q4.cst 0)).f=(m.getD k (Q4.cst 0)).f):l.map fq=m.map fq:=by
 apply List.ext_getElem
 . simp [h]
 . intro i h1 h2;simp only [ZB] at h1 h2;have:=hk i;simp only [QG,QN h1,QN h2,XR] at this;simp only [List.getElem_map,fq,this]

theorem B2n {X:List Rat} {e:List Nod}:(∃ c,Eb Lt (Ar X) (λ_=>0) (λ_=>0) e [] = .inr c/\Eb Hw (Ar X) (λ_=>0) (λ_=>0) e [] = .inr c/\c ≠ 0) \/
  ∃ l m,Eb Lt (Ar X) (λ_=>0) (λ_=>0) e [] = .inl l/\Eb Hw (Ar X) (λ_=>0) (λ_=>0) e [] = .inl m/\m.length=e.length/\l.map fq=m.map fq /\ ∀ k,k<m.length->Sz (m.getD k (Q4.cst 0)).f 40:=by
 rcases B6c (B2y (Ar X)) (f:=Lt) (g:=Hw) (λp hp=>by
   obtain ⟨h1,h2⟩:=hp;unfold Lt Hw
   rw [h1,h2,Bih];simp) (λp hp=>hp.1) e with ⟨c,h1,h2⟩ | ⟨l,m,h1,h2,h3,h4,h5⟩
 . exact .inl ⟨c,h1,h2,by rcases Aks _ _ _ h1 with rfl | rfl <;> decide⟩
 . refine .inr ⟨l,m,h1,h2,h4,Avo (by omega) (λk=>(h5 k).1),λk hk=>?_⟩
   have:=(A0e e [] m (λk hk=>by simp at hk) h2).1 k hk
   unfold Hw at this;simp only [QE,F9] at this;exact this.1

theorem B9q {n:Nat} {e:List Nod} {o:Int} (hl:e.length<=9223372036854775807):∃ r,f41 n (e,o) 1048576=some r/\(r = -1 \/ ((0<=r/\r<=1048576)/\e.length<=1048576)):=by
 unfold f41 f80;dsimp only
 rw [Af (by omega) (by omega),QH]
 by_cases h:e.length<=1048576
 . rw [QJ (by omega),A2,QH,QJ (by omega)];exact ⟨_,rfl,.inr ⟨by omega,h⟩⟩
 . rw [QL (by omega),A2];exact ⟨_,rfl,.inl rfl⟩

theorem Bes {n:Nat} {e:List Nod} {o:Int} (hN:e.length<=1048576) (hn:1048577<=n):f43 n (e,o)=some (e,o):=by
 unfold f43 f82;dsimp only
 rw [A4 (by simp;omega)]
 have:=Ae2 (n:=n) hN (k0:=λz=>some z) e n [] rfl (by simp) (by omega) (λj hj=>by simp at hj)
 simp only [XB,KQ] at this;rw [QR];have this:Wy n n e 0 (List.replicate e.length (0,0,0,0)) (λz=>some z)=some e:=this;rw [this,A2]

theorem B9p {n:Nat} {e:List Nod} {o:Int} (hN:e.length<=1048576) (hn:1048577<=n):Ahs n (e,o)=some (e,o):=by
 unfold Ahs B4h;dsimp only
 rw [A4 (by simp;omega)]
 have:=A7t (n:=n) hN (k0:=λz=>some z) e n [] rfl (by simp) (by omega) (λj hj=>by simp at hj)
 simp only [XB,KQ] at this;rw [QR];have this:Qt n n e 0 (List.replicate e.length (0,0,0,0)) (λz=>some z)=some e:=this;rw [this,A2]

def Vi (F:List Rat) (k:Nat):Rat:=F.getD k 0

def Aqs (p:Pt):Rt × Rt × Rt × Rt:=(rq p.a,rq p.b,rq p.da,rq p.db)

theorem Bd6 {n K k:Nat} {F D:List Rat} {x:Nod} (hx:E6 x k) (hF:F.length=k \/ k<=F.length) (hD:k<=D.length) (sF:Sv F 40) (sD:Sv D K) (hK:K<=10000000) (h6:x.1=6->Vi F x.2.2.1.toNat ≠ 0) (hn:68719476736<=n) :
  f157 n x (vq F) (vq D)=some (Aqs (Ce (Vi F) (Vi D) x)):=by
 have hF:k<=F.length:=by omega
 obtain ⟨op,A,B,N⟩:=x;obtain ⟨⟨o1,o2⟩,hN,hA,hB⟩:=hx;unfold f157 Ce Aqs;rw [sW0 hn,A2,sW1 hn,A2];unfold Hu at hN;unfold D7 at hA hB;dsimp only at *
 obtain rfl | rfl | rfl | rfl | rfl | rfl | rfl | rfl:op=1 \/ op=2 \/ op=3 \/ op=4 \/ op=5 \/ op=6 \/ op=7 \/ op=8:=by omega
 all_goals simp only [Int.reduceEq,Qbl,or_true,true_or,if_false,if_true,Int.reduceBEq,ZN,QV,Int.reduceLT,gt_iff_lt] at *
 . rw [show f127 n (-1)=some (rq (-1)) from Im (a:=-1) (by omega) (by omega),A2]
 . have lA:A.toNat<k:=by omega
   have lB:B.toNat<k:=by omega
   rw [C5,C5,A4 (by simp;omega),A4 (by simp;omega),A4 (by simp;omega),A4 (by simp;omega),Cc (by omega),Cc (by omega),Cc (by omega),Cc (by omega)];rfl
 . have lA:A.toNat<k:=by omega
   have lB:B.toNat<k:=by omega
   have h6:=h6 trivial
   have fA:=sF.get (show A.toNat<F.length by omega)
   have fB:=sF.get (show B.toNat<F.length by omega)
   have dA:=sD.get (show A.toNat<D.length by omega)
   have dB:=sD.get (show B.toNat<D.length by omega)
   have r:=B2b fB h6;have r2:=B0 r r;have r3:=B0 r2 r
   have k2:Sz 2 1:=B2a (c:=2) (by omega)
   have e1:=B0 dA r2;have e2:=B0 fA dB;have e3:=B0 e2 r3
   rw [C5,C5,A4 (by simp;omega),Cc (show B.toNat<F.length by omega),sOv (Yj (L:=1) (by omega)) fB h6 (by omega) hn,A2,Ly r r (by omega) hn,A2,Ly r2 r (by omega) hn,A2,
    A4 (by simp;omega),Cc (show B.toNat<D.length by omega),Ly dB r2 (by omega) hn,A2,A5t,A2,A4 (by simp;omega),Cc (show A.toNat<F.length by omega),Ly fA r2 (by omega) hn,A2,A5t,A2,
    A4 (by simp;omega),Cc (show A.toNat<D.length by omega),Ly dA r2 (by omega) hn,A2,A5t,A2,sW2 hn,A2,A4 (by simp;omega),A4 (by simp;omega),Ly fA dB (by omega) hn,A2,Ly e2 r3 (by omega) hn,A2,Ly k2 e3 (by omega) hn,A2,
    sPl (Ll e1) (B0 k2 e3) (by omega) hn,A2];rfl
 . rw [show f127 n (-1)=some (rq (-1)) from Im (a:=-1) (by omega) (by omega),A2]
 . have lA:A.toNat<k:=by omega
   obtain ⟨N',rfl⟩:∃ N':Nat,N=(N':Int):=⟨N.toNat,by omega⟩
   have fA:=sF.get (show A.toNat<F.length by omega)
   have dA:=sD.get (show A.toNat<D.length by omega)
   rw [QR]
   match N' with
   | 0=>simp [Q4.d1,Q4.d2,Rat.zero_mul]
   | 1 =>
    rw [show (((1:Nat):Int)==0)=false from rfl,QV,Im (by omega) (by omega),A2,C5,A4 (by simp;omega),Cc (by omega),show W (((1:Nat):Int)-1)=((0:Nat):Int) from rfl,Aqj fA (by omega) (by omega) hn,A2,
     Ly (Bs (a:=((1:Nat):Int)) (by omega)) (Gf fA 0) (by omega) hn,A2]
    simp [Q4.d1,Q4.d2,Rat.zero_mul]
   | N'+2 =>
    have h2:(N'+2)*(N'+1)<=8*8:=XQ (by omega) (by omega)
    have p1:=Gf fA (N'+1);have p2:=Gf fA N'
    have i1:=Bs (a:=((N'+2:Nat):Int)) (by omega)
    have i2:=Bs (a:=(((N'+2)*(N'+1):Nat):Int)) (by rw [XX];omega)
    have l1:40*(N'+1)<=40*8:=YB _ (by omega)
    rw [show (((N'+2:Nat):Int)==0)=false by rw [beq_eq_false_iff_ne];omega,QV,Im (by omega) (by omega),A2,C5,C5,A4 (by simp;omega),Cc (show A.toNat<F.length by omega),
     Af (x:=((N'+2:Nat):Int)-1) (by omega) (by omega),show ((N'+2:Nat):Int)-1=((N'+1:Nat):Int) by omega,Aqj fA (by omega) (by omega) hn,A2,Ly i1 p1 (by omega) hn,A2,
     QH,QL (by omega),show ((N'+2:Nat):Int)*((N'+1:Nat):Int)=(((N'+2)*(N'+1):Nat):Int) by rw [YD],Af (x:=(((N'+2)*(N'+1):Nat):Int)) (by omega) (by omega),Im (by omega) (by omega),A2,
     A4 (by simp;omega),Af (x:=((N'+2:Nat):Int)-2) (by omega) (by omega),show ((N'+2:Nat):Int)-2=((N':Nat):Int) by omega,Aqj fA (by omega) (by omega) hn,A2,Ly i2 p2 (by omega) hn,A2,
     A4 (by simp;omega),Cc (show A.toNat<D.length by omega),Ly (B0 i2 p2) dA (by omega) hn,A2]
    simp only [Q4.d1,Q4.d2,Vi,KB];rw [Rat.mul_comm (F.getD A.toNat 0 ^ (N'+1)),Rat.mul_comm (F.getD A.toNat 0 ^ N')]

theorem B8l {f d d':Nat->Rat} {n:Nod}:(Ce f d n).a=(Ce f d' n).a/\(Ce f d n).b=(Ce f d' n).b:=by
 unfold Ce;dsimp only;repeat (first | exact ⟨rfl,rfl⟩ | split)

theorem B71 {f d:Nat->Rat} {n:Nod} (hf:∀ k,Sz (f k) 40) (h6:n.1=6->f n.2.2.1.toNat ≠ 0) (h8:n.1=8->n.2.2.2.toNat<=8):Sz (Ce f d n).a 330/\Sz (Ce f d n).b 330:=by
 have z:Sz 0 330:=Gr.mono (by omega)
 have o:Sz 1 330:=Yj (by omega)
 have m:Sz (-1) 330:=Ll o;unfold Ce;dsimp only;split
 . exact ⟨o,o⟩
 split
 . exact ⟨o,m⟩
 split
 . exact ⟨(hf _).mono (by omega),(hf _).mono (by omega)⟩
 split
 . rename_i h;have r:=B2b (hf n.2.2.1.toNat) (h6 h)
   exact ⟨r.mono (by omega),(Ll (B0 (hf n.2.1.toNat) (B0 r r))).mono (by omega)⟩
 split
 . exact ⟨m,z⟩
 split
 . rename_i h
   exact ⟨(Auc (hf n.2.1.toNat) (h8 h)).mono (by omega),z⟩
 . exact ⟨z,z⟩

def bigH:Nat:=10000 ^ 400

set_option exponentiation.threshold 100000 in
theorem Aud {x:Rat} {L:Nat} (h:Sz x L) (hL:L<=400):Hb x bigH:=by
 have e:10000 ^ L<=bigH:=JG (by omega) hL
 exact ⟨by have:=I8 h.1;omega,by have:=I8 h.2;omega⟩

set_option exponentiation.threshold 100000 in
theorem B6i:1<=bigH:=Qbm (by omega)

def Yh (i:Nat):Nat:=10000 ^ (801*i)

set_option exponentiation.threshold 100000 in
theorem Alb (i:Nat):2*(bigH*bigH*Yh i)<=Yh (i+1):=by
 unfold bigH Yh;rw [<- Nat.pow_add,<- Nat.pow_add,Nat.mul_succ]
 have:(10000:Nat) ^ (801*i+801)=10000 ^ (400+400+801*i)*10000:=by rw [<- KK];congr 1;omega
 rw [this,KO 2]
 exact YB _ (by omega)

set_option exponentiation.threshold 100000 in
theorem Bi6 {x:Rat} {i:Nat} (h:Hb x (Yh i)) (hi:i<=60):Sz x 48061:=by
 have e:Yh i<10000 ^ 48061:=by
  unfold Yh
  exact Nat.pow_lt_pow_right (by omega) (by omega)
 exact ⟨H6 (Nat.lt_of_le_of_lt h.1 e),H6 (Nat.lt_of_le_of_lt h.2 e)⟩

structure Cw (X V:List Rat) (e:List Nod):Prop where
 all:A5n e X.length
 len:e.length<=60
 vx:V.length=X.length
 sX:Sv X 40
 sV:Sv V 40
 fit:∀ k,Sz ((evs (Ar X) (λ_=>0) (Ar V) e []).getD k (Q4.cst 0)).f 40
 ok:∀ i,i<e.length->¬ Gz (evs (Ar X) (λ_=>0) (Ar V) (e.take i) []) (e.getD i (0,0,0,0))

theorem Cw.of {X V:List Rat} {e:List Nod} {l:List Q4} (ha:A5n e X.length) (hl:e.length<=60) (hv:V.length=X.length) (sX:Sv X 40) (sV:Sv V 40) (h:Eb Lt (Ar X) (λ_=>0) (λ_=>0) e [] = .inl l):Cw X V e:=by
 obtain ⟨h1,h2⟩:=A0e e [] l (λk hk=>by simp at hk) h
 refine ⟨ha,hl,hv,sX,sV,λk=>?_,λi hi hb=>?_⟩
 . rw [Aqk (Ar X) (λ_=>0) (Ar V) (λ_=>0) (λ_=>0) e k,<- h2];rcases XE k l.length with h3 | h3
   . exact F9.1 (h1 k h3)
   . rw [Jh h3];exact Gr.mono (by omega)
 . refine Apx e [] l h i hi ⟨hb.1,?_⟩;rw [Aqk (Ar X) (λ_=>0) (λ_=>0) (λ_=>0) (Ar V)];exact hb.2

theorem Cw.pre {X V:List Rat} {e:List Nod} (h:Cw X V e) {i:Nat} (hi:i<=e.length) (k:Nat):Sz ((evs (Ar X) (λ_=>0) (Ar V) (e.take i) []).getD k (Q4.cst 0)).f 40:=by
 rcases XE k i with h1 | h1
 . rw [Ab1 _ _ _ e h1 hi];exact h.fit k
 . rw [Jh (by rw [Cr];simp;omega)];exact Gr.mono (by omega)

theorem Cw.cd {X V:List Rat} {e:List Nod} (h:Cw X V e):∀ {i:Nat},i<=e.length->CD ((evs (Ar X) (λ_=>0) (Ar V) (e.take i) []).map Q4.v) (Yh i)
 | 0,_=>by simpa [evs,Yh] using Bi1
 | i+1,hi=>by
  have ih:=h.cd (i:=i) (by omega)
  have hi':i<e.length:=by omega
  obtain ⟨hp,hd⟩:=h.all i hi';have hbad:=h.ok i hi'
  have hf:=h.pre (i:=i) (by omega)
  rw [Ox _ _ _ _ hi',YX];generalize hl:evs (Ar X) (λ_=>0) (Ar V) (e.take i) []=l at *;generalize hx:e.getD i (0,0,0,0)=x at *;by_cases h2:x.1=2
  . have hv:(B8 (Ar X) (λ_=>0) (Ar V) l x).v=Ar V x.2.2.2.toNat:=by unfold B8;rw [QJ (by omega),QL h2]
    simp only [QW,YL,hv];have hN:=hp.2.1;unfold Hu at hN
    rw [QJ (by omega),QL h2] at hN
    have:=hd h2
    have sv:Sz (Ar V x.2.2.2.toNat) 40:=h.sV.get (by have:=h.vx;omega)
    exact (ih.one (Aud sv (by omega)) B6i).mono (Alb i)
  . have hq:=(Anc (Ar X) (λ_=>0) (Ar V) (λk=>l.getD k (Q4.cst 0)) x hp.1 h2).2.1;rw [<- Anb] at hq;simp only [QW,YL]
    obtain ⟨sa,sb⟩:=B71 (f:=λk=>(l.getD k (Q4.cst 0)).f) (d:=λk=>(l.getD k (Q4.cst 0)).v) (n:=x) hf (λh6 h0=>hbad ⟨h6,h0⟩) (λh8=>by
     have hN:=hp.2.1;unfold Hu at hN
     rw [QJ (by omega),QJ (by omega),QL h8] at hN;omega)
    have mem:∀ k,(l.getD k (Q4.cst 0)).v ∈ l.map Q4.v \/ (l.getD k (Q4.cst 0)).v=0:=λk=>by
     rcases XE k l.length with h3 | h3
     . left;rw [QG,QN h3];exact ZM.2 ⟨_,KV h3,rfl⟩
     . right;rw [Jh h3];rfl
    exact (ih.step (Aud sa (by omega)) (Aud sb (by omega)) (mem _) (mem _) hq).mono (Alb i)

theorem Cw.sv {X V:List Rat} {e:List Nod} (h:Cw X V e) {i:Nat} (hi:i<=e.length) (k:Nat):Sz ((evs (Ar X) (λ_=>0) (Ar V) (e.take i) []).getD k (Q4.cst 0)).v 48061:=by
 generalize hl:evs (Ar X) (λ_=>0) (Ar V) (e.take i) []=l;rcases XE k l.length with h3 | h3
 . have:=h.cd hi;rw [hl] at this
   have hm:(l.getD k (Q4.cst 0)).v ∈ l.map Q4.v:=by
    rw [QG,QN h3];exact ZM.2 ⟨_,KV h3,rfl⟩
   exact Bi6 (this.hb hm) (by have:=h.len;omega)
 . rw [Jh h3];exact Gr.mono (by omega)

theorem Cw.szl {X V:List Rat} {e:List Nod} (h:Cw X V e) {i:Nat} (hi:i<=e.length):B83 (evs (Ar X) (λ_=>0) (Ar V) (e.take i) []) 48061:=⟨h.pre hi,h.sv hi⟩

theorem Cw.gives {X V:List Rat} {e:List Nod} (h:Cw X V e) (h1:1<=X.length) {n i:Nat} (hi:i<e.length) (hn:68719476736<=n) :
  Rf n (0,vq V) (e.getD i (0,0,0,0)) (vq X) ((evs (Ar X) (λ_=>0) (Ar V) (e.take i) []).map Aq)=some ((Aq (B8 (Ar X) (λ_=>0) (Ar V) (evs (Ar X) (λ_=>0) (Ar V) (e.take i) []) (e.getD i (0,0,0,0))),0),(evs (Ar X) (λ_=>0) (Ar V) (e.take i) []).map Aq):=by
 obtain ⟨hp,hd⟩:=h.all i hi;have hbad:=h.ok i hi;have hfit:=h.fit i;rw [Bhp _ _ _ e hi] at hfit
 have hlen:(evs (Ar X) (λ_=>0) (Ar V) (e.take i) []).length=i:=by rw [Cr];simp;omega
 have vx:=h.vx
 rw [B3h (X:=X) (V:=V) (by rw [hlen];exact hp) (λq=>⟨hd q,by rw [h.vx];exact hd q⟩) (by omega) (h.szl (by omega)) (by omega) hn]
 generalize evs (Ar X) (λ_=>0) (Ar V) (e.take i) []=l at *;generalize e.getD i (0,0,0,0)=x at *;have a:¬ (x.1=6/\(l.getD x.2.2.1.toNat (Q4.cst 0)).f=0):=hbad
 have b:¬ (x.1=8/\Bt ((l.getD x.2.1.toNat (Q4.cst 0)).f ^ x.2.2.2.toNat)=false):=λq=>by
  have:=Ag6 (x:=Ar X) (u:=λ_=>0) (w:=Ar V) (l:=l) q.1;rw [this] at hfit;rw [F9.2 hfit] at q
  exact absurd q.2 (by simp)
 rw [QJ a,QJ b]

theorem Afl {α:Type} {X V:List Rat} {e:List Nod} (h:Cw X V e) (h1:1<=X.length) {n:Nat} (hn:68719476736<=n) {k0:List Jc->Option α}:∀ (m i:Nat),i<=e.length->e.length<i+m ->
  A68 n m (vq X) e (e.length:Int) (i:Int) 0 (vq V) ((evs (Ar X) (λ_=>0) (Ar V) (e.take i) []).map Aq) k0=k0 ((evs (Ar X) (λ_=>0) (Ar V) e []).map Aq)
 | 0,i,hi,hm=>by omega
 | m+1,i,hi,hm=>by
  have he:=h.len;rw [B3r];unfold A8v;rw [QH];by_cases hh:i<e.length
  . rw [QL (by omega),A4 (by simp;omega),QR]
    dsimp only
    rw [h.gives h1 hh hn,A2,A4 (by simp),A4 (by simp [Cr];omega),Af (by omega) (by omega)]
    have:=Afl h h1 hn (k0:=k0) m (i+1) (by omega) (by omega)
    rw [Ox _ _ _ _ hh,YX] at this;exact this
  . rw [QJ (by omega),ZV (by omega)]

theorem Abi {α:Type} {X V:List Rat} {e:List Nod} (h:Cw X V e) (h1:1<=X.length) {n:Nat} (hn:68719476736<=n) {k0:List Jc->Option α}:∀ (m i:Nat),i<=e.length->e.length<i+m ->
  Yy n m (vq X) e (e.length:Int) (i:Int) 0 (vq V) ((evs (Ar X) (λ_=>0) (Ar V) (e.take i) []).map Aq) k0=k0 ((evs (Ar X) (λ_=>0) (Ar V) e []).map Aq)
 | 0,i,hi,hm=>by omega
 | m+1,i,hi,hm=>by
  have he:=h.len;rw [Aw8];unfold A22;rw [QH];by_cases hh:i<e.length
  . rw [QL (by omega),A4 (by simp;omega),QR]
    dsimp only
    rw [h.gives h1 hh hn,A2,A4 (by simp),A4 (by simp [Cr];omega),Af (by omega) (by omega)]
    have:=Abi h h1 hn (k0:=k0) m (i+1) (by omega) (by omega)
    rw [Ox _ _ _ _ hh,YX] at this;exact this
  . rw [QJ (by omega),ZV (by omega)]

def Et (X V:List Rat) (e:List Nod):List Rat:=(evs (Ar X) (λ_=>0) (Ar V) e []).map Q4.v

theorem Ape {n i:Nat} {l:List Q4} (h:i<l.length):f159 n (i:Int) (l.map Aq)=some (rq (l.getD i (Q4.cst 0)).v):=by
 unfold f159
 rw [ZB,A4 (by simp;omega),QR,Ags h];rfl

theorem Aul {l:List Q4} {i:Nat} (h:i<l.length):vq ((l.take (i+1)).map Q4.v)=vq ((l.take i).map Q4.v)++[rq (l.getD i (Q4.cst 0)).v]:=by
 rw [YP h,YX,QG,QN h];simp [vq]

theorem A7l {α:Type} {n:Nat} {l:List Q4} (hl:l.length<=60) (hs:∀ k,Sz (l.getD k (Q4.cst 0)).v 48061) {k0:List Rt->Option α}:∀ (m i:Nat),i<=l.length->l.length<i+m ->
  Hj n m (l.map Aq) (l.length:Int) (i:Int) (vq ((l.take i).map Q4.v)) k0=k0 (vq (l.map Q4.v))
 | 0,i,hi,hm=>by omega
 | m+1,i,hi,hm=>by
  rw [Aem];unfold Oq;rw [QH];by_cases h:i<l.length
  . rw [QL (by omega),Ape h,A2,Anu (hs i) (by omega),A2,A4 (by simp;omega),Af (by omega) (by omega),<- Aul h]
    exact A7l hl hs m (i+1) (by omega) (by omega)
  . rw [QJ (by omega),ZV (by omega)]

theorem A1c {α:Type} {n:Nat} {l:List Q4} (hl:l.length<=60) (hs:∀ k,Sz (l.getD k (Q4.cst 0)).v 48061) {k0:List Rt->Option α}:∀ (m i:Nat),i<=l.length->l.length<i+m ->
  G7 n m (l.map Aq) (l.length:Int) (i:Int) (vq ((l.take i).map Q4.v)) k0=k0 (vq (l.map Q4.v))
 | 0,i,hi,hm=>by omega
 | m+1,i,hi,hm=>by
  rw [Aav];unfold Lw;rw [QH];by_cases h:i<l.length
  . rw [QL (by omega),Ape h,A2,B9h ((hs i).mono (by omega)),A2]
    have hg:decide (((vq ((l.take i).map Q4.v)).length+1)*56<=140737488355328)=true:=by simp;omega
    have hrec:=A1c (n:=n) hl hs (k0:=k0) m (i+1) (by omega) (by omega)
    rw [Aul h] at hrec;by_cases h0:(rq (l.getD i (Q4.cst 0)).v).2.1=[]
    . rw [QL h0];simp only [Fv]
      rw [A4 hg,Af (by omega) (by omega)]
      rw [show ((rq (l.getD i (Q4.cst 0)).v).1,[],(rq (l.getD i (Q4.cst 0)).v).2.2)=rq (l.getD i (Q4.cst 0)).v by rw [<- h0]]
      exact hrec
    . rw [QJ h0];simp only [Fv]
      rw [A4 hg,Af (by omega) (by omega)]
      exact hrec
  . rw [QJ (by omega),ZV (by omega)]

theorem Cw.all_v {X V:List Rat} {e:List Nod} (h:Cw X V e) (k:Nat):Sz ((evs (Ar X) (λ_=>0) (Ar V) e []).getD k (Q4.cst 0)).v 48061:=by
 have:=h.sv (i:=e.length) (QY _) k
 rwa [YF] at this

theorem Bic {X V:List Rat} {e:List Nod} {o:Int} (h:Cw X V e) (h1:1<=X.length) {n:Nat} (hn:68719476736<=n):f97 n (e,o) (vq X) (vq V)=some (vq (Et X V e)):=by
 have hl:(evs (Ar X) (λ_=>0) (Ar V) e []).length=e.length:=by rw [Cr];simp
 have he:=h.len;unfold f97
 have:=Afl h h1 hn (k0:=λa=>(
   ob (Uj n (a.length:Int) a) λb =>
   some b)) n 0 (by omega) (by omega)
 refine Eq.trans this ?_
 have h2:=A7l (n:=n) (l:=evs (Ar X) (λ_=>0) (Ar V) e []) (by omega) h.all_v (k0:=λa=>some a) n 0 (by omega) (by omega)
 unfold Uj;rw [ZB];have h2:Hj n n _ _ 0 [] _=_:=h2;rw [h2,A2];rfl

theorem Bdm {X V:List Rat} {e:List Nod} {o:Int} (h:Cw X V e) (h1:1<=X.length) {n:Nat} (hn:68719476736<=n):Ar8 n (e,o) (vq X) (vq V)=some (vq (Et X V e)):=by
 have hl:(evs (Ar X) (λ_=>0) (Ar V) e []).length=e.length:=by rw [Cr];simp
 have he:=h.len;unfold Ar8
 have:=Abi h h1 hn (k0:=λa=>(
   ob (Pr n (a.length:Int) a) λb =>
   some b)) n 0 (by omega) (by omega)
 refine Eq.trans this ?_
 have h2:=A1c (n:=n) (l:=evs (Ar X) (λ_=>0) (Ar V) e []) (by omega) h.all_v (k0:=λa=>some a) n 0 (by omega) (by omega)
 unfold Pr;rw [ZB];have h2:G7 n n _ _ 0 [] _=_:=h2;rw [h2,A2];rfl

theorem B3a {op:Int}:decide (3<=op/\op<=6)=decide (D7 op>1):=by
 unfold D7;apply decide_eq_decide.2;split
 . omega
 . split <;> omega

theorem Bd1 {l:List Rat} {x:Rat}:vq (l++[x])=vq l++[rq x]:=by simp [vq]

theorem Bdr {l:List Q4} {k:Nat} (h:k<l.length):(vq (l.map Q4.v)).getD k (false,[],[])=rq (l.getD k (Q4.cst 0)).v:=by
 rw [Cc (by simpa using h)]
 simp [QG,QN h]

theorem A5s {α:Type} {X V:List Rat} {e:List Nod} {o:Int} (h:Cw X V e) {n:Nat} (hn:68719476736<=n) {F:List Rat} (hF:F=(evs (Ar X) (λ_=>0) (Ar V) e []).map Q4.f) {k0:List Rt->Option α}:∀ (m i:Nat),i<=e.length->e.length<i+m ->
  Np n m (vq F) (vq V) (vq (List.replicate e.length 0)) (i:Int) e o (vq ((evs (Ar X) (λ_=>0) (Ar V) (e.take i) []).map Q4.v)) k0=k0 (vq (Et X V e))
 | 0,i,hi,hm=>by omega
 | m+1,i,hi,hm=>by
  have he:=h.len
  have hrec:=λhh=>A5s h hn hF (o:=o) (k0:=k0) m (i+1) hh (by omega)
  rw [B3v];unfold A8y;rw [QH];by_cases hh:i<e.length
  . have hrec:=hrec (by omega)
    rw [Ox _ _ _ _ hh,YX,QW,YL,Bd1] at hrec;obtain ⟨hp,hd⟩:=h.all i hh;have hbad:=h.ok i hh
    have hf:=h.pre (i:=i) (by omega)
    have hv:=h.sv (i:=i) (by omega)
    have hgf:∀ k,k<i->Vi F k=((evs (Ar X) (λ_=>0) (Ar V) (e.take i) []).getD k (Q4.cst 0)).f:=λk hk=>by
     have hl:(evs (Ar X) (λ_=>0) (Ar V) e []).length=e.length:=by rw [Cr];simp
     rw [Ab1 _ _ _ e hk (by omega),hF]
     unfold Vi
     simp [QG,QN (show k<(evs (Ar X) (λ_=>0) (Ar V) e []).length by omega)]
    have hlF:F.length=e.length:=by rw [hF,ZB,Cr];simp
    have sF:Sv F 40:=λa ha=>by
     rw [hF] at ha;obtain ⟨q,hq,rfl⟩:=ZM.1 ha;obtain ⟨k,hk,rfl⟩:=Qbf hq;have:=h.fit k
     rwa [QG,QN hk] at this
    have hlen:(evs (Ar X) (λ_=>0) (Ar V) (e.take i) []).length=i:=by rw [Cr];simp;omega
    rw [QL (by omega),A4 (by simp;omega),QR,sW0 hn,A2]
    dsimp only;generalize hl:evs (Ar X) (λ_=>0) (Ar V) (e.take i) []=l at *;generalize hx:e.getD i (0,0,0,0)=x at *
    have hfin:∀ y:Rat,y=(B8 (Ar X) (λ_=>0) (Ar V) l x).v->gd (decide (((vq (l.map Q4.v)).length+1)*56<=140737488355328)) (Np n m (vq F) (vq V) (vq (List.replicate e.length 0)) (W ((i:Int)+1)) e o (vq (l.map Q4.v)++[rq y]) k0)=k0 (vq (Et X V e)):=λy hy=>by
     rw [A4 (by simp;omega),Af (by omega) (by omega),hy]
     exact hrec
    by_cases h2:x.1=2
    . have hN:=hp.2.1;unfold Hu at hN
      rw [QJ (by omega),QL h2] at hN
      have hd2:=hd h2;have vx:=h.vx
      rw [show (x.1==2)=true by rw [h2];rfl,ZN,C5,A4 (by simp;omega),Cc (show x.2.2.2.toNat<V.length by omega),Ie,A2,QT (by omega),QV,Rg,A2,QT (by omega),QV]
      exact hfin (V.getD x.2.2.2.toNat 0) (by unfold B8;rw [QJ (by omega),QL h2];rfl)
    . rw [show (x.1==2)=false by rw [beq_eq_false_iff_ne];exact h2,QV]
      have hq:=(Anc (Ar X) (λ_=>0) (Ar V) (λk=>l.getD k (Q4.cst 0)) x hp.1 h2).2.1;rw [<- Anb] at hq;have hpA:=hp.2.2.1;have hpB:=hp.2.2.2;by_cases h1:x.1=1
      . rw [Ie,A2,QT (by omega),QV,Rg,A2,QT (by omega),QV]
        exact hfin 0 (by unfold B8;rw [QL h1];rfl)
      . have kA : D7 x.1 > 0 := by
         have:=hp.1;unfold D7;split
         . omega
         . split <;> omega
        rw [QL kA] at hpA
        have lA:x.2.1.toNat<l.length:=by omega
        have hpart:=Bd6 (n:=n) (F:=F) (D:=List.replicate e.length 0) (K:=1) (k:=i) hp (.inr (by omega)) (by simp;omega) sF (Bhx (by omega)) (by omega) (λh6 h0=>hbad ⟨h6,by
         have k2:D7 x.1>1:=by rw [h6];decide
         rw [QL k2] at hpB
         rw [<- hgf _ (by omega)];exact h0⟩) hn
        have pab:(Ce (Vi F) (Vi (List.replicate e.length 0)) x).a=(Ce (λk=>(l.getD k (Q4.cst 0)).f) (λk=>(l.getD k (Q4.cst 0)).v) x).a/\(D7 x.1>1->(Ce (Vi F) (Vi (List.replicate e.length 0)) x).b=(Ce (λk=>(l.getD k (Q4.cst 0)).f) (λk=>(l.getD k (Q4.cst 0)).v) x).b):=by
         have e1:=B8l (f:=Vi F) (d:=Vi (List.replicate e.length 0)) (d':=λk=>(l.getD k (Q4.cst 0)).v) (n:=x);rw [e1.1,e1.2]
         have gA:=hgf x.2.1.toNat (by omega)
         unfold Ce;dsimp only;by_cases k2:D7 x.1>1
         . rw [QL k2] at hpB
           have gB:=hgf x.2.2.1.toNat (by omega)
           rw [gA,gB];exact ⟨rfl,λ_=>rfl⟩
         . refine ⟨?_,λc=>absurd c k2⟩
           have:x.1=7 \/ x.1=8:=by
            unfold D7 at k2 kA;split at k2
            . omega
            . rename_i q;have:=hp.1;omega
           rcases this with h7 | h8
           . simp only [h7,Int.reduceEq,if_false,if_true]
           . simp only [h8,Int.reduceEq,if_false,if_true,gA]
        obtain ⟨sa,sb⟩:=B71 (f:=λk=>(l.getD k (Q4.cst 0)).f) (d:=λk=>(l.getD k (Q4.cst 0)).v) (n:=x) hf (λh6 h0=>hbad ⟨h6,h0⟩) (λh8=>by
         have hN:=hp.2.1;unfold Hu at hN
         rw [QJ (by omega),QJ (by omega),QL h8] at hN;omega)
        have go:∀ b:Bool,b=decide (D7 x.1>1)->(ob (f157 n x (vq F) (vq (List.replicate e.length 0))) λg =>
          gd (decide (0<=x.2.1)&&decide (x.2.1<((vq (l.map Q4.v)).length:Int))) (
           gd (decide (x.2.1.toNat<(vq (l.map Q4.v)).length)) (
            ob (f150 n g.1 ((vq (l.map Q4.v)).getD x.2.1.toNat (false,[],[]))) λj =>
            ob (f155 n x.1) λp =>
            bif p then
             gd (decide (0<=x.2.2.1)&&decide (x.2.2.1<((vq (l.map Q4.v)).length:Int))) (
              gd (decide (x.2.2.1.toNat<(vq (l.map Q4.v)).length)) (
               ob (f150 n g.2.1 ((vq (l.map Q4.v)).getD x.2.2.1.toNat (false,[],[]))) λr =>
               ob (f148 n j r) λs =>
               gd (decide (((vq (l.map Q4.v)).length+1)*56<=140737488355328)) (
                Np n m (vq F) (vq V) (vq (List.replicate e.length 0)) (W ((i:Int)+1)) e o (vq (l.map Q4.v)++[s]) k0)))
            else
             gd (decide (((vq (l.map Q4.v)).length+1)*56<=140737488355328)) (
              Np n m (vq F) (vq V) (vq (List.replicate e.length 0)) (W ((i:Int)+1)) e o (vq (l.map Q4.v)++[j]) k0))))=k0 (vq (Et X V e)):=by
         intro b hb
         rw [hpart,A2,C5,ZB,A4 (by simp;omega),A4 (by simp;omega),Bdr lA]
         unfold Aqs;dsimp only
         rw [pab.1,Ly sa (hv _) (by omega) hn,A2,Ie,A2,B3a,QH]
         by_cases k2:D7 x.1>1
         . rw [QL k2] at hpB ⊢
           have lB:x.2.2.1.toNat<l.length:=by omega
           rw [A4 (by simp;omega),A4 (by simp;omega),Bdr lB,pab.2 k2,Ly sb (hv _) (by omega) hn,A2,sPl (B0 sa (hv _)) (B0 sb (hv _)) (by omega) hn,A2]
           have:=hfin _ hq.symm;rw [C5,ZB] at this;exact this
         . rw [QJ k2]
           have hb0:(Ce (λk=>(l.getD k (Q4.cst 0)).f) (λk=>(l.getD k (Q4.cst 0)).v) x).b=0:=by
            refine (B8k ?_).1
            have:x.1=7 \/ x.1=8:=by
             unfold D7 at k2 kA;split at k2
             . omega
             . rename_i q;have:=hp.1;omega
            rcases this with h7 | h8
            . simp [A8e,h7]
            . simp [A8e,h8]
           have:=hfin ((Ce (λk=>(l.getD k (Q4.cst 0)).f) (λk=>(l.getD k (Q4.cst 0)).v) x).a*(l.getD x.2.1.toNat (Q4.cst 0)).v) (by rw [hq,hb0];grind)
           rw [C5,ZB] at this;exact this
        have key:=go _ rfl;rw [Ie,A2];by_cases k3:3<=x.1/\x.1<=6
        . rw [ZE k3,ZN,ZN];rw [Ie] at key;rw [ZE k3] at key;exact key
        . have h78:x.1=7 \/ x.1=8:=by have:=hp.1;omega
          rw [QT k3,QV,Rg,A2,ZE h78,ZN];rw [Ie] at key;rw [QT k3] at key;exact key
  . rw [QJ (by omega),ZV (by omega)];rfl

def Dx (e:List Nod) (o:Int) (x v:List Rt):Int:=if 4096<x.length \/ 4096<v.length then 2 else if I4 e o x ≠ 0 then I4 e o x else S7 x v

theorem B3u {n:Nat} {e:List Nod} {o:Int} {x v:List Rt} (hN:e.length<=1048576) (hn:1048577<=n):f96 n (e,o) x v=(bif (Dx e o x v != 0) then some ([],Dx e o x v) else ob (f52 n (e,o) x) λa=>some (a.1,a.2)):=by
 unfold f96
 rw [Ao1 (by simp) hn,A2,Akq hN hn,A2,B9g hn,A2,Ns (by simp) hn,A2,Bdf]
 have:K1 [if decide (4096<x.length \/ 4096<v.length)=true then 2 else 0,I4 e o x,S7 x v]=Dx e o x v:=by
  unfold Dx K1 K1 K1;by_cases h1:4096<x.length \/ 4096<v.length
  . simp [h1]
  . simp only [h1,decide_false,if_false,YE,if_true];by_cases h2:I4 e o x=0
    . simp only [h2,if_true,not_true_eq_false,ne_eq,if_false];unfold K1;split <;> simp_all
    . simp [h2]
 rw [this]

theorem B89 {e:List Nod} {o:Int} {x v:List Rt} (h:Dx e o x v=0):I4 e o x=0/\I5 v=true/\v.length=x.length:=by
 unfold Dx S7 at h;split at h
 . omega
 . split at h
   . rename_i h2;exact absurd h h2
   . rename_i h2;split at h
     . split at h
       . exact ⟨by simpa using h2,‹_›,‹_›⟩
       . omega
     . omega

theorem B8d {α:Type} {n:Nat} {e:List Nod} {o:Int} {x v:List Rt} (hN:e.length<=1048576) (hn:1048577<=n) {k:Int->Option α} (hk:∀ c,c ≠ 0->k c=k c) :
  (bif (decide ((x.length:Int)>4096)) then k 2 else bif (decide ((v.length:Int)>4096)) then k 2 else ob (f92 n (e,o) x v) λa=>k a)=k (Dx e o x v):=by
 rw [QH,QH];by_cases h1:4096<x.length
 . have:Dx e o x v=2:=by unfold Dx;rw [QL (.inl h1)]
   rw [QL (by omega),this]
 . by_cases h2:4096<v.length
   . have:Dx e o x v=2:=by unfold Dx;rw [QL (.inr h2)]
     rw [QJ (by omega),QL (by omega),this]
   . rw [QJ (by omega),QJ (by omega)]
     have hs:Dx e o x v=if I4 e o x ≠ 0 then I4 e o x else S7 x v:=by unfold Dx;rw [QJ (by omega)]
     unfold f92
     rw [QH,QJ (by omega),B69 hN hn,A2]
     by_cases h3:I4 e o x=0
     . rw [h3,XW,QV,B67 hn,A2,A2];have hv:=(Aq3 h3).2.1
       have hw:Aqa [x,v]=S7 x v:=by
        unfold Aqa S7
        rw [Bdf,QT (by omega),QJ (by simp)]
        have:([x,v].all I5)=I5 v:=by simp [hv]
        rw [this]
        cases h4:I5 v with
        | false=>rfl
        | true =>
         simp only [if_true];by_cases h5:v.length=x.length
         . rw [QL h5,QL (by simp [h5])]
         . rw [QJ h5,QJ (by simp;omega)]
       have hs:Dx e o x v=S7 x v:=by rw [hs,h3];rfl
       rw [hs,hw]
     . rw [show (I4 e o x != 0)=true by simpa using h3,ZN,A2,hs,QL h3]

theorem B9f {n:Nat} {x:List Rat} (hl:x.length<=1048576) (hn:1048577<=n):Ars n (vq x)=some (if x.all Bt=true then .inl (((),0),vq x) else .inr (((),7),vq x)):=by
 unfold Ars;rw [Ams hl hn,A2]
 cases x.all Bt <;> rfl

theorem B8z {l:List Q4}:l.map fq=vq (l.map Q4.f):=by simp [vq,fq,Function.comp_def]

theorem B86 {n:Nat} {e:List Nod} {o:Int} {x v:List Rt} (hN:e.length<=1048576) (hn:68719476736<=n) (hs:Dx e o x v=0) :
  ∃ X V:List Rat,x=vq X/\v=vq V/\1<=X.length/\X.length<=4/\o=(e.length:Int)-1/\1<=e.length/\((∃ c,c ≠ 0/\f52 n (e,o) x=some ([],c)/\f93 n (e,o) x=some ([],c)) \/
   (Cw X V e/\f52 n (e,o) x=some (vq ((evs (Ar X) (λ_=>0) (Ar V) e []).map Q4.f),0)/\f93 n (e,o) x=some (vq ((evs (Ar X) (λ_=>0) (Ar V) e []).map Q4.f),0))):=by
 obtain ⟨ha,hvv,hlen⟩:=B89 hs;obtain ⟨ht,hv,hd,hl⟩:=Aq3 ha;obtain ⟨X,rfl,hX,x1,x4⟩:=Aui hv;obtain ⟨V,rfl,hV,v1,v4⟩:=Aui hvv;rw [C5] at hd hl;rw [C5,C5] at hlen;obtain ⟨hp,e1,e60,eo⟩:=B2o ht hd;refine ⟨X,V,rfl,rfl,x1,x4,eo,e1,?_⟩
 have h103:=Akq (n:=n) (e:=e) (o:=o) (l:=vq X) hN (by omega)
 rw [ha] at h103
 have h104:=B8r (n:=n) (X:=X) (V:=List.replicate X.length 0) hp e60 (by simp) hn
 have h93:=B2j (n:=n) (o:=o) hp e60 hX hn;rcases B2n (X:=X) (e:=e) with ⟨c,a,b,d⟩ | ⟨L,M,a,b,i,g,h⟩
 . left;rw [a] at h93;rw [b] at h104
   have hc:(c != 0)=true:=by simpa using d
   refine ⟨c,d,?_,h93⟩;unfold f52;rw [h103,A2,XW,QV,h104,A2];dsimp only;rw [hc,ZN]
 . right;have htv:=Cw.of hp e60 hlen hX hV a;rw [a] at h93;rw [b] at h104
   have eL:L=evs (Ar X) (λ_=>0) (λ_=>0) e []:=(A0e e [] L (λk hk=>by simp at hk) a).2
   have e52:f52 n (e,o) (vq X)=some (M.map fq,0):=by
    unfold f52;rw [h103,A2,XW,QV,h104,A2];dsimp only
    rw [XW,QV,ZB,Bcm (by omega) h (by omega),A2]
   have same:L.map fq=vq ((evs (Ar X) (λ_=>0) (Ar V) e []).map Q4.f):=by
    rw [<- B8z]
    refine Avo (by rw [eL,Cr,Cr]) (λk=>?_)
    rw [eL];exact Aqk _ _ _ _ _ e k
   exact ⟨htv,by rw [e52,<- g,same],by rw [h93];show some (L.map fq,(0:Int))=_;rw [same]⟩

theorem B2p {n:Nat} {e:List Nod} {o:Int} {x v:List Rt} (hN:e.length<=1048576) (hn:68719476736<=n):∃ (r:List Rt) (c:Int),f44 n (e,o) x v=some (r,c)/\f42 n (e,o) x v=some (r,c) /\
  A9t n (e,o) x v=some (if c=0 then .inl (r,0) else .inr ((),c))/\SmL r/\(c ≠ 0->r=[]):=by
 have nilS:SmL []:=⟨by simp,λy hy=>by cases hy⟩
 have g96:=B3u (n:=n) (e:=e) (o:=o) (x:=x) (v:=v) hN (by omega)
 have g42 : f42 n (e, o) x v = _ := B8d (n := n) (e := e) (o := o) (x := x) (v := v) (k := fun b => bif (b != 0) then some (([], b) : List Rt × Int) else
       ob (f93 n (e,o) x) λa =>
       bif (a.2 != 0) then
        some ([],a.2)
       else
        ob (f95 n (e,o) a.1 v) λh =>
        ob (f94 n h) λd =>
        some (d.1,d.2)) hN (by omega) (λ_ _=>rfl)
 by_cases ha:Dx e o x v=0
 . obtain ⟨X,V,rfl,rfl,x1,x4,eo,e1,hr⟩:=B86 (n:=n) hN hn ha;rw [ha,XW,QV] at g96 g42;rcases hr with ⟨c,g,h52,h93⟩ | ⟨ht,h52,h93⟩
   . have hc:(c != 0)=true:=by simpa using g
     rw [h52,A2] at g96;rw [h93,A2] at g42;dsimp only at g42;rw [hc,ZN] at g42;refine ⟨[],c,?_,g42,?_,nilS,λ_=>rfl⟩
     . unfold f44;rw [g96,A2];dsimp only;rw [hc,ZN]
     . unfold A9t;rw [g96,A2];dsimp only;rw [hc,ZN,QJ g]
   . have hlen:(Et X V e).length=e.length:=by unfold Et;rw [ZB,Cr];simp
     have he:=ht.len
     have h95:f95 n (e,o) (vq ((evs (Ar X) (λ_=>0) (Ar V) e []).map Q4.f)) (vq V)=some (vq (Et X V e)):=by
      unfold f95;dsimp only
      rw [B8b (by omega) (by omega),A2]
      have:=A5s (o:=o) ht hn rfl (k0:=λi=>some i) n 0 (by omega) (by omega)
      exact this
     rw [h52,A2] at g96;rw [h93,A2] at g42;dsimp only at g42
     rw [XW,QV,h95,A2,B8e (by omega) (by omega),A2] at g42
     refine ⟨(Qa (Et X V e)).1,(Qa (Et X V e)).2,?_,g42,?_,B91 (by omega),B90⟩
     . unfold f44;rw [g96,A2];dsimp only
       rw [XW,QV,Bic ht x1 hn,A2,Agu (by omega) (by omega),A2];rfl
     . unfold A9t;rw [g96,A2];dsimp only
       rw [XW,QV,Bdm ht x1 hn,A2,B9f (by omega) (by omega),A2]
       unfold Qa;by_cases hf:(Et X V e).all Bt=true
       . rw [QL hf,QL hf];rfl
       . rw [QJ hf,QJ hf];simp only [Fv,XF,XP,I9];rfl
 . have hc:(Dx e o x v != 0)=true:=by simpa using ha
   rw [hc,ZN] at g96 g42;refine ⟨[],_,?_,g42,?_,nilS,λ_=>rfl⟩
   . unfold f44;rw [g96,A2];dsimp only;rw [hc,ZN]
   . unfold A9t;rw [g96,A2];dsimp only;rw [hc,ZN,QJ ha]

theorem Biz {n:Nat} {e:List Nod} {o:Int} {l v:List Rt} (he:e.length<=9223372036854775807) (hl:BdL l) (hv:BdL v) (hn:68719476736<=n):f7 n (e,o) l v=some true:=by
 have hn1:1048577<=n:=by omega
 unfold f7;obtain ⟨r,e1,c⟩:=B9q (n:=n) (o:=o) he;rw [e1,A2];rcases c with rfl | ⟨b,a⟩
 . rfl
 obtain ⟨r',e',c'⟩:=Ao6 b hl hn1
 rw [QH,QJ (by omega),e',A2]
 rcases c' with rfl | ⟨b',sl⟩
 . rfl
 obtain ⟨r'',e'',c''⟩:=Ao6 b' hv hn1
 rw [QH,QJ (by omega),e'',A2]
 rcases c'' with rfl | ⟨b'',sv⟩
 . rfl
 obtain ⟨R,c,a1,a2,a3,a4,a5⟩:=B2p (n:=n) (e:=e) (o:=o) (x:=l) (v:=v) a hn;have x1:f43 n (e,o)=some (e,o):=Bes a hn1;have x2:=Axf sl.1 sl.2 hn1;have x2':=Axf sv.1 sv.2 hn1;have x3:Ahs n (e,o)=some (e,o):=B9p a hn1;have x4:=Ao5 sl hn1;have x4':=Ao5 sv hn1;have x5:=Bep (o:=o) a hn1;have x6:=Ahx sl.1 sl.2 hn1;have x6':=Ahx sv.1 sv.2 hn1;have m1:=B9m (n:=n) (o:=o) a hn1;have u1:=Sp l (1+4*(e.length:Int));have u0:=Agi l (1+4*(e.length:Int)) sl.2;have sl1:=sl.1;have sv1:=sv.1
 have m2:=A9x (n:=n) (k:=1+4*(e.length:Int)) sl (by omega) (by omega) hn1
 have m2':=A9x (n:=n) (k:=(Bz l (1+4*(e.length:Int))).1) sv (by omega) (by omega) hn1
 have u2:=Sp v (Bz l (1+4*(e.length:Int))).1
 have z1:decide ((Bz v (Bz l (1+4*(e.length:Int))).1).1<0)=false:=by
  simp;omega
 have one:decide ((1:Int)<0)=false:=rfl;have q:f35 n R R=some true:=Ahx a4.1 a4.2 hn1
 rw [QH,QJ (by omega),x1,A2,x2,A2,x2',A2,a2,A2,x3,A2,x4,A2,x4',A2,a3,A2]
 by_cases h0:c=0
 . subst h0;rw [QL rfl]
   have m3:=A9x (n:=n) (k:=1) a4 (by omega) (by omega) hn1
   have h3:=Bem (n:=n) (k:=1) a4 (by omega) (by omega) hn1
   have z2:decide ((Bz R 1).1<0)=false:=by
    have:=Sp R 1;simp;omega
   simp only [Fv,A2,q,ZR,QV,XW,x1,x2,x5,x6,x2',x6',m1,m2,m2',a1,m3,h3,z1,z2,Fy,L3,Yp,XF,XP,I9]
 . have e0:=a5 h0;subst e0;rw [QJ h0];simp only [Fv,A2,q,ZR,QV,XW,x1,x2,x5,x6,x2',x6',m1,m2,m2',a1,B9r hn1,B9k hn1,z1,one,Fy,L3,Yp,XF,XP,I9]

end Go.Ev
