/- DERIVED. The plain laws: what the models compute. -/
import Derived.Test.YtdheaaapdlekdaaGreatTc

set_option linter.all false
set_option linter.unusedVariables false
set_option linter.unusedSimpArgs false

namespace Go.Ev
open Go

theorem Ab {x:Int} (h:-9223372036854775808<=x) (h':x<9223372036854775808):W x=x:=At5 h h'

@[simp] theorem A1 {α β:Type} (r:β) (k:β->Option α):ob (some r) k=k r:=rfl

@[simp] theorem Biu {α β:Type} (k:β->Option α):ob (none:Option β) k=none:=rfl

@[simp] theorem Biv {α:Type} (x:Option α):gd true x=x:=rfl

@[simp] theorem Bio {α:Type} (x:Option α):gd false x=none:=rfl

theorem A3 {α:Type} {g:Bool} (h:g=true) (x:Option α):gd g x=x:=by rw [h];rfl

theorem B5 {α:Type} {l m:List α} {i:Nat} {d:α} (h:i<l.length):(l++m).getD i d=l.getD i d:=by
 simp [QH,ZB h]

theorem Bl {α:Type} {l:List α} {x d:α}:(l++[x]).getD l.length d=x:=by
 simp [QH]

theorem Kk {α:Type} {l r:List α} {x d:α} {k:Nat} (h:l.drop k=x::r):l.getD k d=x/\k<l.length/\l.drop (k+1)=r:=by
 have hk:k<l.length:=by
  rcases ZW k l.length with h' | h'
  . exact h'
  . rw [QX h'] at h;cases h
 have:=XQ hk;rw [h] at this;injection this with h1 h2
 exact ⟨by simp [QH,hk,h1],hk,h2.symm⟩

def vl:List Int->Int
 | []=>0
 | x::r=>x+10000*vl r

def Lm (l:List Int):Prop:=∀ x ∈ l,0<=x/\x<10000

def dg (n:Nat):List Int:=if n=0 then [] else ((n % 10000:Nat):Int)::dg (n / 10000)
termination_by n
decreasing_by omega

theorem C8:dg 0=[]:=by rw [dg];rfl

theorem Dx {n:Nat} (h:n ≠ 0):dg n=((n % 10000:Nat):Int)::dg (n / 10000):=by rw [dg,QI h]

theorem Lm.nil:Lm []:=λ_ h=>by cases h

theorem Lm.cons {x:Int} {l:List Int} (hx:0<=x/\x<10000) (hl:Lm l):Lm (x::l):=λy hy=>by
 rcases QW.1 hy with rfl | hy
 . exact hx
 . exact hl y hy

theorem Lm.head {x:Int} {l:List Int} (h:Lm (x::l)):0<=x/\x<10000:=h x (by simp)

theorem Lm.tail {x:Int} {l:List Int} (h:Lm (x::l)):Lm l:=λy hy=>h y (by simp [hy])

theorem Lm.app {l m:List Int} (h:Lm l) (h':Lm m):Lm (l++m):=λy hy=>(QE.1 hy).elim (h y) (h' y)

theorem Lm.take {l:List Int} (h:Lm l) (k:Nat):Lm (l.take k):=λy hy=>h y (Qbh hy)

theorem Lm.drop {l:List Int} (h:Lm l) (k:Nat):Lm (l.drop k):=λy hy=>h y (List.mem_of_mem_drop hy)

theorem Lm.set {l:List Int} (h:Lm l) (k:Nat) {x:Int} (hx:0<=x/\x<10000):Lm (l.set k x):=λy hy=>by
 rcases Qaf hy with hy | rfl
 . exact h y hy
 . exact hx

theorem Lm.get {l:List Int} (h:Lm l) (k:Nat):0<=l.getD k 0/\l.getD k 0<10000:=by
 rw [QH]
 cases e:l[k]? with
 | none=>simp
 | some x=>exact h x (ZM e)

theorem Lm.rep (n:Nat):Lm (List.replicate n 0):=λy hy=>by
 obtain rfl:=(List.mem_replicate.1 hy).2;omega

theorem E9 (n:Nat):Lm (dg n):=by
 induction n using Nat.strongRecOn with
 | _ n ih =>
  by_cases h:n=0
  . subst h;rw [C8];exact Lm.nil
  . rw [Dx h]
    exact Lm.cons (by omega) (ih _ (by omega))

theorem Bh (n:Nat):vl (dg n)=n:=by
 induction n using Nat.strongRecOn with
 | _ n ih =>
  by_cases h:n=0
  . subst h;rw [C8];rfl
  . rw [Dx h,vl,ih _ (by omega)]
    omega

theorem Bd {l:List Int} (h:Lm l):0<=vl l:=by
 induction l with
 | nil=>exact JG _
 | cons x r ih =>
  have:=h.head;have:=ih h.tail;simp only [vl];omega

theorem Fs (k:Nat):(0:Int)<10000 ^ k:=Int.pow_pos (by omega)

theorem C5 (k:Nat):(10000:Int) ^ (k+1)=10000*10000 ^ k:=by rw [Qal,Int.mul_comm]

theorem Z9 {i j:Nat} (h:i<=j):(10000:Int) ^ i<=10000 ^ j:=by
 induction j with
 | zero => obtain rfl : i = 0 := by omega
           exact JG _
 | succ j ih =>
  by_cases e:i=j+1
  . subst e;exact JG _
  . have:=ih (by omega)
    have:=Fs j;rw [C5];omega

theorem Apm {i j:Nat} (h:(10000:Int) ^ i<10000 ^ j):i<j:=by
 rcases ZW i j with h' | h'
 . exact h'
 . have:=Z9 h';omega

theorem I4 {l:List Int} (h:Lm l):vl l<10000 ^ l.length:=by
 induction l with
 | nil=>simp [vl]
 | cons x r ih =>
  have:=h.head;have:=ih h.tail;simp only [vl,ZD,C5];omega

theorem A5l (l m:List Int):vl (l++m)=vl l+10000 ^ l.length*vl m:=by
 induction l with
 | nil=>simp [vl]
 | cons x r ih=>simp only [YA,vl,ih,ZD,C5];grind

theorem Ra (l:List Int) (x:Int):vl (l++[x])=vl l+10000 ^ l.length*x:=by rw [A5l];simp [vl]

theorem We (n:Nat):vl (List.replicate n 0)=0:=by
 induction n with
 | zero=>rfl
 | succ n ih=>simp [List.replicate_succ,vl,ih]

theorem Cb {l:List Int} {k:Nat} (h:k<l.length):vl (l.take (k+1))=vl (l.take k)+10000 ^ k*l.getD k 0:=by
 rw [YY h,Ra,KM,Qac (by omega),QH,QM h]
 rfl

theorem Lr {l:List Int} {k:Nat} (x:Int) (h:k<l.length):vl (l.set k x)=vl l+10000 ^ k*(x-l.getD k 0):=by
 induction l generalizing k with
 | nil=>simp at h
 | cons y r ih =>
  cases k with
  | zero=>simp [vl];omega
  | succ k =>
   have:=ih (k:=k) (by simpa using h)
   simp only [List.set_cons_succ,vl,this,Qbp,C5];grind

def Cn (l:List Int):Prop:=Lm l/\(l ≠ []->l.getD (l.length-1) 0 ≠ 0)

theorem Gb (n:Nat):Cn (dg n):=by
 refine ⟨E9 n,?_⟩
 induction n using Nat.strongRecOn with
 | _ n ih =>
  by_cases h:n=0
  . subst h;rw [C8];exact λh=>absurd rfl h
  . rw [Dx h];intro _;by_cases e:dg (n / 10000)=[]
    . rw [e]
      have h0:n / 10000=0:=by
       have:=Bh (n / 10000);rw [e] at this;simp only [vl] at this;omega
      simp;omega
    . have:=ih (n / 10000) (by omega) e
      have hl:0<(dg (n / 10000)).length:=XP.2 e;simp only [ZD,Qam]
      rw [show (dg (n / 10000)).length=((dg (n / 10000)).length-1)+1 by omega,Qbp]
      exact this

theorem Cn.tail {x:Int} {l:List Int} (h:Cn (x::l)):Cn l:=by
 refine ⟨h.1.tail,λhn=>?_⟩
 have:=h.2 (by simp)
 have hl:0<l.length:=XP.2 hn;simp only [ZD,Qam] at this
 rw [show l.length=(l.length-1)+1 by omega,Qbp] at this
 exact this

theorem Cn.pos {l:List Int} (h:Cn l) (hn:l ≠ []):0<vl l:=by
 induction l with
 | nil=>exact absurd rfl hn
 | cons x r ih =>
  have hx:=h.1.head;have hr:=Bd h.1.tail;by_cases e:r=[]
  . subst e
    have:=h.2 (by simp)
    simp at this;simp only [vl];omega
  . have:=ih h.tail e;simp only [vl];omega

theorem I7 {l:List Int} (h:Cn l):dg (vl l).toNat=l:=by
 induction l with
 | nil=>exact C8
 | cons x r ih =>
  have hx:=h.1.head;have hr:=Bd h.1.tail
  have hp:=h.pos (by simp)
  have ih:=ih h.tail;simp only [vl] at hp ⊢
  rw [Dx (by omega)]
  congr 1
  . omega
  . rw [<- ih];congr 1;rw [ih];omega

theorem Cn.ge {l:List Int} (h:Cn l) (hn:l ≠ []):(10000:Int) ^ (l.length-1)<=vl l:=by
 have hl:0<l.length:=XP.2 hn
 have h1:=Cb (l:=l) (k:=l.length-1) (by omega)
 rw [show l.length-1+1=l.length by omega,YB] at h1
 have h2:=h.2 hn;have h3:=h.1.get (l.length-1);have h4:=Bd (h.1.take (l.length-1));have h5:=Fs (l.length-1)
 have h6:(10000:Int) ^ (l.length-1)*1<=10000 ^ (l.length-1)*l.getD (l.length-1) 0:=XG (by omega) (by omega)
 omega

theorem Sj {n k:Nat}:(dg n).length<=k ↔ (n:Int)<10000 ^ k:=by
 constructor
 . intro h;have:=I4 (E9 n);rw [Bh] at this;exact Int.lt_of_lt_of_le this (Z9 h)
 . intro h;by_cases e:dg n=[]
   . rw [e];simp
   . have:=(Gb n).ge e;rw [Bh] at this;have:=Apm (Int.lt_of_le_of_lt this h);have hl:0<(dg n).length:=XP.2 e;omega

theorem Bg9 {n:Nat}:dg n=[] ↔ n=0:=by
 constructor
 . intro h;have:=Bh n;rw [h] at this;simp only [vl] at this;omega
 . rintro rfl;exact C8

theorem B05 {a b:Nat} (h:dg a=dg b):a=b:=by
 have h1:=Bh a;rw [h,Bh] at h1;omega

theorem Bc {a b:Nat} (h:a<=b):(dg a).length<=(dg b).length:=by
 refine Sj.2 ?_;have:=I4 (E9 b);rw [Bh] at this;omega

def cm (x y:Int):Int:=if x<y then -1 else if x=y then 0 else 1

theorem V6 {a b:List Int} (ha:Lm a) (hb:Lm b) {k:Nat} (h1:k<a.length) (h2:k<b.length) (h:a.getD k 0<b.getD k 0):vl (a.take (k+1))<vl (b.take (k+1)):=by
 rw [Cb h1,Cb h2];have q1:=I4 (ha.take k)
 rw [KM,Qac (by omega)] at q1
 have q2:=Bd (hb.take k)
 have q3:(10000:Int) ^ k*(a.getD k 0+1)<=10000 ^ k*b.getD k 0:=XG (by omega) (by have:=Fs k;omega)
 rw [Int.mul_add,Int.mul_one] at q3;omega

theorem Cn.lt_of_len {a b:List Int} (ha:Cn a) (hb:Cn b) (h:a.length<b.length):vl a<vl b:=by
 have h1:=I4 ha.1
 have h2:=hb.ge (by intro e;subst e;simp at h)
 have h3:(10000:Int) ^ a.length<=10000 ^ (b.length-1):=Z9 (by omega)
 omega

theorem Cn.of_take {l:List Int} (h:Lm l) {t:Nat} (ht:t<=l.length) (hl:t=0 \/ l.getD (t-1) 0 ≠ 0):Cn (l.take t):=by
 refine ⟨h.take t,λhn=>?_⟩
 have hlen:(l.take t).length=t:=by simp;omega
 rcases hl with rfl | hl
 . simp at hn
 . have ht0:t ≠ 0:=by rintro rfl;simp at hn
   rw [hlen,QH,XJ,QG (by omega),<- QH]
   exact hl

theorem tdv {x:Int} (h:0<=x):Int.tdiv x 10000=x / 10000:=YP h

theorem tmd {x:Int} (h:0<=x):Int.tmod x 10000=x % 10000:=JY h

theorem Am7 {α:Type} {n:Nat} {l:List Int} (hN:l.length<=1099511627776) {k0:List Int->Int->Option α}:∀ (m k:Nat),k<m->k<=l.length ->
  ∃ t,t<=k/\Zz n m l (k:Int) k0=k0 l (t:Int)/\vl (l.take t)=vl (l.take k)/\(t=0 \/ l.getD (t-1) 0 ≠ 0)
 | 0,k,h,_=>by omega
 | m+1,k,h,hk=>by
  rw [Aw2];unfold A2i;dsimp only;by_cases h0:k=0
  . subst h0;exact ⟨0,ZG _,rfl,rfl,.inl rfl⟩
  . rw [QK,QG (by omega),Ab (by omega) (by omega),A3 (by simp;omega)]
    have e:((k:Int)-1).toNat=k-1:=by omega
    rw [e,ZZ];by_cases hz:l.getD (k-1) 0=0
    . rw [QG (by rw [hz];rfl)]
      obtain ⟨t,h1,h2,h3,h4⟩:=Am7 (n:=n) hN (k0:=k0) m (k-1) (by omega) (by omega)
      refine ⟨t,by omega,?_,?_,h4⟩
      . rw [show (k:Int)-1=((k-1:Nat):Int) by omega];exact h2
      . rw [h3]
        have:=Cb (l:=l) (k:=k-1) (by omega)
        rw [show k-1+1=k by omega,hz] at this
        rw [this];simp
    . rw [QI (by simpa using hz)]
      exact ⟨k,ZG _,rfl,rfl,.inr hz⟩

theorem Zy {n:Nat} {l:List Int} (hl:Lm l) (hN:l.length<=1099511627776) (hn:l.length<n):f216 n l=some (dg (vl l).toNat):=by
 unfold f216;obtain ⟨t,h1,h2,h3,h4⟩:=Am7 (n:=n) hN (k0:=λz_1 z_2=>gd (decide (0<=z_2)&&decide (z_2<=(z_1.length:Int))) (gd (decide ((0+((z_1.drop 0).take (z_2.toNat-0)).length)*8<=140737488355328)) (some ((z_1.drop 0).take (z_2.toNat-0))))) n l.length hn (ZG _)
 rw [h2,A3 (by simp;omega),A3 (by simp;omega)]
 simp only [ZJ,QO,KX];rw [YB] at h3
 rw [<- h3,I7 (Cn.of_take hl (by omega) h4)]

theorem Am6 {α:Type} {n:Nat} {l:List Int} (hN:l.length<=1099511627776) {k0:List Int->Int->Option α}:∀ (m k:Nat),k<m->k<=l.length ->
  ∃ t,t<=k/\A01 n m l (k:Int) k0=k0 l (t:Int)/\vl (l.take t)=vl (l.take k)/\(t=0 \/ l.getD (t-1) 0 ≠ 0)
 | 0,k,h,_=>by omega
 | m+1,k,h,hk=>by
  rw [Awi];unfold A31;dsimp only;by_cases h0:k=0
  . subst h0;exact ⟨0,ZG _,rfl,rfl,.inl rfl⟩
  . rw [QK,QG (by omega),Ab (by omega) (by omega),A3 (by simp;omega)]
    have e:((k:Int)-1).toNat=k-1:=by omega
    rw [e,ZZ];by_cases hz:l.getD (k-1) 0=0
    . rw [QG (by rw [hz];rfl)]
      obtain ⟨t,h1,h2,h3,h4⟩:=Am6 (n:=n) hN (k0:=k0) m (k-1) (by omega) (by omega)
      refine ⟨t,by omega,?_,?_,h4⟩
      . rw [show (k:Int)-1=((k-1:Nat):Int) by omega];exact h2
      . rw [h3]
        have:=Cb (l:=l) (k:=k-1) (by omega)
        rw [show k-1+1=k by omega,hz] at this
        rw [this];simp
    . rw [QI (by simpa using hz)]
      exact ⟨k,ZG _,rfl,rfl,.inr hz⟩

theorem Rw {n:Nat} {l:List Int} (hl:Lm l) (hN:l.length<=1099511627776) (hn:l.length<n):f202 n l=some (dg (vl l).toNat):=by
 unfold f202;obtain ⟨t,h1,h2,h3,h4⟩:=Am6 (n:=n) hN (k0:=λz_1 z_2=>gd (decide (0<=z_2)&&decide (z_2<=(z_1.length:Int))) (some ((z_1.drop 0).take (z_2.toNat-0)))) n l.length hn (ZG _)
 rw [h2,A3 (by simp;omega)]
 simp only [ZJ,QO,KX];rw [YB] at h3
 rw [<- h3,I7 (Cn.of_take hl (by omega) h4)]

theorem Af8 {α:Type} {n:Nat} {k0:List Int->Option α}:∀ (m x:Nat) (o:List Int),(x:Int)<=9223372036854775807->(dg x).length<m->o.length+(dg x).length<=1099511627776->A06 n m (x:Int) o k0=k0 (o++dg x)
 | 0,x,o,_,h,_=>by omega
 | m+1,x,o,hx,h,hN=>by
  rw [Ax1];unfold A3m;dsimp only;by_cases h0:x=0
  . subst h0;rw [C8];simp
  . rw [Dx h0] at h hN ⊢;simp only [ZD] at h hN
    rw [QK,QG (by omega),A3 (by simp;omega),tdv (by omega),tmd (by omega),Ab (by omega) (by omega),show (x:Int) / 10000=((x / 10000:Nat):Int) by omega,show (x:Int) % 10000=((x % 10000:Nat):Int) by omega]
    rw [Af8 (n:=n) m (x / 10000) _ (by omega) (by omega) (by simp;omega)]
    simp

theorem Ry {n:Nat} {x:Nat} (hx:(x:Int)<=9223372036854775807) (hn:10<n):f194 n (x:Int)=some (dg x):=by
 have hl:(dg x).length<=5:=Sj.2 (by rw [show (10000:Int) ^ 5=100000000000000000000 from rfl];omega)
 unfold f194
 rw [Af8 (n:=n) n x [] hx (by omega) (by simp;omega)]
 simp

theorem Af9 {α:Type} {n:Nat} {k0:List Int->Option α}:∀ (m x:Nat) (o:List Int),(x:Int)<=9223372036854775807->(dg x).length<m->o.length+(dg x).length<=1099511627776->A0b n m (x:Int) o k0=k0 (o++dg x)
 | 0,x,o,_,h,_=>by omega
 | m+1,x,o,hx,h,hN=>by
  rw [Ayd];unfold A4e;dsimp only;by_cases h0:x=0
  . subst h0;rw [C8];simp
  . rw [Dx h0] at h hN ⊢;simp only [ZD] at h hN
    rw [QK,QG (by omega),A3 (by simp;omega),tdv (by omega),tmd (by omega),Ab (by omega) (by omega),show (x:Int) / 10000=((x / 10000:Nat):Int) by omega,show (x:Int) % 10000=((x % 10000:Nat):Int) by omega]
    rw [Af9 (n:=n) m (x / 10000) _ (by omega) (by omega) (by simp;omega)]
    simp

theorem S7 {n:Nat} {x:Nat} (hx:(x:Int)<=9223372036854775807) (hn:10<n):f150 n (x:Int)=some (dg x):=by
 have hl:(dg x).length<=5:=Sj.2 (by rw [show (10000:Int) ^ 5=100000000000000000000 from rfl];omega)
 unfold f150
 rw [Af9 (n:=n) n x [] hx (by omega) (by simp;omega)]
 simp

theorem Kw {n:Nat} {b:Bool}:f174 n b=some (if b=true then 1 else 0):=by cases b <;> rfl

theorem Jv {x y:Int} (h:x<y):cm x y = -1:=by unfold cm;rw [QG h]

theorem Jw {x y:Int} (h:y<x):cm x y=1:=by unfold cm;rw [QI (by omega),QI (by omega)]

theorem Lo {x y:Int} (h:x=y):cm x y=0:=by unfold cm;rw [QI (by omega),QG h]

theorem B08 (x y z:Int):cm (x+z) (y+z)=cm x y:=by
 rcases Int.lt_trichotomy x y with h | h | h
 . rw [Jv h,Jv (by omega)]
 . rw [Lo h,Lo (by omega)]
 . rw [Jw h,Jw (by omega)]

theorem B07 {α:Type} {n:Nat} {a b:List Int} (ha:Lm a) (hb:Lm b) (hab:a.length=b.length) (hN:a.length<=1099511627776) {k0:Int->Option α} {k1:Unit->Option α}:∀ (m k:Nat),k<m->k<=a.length ->
  A04 n m a b ((k:Int)-1) k0 k1=if vl (a.take k)=vl (b.take k) then k1 () else k0 (cm (vl (a.take k)) (vl (b.take k)))
 | 0,k,h,_=>by omega
 | m+1,k,h,hk=>by
  rw [Awq];unfold A3a;dsimp only;by_cases h0:k=0
  . subst h0;simp
  . rw [QK,QG (by omega),A3 (by simp;omega),A3 (by simp;omega)]
    have e:((k:Int)-1).toNat=k-1:=by omega
    rw [e,ZZ]
    have ta:=Cb (l:=a) (k:=k-1) (by omega)
    have tb:=Cb (l:=b) (k:=k-1) (by omega)
    rw [show k-1+1=k by omega] at ta tb
    by_cases hz:a.getD (k-1) 0=b.getD (k-1) 0
    . rw [QI (by simpa using hz),Ab (by omega) (by omega)]
      rw [show (k:Int)-1-1=((k-1:Nat):Int)-1 by omega,B07 (n:=n) ha hb hab hN m (k-1) (by omega) (by omega)]
      rw [ta,tb,hz];by_cases h1:vl (a.take (k-1))=vl (b.take (k-1))
      . rw [QG h1,QG (by omega)]
      . rw [QI h1,QI (by omega)]
        rw [B08]
    . rw [QG (by simpa using hz),A3 (by simp;omega),A3 (by simp;omega),Kw,A1]
      rcases Int.lt_or_gt_of_ne hz with h1 | h1
      . have:=V6 ha hb (k:=k-1) (by omega) (by omega) h1
        rw [show k-1+1=k by omega] at this
        rw [show (if vl (a.take k)=vl (b.take k) then k1 () else k0 (cm (vl (a.take k)) (vl (b.take k))))=k0 (-1) by rw [QI (by omega),Jv this],QI (by rw [QN];omega)]
        rfl
      . have:=V6 hb ha (k:=k-1) (by omega) (by omega) h1
        rw [show k-1+1=k by omega] at this
        rw [show (if vl (a.take k)=vl (b.take k) then k1 () else k0 (cm (vl (a.take k)) (vl (b.take k))))=k0 1 by rw [QI (by omega),Jw this],QG (by rw [QN];omega)]
        rfl

theorem B8k {n:Nat} {a b:List Int} (ha:Cn a) (hb:Cn b) (hN:a.length<=1099511627776) (hn:a.length<n):f199 n a b=some (cm (vl a) (vl b)):=by
 unfold f199;rw [ZZ];by_cases h:a.length=b.length
 . rw [QI (by simp [h]),Ab (by omega) (by omega),B07 (n:=n) ha.1 hb.1 h hN n a.length hn (ZG _)]
   rw [YB,h,YB];by_cases h1:vl a=vl b
   . rw [QG h1,Lo h1]
   . rw [QI h1]
 . rw [QG (by simp;omega),Kw,A1]
   rcases Nat.lt_or_gt_of_ne h with h1 | h1
   . rw [Jv (ha.lt_of_len hb h1),QI (by simp;omega)];rfl
   . rw [Jw (hb.lt_of_len ha h1),QG (by simp;omega)];rfl

theorem B06 {α:Type} {n:Nat} {a b:List Int} (ha:Lm a) (hb:Lm b) (hab:a.length=b.length) {k0 k1:Int->Option α}:∀ (k:Nat),k<=a.length ->
  Pf n a k a b 0 k0 k1=if vl (a.take k)=vl (b.take k) then k0 0 else k1 (cm (vl (a.take k)) (vl (b.take k)))
 | 0,_=>by rw [Ay2];simp
 | k+1,hk=>by
  rw [Ay0];unfold A42;dsimp only
  rw [A3 (by simp;omega),ZZ]
  have ta:=Cb (l:=a) (k:=k) (by omega)
  have tb:=Cb (l:=b) (k:=k) (by omega)
  simp only [QO];by_cases hz:a.getD k 0=b.getD k 0
  . rw [QI (by simpa using hz),A3 (by simp),B06 ha hb hab k (by omega)]
    rw [ta,tb,hz];by_cases h1:vl (a.take k)=vl (b.take k)
    . rw [QG h1,QG (by omega)]
    . rw [QI h1,QI (by omega)]
      rw [B08]
  . rw [QG (by simpa using hz),A3 (by simp;omega),QK]
    rcases Int.lt_or_gt_of_ne hz with h1 | h1
    . have:=V6 ha hb (k:=k) (by omega) (by omega) h1
      rw [show (if vl (a.take (k+1))=vl (b.take (k+1)) then k0 0 else k1 (cm (vl (a.take (k+1))) (vl (b.take (k+1)))))=k1 (-1) by rw [QI (by omega),Jv this],QG h1]
    . have:=V6 hb ha (k:=k) (by omega) (by omega) h1
      rw [show (if vl (a.take (k+1))=vl (b.take (k+1)) then k0 0 else k1 (cm (vl (a.take (k+1))) (vl (b.take (k+1)))))=k1 1 by rw [QI (by omega),Jw this],QI (by omega)]

theorem B9x {n:Nat} {a b:List Int} (ha:Cn a) (hb:Cn b) (hN:a.length<=1099511627776):f155 n a b=some (cm (vl a) (vl b)):=by
 unfold f155;rw [ZZ];by_cases h:a.length=b.length
 . rw [QI (by simp [h])]
   rw [show f205 n a=some a from rfl,A1,Ay1,A3 (by simp;omega),B06 ha.1 hb.1 h a.length (ZG _)]
   rw [YB,h,YB];by_cases h1:vl a=vl b
   . rw [QG h1,Lo h1]
   . rw [QI h1]
 . rw [QG (by simp;omega),QK]
   rcases Nat.lt_or_gt_of_ne h with h1 | h1
   . rw [Jv (ha.lt_of_len hb h1),QG (by omega)]
   . rw [Jw (hb.lt_of_len ha h1),QI (by omega)]

theorem Be (l:List Int) (k:Nat):vl (l.take (k+1))=vl (l.take k)+10000 ^ k*l.getD k 0:=by
 rcases ZW k l.length with h | h
 . exact Cb h
 . rw [XS (by omega),XS (by omega),QH,KD h]
   simp

theorem Bk {l:List Int} {k:Nat} (h:l.length<=k):l.getD k 0=0:=by
 rw [QH,KD h];rfl

theorem Cn.of_ge {l:List Int} (h:Lm l) (hg:l ≠ []->(10000:Int) ^ (l.length-1)<=vl l):Cn l:=by
 refine ⟨h,λhn e=>?_⟩;have hl:0<l.length:=XP.2 hn;have h1:=Be l (l.length-1)
 rw [show l.length-1+1=l.length by omega,YB,e] at h1
 have h2:=I4 (h.take (l.length-1))
 rw [KM,Qac (by omega)] at h2
 have:=hg hn;omega

theorem K9 (l:List Int) {k:Nat} (h:l.length<=k):l.take k=l:=XS h

theorem B0o {α:Type} {n:Nat} {a b:List Int} (ha:Cn a) (hb:Cn b) (hN:a.length<=1099511627776) (hNb:b.length<=1099511627776) {k0:List Int->Option α}:∀ (m i:Nat) (c:Int) (o:List Int),o.length=i->Lm o->0<=c->c<=1 ->
  vl o+10000 ^ i*c=vl (a.take i)+vl (b.take i)->(i<=max a.length b.length \/ (i=max a.length b.length+1/\c=0/\o.getD (i-1) 0 ≠ 0))->max a.length b.length+2<=i+m ->
  Rx n m a b c (i:Int) o k0=k0 (dg (vl a+vl b).toNat)
 | 0,i,c,o,ho,hlo,hc0,hc1,hv,hq,hm=>by omega
 | m+1,i,c,o,ho,hlo,hc0,hc1,hv,hq,hm=>by
  rw [Awt];unfold A3d;dsimp only
  have fin:a.length<=i->b.length<=i->c=0->o=dg (vl a+vl b).toNat:=λh1 h2 h3=>by
   rw [K9 a h1,K9 b h2,h3] at hv
   have hv':vl o=vl a+vl b:=by simpa using hv
   have:Cn o:=Cn.of_ge hlo λhn=>by
    have hl:0<o.length:=XP.2 hn;rcases hq with hq | ⟨hq1,_,hq3⟩
    . have hmx:i=max a.length b.length:=by omega
      rw [ho,hv'];rcases Nat.le_total a.length b.length with hab | hab
      . have h4:=hb.ge (XP.1 (by omega))
        have h5:=Bd ha.1
        rw [show i-1=b.length-1 by omega];omega
      . have h4:=ha.ge (XP.1 (by omega))
        have h5:=Bd hb.1
        rw [show i-1=a.length-1 by omega];omega
    . have h1:=Be o (o.length-1)
      rw [show o.length-1+1=o.length by omega,YB] at h1
      have h2:=Bd (hlo.take (o.length-1));have h3:=hlo.get (o.length-1);rw [<- ho] at hq3;have h4:=Fs (o.length-1)
      have h5:(10000:Int) ^ (o.length-1)*1<=10000 ^ (o.length-1)*o.getD (o.length-1) 0:=XG (by omega) (by omega)
      omega
   rw [<- hv',I7 this]
  have go:∀ (y:Int),y=c+a.getD i 0+b.getD i 0->(i<max a.length b.length \/ (i=max a.length b.length/\0<c))->Rx n m a b (W (Int.tdiv y 10000)) (W ((i:Int)+1)) (o++[Int.tmod y 10000]) k0=k0 (dg (vl a+vl b).toNat):=by
   intro y hy hi;have h1:=ha.1.get i;have h2:=hb.1.get i
   rw [tdv (by omega),tmd (by omega),Ab (by omega) (by omega),Ab (by omega) (by omega)]
   have ta:=Be a i;have tb:=Be b i
   have hyy:y=10000*(y / 10000)+y % 10000:=by omega
   refine B0o (n:=n) ha hb hN hNb m (i+1) _ _ (by simp [ho]) (hlo.app (Lm.cons (by omega) Lm.nil)) (by omega) (by omega) ?_ ?_ (by omega)
   . rw [Ra,ho,ta,tb,C5];generalize y / 10000=q at *;generalize y % 10000=r at *;generalize (10000:Int) ^ i=P at *;grind
   . rcases hi with hi | ⟨hi,hc⟩
     . exact .inl (by omega)
     . right
       have e1:a.getD i 0=0:=Bk (by omega)
       have e2:b.getD i 0=0:=Bk (by omega)
       have e3:y=1:=by omega
       subst e3
       refine ⟨by omega,by rfl,?_⟩
       rw [Qam,<- ho,QH];simp
  have hcases:(i<a.length \/ i<b.length \/ 0<c)->(i<max a.length b.length \/ (i=max a.length b.length/\0<c)):=λh=>by
   rcases h with h | h | h
   . exact .inl (by omega)
   . exact .inl (by omega)
   . rcases hq with hq | ⟨_,h0,_⟩
     . omega
     . omega
  have ho2:(decide ((o.length+1)*8<=140737488355328))=true:=by
   rw [QN];rcases hq with hq | ⟨hq,_⟩ <;> omega
  have h1:=ha.1.get i;have h2:=hb.1.get i;by_cases hA:i<a.length
  . have dA:decide ((i:Int)<(a.length:Int))=true:=by rw [QN];omega
    simp only [dA,ZE,QO]
    rw [A3 (by simp;try omega),Ab (x:=c+a.getD i 0) (by omega) (by omega)]
    by_cases hB:i<b.length
    . have dB:decide ((i:Int)<(b.length:Int))=true:=by rw [QN];omega
      simp only [dB,ZE]
      rw [A3 (by simp;try omega),A3 ho2,Ab (x:=c+a.getD i 0+b.getD i 0) (by omega) (by omega)]
      exact go _ rfl (hcases (.inl hA))
    . have dB:decide ((i:Int)<(b.length:Int))=false:=by rw [ZS];omega
      simp only [dB,QR];rw [A3 ho2]
      exact go _ (by rw [Bk (l:=b) (by omega)];omega) (hcases (.inl hA))
  . have dA:decide ((i:Int)<(a.length:Int))=false:=by rw [ZS];omega
    simp only [dA,QR,QO];by_cases hB:i<b.length
    . have dB:decide ((i:Int)<(b.length:Int))=true:=by rw [QN];omega
      simp only [dB,ZE]
      rw [A3 (by simp;try omega),A3 ho2,Ab (x:=c+b.getD i 0) (by omega) (by omega)]
      exact go _ (by rw [Bk (l:=a) (by omega)];omega) (hcases (.inr (.inl hB)))
    . have dB:decide ((i:Int)<(b.length:Int))=false:=by rw [ZS];omega
      simp only [dB,QR];rw [QK];by_cases hc:0<c
      . rw [QG (by omega),A3 ho2]
        exact go _ (by rw [Bk (l:=a) (by omega),Bk (l:=b) (by omega)];omega) (hcases (.inr (.inr hc)))
      . rw [QI (by omega),fin (by omega) (by omega) (by omega)]

theorem B8m {n:Nat} {a b:List Int} (ha:Cn a) (hb:Cn b) (hN:a.length<=1099511627776) (hNb:b.length<=1099511627776) (hn:max a.length b.length+2<=n):f198 n a b=some (dg (vl a+vl b).toNat):=by
 unfold f198
 have:=B0o (n:=n) ha hb hN hNb (k0:=λz_6=>some z_6) n 0 0 [] rfl Lm.nil (by omega) (by omega) (by simp [vl]) (.inl (by omega)) (by omega)
 exact this

theorem Ath {α:Type} {n:Nat} {a b:List Int} (ha:Lm a) (hb:Lm b) (hN:a.length<=1099511627776) {k0:List Int->Option α}:∀ (m i:Nat) (c:Int) (o:List Int),o.length=i->Lm o->0<=c->c<=1->i<=a.length ->
  vl o-10000 ^ i*c=vl (a.take i)-vl (b.take i)->a.length+1<=i+m ->
  ∃ o' c',Nn n m a b c (i:Int) o k0=k0 o'/\o'.length=a.length/\Lm o'/\0<=c'/\c'<=1/\vl o'-10000 ^ a.length*c'=vl a-vl (b.take a.length)
 | 0,i,c,o,ho,hlo,hc0,hc1,hi,hv,hm=>by omega
 | m+1,i,c,o,ho,hlo,hc0,hc1,hi,hv,hm=>by
  rw [Awo];unfold A37;dsimp only;by_cases hA:i<a.length
  . rw [QK,QG (by omega),A3 (by simp;try omega)]
    have h1:=ha.get i;have h2:=hb.get i;have ta:=Be a i;have tb:=Be b i
    have ho2:(decide ((o.length+1)*8<=140737488355328))=true:=by
     rw [QN];omega
    have go:∀ y:Int,y=a.getD i 0-c-b.getD i 0->∃ o' c',Nn n m a b (if y<0 then 1 else 0) (W ((i:Int)+1)) (o++[W (y+W ((if y<0 then 1 else 0)*10000))]) k0=k0 o'/\o'.length=a.length/\Lm o'/\0<=c'/\c'<=1/\vl o'-10000 ^ a.length*c'=vl a-vl (b.take a.length):=by
     intro y hy
     obtain ⟨d,hd⟩:∃ d:Int,d=if y<0 then 1 else 0:=⟨_,rfl⟩
     have hd1:0<=d/\d<=1/\0<=y+d*10000/\y+d*10000<10000:=by
      rw [hd];split <;> omega
     rw [<- hd,Ab (x:=d*10000) (by omega) (by omega),Ab (x:=y+d*10000) (by omega) (by omega),Ab (x:=(i:Int)+1) (by omega) (by omega)]
     refine Ath (n:=n) ha hb hN m (i+1) d _ (by simp [ho]) (hlo.app (Lm.cons (by omega) Lm.nil)) (by omega) (by omega) (by omega) ?_ (by omega)
     rw [Ra,ho,ta,tb,C5];generalize (10000:Int) ^ i=P at *;grind
    simp only [QO];by_cases hB:i<b.length
    . have dB:decide ((i:Int)<(b.length:Int))=true:=by rw [QN];omega
      simp only [dB,ZE]
      rw [A3 (by simp;try omega)]
      simp only [Ab (x:=a.getD i 0-c) (by omega) (by omega),Ab (x:=a.getD i 0-c-b.getD i 0) (by omega) (by omega)]
      rw [Kw,A1,A3 ho2];simp only [QN];exact go _ rfl
    . have dB:decide ((i:Int)<(b.length:Int))=false:=by rw [ZS];omega
      simp only [dB,QR]
      simp only [Ab (x:=a.getD i 0-c) (by omega) (by omega)]
      rw [Kw,A1,A3 ho2];simp only [QN]
      exact go _ (by rw [Bk (l:=b) (by omega)];omega)
  . rw [QK,QI (by omega)]
    obtain rfl:i=a.length:=by omega
    rw [YB] at hv;exact ⟨o,c,rfl,ho,hlo,hc0,hc1,hv⟩

theorem B8i {n:Nat} {a b:List Int} (ha:Cn a) (hb:Cn b) (hN:a.length<=1099511627776) (hn:a.length+1<=n) (hab:vl b<=vl a):f200 n a b=some (dg (vl a-vl b).toNat):=by
 have hl:b.length<=a.length:=by
  rcases ZW a.length b.length with h | h
  . have:=ha.lt_of_len hb h;omega
  . exact h
 unfold f200
 obtain ⟨o,c,h1,h2,h3,h4,h5,h6⟩:=Ath (n:=n) ha.1 hb.1 hN (k0:=λz_4=>ob (f216 n z_4) λr_5=>some r_5) n 0 0 [] rfl Lm.nil (by omega) (by omega) (by omega) (by simp [vl]) (by omega)
 have h1:Nn n n a b 0 0 [] (λz_4=>ob (f216 n z_4) λr_5=>some r_5)=_:=h1
 rw [h1,Zy h3 (by omega) (by omega),A1]
 rw [K9 b hl] at h6;have h7:=I4 h3;rw [h2] at h7
 have:c=0:=by
  rcases Int.lt_or_eq_of_le h4 with h | h
  . have:c=1:=by omega
    rw [this] at h6;omega
  . exact h.symm
 rw [this] at h6
 rw [show vl o=vl a-vl b by simpa using h6]

theorem Ni {l:List Int} {k:Nat} (h:k<l.length):vl (l.drop k)=l.getD k 0+10000*vl (l.drop (k+1)):=by
 rw [XQ h,vl,QH,QM h];rfl

theorem Aft {P o ok y q r c ai bk v' T:Int} (h:o+P*(c+ai*(bk+10000*v'))=T) (hy:y=ok+c+ai*bk) (hq:y=10000*q+r):o+P*(r-ok)+10000*P*(q+ai*v')=T:=by
 grind

theorem A25 {x y:Int} (hx:0<=x/\x<10000) (hy:0<=y/\y<10000):0<=x*y/\x*y<=99980001:=by
 have h1:=Int.mul_nonneg hx.1 hy.1
 have h2:x*y<=9999*y:=Int.mul_le_mul_of_nonneg_right (by omega) hy.1
 omega

theorem Au8 {α:Type} {n:Nat} {a b:List Int} (ha:Lm a) (hb:Lm b) (i:Nat) (hi:i<a.length) {S:Nat} (hS:a.length+b.length<S) (hN:S<=1099511627776) {T:Int} (hT:T<10000 ^ S) {k0:List Int->List Int->Int->List Int->Option α} :
  ∀ (m k:Nat) (c:Int) (o:List Int),Lm o->o.length=S->0<=c->c<10000->i+k<=S->vl o+10000 ^ (i+k)*(c+a.getD i 0*vl (b.drop k))=T->S+1<=i+k+m ->
  ∃ o',Lm o'/\o'.length=S/\vl o'=T/\Np n m a b (i:Int) c (k:Int) o k0=k0 a b (i:Int) o'
 | 0,k,c,o,hlo,ho,hc0,hc1,hik,hv,hm=>by omega
 | m+1,k,c,o,hlo,ho,hc0,hc1,hik,hv,hm=>by
  rw [Aww];unfold A3g;dsimp only;have h1:=ha.get i;have h2:=hb.get k;have h3:=hlo.get (i+k);have h4:=A25 h1 h2;have hvo:=Bd hlo
  have go:∀ y:Int,i+k<S->(k<b.length \/ b.length<=k)->y=o.getD (i+k) 0+c+a.getD i 0*b.getD k 0 ->
    ∃ o',Lm o'/\o'.length=S/\vl o'=T/\Np n m a b (i:Int) (W (Int.tdiv y 10000)) (W ((k:Int)+1)) (o.set (i+k) (Int.tmod y 10000)) k0=k0 a b (i:Int) o':=by
   intro y hlt hk hy
   rw [tdv (by omega),tmd (by omega),Ab (by omega) (by omega),Ab (by omega) (by omega)]
   refine Au8 (n:=n) ha hb i hi hS hN hT m (k+1) _ _ (hlo.set _ (by omega)) (by simpa using ho) (by omega) (by omega) (by omega) ?_ (by omega)
   rw [Lr _ (by omega),show i+(k+1)=(i+k)+1 by omega,C5]
   have hyy:y=10000*(y / 10000)+y % 10000:=by omega
   refine Aft (bk:=b.getD k 0) ?_ hy hyy;rcases hk with hk | hk
   . rw [<- Ni hk];exact hv
   . rw [QX (by omega)] at hv ⊢
     rw [Bk hk];simpa [vl] using hv
  by_cases hB:k<b.length
  . have dB:decide ((k:Int)<(b.length:Int))=true:=by rw [QN];omega
    simp only [dB,ZE,QO]
    rw [Ab (x:=(i:Int)+(k:Int)) (by omega) (by omega)]
    have e:((i:Int)+(k:Int)).toNat=i+k:=by omega
    simp only [e]
    rw [A3 (by simp;try omega),A3 (by simp;try omega),A3 (by simp;try omega),A3 (by simp;try omega),Ab (x:=a.getD i 0*b.getD k 0) (by omega) (by omega),Ab (x:=o.getD (i+k) 0+c) (by omega) (by omega),Ab (x:=o.getD (i+k) 0+c+a.getD i 0*b.getD k 0) (by omega) (by omega),A3 (by simp;try omega),A3 (by simp;try omega)]
    exact go _ (by omega) (.inl hB) rfl
  . have dB:decide ((k:Int)<(b.length:Int))=false:=by rw [ZS];omega
    simp only [dB,QR];rw [QK]
    rw [QX (by omega)] at hv
    by_cases hc:0<c
    . have hlt : i + k < S := by
       refine Apm ?_
       have h5:(10000:Int) ^ (i+k)*1<=10000 ^ (i+k)*c:=XG (by omega) (by have:=Fs (i+k);omega)
       simp only [vl,Qan,Qbj] at hv;omega
      rw [QG (by omega),Ab (x:=(i:Int)+(k:Int)) (by omega) (by omega)]
      have e:((i:Int)+(k:Int)).toNat=i+k:=by omega
      simp only [e]
      rw [A3 (by simp;try omega),A3 (by simp;try omega),A3 (by simp;try omega),A3 (by simp;try omega),Ab (x:=o.getD (i+k) 0+c) (by omega) (by omega)]
      exact go _ hlt (.inr (by omega)) (by rw [Bk (l:=b) (by omega)];omega)
    . rw [QI (by omega)]
      obtain rfl:c=0:=by omega
      exact ⟨o,hlo,ho,by simpa [vl] using hv,rfl⟩

theorem Au7 {a b:List Int} (ha:Lm a) (hb:Lm b) {i S:Nat} (hS:i+b.length<=S):vl (a.take i)*vl b<10000 ^ S:=by
 have h1:=I4 (ha.take i);have h2:=I4 hb;have h3:=Bd (ha.take i);have h4:=Bd hb
 have h5:(10000:Int) ^ (a.take i).length<=10000 ^ i:=Z9 (by simp;omega)
 have h6:=Fs i;have h7:=Fs b.length
 have h8:vl (a.take i)*vl b<=vl (a.take i)*10000 ^ b.length:=XG (by omega) h3
 have h9:vl (a.take i)*10000 ^ b.length<10000 ^ i*10000 ^ b.length:=Int.mul_lt_mul_of_pos_right (by omega) h7
 rw [<- Int.pow_add] at h9;have h10:(10000:Int) ^ (i+b.length)<=10000 ^ S:=Z9 hS;omega

theorem Aml {α:Type} {n:Nat} {a b:List Int} (ha:Lm a) (hb:Lm b) {S:Nat} (hS:a.length+b.length<S) (hN:S<=1099511627776) (hn:S+1<=n) {k0:List Int->Option α} :
  ∀ (m i:Nat) (o:List Int),Lm o->o.length=S->i<=a.length->vl o=vl (a.take i)*vl b->a.length+1<=i+m ->
  ∃ o',Lm o'/\o'.length=S/\vl o'=vl a*vl b/\Nr n m a b (i:Int) o k0=k0 o'
 | 0,i,o,hlo,ho,hi,hv,hm=>by omega
 | m+1,i,o,hlo,ho,hi,hv,hm=>by
  rw [Awy];unfold A3j;dsimp only;rw [QK];by_cases hA:i<a.length
  . rw [QG (by omega)]
    have hT:vl (a.take (i+1))*vl b<10000 ^ S:=Au7 ha hb (by omega)
    obtain ⟨o',q1,q2,q3,q4⟩:=Au8 (n:=n) ha hb i hA hS hN hT (k0:=λz_1 z_2 z_3 z_4=>Nr n m z_1 z_2 (W (z_3+1)) z_4 k0) n 0 0 o hlo ho (by omega) (by omega) (by omega) (by
     rw [hv,Be,ZJ,KE];generalize (10000:Int) ^ i=P
     grind) (by omega)
    have q4:Np n n a b (i:Int) 0 0 o _=_:=q4
    rw [q4,Ab (by omega) (by omega)]
    exact Aml (n:=n) ha hb hS hN hn m (i+1) o' q1 q2 (by omega) q3 (by omega)
  . rw [QI (by omega)]
    obtain rfl:i=a.length:=by omega
    rw [YB] at hv;exact ⟨o,hlo,ho,hv,rfl⟩

theorem B8p {n:Nat} {a b:List Int} (ha:Lm a) (hb:Lm b) (hN:a.length+b.length<=1099511627770) (hn:a.length+b.length+2<=n):f196 n a b=some (dg (vl a*vl b).toNat):=by
 unfold f196
 rw [Ab (x:=(a.length:Int)+(b.length:Int)) (by omega) (by omega),Ab (x:=(a.length:Int)+(b.length:Int)+1) (by omega) (by omega),A3 (by simp;try omega)]
 have e:((a.length:Int)+(b.length:Int)+1).toNat=a.length+b.length+1:=by omega
 rw [e]
 obtain ⟨o,q1,q2,q3,q4⟩:=Aml (n:=n) ha hb (S:=a.length+b.length+1) (by omega) (by omega) (by omega) (k0:=λz_5=>ob (f216 n z_5) λr_6=>some r_6) n 0 (List.replicate (a.length+b.length+1) 0) (Lm.rep _) (by simp) (by omega) (by rw [We];simp [vl]) (by omega)
 have q4:Nr n n a b 0 _ _=_:=q4
 rw [q4,Zy q1 (by omega) (by omega),A1,q3]

theorem Au9 {α:Type} {n:Nat} {a b:List Int} (ha:Lm a) (hb:Lm b) (i:Nat) (hi:i<a.length) {S:Nat} (hS:a.length+b.length<=S) (hN:S<=1099511627776) {T:Int} (hT:T<10000 ^ S) (q1:List Int) (q2 q3:Int) {k0:List Int->List Int->Int->Int->List Int->Option α} :
  ∀ (m k:Nat) (c:Int) (o:List Int),Lm o->o.length=S->0<=c->c<10000->i+k<=S->vl o+10000 ^ (i+k)*(c+a.getD i 0*vl (b.drop k))=T->S+1<=i+k+m ->
  ∃ o',Lm o'/\o'.length=S/\vl o'=T/\Nx n m b (i:Int) (a.getD i 0) c (k:Int) q1 q2 q3 o k0=k0 b q1 q2 q3 o'
 | 0,k,c,o,hlo,ho,hc0,hc1,hik,hv,hm=>by omega
 | m+1,k,c,o,hlo,ho,hc0,hc1,hik,hv,hm=>by
  rw [Ay8];unfold A48;dsimp only;have h1:=ha.get i;have h2:=hb.get k;have h3:=hlo.get (i+k);have h4:=A25 h1 h2;have hvo:=Bd hlo
  have go:∀ y:Int,i+k<S->(k<b.length \/ b.length<=k)->y=o.getD (i+k) 0+c+a.getD i 0*b.getD k 0 ->
    ∃ o',Lm o'/\o'.length=S/\vl o'=T/\Nx n m b (i:Int) (a.getD i 0) (W (Int.tdiv y 10000)) (W ((k:Int)+1)) q1 q2 q3 (o.set (i+k) (Int.tmod y 10000)) k0=k0 b q1 q2 q3 o':=by
   intro y hlt hk hy
   rw [tdv (by omega),tmd (by omega),Ab (by omega) (by omega),Ab (by omega) (by omega)]
   refine Au9 (n:=n) ha hb i hi hS hN hT q1 q2 q3 m (k+1) _ _ (hlo.set _ (by omega)) (by simpa using ho) (by omega) (by omega) (by omega) ?_ (by omega)
   rw [Lr _ (by omega),show i+(k+1)=(i+k)+1 by omega,C5]
   have hyy:y=10000*(y / 10000)+y % 10000:=by omega
   refine Aft (bk:=b.getD k 0) ?_ hy hyy;rcases hk with hk | hk
   . rw [<- Ni hk];exact hv
   . rw [QX (by omega)] at hv ⊢
     rw [Bk hk];simpa [vl] using hv
  by_cases hB:k<b.length
  . have dB:decide ((k:Int)<(b.length:Int))=true:=by rw [QN];omega
    simp only [dB,ZE,QO]
    rw [Ab (x:=(i:Int)+(k:Int)) (by omega) (by omega)]
    have e:((i:Int)+(k:Int)).toNat=i+k:=by omega
    simp only [e]
    rw [A3 (by simp;try omega),Ab (x:=a.getD i 0*b.getD k 0) (by omega) (by omega),Ab (x:=c+a.getD i 0*b.getD k 0) (by omega) (by omega),A3 (by simp;try omega),A3 (by simp;try omega),A3 (by simp;try omega),A3 (by simp;try omega),Ab (x:=c+a.getD i 0*b.getD k 0+o.getD (i+k) 0) (by omega) (by omega)]
    exact go _ (by omega) (.inl hB) (by omega)
  . have dB:decide ((k:Int)<(b.length:Int))=false:=by rw [ZS];omega
    simp only [dB,QR];rw [QK]
    rw [QX (by omega)] at hv
    by_cases hc:0<c
    . have hlt : i + k < S := by
       refine Apm ?_
       have h5:(10000:Int) ^ (i+k)*1<=10000 ^ (i+k)*c:=XG (by omega) (by have:=Fs (i+k);omega)
       simp only [vl,Qan,Qbj] at hv;omega
      rw [QG (by omega),Ab (x:=(i:Int)+(k:Int)) (by omega) (by omega)]
      have e:((i:Int)+(k:Int)).toNat=i+k:=by omega
      simp only [e]
      rw [A3 (by simp;try omega),A3 (by simp;try omega),A3 (by simp;try omega),A3 (by simp;try omega),Ab (x:=c+o.getD (i+k) 0) (by omega) (by omega)]
      exact go _ hlt (.inr (by omega)) (by rw [Bk (l:=b) (by omega)];omega)
    . rw [QI (by omega)]
      obtain rfl:c=0:=by omega
      exact ⟨o,hlo,ho,by simpa [vl] using hv,rfl⟩

theorem Amm {α:Type} {n:Nat} {a b:List Int} (ha:Lm a) (hb:Lm b) {S:Nat} (hS:a.length+b.length<=S) (hN:S<=1099511627776) (hn:S+1<=n) {k0:List Int->Option α} :
  ∀ (m i:Nat) (o:List Int),Lm o->o.length=S->i<=a.length->vl o=vl (a.take i)*vl b->a.length+1<=i+m ->
  ∃ o',Lm o'/\o'.length=S/\vl o'=vl a*vl b/\Ny n m b a (a.length:Int) (i:Int) o k0=k0 o'
 | 0,i,o,hlo,ho,hi,hv,hm=>by omega
 | m+1,i,o,hlo,ho,hi,hv,hm=>by
  rw [Aya];unfold A4b;dsimp only;rw [QK];by_cases hA:i<a.length
  . rw [QG (by omega),A3 (by simp;try omega)]
    simp only [QO]
    have hT:vl (a.take (i+1))*vl b<10000 ^ S:=Au7 ha hb (by omega)
    obtain ⟨o',q1,q2,q3,q4⟩:=Au9 (n:=n) ha hb i hA hS hN hT a (a.length:Int) (i:Int) (k0:=λz_1 z_2 z_3 z_4 z_5=>Ny n m z_1 z_2 z_3 (W (z_4+1)) z_5 k0) n 0 0 o hlo ho (by omega) (by omega) (by omega) (by
     rw [hv,Be,ZJ,KE];generalize (10000:Int) ^ i=P
     grind) (by omega)
    have q4:Nx n n b (i:Int) (a.getD i 0) 0 0 a (a.length:Int) (i:Int) o _=_:=q4
    rw [q4,Ab (by omega) (by omega)]
    exact Amm (n:=n) ha hb hS hN hn m (i+1) o' q1 q2 (by omega) q3 (by omega)
  . rw [QI (by omega)]
    obtain rfl:i=a.length:=by omega
    rw [YB] at hv;exact ⟨o,hlo,ho,hv,rfl⟩

theorem Ba3 {n:Nat} {a b:List Int} (ha:Lm a) (hb:Lm b) (hN:a.length+b.length<=1099511627770) (hn:a.length+b.length+2<=n):f152 n a b=some (dg (vl a*vl b).toNat):=by
 unfold f152
 rw [Ab (x:=(a.length:Int)+(b.length:Int)) (by omega) (by omega),A3 (by simp;try omega)]
 have e:((a.length:Int)+(b.length:Int)).toNat=a.length+b.length:=by omega
 rw [e]
 obtain ⟨o,q1,q2,q3,q4⟩:=Amm (n:=n) ha hb (S:=a.length+b.length) (by omega) (by omega) (by omega) (k0:=λz_5=>ob (f202 n z_5) λr_6=>some r_6) n 0 (List.replicate (a.length+b.length) 0) (Lm.rep _) (by simp) (by omega) (by rw [We];simp [vl]) (by omega)
 have q4:Ny n n b a (a.length:Int) 0 _ _=_:=q4
 rw [q4,Rw q1 (by omega) (by omega),A1,q3]

theorem pwc (k:Nat):((10000 ^ k:Nat):Int)=(10000:Int) ^ k:=by rw [Int.natCast_pow];rfl

theorem Bc9 (Q:Nat):((10000*Q:Nat):Int)=10000*(Q:Int):=by omega

theorem A5z (Q q:Nat):((10000*Q+q:Nat):Int)=10000*(Q:Int)+q:=by omega

theorem Aeb (Q q:Nat):((q+10000*Q:Nat):Int)=q+10000*(Q:Int):=by omega

theorem Ej {n k:Nat} (h:n<10000 ^ k):(dg n).length<=k:=Sj.2 (by rw [<- pwc];omega)

theorem A62 (n:Nat):n<10000 ^ (dg n).length:=by
 have:=Sj.1 (ZG (dg n).length);rw [<- pwc] at this;omega

theorem It {n k:Nat} (h:(dg n).length<=k):n<10000 ^ k:=by
 have:=Sj.1 h;rw [<- pwc] at this;omega

theorem B2 (a b:Nat):(dg (a*b)).length<=(dg a).length+(dg b).length:=by
 refine Ej ?_;rw [Nat.pow_add];exact Nat.mul_lt_mul'' (A62 a) (A62 b)

theorem Ze (a b:Nat):(dg (a+b)).length<=max (dg a).length (dg b).length+1:=by
 refine Ej ?_
 have h1:a<10000 ^ max (dg a).length (dg b).length:=It (by omega)
 have h2:b<10000 ^ max (dg a).length (dg b).length:=It (by omega)
 rw [YG];omega

theorem A8w {a:Nat} (h:a<10000):(dg a).length<=1:=Ej (by simpa using h)

theorem B7b (a:Nat) (x:Nat) (h:x<10000):(dg (x+10000*a)).length<=(dg a).length+1:=by
 refine Ej ?_;have:=A62 a;rw [YG];omega

theorem Ae7 {n a b:Nat} (h:(dg a).length<=1099511627776) (hn:(dg a).length<n):f199 n (dg a) (dg b)=some (cm a b):=by
 rw [B8k (Gb a) (Gb b) h hn,Bh,Bh]

theorem Mt {n a b:Nat} (h:(dg a).length+(dg b).length<=1099511627770) (hn:(dg a).length+(dg b).length+2<=n):f196 n (dg a) (dg b)=some (dg (a*b)):=by
 rw [B8p (E9 a) (E9 b) h hn,Bh,Bh];congr 1

theorem Bgv {n a b:Nat} (h:(dg a).length<=1099511627776) (h':(dg b).length<=1099511627776) (hn:max (dg a).length (dg b).length+2<=n):f198 n (dg a) (dg b)=some (dg (a+b)):=by
 rw [B8m (Gb a) (Gb b) h h' hn,Bh,Bh];congr 1

theorem Ape {n a b:Nat} (h:(dg a).length<=1099511627776) (hn:(dg a).length+1<=n) (hab:b<=a):f200 n (dg a) (dg b)=some (dg (a-b)):=by
 rw [B8i (Gb a) (Gb b) h hn (by rw [Bh,Bh];omega),Bh,Bh]
 congr 2;omega

theorem Mz {n a b:Nat} (h:(dg a).length+(dg b).length<=1099511627770) (hn:(dg a).length+(dg b).length+2<=n):f152 n (dg a) (dg b)=some (dg (a*b)):=by
 rw [Ba3 (E9 a) (E9 b) h hn,Bh,Bh];congr 1

theorem Aed {n a b:Nat} (h:(dg a).length<=1099511627776):f155 n (dg a) (dg b)=some (cm a b):=by
 rw [B9x (Gb a) (Gb b) h,Bh,Bh]

theorem Ak9 {α:Type} {n B R:Nat} (hBl:(dg B).length<=1099511627700) (hn:(dg B).length+20<=n) (s0:List Int) (s8:Int) (b14:List Int) {k0:List Int->List Int->List Int->Int->Int->List Int->Option α} :
  ∀ (m lo hi:Nat),lo<hi->hi<=10000->lo*B<=R->R<hi*B->hi<=lo+m ->
  On n m s0 (dg B) (dg R) s8 (lo:Int) (hi:Int) b14 k0=k0 s0 (dg B) (dg R) s8 ((R / B:Nat):Int) b14
 | 0,lo,hi,h1,h2,h3,h4,h5=>by omega
 | m+1,lo,hi,h1,h2,h3,h4,h5=>by
  rw [Aqs];unfold Xu;dsimp only
  rw [Ab (x:=(hi:Int)-(lo:Int)) (by omega) (by omega),Ab (x:=(lo:Int)+(hi:Int)) (by omega) (by omega)]
  have e:Int.tdiv ((lo:Int)+(hi:Int)) 2=(((lo+hi) / 2:Nat):Int):=by
   rw [YP (by omega)];omega
  rw [e,Ab (x:=(((lo+hi) / 2:Nat):Int)) (by omega) (by omega)]
  generalize hmid:(lo+hi) / 2=mid;by_cases hc:lo+1<hi
  . rw [QK,QG (by omega),Ry (by omega) (by omega),A1]
    have hl:=A8w (a:=mid) (by omega)
    have hm:=B2 B mid
    rw [Mt (by omega) (by omega),A1,Ae7 (by omega) (by omega),A1,QK]
    by_cases hle:B*mid<=R
    . have : cm ((B * mid : Nat) : Int) (R : Int) <= 0 := by
       rcases KY hle with h | h
       . rw [Jv (by omega)];omega
       . rw [Lo (by omega)];omega
      rw [QG this]
      exact Ak9 hBl hn s0 s8 b14 m mid hi (by omega) h2 (by rw [KF];exact hle) h4 (by omega)
    . have : ¬ cm ((B * mid : Nat) : Int) (R : Int) <= 0 := by
       rw [Jw (by omega)];omega
      rw [QI this]
      exact Ak9 hBl hn s0 s8 b14 m lo mid (by omega) (by omega) h3 (by rw [KF];omega) (by omega)
  . rw [QK,QI (by omega)]
    obtain rfl:hi=lo+1:=by omega
    have:R / B=lo:=by
     rw [Nat.div_eq_iff (XA (by rintro rfl;simp at h4))]
     rw [YO] at h4;omega
    rw [this]

theorem Ajv {α:Type} {n L A B:Nat} (hB:0<B) (hA:(dg A).length<=L) (hBl:(dg B).length<=L) (hL:L<=1099511627000) (hn:L+10040<=n) {k0:List Int->List Int->Option α} :
  ∀ (k m Q R:Nat) (o:List Int),k<m->k<=(dg A).length->R<B->o.length=(dg A).length->Lm o->(∀ i,i<k->o.getD i 0=0)->vl o=10000 ^ k*(Q:Int)->(Q:Int)*B+R=vl ((dg A).drop k) ->
  ∃ o',Lm o'/\o'.length=(dg A).length/\vl o'=((A / B:Nat):Int)/\Rp n m (dg A) (dg B) (dg R) ((k:Int)-1) o k0=k0 (dg (A % B)) o'
 | _,0,_,_,_,h1,_,_,_,_,_,_,_=>by omega
 | 0,m+1,Q,R,o,h1,h2,h3,h4,h5,h6,h7,h8=>by
  rw [Aby];unfold Tr;dsimp only
  rw [QK,QI (by omega)]
  rw [ZJ,Bh] at h8
  have h8:Q*B+R=A:=by
   have:((Q*B+R:Nat):Int)=A:=by rw [JN,XV];exact h8
   omega
  have h9:A / B=Q:=by rw [<- h8,Qai,JU _ _ hB,KT h3,YZ]
  have h10:A % B=R:=by rw [<- h8,JZ,KN h3]
  exact ⟨o,h5,h4,by rw [h7,h9];simp,by rw [h10]⟩
 | k+1,m+1,Q,R,o,h1,h2,h3,h4,h5,h6,h7,h8=>by
  rw [Aby];unfold Tr;dsimp only
  rw [QK,QG (by omega)]
  rw [show (((k+1:Nat):Int)-1)=(k:Int) by omega]
  simp only [QO];have hg:=(E9 A).get k
  obtain ⟨x,hx⟩:∃ x:Nat,(dg A).getD k 0=(x:Int):=⟨((dg A).getD k 0).toNat,by omega⟩
  have hlR:(dg R).length<=L:=ZQ (Bc (by omega)) hBl
  have hlRx:=B7b R x (by omega)
  have hRx:vl ((dg A).drop k)=(x:Int)+10000*((Q:Int)*B+R):=by
   rw [Ni (by omega),hx,<- h8]
  have hR':x+10000*R<10000*B:=by omega
  rw [hx,A3 (by simp;try omega),A3 (by simp;try omega),Zy (Lm.app (Lm.cons (by omega) Lm.nil) (E9 R)) (by simp;omega) (by simp;omega),A1]
  have e1:(vl ([(x:Int)]++dg R)).toNat=x+10000*R:=by
   rw [YA,JM,vl,Bh];omega
  rw [e1,Ae7 (by omega) (by omega),A1,Ab (x:=(k:Int)-1) (by omega) (by omega),QK]
  by_cases hlt:x+10000*R<B
  . rw [QG (by rw [Jv (by omega)];omega)]
    refine Ajv hB hA hBl hL hn k m (10000*Q) (x+10000*R) o (by omega) (by omega) hlt h4 h5 (λi hi=>h6 i (by omega)) ?_ ?_
    . rw [h7,C5,Bc9];grind
    . rw [hRx,Bc9,Aeb];grind
  . rw [QI (by
     rcases KY (Nat.le_of_not_lt hlt) with h | h
     . rw [Jw (by omega)];omega
     . rw [Lo (by omega)];omega)]
    have hbis := Ak9 (n := n) (B := B) (R := x + 10000 * R) (by omega) (by omega) (dg A) (k : Int) o (k0 := fun z_3 z_4 z_5 z_6 z_7 z_8 => (
            gd (decide (0<=z_6)&&decide (z_6<(z_8.length:Int))) (
             gd (decide (z_6.toNat<z_8.length)) (
              ob (f194 n z_7) λr_9 =>
              ob (f196 n z_4 r_9) λr_10 =>
              ob (f200 n z_5 r_10) λr_11 =>
              Rp n m z_3 z_4 r_11 (W (z_6-1)) (z_8.set z_6.toNat z_7) k0)))) n 0 10000 (by omega) (by omega) (by omega) hR' (by omega)
    have hbis:On n n (dg A) (dg B) (dg (x+10000*R)) (k:Int) 0 10000 o _=_:=hbis;rw [hbis];simp only [QO]
    have hq:(x+10000*R) / B<10000:=by
     rw [JD hB];omega
    have hqr:=Qag (x+10000*R) B;have hqm:=KP (x+10000*R) hB;generalize hqq:(x+10000*R) / B=q at *;generalize hrr:(x+10000*R) % B=r at *;have hl1:=A8w hq;have hl2:=B2 B q
    rw [A3 (by simp;try omega),A3 (by simp;try omega),Ry (by omega) (by omega),A1,Mt (by omega) (by omega),A1,Ape (by omega) (by omega) (by omega),A1,Ab (x:=(k:Int)-1) (by omega) (by omega),show x+10000*R-B*q=r by omega]
    refine Ajv hB hA hBl hL hn k m (10000*Q+q) r _ (by omega) (by omega) hqm (by simpa using h4) (h5.set _ (by omega)) (λi hi=>?_) ?_ ?_
    . rw [QH,KO (by omega),<- QH]
      exact h6 i (by omega)
    . rw [Lr _ (by omega),h7,h6 k (by omega),C5,A5z]
      generalize (10000:Int) ^ k=P;grind
    . rw [hRx]
      have:(B:Int)*q+r=x+10000*R:=by
       rw [<- Aeb,<- hqr,JN,XV]
      rw [A5z];grind

theorem Apf {n L A B:Nat} (hB:0<B) (hA:(dg A).length<=L) (hBl:(dg B).length<=L) (hL:L<=1099511627000) (hn:L+10040<=n):f217 n (dg A) (dg B)=some (dg (A / B),dg (A % B)):=by
 unfold f217
 rw [A3 (by simp;try omega),Ab (x:=((dg A).length:Int)-1) (by omega) (by omega)]
 simp only [QO]
 obtain ⟨o, h1, h2, h3, h4⟩ := Ajv (n := n) hB hA hBl hL hn (k0 := fun z_12 z_13 => (
       ob (f216 n z_13) λr_14 =>
       some (r_14,z_12))) (dg A).length n 0 0 (List.replicate (dg A).length 0) (by omega) (ZG _) hB (by simp) (Lm.rep _) (λi hi=>by simp [QH,XW,hi]) (by rw [We];simp) (by simp [vl])
 rw [C8] at h4
 rw [h4,Zy h1 (by omega) (by omega),A1,h3]
 rfl

theorem Agb {a b:Nat} (hb:0<b) (hr:0<a % b) {j:Nat} (h:b<2 ^ (j+1)):b % (a % b)<2 ^ j:=by
 have h1:=KP a hb;have h2:=KP b hr;have h3:=Qag b (a % b);generalize a % b=r at *
 have h4:1<=b / r:=by rw [Nat.le_div_iff_mul_le hr];omega
 have h5:r*1<=r*(b / r):=XL r h4;rw [YG] at h;omega

theorem Bcq {α:Type} {n L:Nat} (hL:L<=1099511627000) (hn:L+10040<=n) {k0:List Int->Option α} :
  ∀ (j m a b:Nat),b<2 ^ j->2*j+1<=m->(dg a).length<=L->(dg b).length<=L->Kp n m (dg a) (dg b) k0=k0 (dg (Nat.gcd b a)):=by
 have stop:∀ (m a:Nat),0<m->Kp n m (dg a) (dg 0) k0=k0 (dg (Nat.gcd 0 a)):=λm a hm=>by
  obtain ⟨m,rfl⟩:∃ m',m=m'+1:=⟨m-1,by omega⟩
  rw [Ac1,Qay,C8];rfl
 have step:∀ (m a b:Nat),0<b->(dg a).length<=L->(dg b).length<=L->Kp n (m+1) (dg a) (dg b) k0=Kp n m (dg b) (dg (a % b)) k0:=λm a b hb ha hbl=>by
  rw [Ac1];unfold A2l
  have:0<(dg b).length:=by rw [Dx (by omega)];simp
  rw [QK,QG (by omega),Apf hb ha hbl hL hn,A1]
 intro j
 induction j with
 | zero =>
  intro m a b h1 h2 h3 h4
  obtain rfl:b=0:=by simpa using h1
  exact stop m a (by omega)
 | succ j ih =>
  intro m a b h1 h2 h3 h4;rcases YU b with rfl | hb
  . exact stop m a (by omega)
  obtain ⟨m,rfl⟩:∃ m',m=m'+2:=⟨m-2,by omega⟩
  have h5:(dg (a % b)).length<=L:=ZQ (Bc (Nat.le_of_lt (KP a hb))) h4;rw [step _ _ _ hb h3 h4,Nat.gcd_rec b a];rcases YU (a % b) with hr | hr
  . rw [hr];exact stop _ _ (by omega)
  have h6:(dg (b % (a % b))).length<=L:=ZQ (Bc (Nat.le_of_lt (KP b hr))) h5;rw [step _ _ _ hr h4 h5,Nat.gcd_rec (a % b) b]
  exact ih m _ _ (Agb hb hr h1) (by omega) h5 h6

theorem Amf {b L:Nat} (h:b<10000 ^ L):b<2 ^ (14*L):=by
 rw [Nat.pow_mul]
 exact ZU h (Nat.pow_le_pow_left (by decide) L)

theorem B5f {n L a b:Nat} (hL:L<=1099511627000) (hn:28*L+10040<=n) (ha:(dg a).length<=L) (hb:(dg b).length<=L):f213 n (dg a) (dg b)=some (dg (Nat.gcd a b)):=by
 unfold f213
 have h1:(dg (Nat.gcd b a)).length<=L:=by
  rcases YU b with rfl | h
  . rw [Qay];exact ha
  . exact ZQ (Bc (Nat.gcd_le_left a h)) hb
 rw [Bcq hL (by omega) (14*L) n a b (Amf (It hb)) (by omega) ha hb,A3 (by simp;try omega),Nat.gcd_comm]

theorem Rl {pre w post:List Int} {i:Nat} (h:i<w.length):(pre++w++post).getD (pre.length+i) 0=w.getD i 0:=by
 rw [ZO,QH,ZC (by omega),JK,ZB h,<- QH]

theorem Amn {pre w post:List Int} {i:Nat} (h:i<w.length) (x:Int):(pre++w++post).set (pre.length+i) x=pre++w.set i x++post:=by
 rw [ZO,List.set_append_right _ _ (by omega),JK,List.set_append_left _ _ h,ZO]

theorem B0d {y:Int} (h:y<0) (h':-1099511627776<y):W (Int.tdiv (W (W (y-10000)+1)) 10000)=y / 10000:=by
 rw [Ab (x:=y-10000) (by omega) (by omega),Ab (x:=y-10000+1) (by omega) (by omega)]
 have:Int.tdiv (y-10000+1) 10000=y / 10000:=by
  rw [show y-10000+1 = -(9999-y) by omega,Int.neg_tdiv,YP (by omega)]
  omega
 rw [this,Ab (by omega) (by omega)]

theorem B13 {o P q c wi bi v' T y d r:Int} (h:o+P*(c-q*(bi+10000*v'))=T) (hy:y=wi+c-q*bi) (hd:y=10000*d+r):o+P*(r-wi)+10000*P*(d-q*v')=T:=by
 grind

theorem Atz {o P c wi bi v' T y d r:Int} (h:o+P*(c+(bi+10000*v'))=T) (hy:y=wi+c+bi) (hd:y=10000*d+r):o+P*(r-wi)+10000*P*(d+v')=T:=by
 grind

theorem A1w {l:List Int} (k:Nat):vl (l.drop k)=l.getD k 0+10000*vl (l.drop (k+1)):=by
 rcases ZW k l.length with h | h
 . exact Ni h
 . rw [QX h,QX (by omega),Bk h];rfl

theorem Atg {α:Type} {n N:Nat} {b pre post:List Int} (hb:Lm b) (hbN:b.length=N) (hN:pre.length+N+1+post.length<=1099511627776) {q:Int} (hq:0<=q/\q<10000) {T:Int} {k0:Nat->Nat->List Int->Int->Int->Int->List Int->Option α} :
  ∀ (m i:Nat) (c:Int) (w:List Int),Lm w->w.length=N+1->-9999<=c->c<=0->i<=N+1->vl w+10000 ^ i*(c-q*vl (b.drop i))=T->N+2<=i+m ->
  ∃ w' c',Lm w'/\w'.length=N+1/\c'<=0/\vl w'+10000 ^ (N+1)*c'=T/\Gh n m pre.length (N+1) b (b.length:Int) q c ((N+1:Nat):Int) (i:Int) (pre++w++post) k0=k0 pre.length (N+1) b (b.length:Int) q c' (pre++w'++post)
 | 0,i,c,w,h1,h2,h3,h4,h5,h6,h7=>by omega
 | m+1,i,c,w,h1,h2,h3,h4,h5,h6,h7=>by
  rw [Aqp];unfold Xq;dsimp only;by_cases hi:i<N+1
  . rw [QK,QG (by omega)]
    simp only [QO]
    rw [A3 (by simp;try omega),A3 (by simp;try omega)]
    simp only [Rl (pre:=pre) (post:=post) (w:=w) (i:=i) (by omega)]
    have g1:=h1.get i;have g2:=hb.get i;have g3:=A25 hq g2
    have go:∀ y:Int,y=w.getD i 0+c-q*b.getD i 0 ->
      ∃ w' c',Lm w'/\w'.length=N+1/\c'<=0/\vl w'+10000 ^ (N+1)*c'=T /\
      (bif (decide (y<0)) then (gd (decide (0<=(i:Int))&&decide ((i:Int)<((N+1:Nat):Int))) (
        gd (decide ((pre.length+i)<(pre++w++post).length)) (
         Gh n m pre.length (N+1) b (b.length:Int) q (W (Int.tdiv (W ((W (y-10000))+1)) 10000)) ((N+1:Nat):Int) (W ((i:Int)+1)) ((pre++w++post).set (pre.length+i) (W (y-(W ((W (Int.tdiv (W ((W (y-10000))+1)) 10000))*10000))))) k0)))
       else (gd (decide (0<=(i:Int))&&decide ((i:Int)<((N+1:Nat):Int))) (
        gd (decide ((pre.length+i)<(pre++w++post).length)) (
         Gh n m pre.length (N+1) b (b.length:Int) q 0 ((N+1:Nat):Int) (W ((i:Int)+1)) ((pre++w++post).set (pre.length+i) (W (y-(W (0*10000))))) k0))))=k0 pre.length (N+1) b (b.length:Int) q c' (pre++w'++post):=by
     intro y hy
     have hd:y=10000*(y / 10000)+y % 10000:=by omega
     have go2 : ∀ d : Int, d = y / 10000 -> ∃ w' c', Lm w' /\ w'.length = N + 1 /\ c' <= 0 /\ vl w' + 10000 ^ (N + 1) * c' = T /\ (gd (decide (0 <= (i : Int)) && decide ((i : Int) < ((N + 1 : Nat) : Int))) (
           gd (decide ((pre.length+i)<(pre++w++post).length)) (
            Gh n m pre.length (N+1) b (b.length:Int) q d ((N+1:Nat):Int) (W ((i:Int)+1)) ((pre++w++post).set (pre.length+i) (W (y-(W (d*10000))))) k0)))=k0 pre.length (N+1) b (b.length:Int) q c' (pre++w'++post):=by
      intro d hdd
      rw [A3 (by simp;try omega),A3 (by simp;try omega),Amn (by omega),Ab (x:=d*10000) (by omega) (by omega),Ab (x:=y-d*10000) (by omega) (by omega),Ab (x:=(i:Int)+1) (by omega) (by omega)]
      refine Atg (n:=n) hb hbN hN hq m (i+1) d _ (h1.set _ (by omega)) (by simpa using h2) (by omega) (by omega) (by omega) ?_ (by omega)
      rw [Lr _ (by omega),C5]
      refine B13 (bi:=b.getD i 0) ?_ hy (by omega)
      rw [<- A1w];exact h6
     rw [QK];by_cases hneg:y<0
     . rw [QG hneg]
       simp only [B0d hneg (by omega)]
       exact go2 _ rfl
     . rw [QI hneg]
       exact go2 0 (by omega)
    by_cases hB:i<b.length
    . have dB:decide ((i:Int)<(b.length:Int))=true:=by rw [QN];omega
      simp only [dB,ZE]
      rw [A3 (by simp;try omega)]
      simp only [Ab (x:=q*b.getD i 0) (by omega) (by omega),Ab (x:=w.getD i 0+c) (by omega) (by omega),Ab (x:=w.getD i 0+c-q*b.getD i 0) (by omega) (by omega)]
      exact go _ rfl
    . have dB:decide ((i:Int)<(b.length:Int))=false:=by rw [ZS];omega
      simp only [dB,QR]
      simp only [Ab (x:=w.getD i 0+c) (by omega) (by omega)]
      exact go _ (by rw [Bk (l:=b) (by omega)];omega)
  . rw [QK,QI (by omega)]
    obtain rfl:i=N+1:=by omega
    rw [QX (by omega)] at h6
    exact ⟨w,c,h1,h2,h4,by simpa [vl] using h6,rfl⟩

theorem Amg {α:Type} {n N:Nat} {b pre post:List Int} (hb:Lm b) (hbN:b.length=N) (hN:pre.length+N+1+post.length<=1099511627776) {q z:Int} {T:Int} {k0:Nat->Nat->List Int->Int->Int->Int->Int->List Int->Option α} :
  ∀ (m i:Nat) (c:Int) (w:List Int),Lm w->w.length=N+1->0<=c->c<=1->i<=N+1->vl w+10000 ^ i*(c+vl (b.drop i))=T->N+2<=i+m ->
  ∃ w' c',Lm w'/\w'.length=N+1/\0<=c'/\c'<=1/\vl w'+10000 ^ (N+1)*c'=T/\Iv n m pre.length (N+1) b (b.length:Int) q z c ((N+1:Nat):Int) (i:Int) (pre++w++post) k0=k0 pre.length (N+1) b (b.length:Int) q z c' (pre++w'++post)
 | 0,i,c,w,h1,h2,h3,h4,h5,h6,h7=>by omega
 | m+1,i,c,w,h1,h2,h3,h4,h5,h6,h7=>by
  rw [Ale];unfold Tl;dsimp only;by_cases hi:i<N+1
  . rw [QK,QG (by omega)]
    simp only [QO]
    rw [A3 (by simp;try omega),A3 (by simp;try omega),Rl (by omega)]
    have g1:=h1.get i;have g2:=hb.get i
    have go : ∀ y : Int, y = w.getD i 0 + c + b.getD i 0 -> ∃ w' c', Lm w' /\ w'.length = N + 1 /\ 0 <= c' /\ c' <= 1 /\ vl w' + 10000 ^ (N + 1) * c' = T /\ (gd (decide (0 <= (i : Int)) && decide ((i : Int) < ((N + 1 : Nat) : Int))) (
            gd (decide ((pre.length+i)<(pre++w++post).length)) (
             Iv n m pre.length (N+1) b (b.length:Int) q z (W (Int.tdiv y 10000)) ((N+1:Nat):Int) (W ((i:Int)+1)) ((pre++w++post).set (pre.length+i) (Int.tmod y 10000)) k0)))=k0 pre.length (N+1) b (b.length:Int) q z c' (pre++w'++post):=by
     intro y hy
     have hd:y=10000*(y / 10000)+y % 10000:=by omega
     rw [A3 (by simp;try omega),A3 (by simp;try omega),Amn (by omega),tdv (by omega),tmd (by omega),Ab (x:=y / 10000) (by omega) (by omega),Ab (x:=(i:Int)+1) (by omega) (by omega)]
     refine Amg (n:=n) hb hbN hN m (i+1) _ _ (h1.set _ (by omega)) (by simpa using h2) (by omega) (by omega) (by omega) ?_ (by omega)
     rw [Lr _ (by omega),C5]
     refine Atz (bi:=b.getD i 0) ?_ hy hd;rw [<- A1w];exact h6
    by_cases hB:i<b.length
    . have dB:decide ((i:Int)<(b.length:Int))=true:=by rw [QN];omega
      simp only [dB,ZE]
      rw [A3 (by simp;try omega)]
      simp only [Ab (x:=w.getD i 0+c) (by omega) (by omega),Ab (x:=w.getD i 0+c+b.getD i 0) (by omega) (by omega)]
      exact go _ rfl
    . have dB:decide ((i:Int)<(b.length:Int))=false:=by rw [ZS];omega
      simp only [dB,QR]
      simp only [Ab (x:=w.getD i 0+c) (by omega) (by omega)]
      exact go _ (by rw [Bk (l:=b) (by omega)];omega)
  . rw [QK,QI (by omega)]
    obtain rfl:i=N+1:=by omega
    rw [QX (by omega)] at h6
    exact ⟨w,c,h1,h2,h3,h4,by simpa [vl] using h6,rfl⟩

theorem B53 {P v c R qB:Int} (h1:v<P) (hP:0<P) (h:v+P*c=R-qB) (hc:c<0):R-qB<0:=by
 have:P*c<=P*(-1):=XG (by omega) (by omega)
 omega

theorem B54 {P v c R q B:Int} (h0:v<P) (h:v+P*c=R-q*B) (hB:0<=B) (hBP:B<P) (hR:0<=R) (hq:q<10000) (hq0:0<=q):-10000<=c:=by
 have h9:q*B<=10000*B:=Int.mul_le_mul_of_nonneg_right (by omega) (by omega)
 rcases Int.lt_or_le c (-10000) with h1 | h1
 . have h8:P*c<=P*(-10001):=XG (by omega) (by omega)
   exfalso;omega
 . exact h1

theorem B52 {v v' x x' R qB B:Int} (h:v+x=R-qB) (h':v'+x'=v+B):v'+(x+x')=R-(qB-B):=by omega

theorem Ap3 {α:Type} {n N R B:Nat} {pre post:List Int} (hB:0<B) (hbN:(dg B).length=N) (hN:pre.length+N+1+post.length<=1099511627776) (hn:N+2<=n) {k0:Int->List Int->Option α} :
  ∀ (m q:Nat) (c:Int) (w:List Int),Lm w->w.length=N+1->c<=0->vl w+10000 ^ (N+1)*c=(R:Int)-q*B->R / B<=q->q<10000->q<m ->
  ∃ w',Lm w'/\w'.length=N+1/\vl w'=((R % B:Nat):Int)/\Iw n m pre.length (N+1) (dg B) ((dg B).length:Int) (q:Int) c (pre++w++post) k0=k0 ((R / B:Nat):Int) (pre++w'++post)
 | 0,q,c,w,h1,h2,h3,h4,h5,h6,h7=>by omega
 | m+1,q,c,w,h1,h2,h3,h4,h5,h6,h7=>by
  rw [Alg];unfold Tp;dsimp only;have hw:=I4 h1;have hw0:=Bd h1;rw [h2] at hw;rw [QK];have hP:=Fs (N+1);have hBP:=A62 B;rw [hbN] at hBP;have hdm:=Qag R B;have hml:=KP R hB;by_cases hc:c<0
  . rw [QG hc];have hneg:=B53 hw hP h4 hc
    have hlt:R / B<q:=by
     rw [JD hB];have:((q*B:Nat):Int)=(q:Int)*B:=XV q B;omega
    have hq0:0<q:=Nat.lt_of_le_of_lt (KI _) hlt
    have hBi:(B:Int)<10000 ^ N:=by rw [<- pwc];omega
    have hBP':(B:Int)<10000 ^ (N+1):=by
     have:=Z9 (show N<=N+1 by omega)
     omega
    have hcm:=B54 (q:=(q:Int)) hw h4 (by omega) hBP' (by omega) (by omega) (by omega)
    rw [Ab (x:=(q:Int)-1) (by omega) (by omega),show (q:Int)-1=((q-1:Nat):Int) by omega]
    obtain ⟨w',c',q1,q2,q3,q4,q5,q6⟩:=Amg (n:=n) (E9 B) hbN hN (q:=((q-1:Nat):Int)) (z:=c) (T:=vl w+B) (k0:=λz_12 z_13 z_14 z_15 z_16 z_17 z_18 z_19=>(
     Iw n m z_12 z_13 z_14 z_15 z_16 (W (z_17+z_18)) z_19 k0)) n 0 0 w h1 h2 (by omega) (by omega) (by omega) (by rw [ZJ,Bh,Int.pow_zero,Int.one_mul,Int.zero_add]) (by omega)
    have q6:Iv n n pre.length (N+1) (dg B) ((dg B).length:Int) ((q-1:Nat):Int) c 0 ((N+1:Nat):Int) 0 (pre++w++post) _=_:=q6;rw [q6]
    have hq1:((q-1:Nat):Int)*B=q*B-B:=by
     rw [show ((q-1:Nat):Int)=(q:Int)-1 by omega,Int.sub_mul,Int.one_mul]
    have hnew:vl w'+10000 ^ (N+1)*(c+c')=(R:Int)-((q-1:Nat):Int)*B:=by
     rw [Int.mul_add,hq1];exact B52 h4 q5
    rw [Ab (x:=c+c') (by omega) (by omega)]
    exact Ap3 hB hbN hN hn m (q-1) (c+c') w' q1 q2 (by omega) hnew (by omega) (by omega) (by omega)
  . rw [QI hc]
    obtain rfl:c=0:=by omega
    rw [Qan,Qbj] at h4
    have e:R / B=q:=by
     refine Nat.le_antisymm h5 ?_;rw [Nat.le_div_iff_mul_le hB];have:((q*B:Nat):Int)=(q:Int)*B:=XV q B;omega
    refine ⟨w,h1,h2,?_,by rw [e]⟩
    have:((B*q:Nat):Int)=(q:Int)*B:=by rw [XV,Int.mul_comm]
    rw [e] at hdm;omega

theorem Bh4 {P lowR lowB high top t R B:Int} (hR:R=lowR+P*high) (hB:B=lowB+P*top) (h1:lowR<P) (h2:0<=lowB) (hP:0<P) (ht:0<=t) (hle:t*B<=R):t*top<=high:=by
 have h3:t*(P*top)<=t*B:=XG (by omega) ht
 have h4:P*(t*top)<P*(high+1):=by
  rw [Int.mul_add,Int.mul_one,show P*(t*top)=t*(P*top) by grind];omega
 have:=Int.lt_of_mul_lt_mul_left h4 (by omega)
 omega

theorem B38 {n M R B:Nat} {pre w post:List Int} (hbN:(dg B).length=M+2) (hN:pre.length+(M+2)+1+post.length<=1099511627776) (hn:M+10010<=n) (hw:Lm w) (hwl:w.length=M+3) (hv:vl w=(R:Int)) (hR:R<10000*B) :
  ∃ w',Lm w'/\w'.length=M+3/\vl w'=((R % B:Nat):Int)/\Aee n (pre++w++post,pre.length,M+3) (dg B)=some (((R / B:Nat):Int),pre++w'++post):=by
 have hB:0<B:=by omega
 unfold Aee;dsimp only;rw [hbN]
 rw [Ab (x:=((M+2:Nat):Int)-1) (by omega) (by omega),Ab (x:=((M+2:Nat):Int)-2) (by omega) (by omega),show ((M+2:Nat):Int)-1=((M+1:Nat):Int) by omega,show ((M+2:Nat):Int)-2=(M:Int) by omega]
 simp only [QO];have hb:=E9 B;have g0:=hw.get (M+2);have g1:=hw.get (M+1);have g2:=hw.get M;have b1:=hb.get (M+1);have b2:=hb.get M
 have bt:(dg B).getD (M+1) 0 ≠ 0:=by
  have:=(Gb B).2 (XP.1 (by omega))
  rw [hbN] at this;exact this
 rw [A3 (by simp;try omega),A3 (by simp;try omega),A3 (by simp;try omega),A3 (by simp;try omega),A3 (by simp;try omega),A3 (by simp;try omega),A3 (by simp;try omega),A3 (by simp;try omega)]
 simp only [Rl (pre:=pre) (post:=post) (w:=w) (i:=M+2) (by omega),Rl (pre:=pre) (post:=post) (w:=w) (i:=M+1) (by omega),Rl (pre:=pre) (post:=post) (w:=w) (i:=M) (by omega)]
 simp only [Ab (x:=(dg B).getD (M+1) 0*10000) (by omega) (by omega),Ab (x:=(dg B).getD (M+1) 0*10000+(dg B).getD M 0) (by omega) (by omega),Ab (x:=w.getD (M+2) 0*10000) (by omega) (by omega),Ab (x:=w.getD (M+2) 0*10000+w.getD (M+1) 0) (by omega) (by omega),Ab (x:=(w.getD (M+2) 0*10000+w.getD (M+1) 0)*10000) (by omega) (by omega),Ab (x:=(w.getD (M+2) 0*10000+w.getD (M+1) 0)*10000+w.getD M 0) (by omega) (by omega)]
 rw [A3 (by simp only [QN];omega)]
 have vw:(R:Int)=vl (w.take M)+10000 ^ M*((w.getD (M+2) 0*10000+w.getD (M+1) 0)*10000+w.getD M 0):=by
  have t1:=Be w (M+2);have t2:=Be w (M+1);have t3:=Be w M
  rw [K9 w (by omega),hv] at t1
  rw [t1,t2,t3,C5,C5];grind
 have vb:(B:Int)=vl ((dg B).take M)+10000 ^ M*((dg B).getD (M+1) 0*10000+(dg B).getD M 0):=by
  have t2:=Be (dg B) (M+1);have t3:=Be (dg B) M
  rw [K9 (dg B) (by omega),Bh] at t2
  rw [t2,t3,C5];grind
 have lw:=I4 (hw.take M)
 rw [KM,Qac (by omega)] at lw
 have lb:=Bd (hb.take M);generalize hhigh:(w.getD (M+2) 0*10000+w.getD (M+1) 0)*10000+w.getD M 0=high at *;generalize htop:(dg B).getD (M+1) 0*10000+(dg B).getD M 0=top at *
 have htop0:0<top:=by omega
 have hh0:0<=high/\high<1000000000000:=by omega
 rw [YP (by omega)]
 have hd0:0<=high / top:=Int.ediv_nonneg (by omega) (by omega)
 have hd1:high / top<=high:=Int.ediv_le_self _ (by omega)
 rw [Ab (x:=high / top) (by omega) (by omega)]
 obtain ⟨q,hq⟩:∃ q:Nat,min (high / top) 9999=(q:Int):=⟨(min (high / top) 9999).toNat,by omega⟩
 have hql:q<10000:=by omega
 have hqr:R / B<=q:=by
  have h1:(((R / B:Nat):Int))*top<=high:=by
   refine Bh4 vw vb lw lb (Fs M) (Int.natCast_nonneg _) ?_;have:=Nat.div_mul_le_self R B;rw [<- XV];omega
  have h2:((R / B:Nat):Int)<=high / top:=by rw [Int.le_ediv_iff_mul_le htop0];exact h1
  have h3:R / B<10000:=by rw [JD hB];omega
  omega
 rw [hq]
 obtain ⟨w1, c1, r1, r2, r3, r4, r5⟩ := Atg (n := n) (N := M + 2) (b := dg B) (pre := pre) (post := post) hb hbN hN (q := (q : Int)) (by omega) (T := (R : Int) - q * B) (k0 := fun z_5 z_6 z_7 z_8 z_9 z_10 z_11 => (
                       Iw n n z_5 z_6 z_7 z_8 z_9 z_10 z_11
                        (λz_20 z_21=>(
                         some (z_20,z_21))))) n 0 0 w hw hwl (by omega) (by omega) (by omega) (by rw [ZJ,Bh,hv,Int.pow_zero,Int.one_mul,Int.zero_sub,Int.sub_eq_add_neg]) (by omega)
 obtain ⟨w2,s1,s2,s3,s4⟩:=Ap3 (n:=n) (N:=M+2) (R:=R) (B:=B) (pre:=pre) (post:=post) hB hbN hN (by omega) (k0:=λz_20 z_21=>(some (z_20,z_21))) n q c1 w1 r1 r2 r3 r4 hqr hql (by omega)
 refine ⟨w2,s1,s2,s3,?_⟩;rw [hbN] at r5 s4;have r5:Gh n n pre.length (M+3) (dg B) ((M+2:Nat):Int) (q:Int) 0 ((M+3:Nat):Int) 0 (pre++w++post) _=_:=r5;rw [r5];exact s4

theorem Bgp (y b:Nat):Int.tdiv (y:Int) (b:Int)=((y / b:Nat):Int):=by
 rw [YP (by omega),Int.natCast_ediv]

theorem Bgo (y b:Nat):Int.tmod (y:Int) (b:Int)=((y % b:Nat):Int):=by
 rw [JY (by omega),Int.natCast_emod]

theorem Amb {o:List Int} {k i:Nat} {x:Int} (h:∀ i,i<k+1->o.getD i 0=0) (hi:i<k):(o.set k x).getD i 0=0:=by
 rw [QH,KO (by omega),<- QH]
 exact h i (by omega)

theorem Af6 {Q B R x q r y:Nat} (hy:x+10000*R=y) (hqr:B*q+r=y) {V:Int} (hV:(Q:Int)*B+R=V):((10000*Q+q:Nat):Int)*B+r=x+10000*V:=by
 have:(B:Int)*q+r=x+10000*R:=by
  rw [<- Aeb,hy,<- hqr,JN,XV]
 rw [A5z,<- hV];grind

theorem Au2 {α:Type} {n A B:Nat} (hB:0<B) (hB1:B<10000) (hlA:(dg A).length<=1099511627000) {k0:Int->List Int->Option α} :
  ∀ (k Q R:Nat) (o:List Int),k<=(dg A).length->R<B->o.length=(dg A).length->Lm o->(∀ i,i<k->o.getD i 0=0)->vl o=10000 ^ k*(Q:Int)->(Q:Int)*B+R=vl ((dg A).drop k) ->
  ∃ o',Lm o'/\o'.length=(dg A).length/\vl o'=((A / B:Nat):Int)/\Kt n (dg A) k (dg A) [(B:Int)] (R:Int) o k0=k0 ((A % B:Nat):Int) o'
 | 0,Q,R,o,h2,h3,h4,h5,h6,h7,h8=>by
  rw [Awf];rw [ZJ,Bh] at h8
  have h8:Q*B+R=A:=by
   have:((Q*B+R:Nat):Int)=A:=by rw [JN,XV];exact h8
   omega
  have h9:A / B=Q:=by rw [<- h8,Qai,JU _ _ hB,KT h3,YZ]
  have h10:A % B=R:=by rw [<- h8,JZ,KN h3]
  exact ⟨o,h5,h4,by rw [h7,h9];simp,by rw [h10]⟩
 | k+1,Q,R,o,h2,h3,h4,h5,h6,h7,h8=>by
  rw [Awd];unfold A2v;dsimp only;have hg:=(E9 A).get k
  obtain ⟨x,hx⟩:∃ x:Nat,(dg A).getD k 0=(x:Int):=⟨((dg A).getD k 0).toNat,by omega⟩
  have hRx:vl ((dg A).drop k)=(x:Int)+10000*vl ((dg A).drop (k+1)):=by
   rw [Ni (by omega),hx]
  simp only [QO]
  rw [A3 (by simp;try omega),A3 (by simp;omega),A3 (by simp;try omega),A3 (by simp;omega),A3 (by simp;try omega),A3 (by simp;try omega),A3 (by simp),hx]
  rw [Ab (x:=(R:Int)*10000) (by omega) (by omega),Ab (x:=(R:Int)*10000+(x:Int)) (by omega) (by omega),show (R:Int)*10000+(x:Int)=((x+10000*R:Nat):Int) by omega]
  have e0:([(B:Int)]).getD 0 0=(B:Int):=rfl;rw [e0,Bgp,Bgo]
  have hq:(x+10000*R) / B<10000:=by
   rw [JD hB];omega
  have hqr:=Qag (x+10000*R) B;have hqm:=KP (x+10000*R) hB;generalize (x+10000*R) / B=q at *;generalize (x+10000*R) % B=r at *
  rw [Ab (x:=(q:Int)) (by omega) (by omega)]
  refine Au2 hB hB1 hlA k (10000*Q+q) r _ (by omega) hqm (by simpa using h4) (h5.set _ (by omega)) (λi hi=>Amb h6 hi) ?_ ?_
  . rw [Lr _ (by omega),h7,h6 k (by omega),C5,A5z]
    generalize (10000:Int) ^ k=P;grind
  . rw [hRx,<- h8];exact Af6 rfl hqr rfl

theorem Amq {α:Type} {n A B M:Nat} (hM:(dg B).length=M+2) (hla:(dg B).length<=(dg A).length) (hlA:(dg A).length<=1099511627000) (hn:(dg A).length+10040<=n) {k0:List Int->List Int->Option α} :
  ∀ (k m Q R:Nat) (o u:List Int),k<m->k<=(dg A).length-(M+1)->R<B->o.length=(dg A).length-(M+1)->Lm o->(∀ i,i<k->o.getD i 0=0)->vl o=10000 ^ k*(Q:Int) ->
  Lm u->u.length+k=(dg A).length+1->vl u=(R:Int)->(Q:Int)*B+R=vl ((dg A).drop k) ->
  ∃ o' u',Lm o'/\o'.length=(dg A).length-(M+1)/\vl o'=((A / B:Nat):Int)/\Lm u'/\u'.length=(dg A).length+1/\vl u'=((A % B:Nat):Int) /\
   Tw n m ((dg B).length:Int) ((k:Int)-1) (dg B) o ((dg A).take k++u) k0=k0 o' u'
 | _,0,_,_,_,_,h1,_,_,_,_,_,_,_,_,_,_=>by omega
 | 0,m+1,Q,R,o,u,h1,h2,h3,h4,h5,h6,h7,u1,u2,u3,h8=>by
  rw [A72];unfold Qi;dsimp only
  rw [QK,QI (by omega)]
  rw [ZJ,Bh] at h8
  have h8:Q*B+R=A:=by
   have:((Q*B+R:Nat):Int)=A:=by rw [JN,XV];exact h8
   omega
  have hB:0<B:=by omega
  have h9:A / B=Q:=by rw [<- h8,Qai,JU _ _ hB,KT h3,YZ]
  have h10:A % B=R:=by rw [<- h8,JZ,KN h3]
  exact ⟨o,u,h5,h4,by rw [h7,h9];simp,u1,by omega,by rw [u3,h10],by simp⟩
 | k+1,m+1,Q,R,o,u,h1,h2,h3,h4,h5,h6,h7,u1,u2,u3,h8=>by
  rw [A72];unfold Qi;dsimp only
  have hB:0<B:=by omega
  rw [QK,QG (by omega)]
  rw [show (((k+1:Nat):Int)-1)=(k:Int) by omega]
  have hg:=(E9 A).get k
  obtain ⟨x,hx⟩:∃ x:Nat,(dg A).getD k 0=(x:Int):=⟨((dg A).getD k 0).toNat,by omega⟩
  have hRx:vl ((dg A).drop k)=(x:Int)+10000*vl ((dg A).drop (k+1)):=by
   rw [Ni (by omega),hx]
  have htk:(dg A).take (k+1)++u=(dg A).take k++((x:Int)::u):=by
   rw [YY (by omega),ZO]
   congr 1
   rw [<- hx,QH,QM (by omega)]
   rfl
  have hL:Lm ((x:Int)::u):=Lm.cons (by omega) u1
  have hv:vl ((x:Int)::u)=((x+10000*R:Nat):Int):=by rw [vl,u3,Aeb]
  have hlt:x+10000*R<10000*B:=by omega
  obtain ⟨w,post,hwp,hw,hp,hwl⟩:∃ w post,(x:Int)::u=w++post/\Lm w/\Lm post/\w.length=M+3 :=
   ⟨((x:Int)::u).take (M+3),((x:Int)::u).drop (M+3),(JC _ _).symm,hL.take _,hL.drop _,by rw [KM,ZD];omega⟩
  have hlp:w.length+post.length=u.length+1:=by
   have:=XT List.length hwp;simpa using this.symm
  have hvp:vl post=0:=by
   have e:=hv;rw [hwp,A5l,hwl] at e
   have h10:B<10000 ^ (M+2):=It (by omega)
   have h11:((x+10000*R:Nat):Int)<10000 ^ (M+3):=by
    rw [C5,<- pwc];omega
   have h12:=Bd hw;have h13:=Bd hp;rcases Int.lt_or_eq_of_le h13 with h | h
   . exfalso
     have h14:(10000:Int) ^ (M+3)*1<=10000 ^ (M+3)*vl post:=XG (by omega) (by have:=Fs (M+3);omega)
     generalize (10000:Int) ^ (M+3)*vl post=z at *;generalize (10000:Int) ^ (M+3)=P at *;omega
   . exact h.symm
  have hvw:vl w=((x+10000*R:Nat):Int):=by
   rw [<- hv,hwp,A5l,hvp];simp
  rw [htk,hwp,<- ZO]
  have hpl:((dg A).take k).length=k:=by rw [KM];omega
  obtain ⟨w',q1,q2,q3,q4⟩:=B38 (n:=n) (pre:=(dg A).take k) (post:=post) hM (by omega) (by omega) hw hwl hvw hlt
  rw [hpl] at q4
  rw [Ab (x:=(k:Int)+((dg B).length:Int)) (by omega) (by omega),Ab (x:=(k:Int)+((dg B).length:Int)+1) (by omega) (by omega)]
  rw [A3 (by simp only [QF,QN,ZL,hpl];omega)]
  rw [show ((k:Int)+((dg B).length:Int)+1).toNat-(k:Int).toNat=M+3 by omega]
  simp only [QO];rw [q4,A1];dsimp only;have hqm:=KP (x+10000*R) hB;have hqr:=Qag (x+10000*R) B
  have hq:(x+10000*R) / B<10000:=by
   rw [JD hB];omega
  generalize (x+10000*R) / B=q at *;generalize (x+10000*R) % B=r at *
  rw [A3 (by simp [hwl,q2]),A3 (by simp;try omega),A3 (by simp;try omega),Ab (x:=(k:Int)-1) (by omega) (by omega),ZO]
  refine Amq hM hla hlA hn k m (10000*Q+q) r _ _ (by omega) (by omega) hqm (by simpa using h4) (h5.set _ (by omega)) (λi hi=>Amb h6 hi) ?_ (q1.app hp) ?_ ?_ ?_
  . rw [Lr _ (by omega),h7,h6 k (by omega),C5,A5z]
    generalize (10000:Int) ^ k=P;grind
  . rw [ZL];omega
  . rw [A5l,hvp,q3];simp
  . rw [hRx,<- h8];exact Af6 rfl hqr rfl

theorem L4 (n:Nat) {l:List Int} (h:l.length<=17592186044416):f123 n l=some l:=by
 unfold f123
 cases l with
 | nil=>rfl
 | cons x r =>
  unfold Asb
  rw [ZZ,QI (by simp),A3 (by rfl),A3 (by simp only [QN];simp only [ZD] at *;omega)]

theorem Ajc (n:Nat) {l:List Int} (h:l.length<=17592186044416) (h0:l ≠ []):A7q n l=some l:=by
 unfold A7q
 cases l with
 | nil=>exact absurd rfl h0
 | cons x r=>rw [A3 (by rfl),A3 (by simp only [QN];simp only [ZD] at *;omega)]

theorem Aq0 {n L A B:Nat} (hB:0<B) (hA:(dg A).length<=L) (hBl:(dg B).length<=L) (hL:L<=1099511627000) (hn:L+10040<=n):f204 n (dg A) (dg B)=some (dg (A / B),dg (A % B)):=by
 unfold f204
 rw [Aed (by omega),A1,QK]
 by_cases hlt:A<B
 . rw [QG (by rw [Jv (by omega)];omega),L4 n (by omega),A1,KT hlt,KN hlt,C8]
 . rw [QI (by
    rcases KY (Nat.le_of_not_lt hlt) with h | h
    . rw [Jw (by omega)];omega
    . rw [Lo (by omega)];omega)]
   have hmn:(dg B).length<=(dg A).length:=Bc (by omega)
   have hb0:0<(dg B).length:=by rw [Dx (by omega)];simp
   rw [ZZ];by_cases h1:(dg B).length=1
   . rw [QG (by simp [h1])]
     have hB1:B<10000:=by have:=It (n:=B) (k:=1) (by omega);simpa using this
     have hBd:dg B=[(B:Int)]:=by
      rw [Dx (by omega),KN hB1,KT hB1,C8]
     rw [A3 (by simp;try omega),show f205 n (dg A)=some (dg A) from rfl,A1,Awe,A3 (by simp;try omega),hBd]
     simp only [QO]
     obtain ⟨o, q1, q2, q3, q4⟩ := Au2 (n := n) (A := A) hB hB1 (by omega) (k0 := fun z_4 z_5 => (
           ob (f202 n z_5) λr_6 =>
           ob (f150 n z_4) λr_7 =>
           some (r_6,r_7))) (dg A).length 0 0 (List.replicate (dg A).length 0) (ZG _) hB (by simp) (Lm.rep _) (λi hi=>by simp [QH,XW,hi]) (by rw [We];simp) (by simp [vl])
     have q4:Kt n (dg A) (dg A).length (dg A) [(B:Int)] 0 _ _=_:=q4;have hm:=KP A hB
     rw [q4,Rw q1 (by omega) (by omega),A1,S7 (by omega) (by omega),A1,q3]
     rfl
   . rw [QI (by simp;omega)]
     obtain ⟨M,hM⟩:∃ M,(dg B).length=M+2:=⟨(dg B).length-2,by omega⟩
     rw [Ajc n (by omega) (XP.1 (by omega)),A1,A3 (by simp;try omega)]
     rw [Ab (x:=((dg A).length:Int)-((dg B).length:Int)) (by omega) (by omega),Ab (x:=((dg A).length:Int)-((dg B).length:Int)+1) (by omega) (by omega),A3 (by simp;try omega)]
     rw [show (((dg A).length:Int)-((dg B).length:Int)+1).toNat=(dg A).length-(M+1) by omega]
     have hR0:=Bd ((E9 A).drop ((dg A).length-(M+1)));obtain ⟨R,hR⟩:∃ R:Nat,vl ((dg A).drop ((dg A).length-(M+1)))=(R:Int):=⟨_,(Int.toNat_of_nonneg hR0).symm⟩
     have hRB:R<B:=by
      have:=I4 ((E9 A).drop ((dg A).length-(M+1)))
      rw [List.length_drop,show (dg A).length-((dg A).length-(M+1))=M+1 by omega,hR] at this
      have h2:=(Gb B).ge (XP.1 (by omega))
      rw [hM,Bh] at h2;have h2:(10000:Int) ^ (M+1)<=B:=h2;generalize (10000:Int) ^ (M+1)=P at *;omega
     obtain ⟨o, u, q1, q2, q3, q4, q5, q6, q7⟩ := Amq (n := n) (A := A) (B := B) hM hmn (by omega) (by omega) (k0 := fun z_10 z_11 => (
             ob (f202 n z_10) λr_12 =>
             ob (f202 n z_11) λr_13 =>
             some (r_12,r_13))) ((dg A).length-(M+1)) n 0 R (List.replicate ((dg A).length-(M+1)) 0) ((dg A).drop ((dg A).length-(M+1))++[0]) (by omega) (ZG _) hRB (by simp) (Lm.rep _) (λi hi=>by simp [QH,XW,hi]) (by rw [We];simp) (((E9 A).drop _).app (Lm.cons (by omega) Lm.nil)) (by simp;omega) (by rw [Ra,hR];simp) (by rw [hR];simp)
     rw [<- ZO,JC] at q7
     rw [show ((dg A).length:Int)-((dg B).length:Int)=(((dg A).length-(M+1):Nat):Int)-1 by omega,q7,Rw q1 (by omega) (by omega),A1,Rw q4 (by omega) (by omega),A1,q3,q6]
     rfl

theorem Bcp {α:Type} {n L:Nat} (hL:L<=1099511627000) (hn:L+10040<=n) {k0:List Int->Option α} :
  ∀ (j m a b:Nat),b<2 ^ j->2*j+1<=m->(dg a).length<=L->(dg b).length<=L->Kv n m (dg a) (dg b) k0=k0 (dg (Nat.gcd b a)):=by
 have stop:∀ (m a:Nat),0<m->Kv n m (dg a) (dg 0) k0=k0 (dg (Nat.gcd 0 a)):=λm a hm=>by
  obtain ⟨m,rfl⟩:∃ m',m=m'+1:=⟨m-1,by omega⟩
  rw [Ac5,Qay,C8];rfl
 have step:∀ (m a b:Nat),0<b->(dg a).length<=L->(dg b).length<=L->Kv n (m+1) (dg a) (dg b) k0=Kv n m (dg b) (dg (a % b)) k0:=λm a b hb ha hbl=>by
  rw [Ac5];unfold A2y
  have:0<(dg b).length:=by rw [Dx (by omega)];simp
  rw [QK,QG (by omega),Aq0 hb ha hbl hL hn,A1]
 intro j
 induction j with
 | zero =>
  intro m a b h1 h2 h3 h4
  obtain rfl:b=0:=by simpa using h1
  exact stop m a (by omega)
 | succ j ih =>
  intro m a b h1 h2 h3 h4;rcases YU b with rfl | hb
  . exact stop m a (by omega)
  obtain ⟨m,rfl⟩:∃ m',m=m'+2:=⟨m-2,by omega⟩
  have h5:(dg (a % b)).length<=L:=ZQ (Bc (Nat.le_of_lt (KP a hb))) h4;rw [step _ _ _ hb h3 h4,Nat.gcd_rec b a];rcases YU (a % b) with hr | hr
  . rw [hr];exact stop _ _ (by omega)
  have h6:(dg (b % (a % b))).length<=L:=ZQ (Bc (Nat.le_of_lt (KP b hr))) h5;rw [step _ _ _ hr h4 h5,Nat.gcd_rec (a % b) b]
  exact ih m _ _ (Agb hb hr h1) (by omega) h5 h6

theorem B5u {n L a b:Nat} (hL:L<=1099511627000) (hn:28*L+10040<=n) (ha:(dg a).length<=L) (hb:(dg b).length<=L):f203 n (dg a) (dg b)=some (dg (Nat.gcd a b)):=by
 unfold f203
 rw [Bcp hL (by omega) (14*L) n a b (Amf (It hb)) (by omega) ha hb,Nat.gcd_comm]

abbrev Rt:=Bool × List Int × List Int

abbrev rt0:Rt:=(false,[],[])

def Sm (x:Rt):Prop:=x.2.1.length<=1048576/\x.2.2.length<=1048576

theorem Sm.get {l:List Rt} (h:∀ x ∈ l,Sm x) (i:Nat):Sm (l.getD i rt0):=by
 rw [QH]
 cases e:l[i]? with
 | none=>exact ⟨by simp,by simp⟩
 | some x=>exact h x (ZM e)

def Ha (x:Int):Bool:=decide (0<=x/\x<=9999)

def Q5 (l:List Int):Bool:=decide (l.length<=40)&&l.all Ha&&(l.isEmpty || decide (0<l.getD (l.length-1) 0))

theorem Rk {l:List Int} (h:Q5 l=true):Cn l/\l.length<=40:=by
 unfold Q5 at h;simp only [QF,QN,XH,QJ,YR] at h;obtain ⟨⟨h1,h2⟩,h3⟩:=h;refine ⟨⟨λx hx=>?_,λhn=>?_⟩,h1⟩
 . have:=h2 x hx;unfold Ha at this;rw [QN] at this;omega
 . rcases h3 with h3 | h3
   . exact absurd h3 hn
   . omega

theorem O2 {α:Type} {l:List α} {p:α->Bool} {i:Nat} (h:i<l.length) (d:α):(l.drop i).all p=(p (l.getD i d)&&(l.drop (i+1)).all p):=by
 rw [XQ h,XC,QH,QM h];rfl

theorem Ix {n:Nat} {a lo hi:Int}:f181 n a lo hi=some (decide (lo<=a/\a<=hi)):=by
 unfold f181;by_cases h:lo<=a <;> simp [h]

theorem A07 {n:Nat} {a lo hi:Int}:f177 n a lo hi=some (decide (lo<=a/\a<=hi)):=by
 unfold f177;by_cases h:lo<=a <;> simp [h]

theorem Ac2 {α:Type} {n:Nat} {l:List Int} (hl:l.length<=1048576) {k0:Bool->Option α} {k1:List Int->Option α}:∀ (m i:Nat),i<=l.length->l.length<i+m->Rr n m l (i:Int) k0 k1=if (l.drop i).all Ha=true then k1 l else k0 false
 | 0,i,hi,hm=>by omega
 | m+1,i,hi,hm=>by
  rw [Aw7];unfold A2o;dsimp only;rw [QK];by_cases h:i<l.length
  . rw [QG (by omega),A3 (by simp;try omega)]
    simp only [QO];rw [Ix,A1,O2 h 0]
    cases hp:Ha (l.getD i 0) with
    | true =>
     unfold Ha at hp
     rw [hp,Ab (x:=(i:Int)+1) (by omega) (by omega)]
     simp only [ZT,QR,ZV]
     exact Ac2 hl m (i+1) (by omega) (by omega)
    | false =>
     unfold Ha at hp;rw [hp];simp
  . rw [QI (by omega),QX (by omega)]
    rfl

theorem Ane {n:Nat} {l:List Int} (hn:1048577<=n):f212 n l=some (Q5 l):=by
 unfold f212 Q5;rw [QK];by_cases h:l.length<=4096
 . rw [QI (by omega)]
   have:=Ac2 (n:=n) (l:=l) (by omega) (k0:=λz_2=>some z_2) (k1:=λz_3=>(
     bif (decide ((z_3.length:Int)<=40)) then
      bif ((z_3.length:Int)==0) then
       some true
      else
       gd (decide (0<=(W ((z_3.length:Int)-1)))&&decide ((W ((z_3.length:Int)-1))<(z_3.length:Int))) (
        some (decide ((z_3.getD ((W ((z_3.length:Int)-1)).toNat) 0)>0)))
     else
      some false)) n 0 (by omega) (by omega)
   have this:Rr n n l 0 _ _=_:=this;rw [this,ZJ]
   cases l.all Ha with
   | false=>simp
   | true =>
    rw [QG rfl,QK];by_cases h40:l.length<=40
    . rw [QG (by omega)]
      cases l with
      | nil=>rfl
      | cons x r =>
       rw [ZZ,QI (by simp;omega),Ab (x:=((x::r).length:Int)-1) (by omega) (by omega),A3 (by simp;omega),show (((x::r).length:Int)-1).toNat=(x::r).length-1 by omega]
       have h41:r.length<=39:=by simpa using h40
       simp [h41]
    . rw [QI (by omega)]
      simp [h40]
 . rw [QG (by omega),QQ (by omega)]
   rfl

theorem Vv {n:Nat} {l:List Int} (hl:l.length<=1048576):∀ (m i:Nat),i<=l.length->l.length<i+m->∃ r,Hs n m l (l.length:Int) (i:Int) (λz=>some z) (λ(_:Unit)=>some (-1))=some r/\decide (r>=0) = !(l.drop i).all Ha
 | 0,i,hi,hm=>by omega
 | m+1,i,hi,hm=>by
  rw [Adq];unfold Ol;dsimp only;rw [QK];by_cases h:i<l.length
  . rw [QG (by omega),A3 (by simp;try omega)]
    simp only [QO]
    have e:f227 n (l.getD i 0)=some (!Ha (l.getD i 0)):=by
     unfold f227 Ha;rw [QK];generalize l.getD i 0=x;by_cases h1:x<0
     . rw [QG h1,QQ (by omega)];rfl
     . rw [QI h1];by_cases h2:x<=9999
       . rw [QQ (by omega),QU (by omega)];rfl
       . rw [QU (by omega),QQ (by omega)];rfl
    rw [e,A1,O2 h 0]
    cases hp:Ha (l.getD i 0) with
    | true =>
     rw [Ab (x:=(i:Int)+1) (by omega) (by omega)]
     simp only [ZT,QR,ZV]
     exact Vv hl m (i+1) (by omega) (by omega)
    | false =>
     exact ⟨i,rfl,by simp⟩
  . rw [QI (by omega),QX (by omega)]
    exact ⟨-1,rfl,rfl⟩

theorem A1l {n:Nat} {l:List Int} (hl:l.length<=1048576) (hn:1048577<=n):Om n l ()=some (!l.all Ha):=by
 unfold Om A2d
 obtain ⟨r,h1,h2⟩:=Vv (n:=n) hl n 0 (by omega) (by omega)
 have h1:Hs n n l (l.length:Int) 0 _ _=_:=h1;rw [h1,A1,h2,ZJ]

theorem An8 {n:Nat} {l:List Int} (hn:1048577<=n):f225 n l=some (Q5 l):=by
 unfold f225 Q5;rw [QK];by_cases h:l.length<=40
 . rw [QI (by omega),QU h,ZV,QK]
   cases l with
   | nil=>rw [QI (by simp),A1l (by omega) hn];rfl
   | cons x r =>
    rw [QG (by simp),Ab (x:=((x::r).length:Int)-1) (by omega) (by omega),A3 (by simp;omega),show (((x::r).length:Int)-1).toNat=(x::r).length-1 by omega]
    rw [A1l (by omega) hn,A1,Bool.not_not,ZZ]
    by_cases hz:(x::r).getD ((x::r).length-1) 0=0
    . rw [QG (by rw [hz];rfl),hz];simp
    . rw [QI (by rw [KL];exact hz)]
      cases ha:(x::r).all Ha with
      | false=>rfl
      | true =>
       have:Ha ((x::r).getD ((x::r).length-1) 0)=true:=by
        rw [QJ] at ha;apply ha
        rw [QH,QM (by simp)]
        simp only [YL];exact KU _
       unfold Ha at this;rw [QN] at this
       rw [QU (by omega)]
       simp
 . rw [QG (by omega),QQ h];rfl

theorem Apy {α:Type} (l:List α):((l.length:Int)==0)=l.isEmpty:=by
 cases l with
 | nil=>rfl
 | cons x r=>rw [beq_eq_false_iff_ne.2 (by simp;omega)];rfl

def H9 (x:Rt):Bool:=Q5 x.2.1&&Q5 x.2.2 && !x.2.2.isEmpty && !(x.2.1.isEmpty&&x.1)&&decide (Nat.gcd (vl x.2.1).toNat (vl x.2.2).toNat=1)

theorem Gl:dg 1=[1]:=by rw [Dx (by omega),show 1 / 10000=0 from rfl,C8];rfl

theorem Ak4 {g:Nat}:(cm (g:Int) ((1:Nat):Int)==0)=decide (g=1):=by
 unfold cm;by_cases h:g=1
 . subst h;rfl
 . rw [QQ h];by_cases h2:(g:Int)<(1:Nat)
   . rw [QG h2];rfl
   . rw [QI h2,QI (by omega)];rfl

theorem An0 {a b:Nat} (ha:(dg a).length<=40) (hb:(dg b).length<=40):(dg (Nat.gcd a b)).length<=40:=by
 rcases YU a with rfl | h
 . rw [Qay];exact hb
 . exact ZQ (Bc (Nat.gcd_le_left b h)) ha

theorem B8w {n:Nat} {x:Rt} (hn:1048577<=n):f184 n x=some (H9 x):=by
 obtain ⟨s,a,b⟩:=x;unfold f184 H9;dsimp only;simp only [Apy];rw [Ane hn,A1,Ane hn,A1]
 cases ha:Q5 a with
 | false=>rfl
 | true =>
  cases hb:Q5 b with
  | false=>rfl
  | true =>
   obtain ⟨ca,la⟩:=Rk ha;obtain ⟨cb,lb⟩:=Rk hb;have ea:=I7 ca;have eb:=I7 cb
   have hg:f213 n a b=some (dg (Nat.gcd (vl a).toNat (vl b).toNat)):=by
    conv=>lhs;rw [<- ea,<- eb]
    exact B5f (L:=40) (by omega) (by omega) (by rw [ea];exact la) (by rw [eb];exact lb)
   have hgl:=An0 (a:=(vl a).toNat) (b:=(vl b).toNat) (by rw [ea];exact la) (by rw [eb];exact lb)
   rw [hg,A1,<- Gl,Ae7 (by omega) (by omega),A1,Ak4]
   cases b <;> cases a <;> cases s <;> simp

theorem B88 {n:Nat} {x:Rt} (hn:1048577<=n):f215 n x=some (H9 x):=by
 obtain ⟨s,a,b⟩:=x;unfold f215 H9;dsimp only;rw [An8 hn,A1,An8 hn,A1]
 cases ha:Q5 a with
 | false=>rfl
 | true =>
  cases hb:Q5 b with
  | false=>rfl
  | true =>
   obtain ⟨ca,la⟩:=Rk ha;obtain ⟨cb,lb⟩:=Rk hb;have ea:=I7 ca;have eb:=I7 cb
   have hg:f203 n a b=some (dg (Nat.gcd (vl a).toNat (vl b).toNat)):=by
    conv=>lhs;rw [<- ea,<- eb]
    exact B5u (L:=40) (by omega) (by omega) (by rw [ea];exact la) (by rw [eb];exact lb)
   have hgl:=An0 (a:=(vl a).toNat) (b:=(vl b).toNat) (by rw [ea];exact la) (by rw [eb];exact lb)
   rw [hg,A1,show f151 n=some [1] from rfl,A1,<- Gl,Aed (by omega),A1,Ak4,show f168 n (s,a,b)=some ((a.length:Int)==0) from rfl,A1,Apy,Apy]
   cases b <;> cases a <;> cases s <;> simp

theorem Vz {n:Nat} {l:List Rt} (hl:l.length<=1048576) (hn:1048577<=n):∀ (m i:Nat),i<=l.length->l.length<i+m->∃ r,Hx n m l (l.length:Int) (i:Int) (λz=>some z) (λ(_:Unit)=>some (-1))=some r/\decide (r>=0) = !(l.drop i).all H9
 | 0,i,hi,hm=>by omega
 | m+1,i,hi,hm=>by
  rw [Adt];unfold P7;dsimp only;rw [QK];by_cases h:i<l.length
  . rw [QG (by omega),A3 (by simp;try omega)]
    simp only [QO]
    have e:f214 n (l.getD i rt0)=some (!H9 (l.getD i rt0)):=by
     unfold f214;rw [B88 hn,A1]
    rw [e,A1,O2 h rt0]
    cases hp:H9 (l.getD i rt0) with
    | true =>
     rw [Ab (x:=(i:Int)+1) (by omega) (by omega)]
     simp only [ZT,QR,ZV]
     exact Vz hl hn m (i+1) (by omega) (by omega)
    | false=>exact ⟨i,rfl,by simp⟩
  . rw [QI (by omega),QX (by omega)]
    exact ⟨-1,rfl,rfl⟩

theorem Als {n:Nat} {l:List Rt} (hl:l.length<=1048576) (hn:1048577<=n):Uv n l ()=some (!l.all H9):=by
 unfold Uv A3q
 obtain ⟨r,h1,h2⟩:=Vz (n:=n) hl hn n 0 (by omega) (by omega)
 have h1:Hx n n l (l.length:Int) 0 _ _=_:=h1;rw [h1,A1,h2,ZJ]

theorem B8u {n:Nat} {l:List Rt} (hl:l.length<=1048576) (hn:1048577<=n):f185 n l=some (if l.all H9=true then 0 else 1):=by
 unfold f185;rw [Als hl hn,A1]
 cases l.all H9 <;> rfl

def F0 (l:List Rt):Bool:=decide (1<=l.length/\l.length<=4)&&l.all H9

theorem Ad1 {α:Type} {n:Nat} {l:List Rt} (hl:l.length<=1048576) (hn:1048577<=n) {k0:Bool->Option α} {k1:List Rt->Option α}:∀ (m i:Nat),i<=l.length->l.length<i+m->Sf n m l (i:Int) k0 k1=if (l.drop i).all H9=true then k1 l else k0 false
 | 0,i,hi,hm=>by omega
 | m+1,i,hi,hm=>by
  rw [Azc];unfold A54;dsimp only;rw [QK];by_cases h:i<l.length
  . rw [QG (by omega),A3 (by simp;try omega)]
    simp only [QO];rw [B8w hn,A1,O2 h rt0]
    cases hp:H9 (l.getD i rt0) with
    | true =>
     rw [Ab (x:=(i:Int)+1) (by omega) (by omega)]
     simp only [ZT,QR,ZV]
     exact Ad1 hl hn m (i+1) (by omega) (by omega)
    | false=>simp
  . rw [QI (by omega),QX (by omega)]
    rfl

theorem Aam {n:Nat} {l:List Rt} (hn:1048577<=n):f116 n l=some (F0 l):=by
 unfold f116 F0;rw [QK];by_cases h:l.length<=4096
 . rw [QI (by omega)]
   have h1:=Ad1 (n:=n) (l:=l) (by omega) hn (k0:=λz_3=>some z_3) (k1:=λz_4=>(
     ob (f181 n (z_4.length:Int) 1 4) λr_5 =>
     some r_5)) n 0 (by omega) (by omega)
   have h1:Sf n n l 0 _ _=_:=h1;rw [h1,ZJ,Ix,A1]
   have e:decide ((1:Int)<=(l.length:Int)/\(l.length:Int)<=4)=decide (1<=l.length/\l.length<=4):=by
    apply decide_eq_decide.2;omega
   rw [e]
   cases l.all H9 <;> simp
 . rw [QG (by omega),QQ (by omega)];rfl

theorem Aak {n:Nat} {l:List Rt} (hn:1048577<=n):f119 n l=some (F0 l):=by
 unfold f119 F0;rw [QK,QK];by_cases h:1<=l.length/\l.length<=4
 . rw [QG (by omega),QG (by omega),B8u (by omega) hn,QU h,A1]
   cases l.all H9 <;> rfl
 . rw [QQ h];split
   . rw [QI (by omega)];rfl
   . rfl

theorem Acx {n:Nat} {l:List Int} (hl:l.length<=1048576):∀ (m i:Nat),i<=l.length->l.length<i+m->∃ c,Se n m 4096 l (l.length:Int) (i:Int) (λz=>some z) (λ(_:Unit)=>some 0)=some c/\((c=0 /\ ∀ x ∈ l.drop i,x<=4096) \/ (c=2 /\ ∃ x ∈ l,4096<x))
 | 0,i,hi,hm=>by omega
 | m+1,i,hi,hm=>by
  rw [Az1];unfold A4v;dsimp only;rw [QK];by_cases h:i<l.length
  . rw [QG (by omega),A3 (by simp;try omega)]
    simp only [QO];rw [QK];by_cases hx:4096<l.getD i 0
    . rw [QG hx];refine ⟨2,rfl,.inr ⟨rfl,l.getD i 0,?_,hx⟩⟩;rw [QH,QM h];exact KU h
    . rw [QI hx,Ab (x:=(i:Int)+1) (by omega) (by omega)]
      obtain ⟨c,h1,h2⟩:=Acx (n:=n) hl m (i+1) (by omega) (by omega)
      refine ⟨c,h1,h2.imp (λ⟨e,h3⟩=>⟨e,λx hx'=>?_⟩) (λh=>h)⟩;rw [XQ h] at hx';rcases QW.1 hx' with rfl | hx'
      . rw [QH,QM h] at hx;exact Int.not_lt.1 hx
      . exact h3 x hx'
  . rw [QI (by omega)]
    refine ⟨0,rfl,.inl ⟨rfl,λx hx=>?_⟩⟩
    rw [QX (by omega)] at hx
    cases hx

theorem Agm {α:Type} {n:Nat} {L:List (List Rt)} (hl:L.length<=1048576) {k0:List Int->Option α}:∀ (m i:Nat) (o:List Int),o.length<=i->i<=L.length->L.length<i+m->Xl n m L (L.length:Int) (i:Int) o k0=k0 (o++(L.drop i).map λv=>(v.length:Int))
 | 0,i,o,ho,hi,hm=>by omega
 | m+1,i,o,ho,hi,hm=>by
  rw [B2m];unfold A9g;dsimp only;rw [QK];by_cases h:i<L.length
  . rw [QG (by omega),A3 (by simp;try omega),A3 (by simp only [QN];omega)]
    simp only [QO]
    rw [Ab (x:=(i:Int)+1) (by omega) (by omega),show (i:Int)+1=((i+1:Nat):Int) from rfl,Agm hl m (i+1) _ (by simp;omega) (by omega) (by omega),XQ h,QH,QM h,ZO]
    rfl
  . rw [QI (by omega),QX (by omega)]
    simp

theorem Avc {n:Nat} {L:List (List Rt)} (hl:L.length<=1048576) (hn:1048577<=n):∃ c,f71 n L=some c/\((c=0 /\ ∀ v ∈ L,v.length<=4096) \/ (c=2 /\ ∃ v ∈ L,4096<v.length)):=by
 unfold f71
 have h1:=Agm (n:=n) (L:=L) hl (k0:=λz_1=>(
   ob (f122 n 4096 z_1) λr_2 =>
   some r_2)) n 0 [] (by simp) (by omega) (by omega)
 have h1:Xl n n L (L.length:Int) 0 [] _=_:=h1;rw [h1,ZJ,JM];unfold f122
 obtain ⟨c,h2,h3⟩:=Acx (n:=n) (l:=L.map λv=>(v.length:Int)) (by simpa using hl) n 0 (by omega) (by simp;omega)
 have h2:Se n n 4096 _ _ 0 _ _=_:=h2
 refine ⟨c,by rw [h2,A1],h3.imp (λ⟨e,h⟩=>⟨e,λv hv=>by have:=h _ (by rw [ZJ];exact ZK.2 ⟨v,hv,rfl⟩);omega⟩) λ⟨e,x,hx,hx'⟩=>⟨e,?_⟩⟩
 obtain ⟨v,hv,rfl⟩:=ZK.1 hx
 exact ⟨v,hv,by omega⟩

theorem A7o {α:Type} {n:Nat} {L:List (List Rt)} (hl:L.length<=1048576) (hn:1048577<=n) {k0:Int->Option α} {k1:List (List Rt)->Option α}:∀ (m i:Nat),i<=L.length->L.length<i+m->Sd n m L L (L.length:Int) (i:Int) k0 k1=if (L.drop i).all F0=true then k1 L else k0 1
 | 0,i,hi,hm=>by omega
 | m+1,i,hi,hm=>by
  rw [Ays];unfold A4p;dsimp only;rw [QK];by_cases h:i<L.length
  . rw [QG (by omega),A3 (by simp;try omega)]
    simp only [QO];rw [Aak hn,A1,O2 h []]
    cases hp:F0 (L.getD i []) with
    | true =>
     rw [Ab (x:=(i:Int)+1) (by omega) (by omega)]
     simp only [ZT,QR,ZV]
     exact A7o hl hn m (i+1) (by omega) (by omega)
    | false=>simp
  . rw [QI (by omega),QX (by omega)]
    rfl

theorem A1m {α:Type} {n:Nat} {L:List (List Rt)} (hl:L.length<=1048576) {k0:Int->Option α} {k1:Unit->Option α}:∀ (m i:Nat),i<=L.length->L.length<i+m->Kz n m L L (L.length:Int) (i:Int) k0 k1=if ((L.drop i).all λv=>v.length==(L.getD 0 []).length)=true then k1 () else k0 8
 | 0,i,hi,hm=>by omega
 | m+1,i,hi,hm=>by
  rw [As7];unfold Ym;dsimp only;rw [QK];by_cases h:i<L.length
  . rw [QG (by omega),A3 (by simp;try omega),A3 (by simp only [QN];omega)]
    simp only [QO];rw [O2 h []];by_cases hp:(L.getD i []).length=(L.getD 0 []).length
    . rw [hp,Ab (x:=(i:Int)+1) (by omega) (by omega),XK,QR,BEq.rfl,ZV]
      exact A1m hl m (i+1) (by omega) (by omega)
    . rw [show (((L.getD i []).length:Int) != ((L.getD 0 []).length:Int))=true by rw [bne_iff_ne];omega,show ((L.getD i []).length==(L.getD 0 []).length)=false by rw [beq_eq_false_iff_ne];exact hp]
      simp
  . rw [QI (by omega),QX (by omega)]
    rfl

theorem Bah {n:Nat} {L:List (List Rt)} (hl:L.length<=1048576) (hn:1048577<=n):∃ c,f128 n L=some c/\(c==0)=(L.all F0&&L.all λv=>v.length==(L.getD 0 []).length):=by
 unfold f128;obtain ⟨c,h1,h2⟩:=Avc hl hn;rw [h1,A1];rcases h2 with ⟨rfl,_⟩ | ⟨rfl,v,hv,hlv⟩
 . rw [XK,QR]
   have h5:=A7o (n:=n) (L:=L) hl hn (k0:=λz_3=>some z_3) (k1:=λz_4=>(
     Kz n n z_4 z_4 (z_4.length:Int) 0
      (λz_5=>(
       some z_5))
      (λ(_:Unit)=>(
       some 0)))) n 0 (by omega) (by omega)
   have h5:Sd n n L L (L.length:Int) 0 _ _=_:=h5;rw [h5,ZJ]
   cases L.all F0 with
   | false=>exact ⟨1,rfl,rfl⟩
   | true =>
    have h6:=A1m (n:=n) (L:=L) hl (k0:=λz_5=>some z_5) (k1:=λ(_:Unit)=>some 0) n 0 (by omega) (by omega)
    have h6:Kz n n L L (L.length:Int) 0 _ _=_:=h6;rw [QG rfl,h6,ZJ]
    cases L.all λv=>v.length==(L.getD 0 []).length with
    | false=>exact ⟨8,rfl,rfl⟩
    | true=>exact ⟨0,rfl,rfl⟩
 . refine ⟨2,rfl,?_⟩
   have:L.all F0=false:=by
    rw [List.all_eq_false];refine ⟨v,hv,?_⟩;unfold F0
    rw [QQ (by omega)]
    simp
   rw [this];rfl

abbrev Nod:=Int × Int × Int × Int

def B9 (op:Int):Int:=if op=3 \/ op=4 \/ op=5 \/ op=6 then 2 else if op=7 \/ op=8 then 1 else 0

theorem Agu {n:Nat} {x:Nod}:f61 n x=some (B9 x.1):=by
 unfold f61 B9;simp only [ZZ,KL];grind

def Gf (x:Nod):Prop:=if x.1=1 then 0<=x.2.2.2/\x.2.2.2<=999999999 else if x.1=2 then 0<=x.2.2.2/\x.2.2.2<=3 else if x.1=8 then 0<=x.2.2.2/\x.2.2.2<=8 else x.2.2.2=0

instance (x:Nod):Decidable (Gf x):=by unfold Gf;infer_instance

theorem B81 {n:Nat} {x:Nod}:f223 n x=some (decide (Gf x)):=by
 unfold f223 Gf;simp only [ZZ,KL,A07,A1];grind

theorem B7z {n:Nat} {h:Bool} {k i:Int} (hi:0<=i/\i<1152921504606846976):f224 n h k i=some (decide (if h=true then 0<=k/\k<=i-1 else k=0)):=by
 unfold f224
 simp only [A07,A1,Ab (x:=i-1) (by omega) (by omega),ZZ]
 cases h <;> grind

def Cc (x:Nod) (i:Int):Prop:=(1<=x.1/\x.1<=8)/\Gf x/\(if B9 x.1>0 then 0<=x.2.1/\x.2.1<=i-1 else x.2.1=0)/\(if B9 x.1>1 then 0<=x.2.2.1/\x.2.2.1<=i-1 else x.2.2.1=0)

instance (x:Nod) (i:Int):Decidable (Cc x i):=by unfold Cc;infer_instance

theorem B8c {n:Nat} {x:Nod} {i:Int} (hi:0<=i/\i<1152921504606846976):f211 n x i=some (decide (Cc x i)):=by
 unfold f211 Cc;simp only [A07,B81,Agu,A1,B7z hi,ZZ,QN];grind

theorem H4 {n:Nat} {a:Int}:f146 n a=some (decide (3<=a/\a<=6)):=by
 unfold f146;simp [Ix]

theorem Ky {n:Nat} {a:Int}:f147 n a=some (decide (a=7 \/ a=8)):=by
 unfold f147;simp only [ZZ,KL];grind

def Ff (x:Nod) (i:Int):Prop:=(1<=x.1/\x.1<=8)/\(if 3<=x.1/\x.1<=6 then (0<=x.2.1/\x.2.1<=i-1)/\(x.2.1+1<=x.2.2.1/\x.2.2.1<=i-1)/\x.2.2.2=0
 else if x.1=7 \/ x.1=8 then x.2.1=i-1/\0<i/\x.2.2.1=0/\0<=x.2.2.2/\x.2.2.2<=(if x.1=8 then 8 else 0)
 else if x.1=2 then x.2.1=0/\x.2.2.1=0/\0<=x.2.2.2/\x.2.2.2<=3 else x.2.1=0/\x.2.2.1=0/\0<=x.2.2.2/\x.2.2.2<=999999999)

instance (x:Nod) (i:Int):Decidable (Ff x i):=by unfold Ff;infer_instance

theorem B8s {n:Nat} {x:Nod} {i:Int} (hi:0<=i/\i<1152921504606846976):f186 n x i=some (decide (Ff x i)):=by
 unfold f186 Ff
 simp only [Ix,H4,Ky,Kw,A1,Ab (x:=i-1) (by omega) (by omega),ZZ,QN,KL]
 by_cases h0:1<=x.1/\x.1<=8
 . by_cases h1:3<=x.1/\x.1<=6
   . by_cases h2:0<=x.2.1/\x.2.1<=i-1
     . rw [Ab (x:=x.2.1+1) (by omega) (by omega)]
       simp only [h0,h1,h2];by_cases h3:x.2.1+1<=x.2.2.1/\x.2.2.1<=i-1
       . simp [h3];rfl
       . simp [h3]
     . simp [h0,h1,h2]
   . by_cases h2:x.1=7 \/ x.1=8
     . have e : W (8 * (if (x.1 == 8) = true then 1 else 0)) = if x.1 = 8 then 8 else 0 := by
        by_cases h:x.1=8 <;> simp [h] <;> exact Ab (by omega) (by omega)
       simp only [KL] at e;simp only [h0,h1,h2,e];grind
     . grind
 . simp [h0]

def okP (bs:List Int) (x:Nod) (i:Int):Prop:=Ff x i/\(3<=x.1/\x.1<=6->x.2.2.1=i-1/\bs.getD x.2.2.1.toNat 0=x.2.1+1)

instance (bs:List Int) (x:Nod) (i:Int):Decidable (okP bs x i):=by unfold okP;infer_instance

def nb (bs:List Int) (x:Nod) (i:Int):Int:=if 3<=x.1/\x.1<=8 then bs.getD x.2.1.toNat 0 else i

def nd (ds:List Int) (x:Nod):Int:=if 3<=x.1/\x.1<=6 then 1+max (ds.getD x.2.1.toNat 0) (ds.getD x.2.2.1.toNat 0) else if x.1=7 \/ x.1=8 then 1+ds.getD x.2.1.toNat 0 else 1

def Ge:List Int->List Int->List Nod->Option (List Int × List Int)
 | bs,ds,[]=>some (bs,ds)
 | bs,ds,x::r=>if okP bs x bs.length then Ge (bs++[nb bs x bs.length]) (ds++[nd ds x]) r else none

structure Ab2 (bs ds:List Int):Prop where
 len:ds.length=bs.length
 small:bs.length<=1048576
 b:∀ j,j<bs.length->0<=bs.getD j 0/\bs.getD j 0<=j
 d:∀ j,j<ds.length->1<=ds.getD j 0/\ds.getD j 0<=j+1

theorem Su {a:Int} {k:Nat} (h0:0<=a) (h:a<=(k:Int)-1):a.toNat<k:=by omega

theorem Ab2.step {bs ds:List Int} (h:Ab2 bs ds) {x:Nod} (hx:okP bs x bs.length) (hs:bs.length+1<=1048576):Ab2 (bs++[nb bs x bs.length]) (ds++[nd ds x]):=by
 obtain ⟨h1,h2,h3,h4⟩:=h;have hn:=hx.1;unfold Ff at hn
 refine ⟨by simp [h1],by simpa using hs,λj hj=>?_,λj hj=>?_⟩
 . simp only [ZL,ZD,XD] at hj;rcases ZW j bs.length with hlt | hge
   . rw [B5 hlt];exact h3 j hlt
   . obtain rfl:j=bs.length:=by omega
     rw [Bl];unfold nb;split
     . have ha : 0 <= x.2.1 /\ x.2.1 <= (bs.length : Int) - 1 := by
        split at hn
        . omega
        . split at hn
          . omega
          . omega
       have:=h3 _ (Su ha.1 ha.2);omega
     . omega
 . simp only [ZL,ZD,XD] at hj;rcases ZW j ds.length with hlt | hge
   . rw [B5 hlt];exact h4 j hlt
   . obtain rfl:j=ds.length:=by omega
     rw [Bl];unfold nd;split
     . rename_i h2';rw [QG h2'] at hn
       have ha:=h4 _ (by rw [h1];exact Su (k:=bs.length) (a:=x.2.1) (by omega) (by omega))
       have hb:=h4 _ (by rw [h1];exact Su (k:=bs.length) (a:=x.2.2.1) (by omega) (by omega))
       omega
     . rename_i h2';rw [QI h2'] at hn;split
       . rename_i h3';rw [QG h3'] at hn
         have ha:=h4 _ (by rw [h1];exact Su (k:=bs.length) (a:=x.2.1) (by omega) (by omega))
         omega
       . omega

theorem Afd:∀ (r:List Nod) (bs ds bs' ds':List Int),Ab2 bs ds->bs.length+r.length<=1048576->Ge bs ds r=some (bs',ds')->Ab2 bs' ds'/\bs'.length=bs.length+r.length/\(∀ j,j<bs.length->bs'.getD j 0=bs.getD j 0)/\(∀ j,j<ds.length->ds'.getD j 0=ds.getD j 0)
 | [],bs,ds,bs',ds',hi,_,h=>by
  simp only [Ge,QC,QL] at h;obtain ⟨rfl,rfl⟩:=h
  exact ⟨hi,by simp,λ_ _=>rfl,λ_ _=>rfl⟩
 | x::r,bs,ds,bs',ds',hi,hl,h=>by
  simp only [Ge] at h;simp only [ZD] at hl;split at h
  . rename_i hok
    obtain ⟨h1,h2,h3,h4⟩:=Afd r _ _ bs' ds' (hi.step hok (by omega)) (by simp;omega) h
    refine ⟨h1,by rw [h2];simp;omega,λj hj=>?_,λj hj=>?_⟩
    . rw [h3 j (by simp;omega),B5 hj]
    . rw [h4 j (by simp;omega),B5 hj]
  . cases h

theorem Bin:Ab2 [] []:=⟨rfl,by simp,λj hj=>by simp at hj,λj hj=>by simp at hj⟩

def Asq (e:List Nod):Prop:=(1<=e.length/\e.length<=60) /\ ∃ bs ds,Ge [] [] e=some (bs,ds)/\bs.getD (e.length-1) 0=0 /\ ∀ x ∈ ds,x<=12

def Ran (e:List Nod) (bs:List Int):Prop:=∀ j,j<bs.length->okP (bs.take j) (e.getD j (0,0,0,0)) j/\bs.getD j 0=nb (bs.take j) (e.getD j (0,0,0,0)) j

theorem Ran.step {e:List Nod} {bs:List Int} (h:Ran e bs) {x:Nod} (hx:e.getD bs.length (0,0,0,0)=x) (hok:okP bs x bs.length):Ran e (bs++[nb bs x bs.length]):=by
 intro j hj;simp only [ZL,ZD,XD] at hj;rcases ZW j bs.length with hlt | hge
 . rw [B5 hlt,List.take_append_of_le_length (by omega)]
   exact h j hlt
 . obtain rfl:j=bs.length:=by omega
   rw [Bl,List.take_left',hx]
   . exact ⟨hok,rfl⟩
   . rfl

theorem Afc {e:List Nod}:∀ (r:List Nod) (bs ds bs' ds':List Int),Ran e bs->e.drop bs.length=r->Ge bs ds r=some (bs',ds')->Ran e bs'
 | [],bs,ds,bs',ds',hr,_,h=>by
  simp only [Ge,QC,QL] at h;obtain ⟨rfl,_⟩:=h;exact hr
 | x::r,bs,ds,bs',ds',hr,hd,h=>by
  obtain ⟨hx,_,hd'⟩:=Kk (d:=(0,0,0,0)) hd;simp only [Ge] at h;split at h
  . rename_i hok
    exact Afc r _ _ bs' ds' (hr.step hx hok) (by simpa using hd') h
  . cases h

theorem B71 {x:Rt} (h:H9 x=true):∃ (s:Bool) (N D:Nat),x=(s,dg N,dg D)/\(dg N).length<=40/\(dg D).length<=40/\0<D/\(s=true->0<N):=by
 obtain ⟨s,a,b⟩:=x;unfold H9 at h;simp only [QF,XB,QN] at h;obtain ⟨⟨⟨⟨ha,hb⟩,hb0⟩,hs⟩,_⟩:=h;obtain ⟨ca,la⟩:=Rk ha;obtain ⟨cb,lb⟩:=Rk hb
 have hb0:b ≠ []:=by rintro rfl;cases hb0
 refine ⟨s,(vl a).toNat,(vl b).toNat,by rw [I7 ca,I7 cb],by rw [I7 ca];exact la,by rw [I7 cb];exact lb,?_,λe=>?_⟩
 . have:=cb.pos hb0;omega
 . have ha0:a ≠ []:=by rintro rfl;rw [e] at hs;cases hs
   have:=ca.pos ha0;omega

theorem A7y {m:Nat}:(((dg m).length:Int)==0)=decide (m=0):=by
 rw [Apy];by_cases h:m=0
 . subst h;rw [C8];rfl
 . rw [QQ h,Dx h];rfl

theorem Ajx {m:Nat}:decide (((dg m).length:Int)>0)=decide (m ≠ 0):=by
 by_cases h:m=0
 . subst h;rw [C8];rfl
 . rw [Dx h];simp [h]

def Im (s:Int) (l:List Nod):Int:=l.foldl (λs x=>if x.1=2 then max s (W (x.2.2.2+1)) else s) s

abbrev nd0:Nod:=(0,0,0,0)

theorem Ajw {l:List Nod} {i:Nat} (h:i<l.length) (s:Int):Im s (l.drop i)=Im (if (l.getD i nd0).1=2 then max s (W ((l.getD i nd0).2.2.2+1)) else s) (l.drop (i+1)):=by
 rw [XQ h,QH,QM h];rfl

theorem Yn {α:Type} {n:Nat} {l:List Nod} (hl:l.length<=1048576) {k0:Int->Option α}:∀ (m i:Nat) (s:Int),i<=l.length->l.length<i+m->A0g n m s (i:Int) l k0=k0 (Im s (l.drop i))
 | 0,i,s,hi,hm=>by omega
 | m+1,i,s,hi,hm=>by
  rw [Ayy];unfold A4s;dsimp only;rw [QK];by_cases h:i<l.length
  . rw [QG (by omega),A3 (by simp;try omega),A3 (by simp;try omega),Ajw h]
    simp only [QO]
    rw [ZZ,Ab (x:=(i:Int)+1) (by omega) (by omega)]
    by_cases hv:(l.getD i nd0).1=2
    . rw [QG (by rw [KL];exact hv),QG hv]
      exact Yn hl m (i+1) _ (by omega) (by omega)
    . rw [QI (by rw [KL];exact hv),QI hv]
      exact Yn hl m (i+1) _ (by omega) (by omega)
  . rw [QI (by omega),QX (by omega)]
    rfl

theorem Yo {α:Type} {n:Nat} {l:List Nod} (hl:l.length<=1048576) {k0:Int->Option α}:∀ (m i:Nat) (s:Int),i<=l.length->l.length<i+m->A0h n m s l (l.length:Int) (i:Int) k0=k0 (Im s (l.drop i))
 | 0,i,s,hi,hm=>by omega
 | m+1,i,s,hi,hm=>by
  rw [Az5];unfold A4y;dsimp only;rw [QK];by_cases h:i<l.length
  . rw [QG (by omega),A3 (by simp;try omega),Ajw h]
    simp only [QO]
    rw [ZZ,Ab (x:=(i:Int)+1) (by omega) (by omega)]
    by_cases hv:(l.getD i nd0).1=2
    . rw [QG (by rw [KL];exact hv),QG hv]
      exact Yo hl m (i+1) _ (by omega) (by omega)
    . rw [QI (by rw [KL];exact hv),QI hv]
      exact Yo hl m (i+1) _ (by omega) (by omega)
  . rw [QI (by omega),QX (by omega)]
    rfl

theorem Bak {n:Nat} {l:List Nod} (hl:l.length<=1048576) (hn:1048577<=n):f125 n l=some (Im 0 l):=by
 unfold f125
 have:=Yn (n:=n) hl (k0:=λz_3=>some z_3) n 0 0 (by omega) (by omega)
 simpa using this

theorem Baq {n:Nat} {l:List Nod} (hl:l.length<=1048576) (hn:1048577<=n):f120 n l=some (Im 0 l):=by
 unfold f120
 have:=Yo (n:=n) hl (k0:=λz_2=>some z_2) n 0 0 (by omega) (by omega)
 simpa using this

theorem B0p {α:Type} {n:Nat} {a b:List Int} (ha:Cn a) (hb:Cn b) (hN:a.length<=1099511627776) (hNb:b.length<=1099511627776) {k0:List Int->Option α}:∀ (m i:Nat) (c:Int) (o:List Int),o.length=i->Lm o->0<=c->c<=1 ->
  vl o+10000 ^ i*c=vl (a.take i)+vl (b.take i)->(i<=max a.length b.length \/ (i=max a.length b.length+1/\c=0/\o.getD (i-1) 0 ≠ 0))->max a.length b.length+2<=i+m ->
  Nw n m a b c (i:Int) o k0=k0 (dg (vl a+vl b).toNat)
 | 0,i,c,o,ho,hlo,hc0,hc1,hv,hq,hm=>by omega
 | m+1,i,c,o,ho,hlo,hc0,hc1,hv,hq,hm=>by
  rw [Ay5];unfold A45;dsimp only
  have fin:a.length<=i->b.length<=i->c=0->o=dg (vl a+vl b).toNat:=λh1 h2 h3=>by
   rw [K9 a h1,K9 b h2,h3] at hv
   have hv':vl o=vl a+vl b:=by simpa using hv
   have:Cn o:=Cn.of_ge hlo λhn=>by
    have hl:0<o.length:=XP.2 hn;rcases hq with hq | ⟨hq1,_,hq3⟩
    . have hmx:i=max a.length b.length:=by omega
      rw [ho,hv'];rcases Nat.le_total a.length b.length with hab | hab
      . have h4:=hb.ge (XP.1 (by omega))
        have h5:=Bd ha.1
        rw [show i-1=b.length-1 by omega];omega
      . have h4:=ha.ge (XP.1 (by omega))
        have h5:=Bd hb.1
        rw [show i-1=a.length-1 by omega];omega
    . have h1:=Be o (o.length-1)
      rw [show o.length-1+1=o.length by omega,YB] at h1
      have h2:=Bd (hlo.take (o.length-1));have h3:=hlo.get (o.length-1);rw [<- ho] at hq3;have h4:=Fs (o.length-1)
      have h5:(10000:Int) ^ (o.length-1)*1<=10000 ^ (o.length-1)*o.getD (o.length-1) 0:=XG (by omega) (by omega)
      omega
   rw [<- hv',I7 this]
  have go:∀ (y:Int),y=c+a.getD i 0+b.getD i 0->(i<max a.length b.length \/ (i=max a.length b.length/\0<c))->Nw n m a b (W (Int.tdiv y 10000)) (W ((i:Int)+1)) (o++[Int.tmod y 10000]) k0=k0 (dg (vl a+vl b).toNat):=by
   intro y hy hi;have h1:=ha.1.get i;have h2:=hb.1.get i
   rw [tdv (by omega),tmd (by omega),Ab (by omega) (by omega),Ab (by omega) (by omega)]
   have ta:=Be a i;have tb:=Be b i
   have hyy:y=10000*(y / 10000)+y % 10000:=by omega
   refine B0p (n:=n) ha hb hN hNb m (i+1) _ _ (by simp [ho]) (hlo.app (Lm.cons (by omega) Lm.nil)) (by omega) (by omega) ?_ ?_ (by omega)
   . rw [Ra,ho,ta,tb,C5];generalize y / 10000=q at *;generalize y % 10000=r at *;generalize (10000:Int) ^ i=P at *;grind
   . rcases hi with hi | ⟨hi,hc⟩
     . exact .inl (by omega)
     . right
       have e1:a.getD i 0=0:=Bk (by omega)
       have e2:b.getD i 0=0:=Bk (by omega)
       have e3:y=1:=by omega
       subst e3
       refine ⟨by omega,by rfl,?_⟩
       rw [Qam,<- ho,QH];simp
  have hcases:(i<a.length \/ i<b.length \/ 0<c)->(i<max a.length b.length \/ (i=max a.length b.length/\0<c)):=λh=>by
   rcases h with h | h | h
   . exact .inl (by omega)
   . exact .inl (by omega)
   . rcases hq with hq | ⟨_,h0,_⟩
     . omega
     . omega
  have ho2:(decide ((o.length+1)*8<=140737488355328))=true:=by
   rw [QN];rcases hq with hq | ⟨hq,_⟩ <;> omega
  have h1:=ha.1.get i;have h2:=hb.1.get i;by_cases hA:i<a.length
  . have dA:decide ((i:Int)<(a.length:Int))=true:=by rw [QN];omega
    have dM:decide ((i:Int)<max (a.length:Int) (b.length:Int))=true:=by rw [QN];omega
    simp only [dM,dA,ZE,QO]
    rw [A3 (by simp;try omega),Ab (x:=c+a.getD i 0) (by omega) (by omega)]
    by_cases hB:i<b.length
    . have dB:decide ((i:Int)<(b.length:Int))=true:=by rw [QN];omega
      simp only [dB,ZE]
      rw [A3 (by simp;try omega),A3 ho2,Ab (x:=c+a.getD i 0+b.getD i 0) (by omega) (by omega)]
      exact go _ rfl (hcases (.inl hA))
    . have dB:decide ((i:Int)<(b.length:Int))=false:=by rw [ZS];omega
      simp only [dB,QR];rw [A3 ho2]
      exact go _ (by rw [Bk (l:=b) (by omega)];omega) (hcases (.inl hA))
  . have dA:decide ((i:Int)<(a.length:Int))=false:=by rw [ZS];omega
    by_cases hB:i<b.length
    . have dB:decide ((i:Int)<(b.length:Int))=true:=by rw [QN];omega
      have dM:decide ((i:Int)<max (a.length:Int) (b.length:Int))=true:=by rw [QN];omega
      simp only [dM,dA,dB,ZE,QR,QO]
      rw [A3 (by simp;try omega),A3 ho2,Ab (x:=c+b.getD i 0) (by omega) (by omega)]
      exact go _ (by rw [Bk (l:=a) (by omega)];omega) (hcases (.inr (.inl hB)))
    . have dB:decide ((i:Int)<(b.length:Int))=false:=by rw [ZS];omega
      have dM:decide ((i:Int)<max (a.length:Int) (b.length:Int))=false:=by rw [ZS];omega
      simp only [dM,dA,dB,QR];rw [QK];by_cases hc:0<c
      . rw [QG (by omega),A3 ho2]
        exact go _ (by rw [Bk (l:=a) (by omega),Bk (l:=b) (by omega)];omega) (hcases (.inr (.inr hc)))
      . rw [QI (by omega),fin (by omega) (by omega) (by omega)]

theorem Bh2 {n a b:Nat} (h:(dg a).length<=1099511627776) (h':(dg b).length<=1099511627776) (hn:max (dg a).length (dg b).length+2<=n):f154 n (dg a) (dg b)=some (dg (a+b)):=by
 unfold f154
 have:=B0p (n:=n) (Gb a) (Gb b) h h' (k0:=λz_6=>some z_6) n 0 0 [] rfl Lm.nil (by omega) (by omega) (by simp [vl]) (.inl (by omega)) (by omega)
 have this:Nw n n (dg a) (dg b) 0 0 [] _=_:=this;rw [this,Bh,Bh];congr 1

theorem Auj {o P c wi bi v' T y d r:Int} (h:o-P*(c+(bi+10000*v'))=T) (hy:y=wi-c-bi) (hd:y=r-10000*d):o+P*(r-wi)-10000*P*(d+v')=T:=by
 grind

theorem Ati {α:Type} {n:Nat} {b:List Int} (hb:Lm b) {N:Nat} (hN:N<=1099511627776) {T:Int} {k0:List Int->Option α}:∀ (m i:Nat) (c:Int) (o:List Int),o.length=N->Lm o->0<=c->c<=1->i<=N ->
  vl o-10000 ^ i*(c+vl (b.drop i))=T->N+1<=i+m ->
  ∃ o' c',Iy n m b c (N:Int) (i:Int) o k0=k0 o'/\o'.length=N/\Lm o'/\0<=c'/\c'<=1/\vl o'-10000 ^ N*(c'+vl (b.drop N))=T
 | 0,i,c,o,ho,hlo,hc0,hc1,hi,hv,hm=>by omega
 | m+1,i,c,o,ho,hlo,hc0,hc1,hi,hv,hm=>by
  rw [Axy];unfold A41;dsimp only;by_cases hA:i<N
  . rw [QK,QG (by omega),A3 (by simp;try omega),A3 (by simp;try omega)]
    have h1:=hlo.get i;have h2:=hb.get i;simp only [QO]
    have go:∀ (d r:Int),d=(if o.getD i 0-c-b.getD i 0<0 then 1 else 0)->r=o.getD i 0-c-b.getD i 0+10000*d->∃ o' c',Iy n m b d (N:Int) (W ((i:Int)+1)) (o.set i r) k0=k0 o'/\o'.length=N/\Lm o'/\0<=c'/\c'<=1/\vl o'-10000 ^ N*(c'+vl (b.drop N))=T:=by
     intro d r hd hr
     have hd1:0<=d/\d<=1/\0<=r/\r<10000:=by
      rw [hr,hd];split <;> omega
     rw [Ab (x:=(i:Int)+1) (by omega) (by omega)]
     refine Ati (n:=n) hb hN m (i+1) d _ (by simpa using ho) (hlo.set _ (by omega)) (by omega) (by omega) (by omega) ?_ (by omega)
     rw [Lr _ (by omega),C5]
     refine Auj (bi:=b.getD i 0) (y:=o.getD i 0-c-b.getD i 0) ?_ rfl (by omega)
     rw [<- A1w];exact hv
    have go2 : ∀ y : Int, y = o.getD i 0 - c - b.getD i 0 -> ∃ o' c', (bif (decide (y < 0)) then
          gd (decide (0<=(i:Int))&&decide ((i:Int)<(o.length:Int))) (
           gd (decide (i<o.length)) (
            Iy n m b 1 (N:Int) (W ((i:Int)+1)) (o.set i (W (y+10000))) k0))
      else
       gd (decide (0<=(i:Int))&&decide ((i:Int)<(o.length:Int))) (
        gd (decide (i<o.length)) (
         Iy n m b 0 (N:Int) (W ((i:Int)+1)) (o.set i y) k0)))=k0 o'/\o'.length=N/\Lm o'/\0<=c'/\c'<=1/\vl o'-10000 ^ N*(c'+vl (b.drop N))=T:=by
     intro y hy;rw [QK];by_cases hneg:y<0
     . rw [QG hneg,A3 (by simp;try omega),A3 (by simp;try omega),Ab (x:=y+10000) (by omega) (by omega)]
       exact go 1 _ (by rw [QG (by omega)]) (by omega)
     . rw [QI hneg,A3 (by simp;try omega),A3 (by simp;try omega)]
       exact go 0 _ (by rw [QI (by omega)]) (by omega)
    by_cases hB:i<b.length
    . have dB:decide ((i:Int)<(b.length:Int))=true:=by rw [QN];omega
      simp only [dB,ZE]
      rw [A3 (by simp;try omega)]
      simp only [Ab (x:=o.getD i 0-c) (by omega) (by omega),Ab (x:=o.getD i 0-c-b.getD i 0) (by omega) (by omega)]
      exact go2 _ rfl
    . have dB:decide ((i:Int)<(b.length:Int))=false:=by rw [ZS];omega
      simp only [dB,QR]
      simp only [Ab (x:=o.getD i 0-c) (by omega) (by omega)]
      exact go2 _ (by rw [Bk (l:=b) (by omega)];omega)
  . rw [QK,QI (by omega)]
    obtain rfl:i=N:=by omega
    exact ⟨o,c,rfl,ho,hlo,hc0,hc1,hv⟩

theorem B5t {n a b:Nat} (h:(dg a).length<=1099511627000) (hn:(dg a).length+1<=n) (hab:b<=a) (ha:0<a):f156 n (dg a) (dg b)=some (dg (a-b)):=by
 have hlab:=Bc hab;unfold f156
 rw [Ajc n (by omega) (λe=>by have:=Bg9.1 e;omega),A1]
 obtain ⟨o,c,h1,h2,h3,h4,h5,h6⟩:=Ati (n:=n) (E9 b) (N:=(dg a).length) (by omega) (T:=(a:Int)-b) (k0:=λz_4=>(
   ob (f202 n z_4) λr_5 =>
   some r_5)) n 0 0 (dg a) rfl (E9 a) (by omega) (by omega) (by omega) (by rw [ZJ,Bh,Bh,Int.pow_zero,Int.one_mul,Int.zero_add]) (by omega)
 have h1:Iy n n (dg b) 0 ((dg a).length:Int) 0 (dg a) _=_:=h1
 rw [QX (by omega)] at h6
 have h7:=I4 h3;rw [h2] at h7;have h8:=Bd h3
 have:c=0:=by
  rcases Int.lt_or_eq_of_le h4 with h | h
  . have:c=1:=by omega
    rw [this] at h6;simp only [vl,Qbj,Int.mul_one] at h6;generalize (10000:Int) ^ (dg a).length=P at *;omega
  . exact h.symm
 rw [this] at h6;simp only [vl,Qbj,Qan,Int.sub_zero] at h6
 rw [h1,Rw h3 (by omega) (by omega),A1,h6,show ((a:Int)-(b:Int)).toNat=a-b by omega]

def rq (x:Rat):Rt:=(decide (x.num<0),dg x.num.natAbs,dg x.den)

def mq (s:Bool) (a d:Nat):Rat:=mkRat (if s=true then -(a:Int) else a) d

def Sz (x:Rat) (L:Nat):Prop:=(dg x.num.natAbs).length<=L/\(dg x.den).length<=L

theorem X1 (s:Bool) (a:Nat):(if s=true then -(a:Int) else a).natAbs=a:=by cases s <;> simp

theorem Afv {s:Bool} {a d:Nat} (hd:0<d):(mq s a d).num=if s=true then -((a / Nat.gcd a d:Nat):Int) else ((a / Nat.gcd a d:Nat):Int):=by
 unfold mq
 rw [Rat.num_mkRat,QI (by omega),X1,Nat.gcd_comm d a]
 cases s with
 | false=>simp
 | true =>
  simp only [if_true]
  rw [Int.neg_ediv_of_dvd (by exact_mod_cast Nat.gcd_dvd_left a d)]
  simp

theorem Afw {s:Bool} {a d:Nat} (hd:0<d):(mq s a d).den=d / Nat.gcd a d:=by
 unfold mq
 rw [Rat.den_mkRat,QI (by omega),X1,Nat.gcd_comm d a]

theorem Aph {s:Bool} {a d:Nat} (hd:0<d):rq (mq s a d)=(s&&decide (a / Nat.gcd a d ≠ 0),dg (a / Nat.gcd a d),dg (d / Nat.gcd a d)):=by
 unfold rq;rw [Afv hd,Afw hd];generalize a / Nat.gcd a d=q
 cases s with
 | false=>simp
 | true =>
  simp only [if_true,ZV,Qbr,XE];congr 1;apply decide_eq_decide.2;omega

theorem Lq {s:Bool} {a d L:Nat} (hd:0<d) (h1:(dg a).length<=L) (h2:(dg d).length<=L):Sz (mq s a d) L:=by
 unfold Sz;rw [Afv hd,Afw hd,X1];exact ⟨ZQ (Bc (JO _ _)) h1,ZQ (Bc (JO _ _)) h2⟩

theorem Rh {n L x d:Nat} {s:Bool} (hd:0<d) (hx:(dg x).length<=L) (hdl:(dg d).length<=L) (hL:L<=1099511627000) (hn:28*L+10040<=n):f197 n s (dg x) (dg d)=some (rq (mq s x d)):=by
 have hg:0<Nat.gcd x d:=Nat.gcd_pos_of_pos_right x hd;have hgl:(dg (Nat.gcd x d)).length<=L:=ZQ (Bc (Nat.gcd_le_right x hd)) hdl;rw [Aph hd];unfold f197
 rw [B5f hL hn hx hdl,A1,Apf hg hx hgl hL (by omega),A1,Apf hg hdl hgl hL (by omega),A1]
 dsimp only;rw [Ajx]
 cases s <;> rfl

theorem Xd {n L x d:Nat} {s:Bool} (hd:0<d) (hx:(dg x).length<=L) (hdl:(dg d).length<=L) (hL:L<=1099511627000) (hn:28*L+10040<=n):f153 n s (dg x) (dg d)=some (rq (mq s x d)):=by
 have hg:0<Nat.gcd x d:=Nat.gcd_pos_of_pos_right x hd;have hgl:(dg (Nat.gcd x d)).length<=L:=ZQ (Bc (Nat.gcd_le_right x hd)) hdl;have hq1:(dg (x / Nat.gcd x d)).length<=L:=ZQ (Bc (JO _ _)) hx;have hq2:(dg (d / Nat.gcd x d)).length<=L:=ZQ (Bc (JO _ _)) hdl;rw [Aph hd];unfold f153;dsimp only
 rw [B5u hL hn hx hdl,A1,show f151 n=some [1] from rfl,A1,<- Gl,Aed (by omega),A1]
 have fin:∀ y z:List Int,y=dg (x / Nat.gcd x d)->z=dg (d / Nat.gcd x d)->(bif s then
   ob (f123 n y) λr_8 =>
   ob (f123 n z) λr_9 =>
   some ((decide ((y.length:Int)>0)),r_8,r_9)
  else
   ob (f123 n y) λr_10 =>
   ob (f123 n z) λr_11 =>
   some (false,r_10,r_11))=some (s&&decide (x / Nat.gcd x d ≠ 0),dg (x / Nat.gcd x d),dg (d / Nat.gcd x d)):=by
  rintro y z rfl rfl
  rw [L4 n (by omega),A1,L4 n (by omega),A1,Ajx]
  cases s <;> rfl
 by_cases h1:Nat.gcd x d=1
 . have e:(cm ((Nat.gcd x d:Nat):Int) ((1:Nat):Int) != 0)=false:=by rw [h1,Lo rfl];rfl
   rw [e,QR]
   exact fin _ _ (by rw [h1,Nat.div_one]) (by rw [h1,Nat.div_one])
 . have e : (cm ((Nat.gcd x d : Nat) : Int) ((1 : Nat) : Int) != 0) = true := by
    rw [bne,Ak4,QQ h1];rfl
   rw [e,ZE,Aq0 hg hx hgl hL (by omega),A1,Aq0 hg hdl hgl hL (by omega),A1]
   exact fin _ _ rfl rfl

theorem Hn (x:Rat):x.num=if decide (x.num<0)=true then -(x.num.natAbs:Int) else x.num.natAbs:=by
 by_cases h:x.num<0
 . rw [QU h,QG rfl];omega
 . rw [QQ h,QI (by decide)];omega

theorem Vl {x y:Rat} (h:decide (x.num<0)=decide (y.num<0)):x+y=mq (decide (x.num<0)) (x.num.natAbs*y.den+y.num.natAbs*x.den) (x.den*y.den):=by
 rw [Rat.add_def'];unfold mq;congr 1;have hx:=Hn x;have hy:=Hn y;rw [<- h] at hy;generalize decide (x.num<0)=s at *;generalize x.num.natAbs=p at *;generalize y.num.natAbs=q at *;rw [hx,hy]
 cases s with
 | true=>simp only [if_true,JN,XV];grind
 | false=>simp

theorem M9 {x y:Rat} (h:decide (x.num<0) ≠ decide (y.num<0)) (hle:y.num.natAbs*x.den<=x.num.natAbs*y.den):x+y=mq (decide (x.num<0)) (x.num.natAbs*y.den-y.num.natAbs*x.den) (x.den*y.den):=by
 rw [Rat.add_def'];unfold mq;congr 1;have hx:=Hn x;have hy:=Hn y
 have h':decide (y.num<0) = !decide (x.num<0):=by
  generalize decide (x.num<0)=s at h;generalize decide (y.num<0)=t at h
  cases s <;> cases t <;> first | rfl | exact absurd rfl h
 rw [h'] at hy;generalize decide (x.num<0)=s at *;generalize x.num.natAbs=p at *;generalize y.num.natAbs=q at *;rw [hx,hy,Int.natCast_sub hle]
 cases s with
 | true=>simp only [if_true,XV,ZT];simp;grind
 | false=>simp only [XV,XI,if_true];simp;grind

theorem Ato {n L:Nat} {x y:Rat} (hx:Sz x L) (hy:Sz y L) (hL:2*L+1<=1099511627000) (hn:28*(2*L+1)+10040<=n):f138 n (rq x) (rq y)=some (rq (x+y)):=by
 obtain ⟨x1,x2⟩:=hx;obtain ⟨y1,y2⟩:=hy;have l1:=B2 x.num.natAbs y.den;have l2:=B2 y.num.natAbs x.den;have l3:=B2 x.den y.den;have l4:=Ze (x.num.natAbs*y.den) (y.num.natAbs*x.den);have hd:0<x.den*y.den:=KA (XA x.den_nz) (XA y.den_nz);unfold f138 rq;dsimp only
 rw [Mt (by omega) (by omega),A1,Mt (by omega) (by omega),A1,Mt (by omega) (by omega),A1,ZZ]
 by_cases hs:decide (x.num<0)=decide (y.num<0)
 . rw [QG (by rw [hs];simp),Bgv (by omega) (by omega) (by omega),A1,Rh hd (L:=2*L+1) (by omega) (by omega) hL hn,A1,Vl hs];rfl
 . rw [QI (by simpa using hs),Ae7 (by omega) (by omega),A1,QK]
   by_cases hle:y.num.natAbs*x.den<=x.num.natAbs*y.den
   . have l5:=Bc (JX (x.num.natAbs*y.den) (y.num.natAbs*x.den))
     rw [QG (by
      rcases KY hle with h | h
      . rw [Jw (by omega)];omega
      . rw [Lo (by omega)];omega),Ape (by omega) (by omega) hle,A1,Rh hd (L:=2*L+1) (by omega) (by omega) hL hn,A1,M9 hs hle];rfl
   . have l5:=Bc (JX (y.num.natAbs*x.den) (x.num.natAbs*y.den))
     rw [QI (by rw [Jv (by omega)];omega),Ape (by omega) (by omega) (by omega),A1,Rh hd (L:=2*L+1) (by omega) (by omega) hL hn,A1,Rat.add_comm,M9 (λe=>hs e.symm) (by omega),KF y.den x.den];rfl

theorem Aut {n L:Nat} {x y:Rat} (hx:Sz x L) (hy:Sz y L) (hL:2*L+1<=1099511627000) (hn:28*(2*L+1)+10040<=n):f99 n (rq x) (rq y)=some (rq (x+y)):=by
 obtain ⟨x1,x2⟩:=hx;obtain ⟨y1,y2⟩:=hy;have l1:=B2 x.num.natAbs y.den;have l2:=B2 y.num.natAbs x.den;have l3:=B2 x.den y.den;have l4:=Ze (x.num.natAbs*y.den) (y.num.natAbs*x.den);have hd:0<x.den*y.den:=KA (XA x.den_nz) (XA y.den_nz);unfold f99 rq;dsimp only
 rw [Mz (by omega) (by omega),A1,Mz (by omega) (by omega),A1,Mz (by omega) (by omega),A1,ZZ]
 by_cases hs:decide (x.num<0)=decide (y.num<0)
 . rw [QG (by rw [hs];simp),Bh2 (by omega) (by omega) (by omega),A1,Xd hd (L:=2*L+1) (by omega) (by omega) hL hn,A1,Vl hs];rfl
 . rw [QI (by simpa using hs),Aed (by omega),A1,QK]
   by_cases hle:y.num.natAbs*x.den<=x.num.natAbs*y.den
   . have l5:=Bc (JX (x.num.natAbs*y.den) (y.num.natAbs*x.den))
     have hp:0<x.num.natAbs*y.den:=by
      rcases YU (x.num.natAbs*y.den) with h | h
      . exfalso;have hyd:=y.den_nz;have hxd:=x.den_nz
        have h2:y.num.natAbs*x.den=0:=by omega
        have e1:x.num=0:=by rcases Qbc.1 h with h | h <;> omega
        have e2:y.num=0:=by rcases Qbc.1 h2 with h | h <;> omega
        exact hs (by rw [e1,e2])
      . exact h
     rw [QG (by
      rcases KY hle with h | h
      . rw [Jw (by omega)];omega
      . rw [Lo (by omega)];omega),B5t (by omega) (by omega) hle hp,A1,Xd hd (L:=2*L+1) (by omega) (by omega) hL hn,A1,M9 hs hle];rfl
   . have l5:=Bc (JX (y.num.natAbs*x.den) (x.num.natAbs*y.den))
     rw [QI (by rw [Jv (by omega)];omega),B5t (by omega) (by omega) (by omega) (by omega),A1,Xd hd (L:=2*L+1) (by omega) (by omega) hL hn,A1,Rat.add_comm,M9 (λe=>hs e.symm) (by omega),KF y.den x.den];rfl

theorem A60 (x y:Rat):x*y=mq (!(decide (x.num<0)==decide (y.num<0))) (x.num.natAbs*y.num.natAbs) (x.den*y.den):=by
 rw [Rat.mul_def'];unfold mq;congr 1;have hx:=Hn x;have hy:=Hn y;generalize decide (x.num<0)=s at *;generalize decide (y.num<0)=t at *;generalize x.num.natAbs=p at *;generalize y.num.natAbs=q at *;rw [hx,hy]
 cases s <;> cases t <;> simp [Int.neg_mul,Int.mul_neg]

theorem B6v {n L:Nat} {x y:Rat} (hx:Sz x L) (hy:Sz y L) (hL:2*L+1<=1099511627000) (hn:28*(2*L+1)+10040<=n):f140 n (rq x) (rq y)=some (rq (x*y)):=by
 obtain ⟨x1,x2⟩:=hx;obtain ⟨y1,y2⟩:=hy;have l1:=B2 x.num.natAbs y.num.natAbs;have l3:=B2 x.den y.den;have hd:0<x.den*y.den:=KA (XA x.den_nz) (XA y.den_nz);unfold f140 rq;dsimp only
 rw [Mt (by omega) (by omega),A1,Mt (by omega) (by omega),A1,Rh hd (L:=2*L+1) (by omega) (by omega) hL hn,A1,A60];rfl

theorem Amx {n L:Nat} {x y:Rat} (hx:Sz x L) (hy:Sz y L) (hL:2*L+1<=1099511627000) (hn:28*(2*L+1)+10040<=n):f162 n (rq x) (rq y)=some (rq (x*y)):=by
 obtain ⟨x1,x2⟩:=hx;obtain ⟨y1,y2⟩:=hy;have l1:=B2 x.num.natAbs y.num.natAbs;have l3:=B2 x.den y.den;have hd:0<x.den*y.den:=KA (XA x.den_nz) (XA y.den_nz);unfold f162 rq;dsimp only
 rw [Mz (by omega) (by omega),A1,Mz (by omega) (by omega),A1,Xd hd (L:=2*L+1) (by omega) (by omega) hL hn,A1,A60];rfl

theorem Aju {x y:Rat} (hy:y ≠ 0):x / y=mq (!(decide (x.num<0)==decide (y.num<0))) (x.num.natAbs*y.den) (x.den*y.num.natAbs):=by
 have hyn:y.num ≠ 0:=λe=>hy (JE.1 e)
 have key:mq (!(decide (x.num<0)==decide (y.num<0))) (x.num.natAbs*y.den) (x.den*y.num.natAbs)*y=x:=by
  conv=>lhs;rhs;rw [<- Rat.mkRat_self y]
  conv=>rhs;rw [<- Rat.mkRat_self x]
  unfold mq
  rw [Rat.mkRat_mul_mkRat,Rat.mkRat_eq_iff (Nat.mul_ne_zero (Nat.mul_ne_zero x.den_nz (by omega)) y.den_nz) x.den_nz]
  have hx:=Hn x;have hy:=Hn y;generalize decide (x.num<0)=s at *;generalize decide (y.num<0)=t at *;generalize x.num.natAbs=p at *;generalize y.num.natAbs=q at *;rw [hx,hy];simp only [XV]
  cases s <;> cases t <;> simp <;> grind
 conv=>lhs;rw [<- key]
 exact Rat.mul_div_cancel hy

theorem Bbv {n L:Nat} {x y:Rat} (hx:Sz x L) (hy:Sz y L) (hy0:y ≠ 0) (hL:2*L+1<=1099511627000) (hn:28*(2*L+1)+10040<=n):f142 n (rq x) (rq y)=some (rq (x / y)):=by
 obtain ⟨x1,x2⟩:=hx;obtain ⟨y1,y2⟩:=hy;have l1:=B2 x.num.natAbs y.den;have l3:=B2 x.den y.num.natAbs;have hyn:y.num ≠ 0:=λe=>hy0 (JE.1 e)
 have hd:0<x.den*y.num.natAbs:=KA (XA x.den_nz) (by omega)
 unfold f142 rq;dsimp only
 rw [Mt (by omega) (by omega),A1,Mt (by omega) (by omega),A1,Rh hd (L:=2*L+1) (by omega) (by omega) hL hn,A1,Aju hy0];rfl

theorem Bck {n L:Nat} {x y:Rat} (hx:Sz x L) (hy:Sz y L) (hy0:y ≠ 0) (hL:2*L+1<=1099511627000) (hn:28*(2*L+1)+10040<=n):f206 n (rq x) (rq y)=some (rq (x / y)):=by
 obtain ⟨x1,x2⟩:=hx;obtain ⟨y1,y2⟩:=hy;have l1:=B2 x.num.natAbs y.den;have l3:=B2 x.den y.num.natAbs;have hyn:y.num ≠ 0:=λe=>hy0 (JE.1 e)
 have hd:0<x.den*y.num.natAbs:=KA (XA x.den_nz) (by omega)
 unfold f206 rq;dsimp only
 rw [Mz (by omega) (by omega),A1,Mz (by omega) (by omega),A1,Xd hd (L:=2*L+1) (by omega) (by omega) hL hn,A1,Aju hy0];rfl

theorem A5u {n:Nat} {x:Rat}:f143 n (rq x)=some (rq (-x)):=by
 unfold f143 rq;dsimp only;rw [Rat.neg_num,Rat.neg_den,Qbr,Ajx];by_cases h:x.num<0
 . rw [QU h,QQ (show ¬ -x.num<0 by omega)];rfl
 . rw [QQ h]
   have:decide (x.num.natAbs ≠ 0)=decide (-x.num<0):=decide_eq_decide.2 (by omega)
   rw [this];rfl

theorem Bh0 {n L:Nat} {x:Rat} (hx:Sz x L) (hL:L<=1099511627000):f158 n (rq x)=some (rq (-x)):=by
 obtain ⟨x1,x2⟩:=hx;unfold f158 rq;dsimp only
 rw [Rat.neg_num,Rat.neg_den,Qbr,show f168 n (decide (x.num<0),dg x.num.natAbs,dg x.den)=some (((dg x.num.natAbs).length:Int)==0) from rfl,A1,L4 n (by omega),A1,L4 n (by omega),A1,A7y]
 by_cases h:x.num<0
 . rw [QU h,QQ (show ¬ -x.num<0 by omega)];rfl
 . rw [QQ h]
   have:(!decide (x.num.natAbs=0))=decide (-x.num<0):=by
    by_cases h2:x.num.natAbs=0
    . rw [QU h2,QQ (by omega)];rfl
    . rw [QQ h2,QU (by omega)];rfl
   rw [this];rfl

theorem Cm {x:Rat} {L:Nat} (h:Sz x L):Sz (-x) L:=by
 unfold Sz at *;rw [Rat.neg_num,Rat.neg_den,Qbr];exact h

theorem Sz.mono {x:Rat} {L M:Nat} (h:Sz x L) (hLM:L<=M):Sz x M:=⟨ZQ h.1 hLM,ZQ h.2 hLM⟩

theorem Bbw {n L:Nat} {x y:Rat} (hx:Sz x L) (hy:Sz y L) (hL:2*L+1<=1099511627000) (hn:28*(2*L+1)+10040<=n):f139 n (rq x) (rq y)=some (rq (x-y)):=by
 unfold f139;rw [A5u,A1,Ato hx (Cm hy) hL hn,A1,Rat.sub_eq_add_neg]

theorem Bgh {x y:Rat} {L:Nat} (hx:Sz x L) (hy:Sz y L):Sz (x+y) (2*L+1):=by
 obtain ⟨x1,x2⟩:=hx;obtain ⟨y1,y2⟩:=hy;have l1:=B2 x.num.natAbs y.den;have l2:=B2 y.num.natAbs x.den;have l3:=B2 x.den y.den;have l4:=Ze (x.num.natAbs*y.den) (y.num.natAbs*x.den);have hd:0<x.den*y.den:=KA (XA x.den_nz) (XA y.den_nz);by_cases hs:decide (x.num<0)=decide (y.num<0)
 . rw [Vl hs];exact Lq hd (by omega) (by omega)
 . by_cases hle:y.num.natAbs*x.den<=x.num.natAbs*y.den
   . have l5:=Bc (JX (x.num.natAbs*y.den) (y.num.natAbs*x.den))
     rw [M9 hs hle];exact Lq hd (by omega) (by omega)
   . have l5:=Bc (JX (y.num.natAbs*x.den) (x.num.natAbs*y.den))
     rw [Rat.add_comm,M9 (λe=>hs e.symm) (by omega),KF y.den x.den];exact Lq hd (by omega) (by omega)

theorem Bgg {x y:Rat} {L:Nat} (hx:Sz x L) (hy:Sz y L):Sz (x*y) (2*L+1):=by
 obtain ⟨x1,x2⟩:=hx;obtain ⟨y1,y2⟩:=hy;have l1:=B2 x.num.natAbs y.num.natAbs;have l3:=B2 x.den y.den;rw [A60]
 exact Lq (KA (XA x.den_nz) (XA y.den_nz)) (by omega) (by omega)

theorem Bbt {n:Nat} {x:Rat}:f141 n (rq x)=some (decide (x=0)):=by
 unfold f141 rq;dsimp only;rw [A7y];congr 1
 exact decide_eq_decide.2 ⟨λh=>JE.1 (by omega),λh=>by rw [h];rfl⟩

theorem Aus {n:Nat} {x:Rat}:f168 n (rq x)=some (decide (x=0)):=by
 unfold f168 rq;dsimp only;rw [A7y];congr 1
 exact decide_eq_decide.2 ⟨λh=>JE.1 (by omega),λh=>by rw [h];rfl⟩

theorem Atr {x y:Rat} (h:rq x=rq y):x=y:=by
 unfold rq at h;simp only [QL] at h;obtain ⟨h1,h2,h3⟩:=h;have e2:=B05 h2;have e3:=B05 h3;refine Rat.ext ?_ e3;rw [Hn x,Hn y,h1,e2]

theorem Bc2 {r:Rt} (h:H9 r=true):∃ x:Rat,r=rq x/\Sz x 40:=by
 obtain ⟨s,N,D,rfl,h1,h2,h3,h4⟩:=B71 h
 have hg:Nat.gcd N D=1:=by
  unfold H9 at h;simp only [QF,QN,Bh,QO] at h;exact h.2
 refine ⟨mq s N D,?_,Lq h3 h1 h2⟩;rw [Aph h3,hg,Nat.div_one,Nat.div_one];congr 1
 cases s with
 | false=>rfl
 | true=>have:=h4 rfl;rw [QU (by omega)];rfl

abbrev K8:=List Int × Int × Int

def Dm (P:Int) (s:K8):Prop:=(∀ x ∈ s.1,0<=x/\x<=255)/\s.1.length<=1048576/\(0<=s.2.1/\s.2.1<=P)/\0<=s.2.2/\s.2.2<2147483648

theorem Ak7 {l:List Int} (h:∀ x ∈ l,0<=x/\x<=255) (k:Nat):0<=l.getD k 0/\l.getD k 0<=255:=by
 rw [QH]
 cases e:l[k]? with
 | none=>simp
 | some x=>exact h x (ZM e)

theorem G7 {x m:Int} (h:0<=x):Int.tmod x m=x % m:=JY h

theorem Aa8 {n:Nat} {P:Int} {s:K8} (h:Dm P s) (hP:P<=1099511627776):∃ b s',N4 n s=some (b,s')/\(0<=b/\b<=255)/\Dm (P+1) s':=by
 obtain ⟨l,p,d⟩:=s;obtain ⟨h1,h2,⟨h3,h4⟩,h5,h6⟩:=h;dsimp only at h1 h2 h3 h4 h5 h6;unfold N4;dsimp only
 rw [Ab (x:=p+1) (by omega) (by omega),Ab (x:=p+1-1) (by omega) (by omega),QK]
 have hb:=Ak7 h1 (p+1-1).toNat;by_cases hc:p+1<=(l.length:Int)
 . rw [QG hc,A3 (by simp;omega),A3 (by simp;omega)]
   generalize l.getD (p+1-1).toNat 0=b at *
   rw [Ab (x:=b) (by omega) (by omega),Ab (x:=d*31) (by omega) (by omega),Ab (x:=d*31+b) (by omega) (by omega),Ab (x:=d*31+b+7) (by omega) (by omega),G7 (by omega)]
   exact ⟨_,_,rfl,by omega,h1,h2,by dsimp only;omega,by dsimp only;omega,by dsimp only;omega⟩
 . rw [QI hc,QK];by_cases hc2:p+1>3000
   . rw [QG hc2]
     exact ⟨_,_,rfl,by omega,h1,h2,by dsimp only;omega,h5,h6⟩
   . rw [QI hc2,Ab (x:=d*1103515245) (by omega) (by omega),Ab (x:=d*1103515245+12345) (by omega) (by omega),G7 (x:=d*1103515245+12345) (by omega)]
     generalize hz:(d*1103515245+12345) % 2147483648=z
     have hz2:0<=z/\z<2147483648:=by omega
     rw [YP (a:=z) (by omega),Ab (x:=z / 65536) (by omega) (by omega),G7 (x:=z / 65536) (by omega)]
     exact ⟨_,_,rfl,by omega,h1,h2,by dsimp only;omega,by dsimp only;omega,by dsimp only;omega⟩

theorem A0l {n:Nat} {P k:Int} {s:K8} (h:Dm P s) (hP:P<=1099511627000) (hk:1<k) (hk':k<=1048576):∃ v s',Dl n s k=some (v,s')/\(0<=v/\v<k)/\Dm (P+3) s':=by
 unfold Dl
 rw [QK,QI (by omega),QK]
 obtain ⟨b1,s1,e1,r1,o1⟩:=Aa8 (n:=n) h (by omega)
 rw [e1];by_cases hc:k<=256
 . rw [QG hc,A1,A3 (by simp;omega),G7 r1.1]
   have:=Qbk b1 (show k ≠ 0 by omega)
   have:=Qao b1 (show 0<k by omega)
   exact ⟨_,_,rfl,by omega,o1.1,o1.2.1,⟨o1.2.2.1.1,by have:=o1.2.2.1.2;show s1.2.1<=P+3;omega⟩,o1.2.2.2⟩
 . rw [QI hc,A1]
   obtain ⟨b2,s2,e2,r2,o2⟩:=Aa8 (n:=n) o1 (by omega)
   rw [e2,A1]
   obtain ⟨b3,s3,e3,r3,o3⟩:=Aa8 (n:=n) o2 (by omega)
   rw [e3,A1];dsimp only
   rw [A3 (by simp;omega),Ab (x:=b1*65536) (by omega) (by omega),Ab (x:=b2*256) (by omega) (by omega),Ab (x:=b1*65536+b2*256) (by omega) (by omega),Ab (x:=b1*65536+b2*256+b3) (by omega) (by omega),G7 (by omega)]
   have:=Qbk (b1*65536+b2*256+b3) (show k ≠ 0 by omega)
   have:=Qao (b1*65536+b2*256+b3) (show 0<k by omega)
   exact ⟨_,_,rfl,by omega,o3.1,o3.2.1,⟨o3.2.2.1.1,by have:=o3.2.2.1.2;show s3.2.1<=P+3;omega⟩,o3.2.2.2⟩

theorem B93 {n:Nat} {P k:Int} {s:K8} (h:Dm P s) (hP:P<=1099511627000) (hk:1<k) (hk':k<=1048576):∃ v s',A76 n s k=some (v,s')/\Dm (P+3) s':=by
 unfold A76;obtain ⟨v,s',e,_,o⟩:=A0l (n:=n) h hP hk hk';rw [e,A1];exact ⟨_,_,rfl,o⟩

theorem Aai {n:Nat} {a:Int} (h:-1000000000<=a/\a<=1000000000) (hn:1048577<=n):f131 n a=some (decide (a<0),dg a.natAbs,dg 1):=by
 unfold f131;rw [QK,Gl];by_cases hc:a<0
 . rw [QG hc,Ab (x:=0-a) (by omega) (by omega),show 0-a=(a.natAbs:Int) by omega,Ry (by omega) (by omega),A1,QU hc]
 . rw [QI hc]
   conv=>lhs;rw [show a=(a.natAbs:Int) by omega]
   rw [Ry (by omega) (by omega),A1,QQ hc]

theorem Au5 {N:Nat} (h:(dg N).length<=40):Q5 (dg N)=true:=by
 unfold Q5;have hc:=Gb N;rw [QU h,ZV,QF,QJ];refine ⟨λx hx=>?_,?_⟩
 . have:=hc.1 x hx;unfold Ha;rw [QN];omega
 . by_cases hn:dg N=[]
   . rw [hn];rfl
   . have h1:=hc.2 hn;have h2:=hc.1.get ((dg N).length-1);rw [XH];right;rw [QN];omega

theorem Bbz {x:Rat} (h:Sz x 40):H9 (rq x)=true:=by
 obtain ⟨h1,h2⟩:=h;unfold H9 rq;dsimp only
 have hd:(dg x.den).isEmpty=false:=by
  rw [Dx x.den_nz];rfl
 rw [Au5 h1,Au5 h2,hd,Bh,Bh]
 have hg:Nat.gcd (x.num.natAbs:Int).toNat (x.den:Int).toNat=1:=by
  rw [QO,QO];exact x.reduced
 rw [QU hg];by_cases hz:x.num.natAbs=0
 . rw [hz,C8,QQ (by omega)];rfl
 . rw [Dx hz];rfl

theorem Agj {α:Type} {n:Nat} {a b:List Int} (hab:a.length=b.length) (hl:a.length<=1048576) {k0:Bool->Option α} {k1:Unit->Option α}:∀ (m i:Nat),i<=a.length->a.length<i+m->Xk n m a b (i:Int) k0 k1=if a.drop i=b.drop i then k1 () else k0 false
 | 0,i,hi,hm=>by omega
 | m+1,i,hi,hm=>by
  rw [B2j];unfold A9d;rw [QK];by_cases h:i<a.length
  . rw [QG (by omega),A3 (by simp;omega),A3 (by simp;omega)]
    simp only [QO]
    have da:a.drop i=a.getD i 0::a.drop (i+1):=by
     rw [XQ h,QH,QM h];rfl
    have db:b.drop i=b.getD i 0::b.drop (i+1):=by
     rw [XQ (by omega),QH,QM (by omega)];rfl
    rw [da,db];by_cases hz:a.getD i 0=b.getD i 0
    . rw [hz,XK,QR,Ab (x:=(i:Int)+1) (by omega) (by omega),show (i:Int)+1=((i+1:Nat):Int) from rfl,Agj hab hl m (i+1) (by omega) (by omega)]
      simp
    . rw [show (a.getD i 0 != b.getD i 0)=true by rw [bne_iff_ne];exact hz,ZE,QI (λe=>hz (List.cons.inj e).1)]
  . rw [QI (by omega),QX (by omega),QX (by omega),QG rfl]

theorem Av9 {n:Nat} {a b:List Int} (hl:a.length<=1048576) (hn:1048577<=n):f77 n a b=some (decide (a=b)):=by
 unfold f77;rw [ZZ];by_cases h:a.length=b.length
 . rw [QI (by simp [h])]
   have h1:=Agj (n:=n) h hl (k0:=λz_1=>some z_1) (k1:=λ(_:Unit)=>some true) n 0 (by omega) (by omega)
   have h1:Xk n n a b 0 _ _=_:=h1;rw [h1,ZJ,ZJ];by_cases e:a=b
   . rw [QG e,QU e]
   . rw [QI e,QQ e]
 . rw [QG (by rw [bne_iff_ne];omega),QQ (λe=>h (by rw [e]))]

theorem Avr {n:Nat} {x y:Rat} (hx:Sz x 1000) (hn:1048577<=n):f32 n (rq x) (rq y)=some (decide (x=y)):=by
 obtain ⟨h1,h2⟩:=hx;unfold f32
 have key:(rq x).1=(rq y).1->(rq x).2.1=(rq y).2.1->(rq x).2.2=(rq y).2.2->x=y:=λa b c=>Atr (by
  rw [show rq x=((rq x).1,(rq x).2.1,(rq x).2.2) from rfl,a,b,c])
 rw [ZZ];by_cases e1:(rq x).1=(rq y).1
 . rw [QG (by rw [e1];simp),Av9 (by show (dg x.num.natAbs).length<=_;omega) hn,A1,QK]
   by_cases e2:(rq x).2.1=(rq y).2.1
   . rw [QG e2,Av9 (by show (dg x.den).length<=_;omega) hn,A1]
     by_cases e3:(rq x).2.2=(rq y).2.2
     . rw [QU e3,QU (key e1 e2 e3)]
     . rw [QQ e3,QQ (λe=>e3 (by rw [e]))]
   . rw [QI e2,QQ (λe=>e2 (by rw [e]))]
 . rw [QI (by simpa using e1),QQ (λe=>e1 (by rw [e]))]

def vq (x:List Rat):List Rt:=x.map rq

def Sv (x:List Rat) (L:Nat):Prop:=∀ a ∈ x,Sz a L

def Bt (acc:Rat):List Rat->List Rat->Rat
 | a::x,b::y=>Bt (acc+a*b) x y
 | _,_=>acc

def Bx (x:Rat):Bool:=decide ((dg x.num.natAbs).length<=40)&&decide ((dg x.den).length<=40)

theorem Db {x:Rat}:Bx x=true ↔ Sz x 40:=by unfold Bx Sz;simp

@[simp] theorem Bn (x:List Rat):(vq x).length=x.length:=by simp [vq]

theorem Bz {x:List Rat} {i:Nat} (h:i<x.length):(vq x).getD i (false,[],[])=rq (x.getD i 0):=by
 unfold vq;rw [QH,QP,QH,QM h];rfl

theorem Z8 {x:List Rat} {i:Nat} (h:i<x.length):x.drop i=x.getD i 0::x.drop (i+1):=by
 rw [XQ h,QH,QM h];rfl

theorem Sv.get {x:List Rat} {L i:Nat} (hs:Sv x L) (h:i<x.length):Sz (x.getD i 0) L:=by
 refine hs _ ?_;rw [QH,QM h];exact KU h

theorem Sv.mono {x:List Rat} {L M:Nat} (h:Sv x L) (hLM:L<=M):Sv x M:=λa ha=>(h a ha).mono hLM

theorem At8 {x:List Rat} (h:Sv x 40) (h1:1<=x.length) (h4:x.length<=4):F0 (vq x)=true:=by
 unfold F0
 rw [QU (by rw [Bn];omega),ZV,QJ]
 intro r hr;obtain ⟨a,ha,rfl⟩:=ZK.1 hr;exact Bbz (h a ha)

theorem Acu {α:Type} {n:Nat} {x y:List Rat} (hx:Sv x 40) (hy:Sv y 40) (hl:x.length=y.length) (h4:x.length<=4) (hn:1048577<=n) {f:Bool} {k0:Bool->Bool->List Int->List Int->Option α}:∀ (m i:Nat) (acc:Rat),Sz acc (82*2 ^ i-1)->i<=x.length->x.length<i+m ->
  Sc n m (vq y) (vq x) (x.length:Int) (i:Int) f (rq acc).1 (rq acc).2.1 (rq acc).2.2 k0=k0 f (rq (Bt acc (x.drop i) (y.drop i))).1 (rq (Bt acc (x.drop i) (y.drop i))).2.1 (rq (Bt acc (x.drop i) (y.drop i))).2.2
 | 0,i,acc,ho,hi,hm=>by omega
 | m+1,i,acc,ho,hi,hm=>by
  rw [Ayo];unfold A4m;dsimp only;rw [QK];by_cases h:i<x.length
  . rw [QG (by omega),A3 (by simp;omega),A3 (by simp;omega)]
    have hp:2 ^ i<=2 ^ 3:=XY (by omega) (by omega)
    have hp1:1<=2 ^ i:=Qap;rw [show (2:Nat) ^ 3=8 from rfl] at hp
    have h1:Sz (x.getD i 0*y.getD i 0) 81:=Bgg (hx.get h) (hy.get (by omega))
    have h2:Sz (acc+x.getD i 0*y.getD i 0) (82*2 ^ (i+1)-1):=(Bgh ho (h1.mono (by omega))).mono (by rw [YG];omega)
    have e2:=Aut (n:=n) ho (h1.mono (show 81<=82*2 ^ i-1 by omega)) (by omega) (by omega)
    have e2:f99 n ((rq acc).1,(rq acc).2.1,(rq acc).2.2) _=_:=e2
    rw [QO,Bz h,Bz (by omega),Amx (hx.get h) (hy.get (by omega)) (by omega) (by omega),A1,e2,A1,Ab (x:=(i:Int)+1) (by omega) (by omega)]
    have:=Acu hx hy hl h4 hn (f:=f) (k0:=k0) m (i+1) _ h2 (by omega) (by omega)
    rw [Z8 h,Z8 (x:=y) (by omega)]
    rw [show (i:Int)+1=((i+1:Nat):Int) from rfl,this];rfl
  . rw [QI (by omega),QX (by omega),QX (by omega)]
    rfl

theorem B6z:rq 0=(false,[],dg 1):=by
 unfold rq;rw [show (0:Rat).num=0 from rfl,show (0:Rat).den=1 from rfl,show (0:Int).natAbs=0 from rfl,C8];rfl

theorem Ch:Sz 0 1:=by
 refine ⟨?_,?_⟩
 . rw [show (0:Rat).num=0 from rfl,show (0:Int).natAbs=0 from rfl,C8];simp
 . rw [show (0:Rat).den=1 from rfl,Gl];simp

theorem Bh1 {n:Nat} {x y:List Rat} (hx:Sv x 40) (hy:Sv y 40) (hl:x.length=y.length) (h4:x.length<=4) (hn:1048577<=n):f130 n (vq x) (vq y)=some (rq (Bt 0 x y)):=by
 unfold f130
 have e0:f97 n 0=some (rq 0):=by
  unfold f97
  rw [QQ (by omega),QR,show (0:Int)=((0:Nat):Int) from rfl,S7 (by omega) (by omega),A1,B6z,C8,Gl]
  rfl
 rw [e0,A1]
 have h1:=Acu (n:=n) hx hy hl h4 hn (f:=false) (k0:=λz_6 z_7 z_8 z_9=>some (z_7,z_8,z_9)) n 0 0 (Ch.mono (by simp)) (by omega) (by omega)
 have h1:Sc n n (vq y) (vq x) (x.length:Int) 0 _ _ _ _ _=_:=h1;rw [Bn,h1,ZJ,ZJ]

theorem W6 {n:Nat} {x:List Rat} (hl:x.length<=1048576):∀ (m i:Nat),i<=x.length->x.length<i+m ->
  ∃ r,Hy n m (vq x) (x.length:Int) (i:Int) (λz_3=>some z_3) (λ(_:Unit)=>some (-1))=some r/\decide (r>=0) = !(x.drop i).all Bx
 | 0,i,hi,hm=>by omega
 | m+1,i,hi,hm=>by
  rw [Adw];unfold Pa;dsimp only;rw [QK];by_cases h:i<x.length
  . rw [QG (by omega),A3 (by simp;omega),QO,Bz h,Z8 h,XC]
    have e:f105 n (rq (x.getD i 0))=some (!Bx (x.getD i 0)):=by
     unfold f105 f98 rq Bx;dsimp only;generalize (dg (x.getD i 0).num.natAbs).length=p;generalize (dg (x.getD i 0).den).length=q;rw [QK];by_cases c:p<=40
     . rw [QG (by omega),A1,QU c,ZV];congr 2;exact decide_eq_decide.2 (by omega)
     . rw [QI (by omega),A1,QQ c,Bool.false_and]
    rw [e,A1]
    cases hf:Bx (x.getD i 0) with
    | false=>exact ⟨(i:Int),by simp,by simp⟩
    | true =>
     rw [ZT,QR,Ab (x:=(i:Int)+1) (by omega) (by omega),ZV]
     exact W6 hl m (i+1) (by omega) (by omega)
  . rw [QI (by omega),QX (by omega)]
    exact ⟨-1,rfl,rfl⟩

theorem Aga {n:Nat} {x:List Rat} (hl:x.length<=1048576) (hn:1048577<=n):f51 n (vq x)=some (if x.all Bx=true then (vq x,0) else ([],7)):=by
 unfold f51 A5b A3r
 obtain ⟨r,h1,h2⟩:=W6 (n:=n) hl n 0 (by omega) (by omega)
 have h1:Hy n n (vq x) (x.length:Int) 0 _ _=_:=h1;rw [Bn,h1,A1,A1,h2,ZJ]
 cases x.all Bx <;> rfl

theorem Ah1 {α:Type} {n:Nat} {x y:List Rat} (hl:x.length=y.length) (h4:x.length<=4096) (hs:Sv x 1000) (hn:1048577<=n) {k0:Bool->Option α} {k1:Unit->Option α}:∀ (m i:Nat),i<=x.length->x.length<i+m ->
  Xn n m (vq x) (vq y) (i:Int) k0 k1=if x.drop i=y.drop i then k1 () else k0 false
 | 0,i,hi,hm=>by omega
 | m+1,i,hi,hm=>by
  rw [B34];unfold A9y;dsimp only;rw [QK,Bn];by_cases h:i<x.length
  . rw [QG (by omega),A3 (by simp;omega),A3 (by simp;omega),QO,Bz h,Bz (by omega),Avr (hs.get h) hn,A1,Z8 h,Z8 (x:=y) (by omega)]
    by_cases e:x.getD i 0=y.getD i 0
    . rw [QU e,ZT,QR,Ab (x:=(i:Int)+1) (by omega) (by omega),e]
      rw [show (i:Int)+1=((i+1:Nat):Int) from rfl,Ah1 hl h4 hs hn m (i+1) (by omega) (by omega)]
      simp
    . rw [QQ e,XI,ZE,QI (λq=>e (List.cons.inj q).1)]
  . rw [QI (by omega),QX (by omega),QX (by omega),QG rfl]

theorem Aum {n:Nat} {x y:List Rat} (hl:x.length=y.length) (h4:x.length<=4096) (hs:Sv x 1000) (hn:1048577<=n):f25 n (vq x) (vq y)=some (decide (x=y)):=by
 unfold f25
 have h1:=Ah1 (n:=n) hl h4 hs hn (k0:=λz_4=>some z_4) (k1:=λ(_:Unit)=>some true) n 0 (by omega) (by omega)
 have h1:Xn n n (vq x) (vq y) 0 _ _=_:=h1;rw [Bn,Bn,hl,XK,QR,h1,ZJ,ZJ];by_cases e:x=y
 . rw [QG e,QU e]
 . rw [QI e,QQ e]

theorem Bgn {n:Nat} {x y:List Rat} (hx:Sv x 40) (hy:Sv y 40) (h1:1<=x.length) (h4:x.length<=4) (hl:x.length=y.length) (hn:1048577<=n):f128 n [vq x,vq y]=some 0:=by
 obtain ⟨c,e1,e2⟩:=Bah (n:=n) (L:=[vq x,vq y]) (by simp) hn
 rw [e1]
 have:(c==0)=true:=by
  rw [e2]
  simp [At8 hx h1 h4,At8 hy (by omega) (by omega),hl]
 rw [KL] at this;rw [this]

theorem Bd4 {n:Nat} {x y:List Rat} (hx:Sv x 40) (hy:Sv y 40) (h1:1<=x.length) (h4:x.length<=4) (hl:x.length=y.length) (hz:Sz (Bt 0 x y) 40) (hn:1048577<=n):f78 n (vq x) (vq y)=some (rq (Bt 0 x y),0):=by
 unfold f78;rw [Bgn hx hy h1 h4 hl hn,A1,XK,QR,Bh1 hx hy hl h4 hn,A1];obtain ⟨s1,s2⟩:=hz;unfold f129 f98 rq;dsimp only
 rw [QU (by omega),QU (by omega)]
 rfl

def Bq (x:Rat) (N D:Nat):Prop:=x.num.natAbs<=N/\x.den<=D

def Bv (x:List Rat) (N D:Nat):Prop:=∀ a ∈ x,Bq a N D

theorem Bq.sz {x:Rat} {N D:Nat} (h:Bq x N D) {L:Nat} (h1:N<10000 ^ L) (h2:D<10000 ^ L):Sz x L:=⟨Ej (by have:=h.1;omega),Ej (by have:=h.2;omega)⟩

theorem Bv.sz {x:List Rat} {N D:Nat} (h:Bv x N D) {L:Nat} (h1:N<10000 ^ L) (h2:D<10000 ^ L):Sv x L:=λa ha=>(h a ha).sz h1 h2

theorem Bq.mono {x:Rat} {N D N' D':Nat} (h:Bq x N D) (h1:N<=N') (h2:D<=D'):Bq x N' D':=⟨ZQ h.1 h1,ZQ h.2 h2⟩

theorem Bi9 {s:Bool} {a d N D:Nat} (hd:0<d) (h1:a<=N) (h2:d<=D):Bq (mq s a d) N D:=by
 unfold Bq;rw [Afv hd,Afw hd];have e1:a / Nat.gcd a d<=a:=JO _ _;have e2:d / Nat.gcd a d<=d:=JO _ _;generalize a / Nat.gcd a d=q at *
 refine ⟨?_,by omega⟩
 cases s <;> simp <;> omega

theorem Bv.get {x:List Rat} {N D i:Nat} (hs:Bv x N D) (h:i<x.length):Bq (x.getD i 0) N D:=by
 refine hs _ ?_;rw [QH,QM h];exact KU h

theorem Ann {n:Nat} {a b:Int} (ha:-10<=a/\a<=10) (hb:1<=b/\b<=9) (hn:1048577<=n):∃ x:Rat,f176 n a b=some (rq x,0)/\Bq x 10 9:=by
 unfold f176
 have la:(dg a.natAbs).length<=4:=Ej (by omega)
 have lb:(dg b.natAbs).length<=4:=Ej (by omega)
 rw [Ix,A1,QU (by omega),Ix,A1,QU (by omega),show (b==0)=false by rw [beq_eq_false_iff_ne];omega,Aai (by omega) hn,A1,Aai (by omega) hn,A1]
 dsimp only
 rw [Rh (L:=4) (show 0<b.natAbs by omega) la lb (by omega) (by omega),A1]
 exact ⟨_,rfl,Bi9 (by omega) (by omega) (by omega)⟩

theorem Bay {n:Nat} {P:Int} {s:K8} (h:Dm P s) (hP:P<=1099511620000) (hn:1048577<=n):∃ (x:Rat) (s':K8),Qm n s=some (rq x,s')/\Bq x 10 9/\Dm (P+6) s':=by
 unfold Qm
 obtain ⟨a,s1,e1,r1,o1⟩:=A0l (n:=n) (k:=21) h (by omega) (by omega) (by omega)
 rw [e1,A1]
 obtain ⟨b,s2,e2,r2,o2⟩:=A0l (n:=n) (k:=6) o1 (by omega) (by omega) (by omega)
 rw [e2,A1];dsimp only
 rw [Ab (x:=a-10) (by omega) (by omega),Ab (x:=1+b) (by omega) (by omega)]
 obtain ⟨x,e3,z⟩:=Ann (n:=n) (a:=a-10) (b:=1+b) (by omega) (by omega) hn
 rw [e3,A1]
 exact ⟨x,s2,rfl,z,o2.1,o2.2.1,⟨o2.2.2.1.1,by have:=o2.2.2.1.2;show s2.2.1<=P+6;omega⟩,o2.2.2.2⟩

theorem Bbr {l:List Int} (h:∀ x ∈ l,0<=x/\x<=255) (hl:l.length<=1048576):Dm 0 (l,0,Int.tmod (l.length:Int) 1000) :=
 ⟨h,hl,⟨Int.le_refl _,Int.le_refl _⟩,by rw [G7 (by omega)];dsimp only;omega,by rw [G7 (by omega)];dsimp only;omega⟩

theorem Agv {α:Type} {n k:Nat} (hk:k<=1000) (hn:1048577<=n) {k0:List Rt->List Int->Int->Int->Option α}:∀ (m i:Nat) (P:Int) (o:List Rat) (s:K8),Dm P s->P+6*(k-i:Nat)<=1099511620000->o.length=i->i<=k->k<i+m->Bv o 10 9 ->
  ∃ (x:List Rat) (s':K8),x.length=k/\Bv x 10 9/\Dm (P+6*(k-i:Nat)) s'/\Kn n m (k:Int) (i:Int) (vq o) s.1 s.2.1 s.2.2 k0=k0 (vq x) s'.1 s'.2.1 s'.2.2
 | 0,i,P,o,s,h1,h2,h3,h4,h5,h6=>by omega
 | m+1,i,P,o,s,h1,h2,h3,h4,h5,h6=>by
  rw [Abx];unfold Th;rw [QK];by_cases h:i<k
  . rw [QG (by omega)]
    obtain ⟨a,s1,e1,r1,o1⟩:=Bay (n:=n) h1 (by omega) hn
    have e1:Qm n (s.1,s.2.1,s.2.2)=_:=e1
    rw [e1,A1,A3 (by simp;omega),Ab (x:=(i:Int)+1) (by omega) (by omega)]
    dsimp only
    obtain ⟨x,s',q1,q2,q3,q4⟩:=Agv hk hn (k0:=k0) m (i+1) (P+6) (o++[a]) s1 o1 (by omega) (by simp;omega) (by omega) (by omega) (λc hc=>by
     rcases QE.1 hc with hc | hc
     . exact h6 c hc
     . rw [QS.1 hc];exact r1)
    refine ⟨x,s',q1,q2,?_,?_⟩
    . rw [show P+6*((k-i:Nat):Int)=P+6+6*((k-(i+1):Nat):Int) by omega];exact q3
    . rw [<- q4];simp [vq]
  . rw [QI (by omega)]
    exact ⟨o,s,by omega,h6,by rw [show ((k-i:Nat):Int)=0 by omega];simpa using h1,rfl⟩

theorem Bdv {n k:Nat} {l:List Int} (h:∀ x ∈ l,0<=x/\x<=255) (hl:l.length<=1048576) (hk:k<=1000) (hn:1048577<=n):∃ x:List Rat,f21 n l (k:Int)=some (vq x)/\x.length=k/\Bv x 10 9:=by
 unfold f21 A9q;rw [A1];unfold Aqh
 obtain ⟨x,s',q1,q2,_,q4⟩:=Agv (k:=k) hk hn (k0:=λz_2 z_3 z_4 z_5=>some (z_2,(z_3,z_4,z_5))) n 0 0 [] _ (Bbr h hl) (by omega) rfl (by omega) (by omega) (λc hc=>by simp at hc)
 have q4:Kn n n (k:Int) 0 [] _ _ _ _=_:=q4;rw [q4,A1];exact ⟨x,rfl,q1,q2⟩

theorem Afg (c:Nat):rq (c:Rat)=(false,dg c,dg 1):=by
 unfold rq
 rw [Rat.num_natCast,Rat.den_natCast,XE,QQ (by omega)]

theorem Bcu {n c:Nat} (hc:c<=100) (hn:1048577<=n):f97 n (c:Int)=some (rq (c:Rat)):=by
 unfold f97
 rw [QQ (by omega),QR,S7 (by omega) (by omega),A1,Afg,Gl]
 rfl

theorem B0r {c:Nat} (hc:c<=100):Sz (c:Rat) 1:=by
 unfold Sz;rw [Rat.num_natCast,Rat.den_natCast,XE]
 exact ⟨Ej (by omega),Ej (by omega)⟩

def Kl:List Int->Int
 | []=>0
 | c::r=>if c=0 then Kl r else c

theorem Ago {n:Nat} {l:List Int} (hl:l.length<=1048576):∀ (m i:Nat),i<=l.length->l.length<i+m->A6j n m l (l.length:Int) (i:Int) (λz=>some z) (λ(_:Unit)=>some 0)=some (Kl (l.drop i))
 | 0,i,hi,hm=>by omega
 | m+1,i,hi,hm=>by
  rw [B2o];unfold A9j;rw [QK];by_cases h:i<l.length
  . have hx : l.drop i = l.getD i 0 :: l.drop (i + 1) := by
     rw [XQ h];simp [QH,h]
    rw [QG (by omega),A3 (by simp;try omega),QO,hx]
    unfold Kl;by_cases c:l.getD i 0=0
    . rw [c,XK,QR,QG rfl,Ab (x:=(i:Int)+1) (by omega) (by omega)]
      exact Ago hl m (i+1) (by omega) (by omega)
    . rw [QI c,show (l.getD i 0 != 0)=true by rw [bne_iff_ne];exact c,ZE]
  . rw [QI (by omega),QX (by omega)];rfl

theorem Oi {n:Nat} {l:List Int} (hl:l.length<=1048576) (hn:1048577<=n):f70 n l=some (Kl l):=by
 unfold f70
 have:=Ago (n:=n) hl n 0 (by omega) (by omega)
 simpa using this

def A24 (L:List (List Rt)):Bool:=L.any λv=>decide (4096<v.length)

theorem An3 {n:Nat} {L:List (List Rt)} (hl:L.length<=1048576) (hn:1048577<=n):f71 n L=some (if A24 L=true then 2 else 0):=by
 obtain ⟨c,h1,h2⟩:=Avc (n:=n) hl hn;rw [h1];rcases h2 with ⟨rfl,h⟩ | ⟨rfl,v,hv,h⟩
 . rw [QI];intro c;obtain ⟨v,hv,h3⟩:=ZI.1 c;have:=h v hv;have:=Qau h3;omega
 . rw [QG];exact ZI.2 ⟨v,hv,QU h⟩

def Apa (L:List (List Rt)):Int:=if A24 L=true then 2 else if (L.all F0)=true then (if (L.all λv=>v.length==(L.getD 0 []).length)=true then 0 else 8) else 1

theorem B7p {n:Nat} {x y:List Rt} (hn:1048577<=n):f92 n x y=some (Apa [x,y]):=by
 unfold f92 Apa A24;dsimp only;rw [QK];simp only [JF,List.any_nil,Qbv,XC,KR,XO];by_cases a:x.length<=4096
 . rw [QI (by omega),QQ (show ¬ 4096<x.length by omega),YI]
   by_cases b:y.length<=4096
   . rw [QQ (by omega),QQ (by omega),QR,Aam hn,A1,QI (by simp)]
     cases hx:F0 x with
     | false=>rfl
     | true =>
      rw [ZT,QR,Aam hn,A1]
      cases hy:F0 y with
      | false=>rfl
      | true =>
       simp only [ZT,QR,ZN,if_true];by_cases c:x.length=y.length
       . rw [show ((x.length:Int) != (y.length:Int))=false by simp;omega,QR,QG (by simp [c])]
       . rw [show ((x.length:Int) != (y.length:Int))=true by rw [bne_iff_ne];omega,ZE,QI (by simp;omega)]
   . rw [QU (by omega),QU (by omega),ZE,QG rfl]
 . rw [QG (by omega),QU (show 4096<x.length by omega),Qak,ZE,QG rfl]

theorem B5b:∀ {l:List Rt},l.all H9=true->∃ X:List Rat,l=vq X/\Sv X 40
 | [],_=>⟨[],rfl,λa h=>by simp at h⟩
 | r::l,h=>by
  simp only [XC,QF] at h;obtain ⟨x,rfl,hx⟩:=Bc2 h.1;obtain ⟨X,rfl,hX⟩:=B5b h.2
  exact ⟨x::X,rfl,λa ha=>by rcases QW.1 ha with rfl | ha;exact hx;exact hX a ha⟩

def Mi (X:List Rat):List Rt × Int:=if X.all Bx=true then (vq X,0) else ([],7)

theorem Gj {n:Nat} {b:Bool} {c:Int}:f111 n b c=some (if b=true then 0 else c):=by
 unfold f111;cases b <;> rfl

theorem W1 {a:Nat} (h:a<=1000000):W ((a:Int)+1)=((a+1:Nat):Int):=Ab (by omega) (by omega)

theorem dm {k i j:Nat} (hj:j<k):(i*k+j) % k=j/\(i*k+j) / k=i:=by
 have hk:0<k:=by omega
 constructor
 . rw [Qai,Nat.add_mul_mod_self_right,KN hj]
 . rw [Qai,JU j i hk,KT hj];omega

theorem An1 {X:List Rat} (h:(Mi X).2 ≠ 0):(Mi X).1=[]:=by
 unfold Mi at h ⊢;split
 . rename_i e;rw [QG e] at h;exact absurd rfl h
 . rfl

def Bii (X:List Rat) (k i:Nat):List Rat:=(X.drop (i*k)).take k

def mvR (A X:List Rat):List Rat:=(List.range X.length).map λi=>Bt 0 (Bii A X.length i) X

def Aep (w:Nat) (row:List Rt) (v:Nat->Rat):Prop:=row.length=w /\ ∀ c,c<w->row.getD c rt0=rq (v c)

def Akq (m w:Nat) (R:List (List Rt)) (M:Nat->Nat->Rat):Prop:=R.length=m /\ ∀ r,r<m->Aep w (R.getD r []) (M r)

def SzM (M:Nat->Nat->Rat) (L:Nat):Prop:=∀ r c,Sz (M r c) L

theorem Amy {n L:Nat} {x:Rat} (hx:Sz x L) (hL:L<=1099511627000):f73 n (rq x)=some (rq x):=by
 obtain ⟨x1,x2⟩:=hx;unfold f73 rq;dsimp only
 rw [L4 n (by omega),A1,L4 n (by omega),A1]

theorem SzM.mono {M:Nat->Nat->Rat} {L L':Nat} (h:SzM M L) (hL:L<=L'):SzM M L':=λr c=>(h r c).mono hL

theorem Aep.congr {w:Nat} {row:List Rt} {u v:Nat->Rat} (h:Aep w row u) (e:∀ c,c<w->u c=v c):Aep w row v:=⟨h.1,λc hc=>by rw [h.2 c hc,e c hc]⟩

theorem Akq.congr {m w:Nat} {R:List (List Rt)} {M M':Nat->Nat->Rat} (h:Akq m w R M) (e:∀ r c,r<m->c<w->M r c=M' r c):Akq m w R M':=⟨h.1,λr hr=>(h.2 r hr).congr λc hc=>e r c hr hc⟩

structure Lf (m:Nat) (a b:List Rt) (M:Nat->Nat->Rat):Prop where
 la:a.length=m*m
 lb:b.length=m
 at_:∀ r c,r<m->c<m->a.getD (r*m+c) rt0=rq (M r c)
 bt:∀ r,r<m->b.getD r rt0=rq (M r m)

theorem Lf.congr {m:Nat} {a b:List Rt} {M M':Nat->Nat->Rat} (h:Lf m a b M) (e:∀ r c,r<m->c<=m->M r c=M' r c):Lf m a b M' :=
 ⟨h.la,h.lb,λr c hr hc=>by rw [h.at_ r c hr hc,e r c hr (by omega)],λr hr=>by rw [h.bt r hr,e r m hr (ZG _)]⟩

theorem Lf.gA {m r c:Nat} {a b:List Rt} {M:Nat->Nat->Rat} (h:Lf m a b M) (hr:r<m) (hc:c<m):a.getD (r*m+c) (false,[],[])=rq (M r c):=h.at_ r c hr hc

theorem Lf.gB {m r:Nat} {a b:List Rt} {M:Nat->Nat->Rat} (h:Lf m a b M) (hr:r<m):b.getD r (false,[],[])=rq (M r m):=h.bt r hr

theorem Bgu {n c:Nat} (hc:c<=1000000) (hn:1048577<=n):f131 n (c:Int)=some (rq (c:Rat)):=by
 unfold f131
 rw [QQ (by omega),QR,Ry (by omega) (by omega),A1,Afg,Gl]

theorem Pw {L:Nat} (h:1<=L):Sz (1:Rat) L:=(B0r (c:=1) (by omega)).mono h

theorem Wn {α:Type} {n m:Nat} (hm:m<=100) (hn:1048577<=n) {k0:List Rt->Option α}:∀ (fu i:Nat),i<=m->m<i+fu->A0i n fu (m:Int) (i:Int) (vq (List.replicate i 0)) k0=k0 (vq (List.replicate m 0))
 | 0,i,hi,hf=>by omega
 | fu+1,i,hi,hf=>by
  rw [Az8];unfold A51;rw [QK];by_cases h:i<m
  . have e0:f131 n 0=some (rq 0):=Bgu (c:=0) (by omega) hn
    have e:vq (List.replicate i 0)++[rq 0]=vq (List.replicate (i+1) 0):=by rw [List.replicate_succ'];simp [vq]
    rw [QG (by omega),e0,A1,A3 (by simp;omega),e,Ab (x:=(i:Int)+1) (by omega) (by omega)]
    exact Wn hm hn fu (i+1) (by omega) (by omega)
  . obtain rfl:i=m:=by omega
    rw [QI (by omega)]

theorem B6u {n m:Nat} (hm:m<=100) (hn:1048577<=n):f118 n (m:Int)=some (vq (List.replicate m 0)):=by
 unfold f118
 exact Wn (n:=n) (k0:=λz_2=>some z_2) hm hn n 0 (by omega) (by omega)

theorem Atq (a:Int):rq (a:Rat)=(decide (a<0),dg a.natAbs,dg 1):=by
 unfold rq;rw [Rat.num_intCast,Rat.den_intCast]

theorem J7 {n:Nat} {a:Int} (h:-1000000000<=a/\a<=1000000000) (hn:1048577<=n):f131 n a=some (rq (a:Rat)):=by rw [Aai h hn,Atq]

theorem Zh {n:Nat} {x:Rat}:f98 n (rq x)=some (Bx x):=by
 unfold f98 Bx rq;dsimp only;rw [QK];by_cases h:(dg x.num.natAbs).length<=40
 . rw [QG (by omega),QU h,ZV]
   by_cases c:(dg x.den).length<=40
   . rw [QU c,QU (by omega)]
   . rw [QQ c,QQ (by omega)]
 . rw [QI (by omega),QQ h];rfl

theorem B5g {n:Nat} {x:Rat}:f145 n (rq x)=some (Bx x):=by
 unfold f145 Bx rq;dsimp only;rw [QK];by_cases h:(dg x.num.natAbs).length<=40
 . rw [QG (by omega),QU h,ZV]
   by_cases c:(dg x.den).length<=40
   . rw [QU c,QU (by omega)]
   . rw [QQ c,QQ (by omega)]
 . rw [QI (by omega),QQ h];rfl

theorem G3 {x y:Rat} {L K:Nat} (hx:Sz x L) (hy:Sz y K):Sz (x+y) (L+K+1):=by
 obtain ⟨x1,x2⟩:=hx;obtain ⟨y1,y2⟩:=hy;have l1:=B2 x.num.natAbs y.den;have l2:=B2 y.num.natAbs x.den;have l3:=B2 x.den y.den;have l4:=Ze (x.num.natAbs*y.den) (y.num.natAbs*x.den);have hd:0<x.den*y.den:=KA (XA x.den_nz) (XA y.den_nz);by_cases hs:decide (x.num<0)=decide (y.num<0)
 . rw [Vl hs];exact Lq hd (by omega) (by omega)
 . by_cases hle:y.num.natAbs*x.den<=x.num.natAbs*y.den
   . have l5:=Bc (JX (x.num.natAbs*y.den) (y.num.natAbs*x.den))
     rw [M9 hs hle];exact Lq hd (by omega) (by omega)
   . have l5:=Bc (JX (y.num.natAbs*x.den) (x.num.natAbs*y.den))
     rw [Rat.add_comm,M9 (λe=>hs e.symm) (by omega),KF y.den x.den];exact Lq hd (by omega) (by omega)

theorem Aj {x y:Rat} {L K:Nat} (hx:Sz x L) (hy:Sz y K):Sz (x*y) (L+K+1):=by
 obtain ⟨x1,x2⟩:=hx;obtain ⟨y1,y2⟩:=hy;have l1:=B2 x.num.natAbs y.num.natAbs;have l3:=B2 x.den y.den;rw [A60]
 exact Lq (KA (XA x.den_nz) (XA y.den_nz)) (by omega) (by omega)

theorem Sr {x y:Rat} {L K:Nat} (hx:Sz x L) (hy:Sz y K) (hy0:y ≠ 0):Sz (x / y) (L+K+1):=by
 obtain ⟨x1,x2⟩:=hx;obtain ⟨y1,y2⟩:=hy;have l1:=B2 x.num.natAbs y.den;have l3:=B2 x.den y.num.natAbs;have hyn:y.num ≠ 0:=λe=>hy0 (JE.1 e);rw [Aju hy0]
 exact Lq (KA (XA x.den_nz) (by omega)) (by omega) (by omega)

theorem B7k {n:Nat} (hn:1048577<=n):f97 n 0=some (rq 0):=Bcu (c:=0) (by omega) hn

def Bij (M:Nat->Nat->Rat) (m i:Nat):List Rat:=(List.range m).map (M i)

def bsV (M:Nat->Nat->Rat) (m i:Nat) (X:List Rat):Rat:=(M i m-Bt 0 (Bij M m i) X) / M i i

def bs (M:Nat->Nat->Rat) (m:Nat):Nat->List Rat->List Rat
 | 0,X=>X
 | i+1,X=>bs M m i (X.set i (bsV M m i X))

theorem B6o {i:Nat}:vq (List.replicate i 0)++[rq 0]=vq (List.replicate (i+1) 0):=by
 rw [List.replicate_succ'];simp [vq]

theorem Vs {α:Type} {n m:Nat} (hm:m<=1000) (hn:1048577<=n) {k0:List Rt->Option α}:∀ (fu i:Nat),i<=m->m<i+fu->Zr n fu (m:Int) (i:Int) (vq (List.replicate i 0)) k0=k0 (vq (List.replicate m 0))
 | 0,i,h1,h2=>by omega
 | fu+1,i,h1,h2=>by
  rw [Avg];unfold A2a;rw [QK];by_cases h:i<m
  . rw [QG (by omega),B7k hn,A1,A3 (by simp;omega),W1 (by omega),B6o]
    exact Vs hm hn fu (i+1) (by omega) (by omega)
  . obtain rfl:i=m:=by omega
    rw [QI (by omega)]

theorem B21 {n m:Nat} (hm:m<=1000) (hn:1048577<=n):Mk n (m:Int)=some (vq (List.replicate m 0)):=by
 unfold Mk
 exact Vs (n:=n) (k0:=λz=>some z) hm hn n 0 (by omega) (by omega)

theorem Bgj {k L:Nat} (h:1<=L):Sv (List.replicate k 0) L:=λa ha=>by
 rw [(List.mem_replicate.1 ha).2];exact Ch.mono h

theorem Il:∀ (x y:List Rat) (a:Rat),Bt a x y=a+Bt 0 x y
 | [],_,a=>by simp [Bt,JI]
 | p::x,[],a=>by simp [Bt,JI]
 | p::x,q::y,a=>by
  simp only [Bt];rw [Il x y (a+p*q),Il x y (0+p*q)];grind

theorem Abt {n:Nat} {x:List Rat} (hl:x.length<=4096) {k1:List Rt->Option (List Rt × Int)}:∀ (m i:Nat) (o:List Rt),o.length<=i->i<=x.length->x.length<i+m ->
  Xj n m (vq x) (i:Int) o (λz_5 z_6=>some (z_6,z_5)) k1=if (x.drop i).all Bx=true then k1 (o++vq (x.drop i)) else some ([],7)
 | 0,i,o,ho,hi,hm=>by omega
 | m+1,i,o,ho,hi,hm=>by
  rw [B2c];unfold A98;dsimp only;rw [QK,Bn];by_cases h:i<x.length
  . rw [QG (by omega),A3 (by simp;omega),QO,Bz h,Z8 h,XC,B5g,A1]
    cases hf:Bx (x.getD i 0) with
    | false=>simp
    | true =>
     obtain ⟨z1,z2⟩:=Db.1 hf
     have e2:f127 n (rq (x.getD i 0))=some (rq (x.getD i 0)):=by
      unfold f127
      rw [A3 (by simp only [QN];show (0+(dg (x.getD i 0).num.natAbs).length)*8<=_;omega),A3 (by simp only [QN];show (0+(dg (x.getD i 0).den).length)*8<=_;omega)]
     rw [ZT,QR,A3 (by simp;omega),e2,A1,A3 (by simp;omega),Ab (x:=(i:Int)+1) (by omega) (by omega),ZV]
     have:=Abt hl (n:=n) (k1:=k1) m (i+1) (o++[rq (x.getD i 0)]) (by simp;omega) (by omega) (by omega)
     rw [show (i:Int)+1=((i+1:Nat):Int) from rfl,this,ZO];rfl
  . rw [QI (by omega),QX (by omega)]
    simp [vq]

theorem B6x {n:Nat} {x:List Rat} (hl:x.length<=4096) (hn:1048577<=n):f89 n (vq x)=some (Mi x):=by
 unfold f89 Mi
 have h1:=Abt (n:=n) hl (k1:=λz_7=>some (z_7,0)) n 0 [] (by simp) (by omega) (by omega)
 have h1:Xj n n (vq x) 0 [] _ _=_:=h1;rw [h1,ZJ];split <;> rfl

theorem Adg:∀ (x y:List Rat),Bt 0 x y=Bt 0 y x
 | [],[]=>rfl
 | [],_::_=>rfl
 | _::_,[]=>rfl
 | p::x,q::y=>by
  simp only [Bt];rw [Il,Il y,Adg x y];grind

theorem V4:∀ (x:List Rat),0<=Bt 0 x x
 | []=>by simp only [Bt];exact Rat.le_refl
 | p::x=>by
  have:=V4 x
  have h2:(0:Rat)<=p*p:=by
   rcases Rat.le_total (a:=0) (b:=p) with h | h
   . exact Qbs h h
   . have:=Qbs (a:=-p) (b:=-p) (by grind) (by grind)
     grind
  simp only [Bt];rw [Il];grind

theorem Apd (p:Rat):0<=p*p:=by
 rcases Rat.le_total (a:=0) (b:=p) with h | h
 . exact Qbs h h
 . have:=Qbs (a:=-p) (b:=-p) (by grind) (by grind)
   grind

theorem Ajt:∀ {x:List Rat},Bt 0 x x=0->∀ i,x.getD i 0=0
 | [],_,i=>by simp
 | p::x,h,i=>by
  simp only [Bt] at h;rw [Il] at h;have h1:=V4 x;have h2:=Apd p
  have h3:Bt 0 x x=0:=by grind
  have h4:p*p=0:=by grind
  have h5:p=0:=by rcases Rat.mul_eq_zero.1 h4 with h | h <;> exact h
  cases i with
  | zero=>simpa using h5
  | succ i=>simpa using Ajt h3 i

theorem Adf:∀ {x:List Rat} (z:List Rat),(∀ i,x.getD i 0=0)->Bt 0 x z=0
 | [],_,_=>rfl
 | p::x,[],_=>rfl
 | p::x,c::z,h=>by
  have h0:p=0:=by simpa using h 0
  have h1:=Adf (x:=x) z λi=>by simpa using h (i+1)
  simp only [Bt];rw [Il,h1,h0];grind

structure Pd (A:List Rat) (k:Nat):Prop where
 sa:∀ X Y,X.length=k->Y.length=k->Bt 0 (mvR A X) Y=Bt 0 X (mvR A Y)
 pd:∀ X,X.length=k->Bt 0 X X<=Bt 0 X (mvR A X)

structure CgI (A R D:List Rat) (k:Nat):Prop where
 lR:R.length=k
 lD:D.length=k
 i1:Bt 0 R D=Bt 0 R R
 i2:Bt 0 R (mvR A D)=Bt 0 D (mvR A D)

theorem CgI.p {A R D:List Rat} {k:Nat} (h:CgI A R D k) (hA:Pd A k) (hr:Bt 0 R R ≠ 0):Bt 0 D (mvR A D) ≠ 0:=by
 intro e;have h1:=hA.pd D h.lD;have h2:=V4 D
 have h3:Bt 0 D D=0:=by grind
 have h4:=Adf R (Ajt h3);rw [Adg,h.i1] at h4;exact hr h4

structure Q4 where
 f:Rat
 a:Rat
 v:Rat
 c:Rat

theorem Q4.ext' {p q:Q4} (h1:p.f=q.f) (h2:p.a=q.a) (h3:p.v=q.v) (h4:p.c=q.c):p=q:=by
 cases p;cases q;simp only at h1 h2 h3 h4;rw [h1,h2,h3,h4]

def Q4.cst (k:Rat):Q4:=⟨k,0,0,0⟩

def Q4.add (p q:Q4):Q4:=⟨p.f+q.f,p.a+q.a,p.v+q.v,p.c+q.c⟩

def Q4.neg (p:Q4):Q4:=⟨-p.f,-p.a,-p.v,-p.c⟩

def Q4.mul (p q:Q4):Q4:=⟨p.f*q.f,p.a*q.f+p.f*q.a,p.v*q.f+p.f*q.v,p.c*q.f+p.f*q.c+(p.a*q.v+p.v*q.a)⟩

def Q4.inv (p:Q4):Q4:=⟨1 / p.f,-(p.a*(1 / p.f*(1 / p.f))),-(p.v*(1 / p.f*(1 / p.f))),2*(1 / p.f*(1 / p.f)*(1 / p.f))*(p.a*p.v)-p.c*(1 / p.f*(1 / p.f))⟩

def Q4.pow (p:Q4):Nat->Q4
 | 0=>cst 1
 | n+1=>mul (pow p n) p

def Q4.d1 (f:Rat):Nat->Rat
 | 0=>0
 | n+1=>f ^ n*((n+1:Nat):Rat)

def Q4.d2 (f:Rat):Nat->Rat
 | 0=>0
 | 1=>0
 | n+2=>f ^ n*(((n+2)*(n+1):Nat):Rat)

theorem Q4.d1_suc (f:Rat) (n:Nat):d1 f (n+1)=d1 f n*f+f ^ n:=by
 cases n with
 | zero=>simp [d1];grind
 | succ n=>simp only [d1,Rat.pow_succ];push_cast;grind

theorem Q4.d2_suc (f:Rat) (n:Nat):d2 f (n+1)=d2 f n*f+2*d1 f n:=by
 match n with
 | 0=>simp [d2,d1];grind
 | 1=>simp [d2,d1];grind
 | n+2=>simp only [d2,d1,Rat.pow_succ];push_cast;grind

theorem Q4.pow_eq (p:Q4):∀ n,pow p n=⟨p.f ^ n,d1 p.f n*p.a,d1 p.f n*p.v,d2 p.f n*p.a*p.v+d1 p.f n*p.c⟩
 | 0=>by simp [pow,cst,d1,d2];grind
 | n+1=>by
  rw [pow,pow_eq p n];simp only [mul];refine ext' ?_ ?_ ?_ ?_
  . simp only [Rat.pow_succ]
  . simp only [d1_suc];grind
  . simp only [d1_suc];grind
  . simp only [d1_suc,d2_suc];grind

structure Z4 where
 f:Int
 a:Int
 v:Int
 c:Int

def Z4.q (p:Z4):Q4:=⟨(p.f:Rat),(p.a:Rat),(p.v:Rat),(p.c:Rat)⟩

def Z4.n (p:Z4):Nat:=p.f.natAbs+p.a.natAbs+p.v.natAbs+p.c.natAbs

def Z4.add (p q:Z4):Z4:=⟨p.f+q.f,p.a+q.a,p.v+q.v,p.c+q.c⟩

def Z4.mul (p q:Z4):Z4:=⟨p.f*q.f,p.a*q.f+p.f*q.a,p.v*q.f+p.f*q.v,p.c*q.f+p.f*q.c+(p.a*q.v+p.v*q.a)⟩

theorem Z4.q_mul (p q:Z4):(mul p q).q=Q4.mul p.q q.q:=by
 refine Q4.ext' ?_ ?_ ?_ ?_ <;> simp only [Z4.q,mul,Q4.mul] <;> push_cast <;> rfl

theorem Z4.q_add (p q:Z4):(add p q).q=Q4.add p.q q.q:=by
 refine Q4.ext' ?_ ?_ ?_ ?_ <;> simp only [Z4.q,add,Q4.add] <;> push_cast <;> rfl

theorem Z4.n_add (p q:Z4):(add p q).n<=p.n+q.n:=by
 have h1:=YS p.f q.f;have h2:=YS p.a q.a;have h3:=YS p.v q.v;have h4:=YS p.c q.c;simp only [n,add];omega

theorem Z4.n_mul (p q:Z4):(mul p q).n<=p.n*q.n:=by
 have h2:=YS (p.a*q.f) (p.f*q.a);have h3:=YS (p.v*q.f) (p.f*q.v);have h4:=YS (p.c*q.f+p.f*q.c) (p.a*q.v+p.v*q.a);have h5:=YS (p.c*q.f) (p.f*q.c);have h6:=YS (p.a*q.v) (p.v*q.a);simp only [n,mul,YO,Nat.mul_add,KV] at *;generalize p.f.natAbs*q.f.natAbs=x1 at *;generalize p.a.natAbs*q.f.natAbs=x2 at *;generalize p.f.natAbs*q.a.natAbs=x3 at *;generalize p.v.natAbs*q.f.natAbs=x4 at *;generalize p.f.natAbs*q.v.natAbs=x5 at *;generalize p.c.natAbs*q.f.natAbs=x6 at *;generalize p.f.natAbs*q.c.natAbs=x7 at *;generalize p.a.natAbs*q.v.natAbs=x8 at *;generalize p.v.natAbs*q.a.natAbs=x9 at *;omega

def F1 (q:Q4) (M:Nat):Prop:=∃ P Q:Z4,Q.f ≠ 0/\Q4.mul q Q.q=P.q/\P.n<=M/\Q.n<=M

theorem F1.mono {q:Q4} {M N:Nat} (h:F1 q M) (hN:M<=N):F1 q N:=by
 obtain ⟨P,Q,h1,h2,h3,h4⟩:=h;exact ⟨P,Q,h1,h2,ZQ h3 hN,ZQ h4 hN⟩

theorem Q4.mul_comm (p q:Q4):mul p q=mul q p:=by
 refine ext' ?_ ?_ ?_ ?_ <;> simp only [mul] <;> grind

theorem Q4.mul_assoc (p q r:Q4):mul (mul p q) r=mul p (mul q r):=by
 refine ext' ?_ ?_ ?_ ?_ <;> simp only [mul] <;> grind

theorem Q4.add_mul (p q r:Q4):mul (add p q) r=add (mul p r) (mul q r):=by
 refine ext' ?_ ?_ ?_ ?_ <;> simp only [mul,add] <;> grind

theorem Q4.neg_mul (p r:Q4):mul (neg p) r=neg (mul p r):=by
 refine ext' ?_ ?_ ?_ ?_ <;> simp only [mul,neg] <;> grind

theorem Q4.inv_mul (p:Q4) (h:p.f ≠ 0):mul (inv p) p=cst 1:=by
 have h1:1 / p.f*p.f=1:=by grind
 generalize hr:1 / p.f=r at h1;refine ext' ?_ ?_ ?_ ?_ <;> simp only [mul,inv,cst,hr] <;> grind

theorem Q4.one_mul (p:Q4):mul (cst 1) p=p:=by
 refine ext' ?_ ?_ ?_ ?_ <;> simp only [mul,cst] <;> grind

theorem Q4.mul4 (p q r s:Q4):mul (mul p q) (mul r s)=mul (mul p r) (mul q s):=by
 rw [mul_assoc,<- mul_assoc q,mul_comm q r,mul_assoc r,<- mul_assoc]

theorem Afu {a b:Int} (ha:a ≠ 0) (hb:b ≠ 0):a*b ≠ 0:=by
 intro h;rcases Int.mul_eq_zero.1 h with h | h
 . exact ha h
 . exact hb h

theorem F1.mul {p q:Q4} {M N:Nat} (hp:F1 p M) (hq:F1 q N):F1 (Q4.mul p q) (M*N):=by
 obtain ⟨P,Q,h1,h2,h3,h4⟩:=hp;obtain ⟨R,S,g1,g2,g3,g4⟩:=hq;refine ⟨Z4.mul P R,Z4.mul Q S,Afu h1 g1,?_,ZQ (Z4.n_mul _ _) (XF h3 g3),ZQ (Z4.n_mul _ _) (XF h4 g4)⟩;rw [Z4.q_mul,Z4.q_mul,Q4.mul4,h2,g2]

theorem F1.add {p q:Q4} {M N:Nat} (hp:F1 p M) (hq:F1 q N):F1 (Q4.add p q) (2*(M*N)):=by
 obtain ⟨P,Q,h1,h2,h3,h4⟩:=hp;obtain ⟨R,S,g1,g2,g3,g4⟩:=hq;have e1:=XF h3 g4;have e2:=XF h4 g3;have e3:=XF h4 g4;have n1:=Z4.n_mul P S;have n2:=Z4.n_mul R Q;have n3:=Z4.n_mul Q S;have n4:=Z4.n_add (Z4.mul P S) (Z4.mul R Q);rw [KF R.n] at n2
 refine ⟨Z4.add (Z4.mul P S) (Z4.mul R Q),Z4.mul Q S,Afu h1 g1,?_,by omega,by omega⟩
 rw [Z4.q_add,Z4.q_mul,Z4.q_mul,Z4.q_mul,Q4.add_mul,<- h2,<- g2,Q4.mul_assoc,Q4.mul_assoc,Q4.mul_comm Q.q S.q]

theorem F1.neg {p:Q4} {M:Nat} (hp:F1 p M):F1 (Q4.neg p) M:=by
 obtain ⟨P,Q,h1,h2,h3,h4⟩:=hp
 refine ⟨⟨-P.f,-P.a,-P.v,-P.c⟩,Q,h1,?_,by simpa [Z4.n] using h3,h4⟩
 rw [Q4.neg_mul,h2];refine Q4.ext' ?_ ?_ ?_ ?_ <;> simp only [Q4.neg,Z4.q] <;> push_cast <;> rfl

theorem F1.inv {p:Q4} {M:Nat} (hp:F1 p M) (h0:p.f ≠ 0):F1 (Q4.inv p) M:=by
 obtain ⟨P,Q,h1,h2,h3,h4⟩:=hp;refine ⟨Q,P,?_,?_,h4,h3⟩
 . have:p.f*(Q.f:Rat)=(P.f:Rat):=XT Q4.f h2;intro h;rw [h] at this
   have hq:(Q.f:Rat) ≠ 0:=by simpa using h1
   grind
 . rw [<- h2,<- Q4.mul_assoc,Q4.inv_mul p h0,Q4.one_mul]

theorem F1.one:F1 (Q4.cst 1) 1:=⟨⟨1,0,0,0⟩,⟨1,0,0,0⟩,by decide,by
 refine Q4.ext' ?_ ?_ ?_ ?_ <;> simp only [Q4.mul,Q4.cst,Z4.q] <;> simp [JI],by decide,by decide⟩

theorem F1.cst (k:Int):F1 (Q4.cst (k:Rat)) (max k.natAbs 1):=⟨⟨k,0,0,0⟩,⟨1,0,0,0⟩,by simp,by
 refine Q4.ext' ?_ ?_ ?_ ?_ <;> simp only [Q4.mul,Q4.cst,Z4.q] <;> simp [JI],by simp [Z4.n];omega,by simp [Z4.n];omega⟩

theorem F1.pow {p:Q4} {M:Nat} (hp:F1 p M):∀ n,F1 (Q4.pow p n) (M ^ n)
 | 0=>by simpa [Q4.pow] using F1.one
 | n+1=>by simpa only [Q4.pow,YG] using (F1.pow hp n).mul hp

def Hb (x:Rat) (B:Nat):Prop:=x.num.natAbs<=B/\x.den<=B

theorem Hb.mono {x:Rat} {B C:Nat} (h:Hb x B) (hC:B<=C):Hb x C:=⟨ZQ h.1 hC,ZQ h.2 hC⟩

theorem T4 (x:Rat):x*((x.den:Int):Rat)=(x.num:Rat):=by
 have h1:mkRat x.num x.den=x:=Rat.mkRat_self x;rw [Rat.mkRat_eq_div] at h1
 have h2:((x.den:Int):Rat) ≠ 0:=by have:=x.den_nz;simpa using this
 rw [KC] at h2 ⊢;generalize (x.den:Rat)=d at *;grind

theorem F1.var {x w:Rat} {δ:Int} {A B C D:Nat} (hx:x.num.natAbs<=A) (hxd:x.den<=B) (hw:w.num.natAbs<=C) (hwd:w.den<=D) (hδ:δ.natAbs<=1):F1 ⟨x,(δ:Rat),w,0⟩ (A*D+B*D+C*B):=by
 have h1:=T4 x;have h2:=T4 w;have e1:=XF hx hwd;have e2:=XF hxd hwd;have e3:=XF hw hxd;have e4:δ.natAbs*(x.den*w.den)<=1*(x.den*w.den):=YC _ hδ
 refine ⟨⟨x.num*w.den,δ*(x.den*w.den),w.num*x.den,0⟩,⟨(x.den:Int)*w.den,0,0,0⟩,Afu (by have:=x.den_nz;omega) (by have:=w.den_nz;omega),?_,?_,?_⟩
 . refine Q4.ext' ?_ ?_ ?_ ?_ <;> simp only [Q4.mul,Z4.q] <;> simp only [Qah,<- h1,<- h2] <;> grind
 . simp only [Z4.n,KV,XE];have:((0:Int).natAbs)=0:=rfl;omega
 . simp only [Z4.n,KV,XE];have:((0:Int).natAbs)=0:=rfl;omega

theorem Bbj {x:Rat} {z d:Int} {B:Nat} (h:x*(d:Rat)=(z:Rat)) (hd:d ≠ 0) (h1:z.natAbs<=B) (h2:d.natAbs<=B):Hb x B:=by
 have hx:x.num*d=z*x.den:=by
  have:=T4 x
  have h3:(x.num:Rat)*(d:Rat)=(z:Rat)*((x.den:Int):Rat):=by grind
  exact_mod_cast h3
 have hc:=x.reduced
 have e1:x.num.natAbs*d.natAbs=z.natAbs*x.den:=by
  have:=XT Int.natAbs hx;simpa only [KV,XE] using this
 have d1:x.den ∣ d.natAbs:=hc.symm.dvd_of_dvd_mul_left (by rw [e1];exact Nat.dvd_mul_left _ _)
 have d2:x.num.natAbs ∣ z.natAbs:=hc.dvd_of_dvd_mul_right (by rw [<- e1];exact Nat.dvd_mul_right _ _)
 have p1:0<d.natAbs:=by omega
 refine ⟨?_,ZQ (Nat.le_of_dvd p1 d1) h2⟩;rcases YU z.natAbs with h0 | h0
 . rw [h0] at d2
   have:x.num.natAbs=0:=by
    rw [h0,JH] at e1;rcases Qbc.1 e1 with h | h
    . exact h
    . omega
   omega
 . exact ZQ (Nat.le_of_dvd h0 d2) h1

abbrev Nd:=Int × Int × Int × Int

def Ba (x u w:Nat->Rat) (l:List Q4) (n:Nd):Q4 :=
 if n.1=1 then Q4.cst (n.2.2.2:Rat)
 else if n.1=2 then ⟨x n.2.2.2.toNat,u n.2.2.2.toNat,w n.2.2.2.toNat,0⟩
 else if n.1=3 then Q4.add (l.getD n.2.1.toNat (Q4.cst 0)) (l.getD n.2.2.1.toNat (Q4.cst 0))
 else if n.1=4 then Q4.add (l.getD n.2.1.toNat (Q4.cst 0)) (Q4.neg (l.getD n.2.2.1.toNat (Q4.cst 0)))
 else if n.1=5 then Q4.mul (l.getD n.2.1.toNat (Q4.cst 0)) (l.getD n.2.2.1.toNat (Q4.cst 0))
 else if n.1=6 then Q4.mul (l.getD n.2.1.toNat (Q4.cst 0)) (Q4.inv (l.getD n.2.2.1.toNat (Q4.cst 0)))
 else if n.1=7 then Q4.neg (l.getD n.2.1.toNat (Q4.cst 0))
 else Q4.pow (l.getD n.2.1.toNat (Q4.cst 0)) n.2.2.2.toNat

def evs (x u w:Nat->Rat):List Nd->List Q4->List Q4
 | [],l=>l
 | n::r,l=>evs x u w r (l++[Ba x u w l n])

theorem Cp (x u w:Nat->Rat):∀ (ns:List Nd) (l:List Q4),(evs x u w ns l).length=l.length+ns.length
 | [],l=>by simp [evs]
 | n::r,l=>by rw [evs,Cp x u w r];simp;omega

theorem Aaq (x u w:Nat->Rat):∀ (ns ms:List Nd) (l:List Q4),evs x u w (ns++ms) l=evs x u w ms (evs x u w ns l)
 | [],ms,l=>rfl
 | n::r,ms,l=>by rw [YA,evs,Aaq x u w r,evs]

theorem Aox (x u w:Nat->Rat):∀ (ns:List Nd) (l:List Q4) (k:Nat),k<l.length->(evs x u w ns l).getD k (Q4.cst 0)=l.getD k (Q4.cst 0)
 | [],l,k,h=>rfl
 | n::r,l,k,h=>by
  rw [evs,Aox x u w r _ k (by simp;omega)]
  simp only [QH,ZB h]

structure Dz {ι:Type} (x:Nat->Rat) (u w:ι->Nat->Rat) (R:(ι->Q4)->Prop):Prop where
 cst:∀ k:Rat,R λ_=>Q4.cst k
 var:∀ n,R λi=>⟨x n,u i n,w i n,0⟩
 add:∀ {p q:ι->Q4},R p->R q->R λi=>Q4.add (p i) (q i)
 neg:∀ {p:ι->Q4},R p->R λi=>Q4.neg (p i)
 mul:∀ {p q:ι->Q4},R p->R q->R λi=>Q4.mul (p i) (q i)
 inv:∀ {p:ι->Q4},R p->R λi=>Q4.inv (p i)

theorem Dz.pow {ι:Type} {x:Nat->Rat} {u w:ι->Nat->Rat} {R:(ι->Q4)->Prop} (h:Dz x u w R) {p:ι->Q4} (hp:R p):∀ n,R λi=>Q4.pow (p i) n
 | 0=>h.cst 1
 | n+1=>h.mul (h.pow hp n) hp

theorem Dz.of {ι:Type} {x:Nat->Rat} {u w:ι->Nat->Rat} {R:(ι->Q4)->Prop} (h:Dz x u w R) {l:ι->List Q4} (hl:∀ k,R λi=>(l i).getD k (Q4.cst 0)) (n:Nd):R λi=>Ba x (u i) (w i) (l i) n:=by
 unfold Ba;by_cases h1:n.1=1
 . simp only [QG h1];exact h.cst _
 by_cases h2:n.1=2
 . simp only [QI h1,QG h2];exact h.var _
 by_cases h3:n.1=3
 . simp only [QI h1,QI h2,QG h3];exact h.add (hl _) (hl _)
 by_cases h4:n.1=4
 . simp only [QI h1,QI h2,QI h3,QG h4];exact h.add (hl _) (h.neg (hl _))
 by_cases h5:n.1=5
 . simp only [QI h1,QI h2,QI h3,QI h4,QG h5];exact h.mul (hl _) (hl _)
 by_cases h6:n.1=6
 . simp only [QI h1,QI h2,QI h3,QI h4,QI h5,QG h6];exact h.mul (hl _) (h.inv (hl _))
 by_cases h7:n.1=7
 . simp only [QI h1,QI h2,QI h3,QI h4,QI h5,QI h6,QG h7];exact h.neg (hl _)
 . simp only [QI h1,QI h2,QI h3,QI h4,QI h5,QI h6,QI h7];exact h.pow (hl _) _

theorem Dz.evs {ι:Type} {x:Nat->Rat} {u w:ι->Nat->Rat} {R:(ι->Q4)->Prop} (h:Dz x u w R):∀ (ns:List Nd) {l:ι->List Q4} {N:Nat},(∀ i,(l i).length=N)->(∀ k,R λi=>(l i).getD k (Q4.cst 0))->∀ k,R λi=>(evs x (u i) (w i) ns (l i)).getD k (Q4.cst 0)
 | [],l,N,_,hl,k=>hl k
 | n::r,l,N,hN,hl,k=>by
  simp only [Go.Ev.evs]
  refine h.evs r (N:=N+1) (λi=>by simp [hN i]) (λk=>?_) k
  rcases JT k N with hk | hk | hk
  . have e : (fun i => (l i ++ [Ba x (u i) (w i) (l i) n]).getD k (Q4.cst 0)) = fun i => (l i).getD k (Q4.cst 0) := by
     funext i
     simp only [QH,ZB (show k<(l i).length by rw [hN i];exact hk)]
    rw [e];exact hl k
  . have e : (fun i => (l i ++ [Ba x (u i) (w i) (l i) n]).getD k (Q4.cst 0)) = fun i => Ba x (u i) (w i) (l i) n := by
     funext i
     rw [QH,ZC (by rw [hN i];omega),hN i,hk];simp
    rw [e];exact h.of hl n
  . have e : (fun i => (l i ++ [Ba x (u i) (w i) (l i) n]).getD k (Q4.cst 0)) = fun _ => Q4.cst 0 := by
     funext i
     rw [QH,KD (by simp [hN i];omega)];rfl
    rw [e];exact h.cst 0

theorem Dz.run {ι:Type} {x:Nat->Rat} {u w:ι->Nat->Rat} {R:(ι->Q4)->Prop} (h:Dz x u w R) (ns:List Nd) (k:Nat):R λi=>(Go.Ev.evs x (u i) (w i) ns []).getD k (Q4.cst 0) :=
 h.evs ns (N:=0) (λ_=>rfl) (λk=>by simpa using h.cst 0) k

theorem A5v (x:Nat->Rat) (u w u' w':Nat->Rat) (ns:List Nd) (k:Nat):((evs x u w ns []).getD k (Q4.cst 0)).f=((evs x u' w' ns []).getD k (Q4.cst 0)).f:=by
 have h:Dz x (λb:Bool=>bif b then u else u') (λb:Bool=>bif b then w else w') (λp=>(p true).f=(p false).f):=by
  refine ⟨λ_=>rfl,λ_=>rfl,λh1 h2=>?_,λh1=>?_,λh1 h2=>?_,λh1=>?_⟩ <;> simp only [Q4.add,Q4.neg,Q4.mul,Q4.inv,h1] <;> (try simp only [h2])
 exact h.run ns k

theorem Bgw (x:Nat->Rat) (u u' w:Nat->Rat) (ns:List Nd) (k:Nat):((evs x u w ns []).getD k (Q4.cst 0)).v=((evs x u' w ns []).getD k (Q4.cst 0)).v:=by
 have h:Dz x (λb:Bool=>bif b then u else u') (λ_:Bool=>w) (λp=>(p true).f=(p false).f/\(p true).v=(p false).v):=by
  refine ⟨λ_=>⟨rfl,rfl⟩,λ_=>⟨rfl,rfl⟩,λh1 h2=>?_,λh1=>?_,λh1 h2=>?_,λh1=>?_⟩ <;> simp only [Q4.add,Q4.neg,Q4.mul,Q4.inv,h1] <;> (try simp only [h2]) <;> (try simp only [and_self])
 exact (h.run ns k).2

theorem Atp (x:Nat->Rat) (u:Nat->Rat) (ns:List Nd) (k:Nat):((evs x u (λ_=>0) ns []).getD k (Q4.cst 0)).v=0/\((evs x u (λ_=>0) ns []).getD k (Q4.cst 0)).c=0:=by
 have h:Dz x (λ_:Unit=>u) (λ_:Unit=>λ_=>0) (λp=>(p ()).v=0/\(p ()).c=0):=by
  refine ⟨λ_=>⟨rfl,rfl⟩,λ_=>⟨rfl,rfl⟩,λh1 h2=>?_,λh1=>?_,λh1 h2=>?_,λh1=>?_⟩
  . simp only [Q4.add,h1,h2];exact ⟨by grind,by grind⟩
  . simp only [Q4.neg,h1];exact ⟨by grind,by grind⟩
  . simp only [Q4.mul,h1,h2];exact ⟨by grind,by grind⟩
  . simp only [Q4.inv,h1];exact ⟨by grind,by grind⟩
 exact h.run ns k

theorem B6y (x:Nat->Rat) (u w:Nat->Rat) (ns:List Nd) (k:Nat):((evs x u w ns []).getD k (Q4.cst 0)).a=((evs x w u ns []).getD k (Q4.cst 0)).v/\((evs x u w ns []).getD k (Q4.cst 0)).c=((evs x w u ns []).getD k (Q4.cst 0)).c:=by
 have h:Dz x (λb:Bool=>bif b then u else w) (λb:Bool=>bif b then w else u) (λp=>(p true).f=(p false).f/\(p true).a=(p false).v/\(p true).v=(p false).a/\(p true).c=(p false).c):=by
  refine ⟨λ_=>⟨rfl,rfl,rfl,rfl⟩,λ_=>⟨rfl,rfl,rfl,rfl⟩,λh1 h2=>?_,λh1=>?_,λh1 h2=>?_,λh1=>?_⟩ <;> simp only [Q4.add,Q4.neg,Q4.mul,Q4.inv,h1] <;> (try simp only [h2,and_self,Qaj]) <;> (try grind)
 exact ⟨(h.run ns k).2.1,(h.run ns k).2.2.2⟩

def Hh (l:List Q4) (n:Nd):Prop:=n.1=6/\(l.getD n.2.2.1.toNat (Q4.cst 0)).f=0

instance (l:List Q4) (n:Nd):Decidable (Hh l n):=by unfold Hh;infer_instance

def El (fit:Q4->Bool) (x u w:Nat->Rat):List Nd->List Q4->List Q4 ⊕ Int
 | [],l=>.inl l
 | n::r,l=>if Hh l n then .inr 10 else if fit (Ba x u w l n)=true then El fit x u w r (l++[Ba x u w l n]) else .inr 7

theorem A0n {fit:Q4->Bool} {x u w:Nat->Rat}:∀ (ns:List Nd) (l l':List Q4),(∀ k,k<l.length->fit (l.getD k (Q4.cst 0))=true)->El fit x u w ns l = .inl l'->(∀ k,k<l'.length->fit (l'.getD k (Q4.cst 0))=true)/\l'=evs x u w ns l
 | [],l,l',h,e=>by obtain rfl:=Sum.inl.inj e;exact ⟨h,rfl⟩
 | n::r,l,l',h,e=>by
  simp only [El] at e;by_cases hb:Hh l n
  . rw [QG hb] at e;cases e
  . rw [QI hb] at e;by_cases hf:fit (Ba x u w l n)=true
    . rw [QG hf] at e;refine A0n r _ l' (λk hk=>?_) e;simp only [ZL,ZD,XD] at hk;rcases ZW k l.length with h1 | h1
      . rw [QH,ZB h1,<- QH];exact h k h1
      . obtain rfl:k=l.length:=by omega
        rw [QH,ZC (ZG _)];simpa using hf
    . rw [QI hf] at e;cases e

theorem Ajq {fit:Q4->Bool} {x u w:Nat->Rat}:∀ (ns:List Nd) (l:List Q4) (c:Int),El fit x u w ns l = .inr c->c=7 \/ c=10
 | [],l,c,e=>by cases e
 | n::r,l,c,e=>by
  simp only [El] at e;by_cases hb:Hh l n
  . rw [QG hb] at e;exact .inr (Sum.inr.inj e).symm
  . rw [QI hb] at e;by_cases hf:fit (Ba x u w l n)=true
    . rw [QG hf] at e;exact Ajq r _ c e
    . rw [QI hf] at e;exact .inl (Sum.inr.inj e).symm

theorem Aoy {x:Nat->Rat} {u w:Bool->Nat->Rat} {R:(Bool->Q4)->Prop} (h:Dz x u w R) {f g:Q4->Bool} (hfg:∀ p,R p->f (p true)=g (p false)) (hv:∀ p,R p->(p true).f=(p false).f) :
  ∀ (ns:List Nd) (l m:List Q4),l.length=m.length->(∀ k,R λb=>bif b then l.getD k (Q4.cst 0) else m.getD k (Q4.cst 0)) ->
   (∃ c,El f x (u true) (w true) ns l = .inr c/\El g x (u false) (w false) ns m = .inr c) \/
   ∃ l' m',El f x (u true) (w true) ns l = .inl l'/\El g x (u false) (w false) ns m = .inl m'/\l'.length=l.length+ns.length/\m'.length=l.length+ns.length /\ ∀ k,R λb=>bif b then l'.getD k (Q4.cst 0) else m'.getD k (Q4.cst 0)
 | [],l,m,hl,hk=>.inr ⟨l,m,rfl,rfl,by simp,by simp [hl],hk⟩
 | n::r,l,m,hl,hk=>by
  simp only [El]
  have hb:Hh l n ↔ Hh m n:=by
   unfold Hh;have:=hv _ (hk n.2.2.1.toNat);simp only [ZE,QR] at this;rw [this]
  have hr:=h.of (l:=λb=>bif b then l else m) (λk=>by
   have:=hk k
   have e:(λi=>((λb=>bif b then l else m) i).getD k (Q4.cst 0))=λb=>bif b then l.getD k (Q4.cst 0) else m.getD k (Q4.cst 0):=by funext b;cases b <;> rfl
   rw [e];exact this) n
  have hq:=hfg _ hr;simp only [ZE,QR] at hq;by_cases h1:Hh l n
  . rw [QG h1,QG (hb.1 h1)];exact .inl ⟨10,rfl,rfl⟩
  . rw [QI h1,QI (λq=>h1 (hb.2 q))];by_cases h2:f (Ba x (u true) (w true) l n)=true
    . rw [QG h2,QG (by rw [<- hq];exact h2)]
      have:=Aoy h hfg hv r (l++[Ba x (u true) (w true) l n]) (m++[Ba x (u false) (w false) m n]) (by simp [hl]) (λk=>by
       rcases JT k l.length with hkl | hkl | hkl
       . have e1:(l++[Ba x (u true) (w true) l n]).getD k (Q4.cst 0)=l.getD k (Q4.cst 0):=by simp only [QH,ZB hkl]
         have e2:(m++[Ba x (u false) (w false) m n]).getD k (Q4.cst 0)=m.getD k (Q4.cst 0):=by simp only [QH,ZB (show k<m.length by omega)]
         rw [e1,e2];exact hk k
       . have e1:(l++[Ba x (u true) (w true) l n]).getD k (Q4.cst 0)=Ba x (u true) (w true) l n:=by rw [QH,ZC (by omega),hkl];simp
         have e2:(m++[Ba x (u false) (w false) m n]).getD k (Q4.cst 0)=Ba x (u false) (w false) m n:=by rw [QH,ZC (by omega),hkl,hl];simp
         rw [e1,e2]
         have e:(λi=>Ba x (u i) (w i) ((λb=>bif b then l else m) i) n)=λb=>bif b then Ba x (u true) (w true) l n else Ba x (u false) (w false) m n:=by funext b;cases b <;> rfl
         rw [<- e];exact hr
       . have e1:(l++[Ba x (u true) (w true) l n]).getD k (Q4.cst 0)=Q4.cst 0:=by rw [QH,KD (by simp;omega)];rfl
         have e2:(m++[Ba x (u false) (w false) m n]).getD k (Q4.cst 0)=Q4.cst 0:=by rw [QH,KD (by simp;omega)];rfl
         rw [e1,e2]
         have e:(λb:Bool=>bif b then Q4.cst 0 else Q4.cst 0)=λ_=>Q4.cst 0:=by funext b;cases b <;> rfl
         rw [e];exact h.cst 0)
      rcases this with h3 | ⟨l',m',a1,a2,a3,a4,a5⟩
      . exact .inl h3
      . exact .inr ⟨l',m',a1,a2,by rw [a3];simp;omega,by rw [a4];simp;omega,a5⟩
    . rw [QI h2,QI (by rw [<- hq];exact h2)];exact .inl ⟨7,rfl,rfl⟩

theorem B4w {x:Nat->Rat} {u w:Bool->Nat->Rat} {R:(Bool->Q4)->Prop} (h:Dz x u w R) {f g:Q4->Bool} (hfg:∀ p,R p->f (p true)=g (p false)) (hv:∀ p,R p->(p true).f=(p false).f) (ns:List Nd) :
  (∃ c,El f x (u true) (w true) ns [] = .inr c/\El g x (u false) (w false) ns [] = .inr c) \/
  ∃ l' m',El f x (u true) (w true) ns [] = .inl l'/\El g x (u false) (w false) ns [] = .inl m'/\l'.length=ns.length/\m'.length=ns.length /\ ∀ k,R λb=>bif b then l'.getD k (Q4.cst 0) else m'.getD k (Q4.cst 0):=by
 have:=Aoy h hfg hv ns [] [] rfl (λk=>by
  have e:(λb:Bool=>bif b then ([]:List Q4).getD k (Q4.cst 0) else ([]:List Q4).getD k (Q4.cst 0))=λ_=>Q4.cst 0:=by funext b;cases b <;> simp
  rw [e];exact h.cst 0)
 simpa using this

def Dw (g:Nat->Rat) (k:Nat) (y:Rat):Nat->Rat:=λj=>if j=k then y else g j

theorem Ate (g:Nat->Rat) (k:Nat) (y:Rat):Dw g k y k=y:=QG rfl

theorem Am4 (g:Nat->Rat) {k j:Nat} (y:Rat) (h:j ≠ k):Dw g k y j=g j:=QI h

def sm:Nat->(Nat->Rat)->Rat
 | 0,_=>0
 | k+1,g=>sm k g+g k

theorem O5:∀ {k:Nat} {g h:Nat->Rat},(∀ j,j<k->g j=h j)->sm k g=sm k h
 | 0,_,_,_=>rfl
 | k+1,g,h,e=>by rw [sm,sm,O5 λj hj=>e j (by omega),e k (by omega)]

theorem A8l:∀ (k:Nat),sm k (λ_=>0)=0
 | 0=>rfl
 | k+1=>by rw [sm,A8l k,JI]

theorem Rf {g a:Nat->Rat} {A:Nat} {y:Rat}:∀ {k:Nat},A<k->sm k (λj=>Dw g A y j*a j)=sm k (λj=>g j*a j)+(y-g A)*a A
 | 0,h=>by omega
 | k+1,h=>by
  simp only [sm];by_cases hk:A=k
  . subst hk
    rw [Ate,O5 (k:=A) (h:=λj=>g j*a j) λj hj=>by rw [Am4 _ _ (by omega)]]
    grind
  . rw [Rf (k:=k) (by omega),Am4 _ _ (by omega)]
    grind

theorem Ama {a:Nat->Rat} {A k:Nat} {y:Rat} (h:A<k):sm k (λj=>Dw (λ_=>0) A y j*a j)=y*a A:=by
 rw [Rf h,O5 (h:=λ_=>0) λj _=>by grind,A8l];grind

structure Pt where
 a:Rat
 b:Rat
 da:Rat
 db:Rat

def By (f d:Nat->Rat) (n:Nd):Pt :=
 let A:=n.2.1.toNat;let B:=n.2.2.1.toNat
 if n.1=3 then ⟨1,1,0,0⟩
 else if n.1=4 then ⟨1,-1,0,0⟩
 else if n.1=5 then ⟨f B,f A,d B,d A⟩
 else if n.1=6 then ⟨1 / f B,-(f A*(1 / f B*(1 / f B))),-(d B*(1 / f B*(1 / f B))),-(d A*(1 / f B*(1 / f B)))+2*(f A*d B*(1 / f B*(1 / f B)*(1 / f B)))⟩
 else if n.1=7 then ⟨-1,0,0,0⟩
 else if n.1=8 then ⟨Q4.d1 (f A) n.2.2.2.toNat,0,Q4.d2 (f A) n.2.2.2.toNat*d A,0⟩
 else ⟨0,0,0,0⟩

def Et (n:Nd):Bool:=decide (n.1=3) || decide (n.1=4) || decide (n.1=5) || decide (n.1=6)

def Ie (n:Nd):Bool:=decide (n.1=7) || decide (n.1=8)

structure Sw where
 bar:Nat->Rat
 dot:Nat->Rat
 grad:Nat->Rat
 curve:Nat->Rat

def Dg (s:Sw) (k:Nat) (on to:Rat):Sw:={ s with bar:=Dw s.bar k (s.bar k+on),dot:=Dw s.dot k (s.dot k+to) }

def B6 (f d:Nat->Rat) (n:Nd) (k:Nat) (s:Sw):Sw :=
 if n.1=2 then { s with grad:=Dw s.grad n.2.2.2.toNat (s.grad n.2.2.2.toNat+s.bar k),curve:=Dw s.curve n.2.2.2.toNat (s.curve n.2.2.2.toNat+s.dot k) }
 else
  let p:=By f d n
  let s1:=if Et n || Ie n then Dg s n.2.1.toNat (s.bar k*p.a) (s.dot k*p.a+s.bar k*p.da) else s
  if Et n then Dg s1 n.2.2.1.toNat (s.bar k*p.b) (s.dot k*p.b+s.bar k*p.db) else s1

def A8b (n:Nd) (k:Nat):Prop:=(1<=n.1/\n.1<=8)/\(Et n=true \/ Ie n=true->n.2.1.toNat<k)/\(Et n=true->n.2.2.1.toNat<k)

theorem Rg {s:Sw} {a:Nat->Rat} {A k:Nat} {on to:Rat} (h:A<k):sm k (λj=>(Dg s A on to).bar j*a j)=sm k (λj=>s.bar j*a j)+on*a A/\sm k (λj=>(Dg s A on to).dot j*a j)=sm k (λj=>s.dot j*a j)+to*a A:=by
 constructor
 . show sm k (λj=>Dw s.bar A _ j*a j)=_;rw [Rf h];grind
 . show sm k (λj=>Dw s.dot A _ j*a j)=_;rw [Rf h];grind

def Ic (x u w:Nat->Rat) (Q:Nat->Q4) (n:Nd):Q4 :=
 if n.1=1 then Q4.cst (n.2.2.2:Rat)
 else if n.1=2 then ⟨x n.2.2.2.toNat,u n.2.2.2.toNat,w n.2.2.2.toNat,0⟩
 else if n.1=3 then Q4.add (Q n.2.1.toNat) (Q n.2.2.1.toNat)
 else if n.1=4 then Q4.add (Q n.2.1.toNat) (Q4.neg (Q n.2.2.1.toNat))
 else if n.1=5 then Q4.mul (Q n.2.1.toNat) (Q n.2.2.1.toNat)
 else if n.1=6 then Q4.mul (Q n.2.1.toNat) (Q4.inv (Q n.2.2.1.toNat))
 else if n.1=7 then Q4.neg (Q n.2.1.toNat)
 else Q4.pow (Q n.2.1.toNat) n.2.2.2.toNat

theorem A8r (x u w:Nat->Rat) (l:List Q4) (n:Nd):Ba x u w l n=Ic x u w (λk=>l.getD k (Q4.cst 0)) n:=rfl

theorem Apl {x u w:Nat->Rat} {Q R:Nat->Q4} {n:Nd} {k:Nat} (hn:A8b n k) (h:∀ j,j<k->Q j=R j):Ic x u w Q n=Ic x u w R n:=by
 obtain ⟨⟨ha,hb⟩,hA,hB⟩:=hn;unfold Ic;simp only [Et,Ie,XH,QN] at hA hB
 obtain e | e | e | e | e | e | e | e:n.1=1 \/ n.1=2 \/ n.1=3 \/ n.1=4 \/ n.1=5 \/ n.1=6 \/ n.1=7 \/ n.1=8:=by omega
 . rw [QG e,QG e]
 . rw [QI (by omega),QG e,QI (by omega),QG e]
 all_goals rw [h _ (hA (by omega))]
 iterate 4 rw [h _ (hB (by omega))]
 . simp [e]
 . simp [e]

theorem A8s (x u w:Nat->Rat) (Q:Nat->Q4) (n:Nd) (hn:1<=n.1/\n.1<=8) (h2:n.1 ≠ 2) :
  (Ic x u w Q n).a=(By (λk=>(Q k).f) (λk=>(Q k).v) n).a*(Q n.2.1.toNat).a+(By (λk=>(Q k).f) (λk=>(Q k).v) n).b*(Q n.2.2.1.toNat).a /\
  (Ic x u w Q n).v=(By (λk=>(Q k).f) (λk=>(Q k).v) n).a*(Q n.2.1.toNat).v+(By (λk=>(Q k).f) (λk=>(Q k).v) n).b*(Q n.2.2.1.toNat).v /\
  (Ic x u w Q n).c=((By (λk=>(Q k).f) (λk=>(Q k).v) n).a*(Q n.2.1.toNat).c+(By (λk=>(Q k).f) (λk=>(Q k).v) n).da*(Q n.2.1.toNat).a)+((By (λk=>(Q k).f) (λk=>(Q k).v) n).b*(Q n.2.2.1.toNat).c+(By (λk=>(Q k).f) (λk=>(Q k).v) n).db*(Q n.2.2.1.toNat).a):=by
 unfold By Ic;dsimp only;generalize Q n.2.1.toNat=P;generalize Q n.2.2.1.toNat=Q
 obtain h | h | h | h | h | h | h:n.1=1 \/ n.1=3 \/ n.1=4 \/ n.1=5 \/ n.1=6 \/ n.1=7 \/ n.1=8:=by omega
 all_goals simp only [h,if_true]
 . simp only [show ¬ ((1:Int)=3) by decide,show ¬ ((1:Int)=4) by decide,show ¬ ((1:Int)=5) by decide,show ¬ ((1:Int)=6) by decide,show ¬ ((1:Int)=7) by decide,show ¬ ((1:Int)=8) by decide,if_false,Q4.cst]
   refine ⟨?_,?_,?_⟩ <;> grind
 . simp only [show ¬ ((3:Int)=1) by decide,show ¬ ((3:Int)=2) by decide,if_false,Q4.add]
   refine ⟨?_,?_,?_⟩ <;> grind
 . simp only [show ¬ ((4:Int)=1) by decide,show ¬ ((4:Int)=2) by decide,show ¬ ((4:Int)=3) by decide,if_false,Q4.add,Q4.neg]
   refine ⟨?_,?_,?_⟩ <;> grind
 . simp only [show ¬ ((5:Int)=1) by decide,show ¬ ((5:Int)=2) by decide,show ¬ ((5:Int)=3) by decide,show ¬ ((5:Int)=4) by decide,if_false,Q4.mul]
   refine ⟨?_,?_,?_⟩ <;> grind
 . simp only [show ¬ ((6:Int)=1) by decide,show ¬ ((6:Int)=2) by decide,show ¬ ((6:Int)=3) by decide,show ¬ ((6:Int)=4) by decide,show ¬ ((6:Int)=5) by decide,if_false,Q4.mul,Q4.inv]
   generalize 1 / Q.f=r;refine ⟨?_,?_,?_⟩ <;> grind
 . simp only [show ¬ ((7:Int)=1) by decide,show ¬ ((7:Int)=2) by decide,show ¬ ((7:Int)=3) by decide,show ¬ ((7:Int)=4) by decide,show ¬ ((7:Int)=5) by decide,show ¬ ((7:Int)=6) by decide,if_false,Q4.neg]
   refine ⟨?_,?_,?_⟩ <;> grind
 . simp only [show ¬ ((8:Int)=1) by decide,show ¬ ((8:Int)=2) by decide,show ¬ ((8:Int)=3) by decide,show ¬ ((8:Int)=4) by decide,show ¬ ((8:Int)=5) by decide,show ¬ ((8:Int)=6) by decide,show ¬ ((8:Int)=7) by decide,if_false,Q4.pow_eq]
   refine ⟨?_,?_,?_⟩ <;> grind

theorem Ame {f d:Nat->Rat} {n:Nd} (h:Et n=false):(By f d n).b=0/\(By f d n).db=0:=by
 simp only [Et,Qbg,ZS] at h;obtain ⟨⟨⟨h3,h4⟩,h5⟩,h6⟩:=h;unfold By;dsimp only;rw [QI h3,QI h4,QI h5,QI h6];split
 . exact ⟨rfl,rfl⟩
 . split <;> exact ⟨rfl,rfl⟩

theorem Bbp {x u w:Nat->Rat} {n:Nd} {k dim:Nat} (hn:A8b n k) (hv:n.1=2->n.2.2.2.toNat<dim) (s:Sw) (Q:Nat->Q4) (hk:Q k=Ic x u w Q n) :
  sm (k+1) (λj=>s.bar j*(Q j).a)+sm dim (λj=>s.grad j*u j)=sm k (λj=>(B6 (λk=>(Q k).f) (λk=>(Q k).v) n k s).bar j*(Q j).a)+sm dim (λj=>(B6 (λk=>(Q k).f) (λk=>(Q k).v) n k s).grad j*u j) /\
  sm (k+1) (λj=>s.bar j*(Q j).c)+sm (k+1) (λj=>s.dot j*(Q j).a)+sm dim (λj=>s.curve j*u j)=sm k (λj=>(B6 (λk=>(Q k).f) (λk=>(Q k).v) n k s).bar j*(Q j).c)+sm k (λj=>(B6 (λk=>(Q k).f) (λk=>(Q k).v) n k s).dot j*(Q j).a)+sm dim (λj=>(B6 (λk=>(Q k).f) (λk=>(Q k).v) n k s).curve j*u j):=by
 simp only [sm];by_cases h2:n.1=2
 . have ha:(Q k).a=u n.2.2.2.toNat:=by rw [hk];unfold Ic;rw [QI (by omega),QG h2]
   have hc:(Q k).c=0:=by rw [hk];unfold Ic;rw [QI (by omega),QG h2]
   unfold B6;rw [QG h2];dsimp only;rw [Rf (hv h2),Rf (hv h2),ha,hc]
   exact ⟨by grind,by grind⟩
 . obtain ⟨ea,_,ec⟩:=A8s x u w Q n hn.1 h2;rw [<- hk] at ea ec;unfold B6;rw [QI h2];dsimp only;generalize hp:By (λk=>(Q k).f) (λk=>(Q k).v) n=p at *;obtain ⟨_,hA,hB⟩:=hn;by_cases ht:Et n=true
   . have hA:=hA (.inl ht);have hB:=hB ht;simp only [ht,Qak,if_true];have e1:=Rg (s:=Dg s n.2.1.toNat (s.bar k*p.a) (s.dot k*p.a+s.bar k*p.da)) (a:=λj=>(Q j).a) (k:=k) (on:=s.bar k*p.b) (to:=s.dot k*p.b+s.bar k*p.db) hB;have e2:=Rg (s:=Dg s n.2.1.toNat (s.bar k*p.a) (s.dot k*p.a+s.bar k*p.da)) (a:=λj=>(Q j).c) (k:=k) (on:=s.bar k*p.b) (to:=s.dot k*p.b+s.bar k*p.db) hB;have e3:=Rg (s:=s) (a:=λj=>(Q j).a) (k:=k) (on:=s.bar k*p.a) (to:=s.dot k*p.a+s.bar k*p.da) hA;have e4:=Rg (s:=s) (a:=λj=>(Q j).c) (k:=k) (on:=s.bar k*p.a) (to:=s.dot k*p.a+s.bar k*p.da) hA;simp only [e1,e2,e3,e4];rw [ea,ec];show _=_+sm dim (λj=>s.grad j*u j)/\_=_+sm dim (λj=>s.curve j*u j)
     exact ⟨by grind,by grind⟩
   . have ht:Et n=false:=by simpa using ht
     have hb:=Ame (f:=λk=>(Q k).f) (d:=λk=>(Q k).v) ht;rw [hp] at hb;simp only [ht,YI,if_false,XR];rw [hb.1,hb.2] at ec;rw [hb.1] at ea;by_cases ho:Ie n=true
     . have hA:=hA (.inr ho);simp only [ho,if_true];have e3:=Rg (s:=s) (a:=λj=>(Q j).a) (k:=k) (on:=s.bar k*p.a) (to:=s.dot k*p.a+s.bar k*p.da) hA;have e4:=Rg (s:=s) (a:=λj=>(Q j).c) (k:=k) (on:=s.bar k*p.a) (to:=s.dot k*p.a+s.bar k*p.da) hA;simp only [e3,e4];rw [ea,ec];show _=_+sm dim (λj=>s.grad j*u j)/\_=_+sm dim (λj=>s.curve j*u j)
       exact ⟨by grind,by grind⟩
     . have ho:Ie n=false:=by simpa using ho
       have h1:n.1=1:=by
        simp only [Et,Ie,Qbg,ZS] at ht ho;have:=‹1<=n.1/\n.1<=8›;omega
       have ha:(Q k).a=0/\(Q k).c=0:=by rw [hk];unfold Ic;rw [QG h1];exact ⟨rfl,rfl⟩
       simp only [ho,XR,if_false];rw [ha.1,ha.2]
       exact ⟨by grind,by grind⟩

def Sy (f d:Nat->Rat) (S:Nat->Nd):Nat->Sw->Sw
 | 0,s=>s
 | k+1,s=>Sy f d S k (B6 f d (S k) k s)

theorem Ab8 {x u w:Nat->Rat} {S:Nat->Nd} {dim:Nat} {Q:Nat->Q4}:∀ {N:Nat},(∀ k,k<N->A8b (S k) k/\((S k).1=2->(S k).2.2.2.toNat<dim)/\Q k=Ic x u w Q (S k))->∀ s:Sw,
  sm N (λj=>s.bar j*(Q j).a)+sm dim (λj=>s.grad j*u j)=sm dim (λj=>(Sy (λk=>(Q k).f) (λk=>(Q k).v) S N s).grad j*u j) /\
  sm N (λj=>s.bar j*(Q j).c)+sm N (λj=>s.dot j*(Q j).a)+sm dim (λj=>s.curve j*u j)=sm dim (λj=>(Sy (λk=>(Q k).f) (λk=>(Q k).v) S N s).curve j*u j)
 | 0,_,s=>by simp only [sm,Sy];exact ⟨by grind,by grind⟩
 | N+1,h,s=>by
  obtain ⟨h1,h2,h3⟩:=h N (by omega)
  obtain ⟨e1,e2⟩:=Bbp h1 h2 s Q h3
  obtain ⟨e3,e4⟩:=Ab8 (N:=N) (λk hk=>h k (by omega)) (B6 (λk=>(Q k).f) (λk=>(Q k).v) (S N) N s)
  rw [e1,e2,e3,e4];exact ⟨rfl,rfl⟩

theorem Atf {x u w:Nat->Rat} {S:Nat->Nd} {dim N out:Nat} {Q:Nat->Q4} (h:∀ k,k<N->A8b (S k) k/\((S k).1=2->(S k).2.2.2.toNat<dim)/\Q k=Ic x u w Q (S k)) (ho:out<N) :
  (Q out).a=sm dim (λj=>(Sy (λk=>(Q k).f) (λk=>(Q k).v) S N ⟨Dw (λ_=>0) out 1,λ_=>0,λ_=>0,λ_=>0⟩).grad j*u j) /\
  (Q out).c=sm dim (λj=>(Sy (λk=>(Q k).f) (λk=>(Q k).v) S N ⟨Dw (λ_=>0) out 1,λ_=>0,λ_=>0,λ_=>0⟩).curve j*u j):=by
 obtain ⟨e1,e2⟩:=Ab8 h ⟨Dw (λ_=>0) out 1,λ_=>0,λ_=>0,λ_=>0⟩;rw [<- e1,<- e2];dsimp only
 have z:∀ (k:Nat) (g:Nat->Rat),sm k (λj=>0*g j)=0:=λk g=>by
  rw [O5 (h:=λ_=>0) λj _=>by grind,A8l]
 rw [Ama (a:=λj=>(Q j).a) ho,Ama (a:=λj=>(Q j).c) ho,z,z]
 exact ⟨by grind,by grind⟩

def CD (l:List Rat) (M:Nat):Prop:=∃ D:Nat,0<D/\D<=M /\ ∀ x ∈ l,∃ z:Int,x*(D:Rat)=(z:Rat)/\z.natAbs<=M

theorem CD.mono {l:List Rat} {M N:Nat} (h:CD l M) (hN:M<=N):CD l N:=by
 obtain ⟨D,h1,h2,h3⟩:=h
 exact ⟨D,h1,ZQ h2 hN,λx hx=>by obtain ⟨z,q1,q2⟩:=h3 x hx;exact ⟨z,q1,ZQ q2 hN⟩⟩

theorem Bgm:CD [] 1:=⟨1,by decide,ZG _,λx hx=>by cases hx⟩

theorem Wl (x:Rat):x*(x.den:Rat)=(x.num:Rat):=by
 have:=T4 x
 rwa [KC] at this

theorem CD.step {l:List Rat} {M H:Nat} (h:CD l M) {p q a b x:Rat} (hp:Hb p H) (hq:Hb q H) (ha:a ∈ l \/ a=0) (hb:b ∈ l \/ b=0) (hx:x=p*a+q*b):CD (l++[x]) (2*(H*H*M)):=by
 obtain ⟨D,h1,h2,h3⟩:=h;have pd:=p.den_pos;have qd:=q.den_pos;have hdd:p.den*q.den<=H*H:=XF hp.2 hq.2;have e1:p.den*q.den*D<=H*H*M:=XF hdd h2
 refine ⟨p.den*q.den*D,KA (KA pd qd) h1,by omega,λy hy=>?_⟩
 rcases QE.1 hy with hy | hy
 . obtain ⟨z,q1,q2⟩:=h3 y hy;refine ⟨(p.den*q.den:Nat)*z,?_,?_⟩
   . simp only [Qbl,Qah,KC,<- q1];grind
   . rw [KV,XE];have:=XF hdd q2;omega
 . obtain rfl:y=x:=by simpa using hy
   have za:∃ z:Int,a*(D:Rat)=(z:Rat)/\z.natAbs<=M:=by
    rcases ha with ha | rfl
    . exact h3 a ha
    . exact ⟨0,by simp,by simp⟩
   have zb:∃ z:Int,b*(D:Rat)=(z:Rat)/\z.natAbs<=M:=by
    rcases hb with hb | rfl
    . exact h3 b hb
    . exact ⟨0,by simp,by simp⟩
   obtain ⟨u,u1,u2⟩:=za;obtain ⟨v,v1,v2⟩:=zb;refine ⟨p.num*q.den*u+q.num*p.den*v,?_,?_⟩
   . have s1:=Wl p;have s2:=Wl q;simp only [Qbl,Rat.intCast_add,Qah,KC,<- s1,<- s2,<- u1,<- v1,hx];grind
   . have t0:=YS (p.num*q.den*u) (q.num*p.den*v);have t1:p.num.natAbs*q.den<=H*H:=XF hp.1 hq.2;have t2:q.num.natAbs*p.den<=H*H:=XF hq.1 hp.2;have t3:=XF t1 u2;have t4:=XF t2 v2;simp only [KV,XE] at t0;omega

theorem CD.one {l:List Rat} {M H:Nat} (h:CD l M) {x:Rat} (hx:Hb x H) (h1:1<=H):CD (l++[x]) (2*(H*H*M)):=by
 obtain ⟨D,d1,d2,d3⟩:=h;have xd:=x.den_pos;have e0:x.den*D<=H*M:=XF hx.2 d2;have e2:H*M*1<=H*M*H:=XL _ h1
 have e3:H*M*H=H*H*M:=by rw [Nat.mul_assoc,KF M H,<- Nat.mul_assoc]
 refine ⟨x.den*D,KA xd d1,by omega,λy hy=>?_⟩
 rcases QE.1 hy with hy | hy
 . obtain ⟨z,q1,q2⟩:=d3 y hy;refine ⟨(x.den:Nat)*z,?_,?_⟩
   . simp only [Qbl,Qah,KC,<- q1];grind
   . rw [KV,XE];have:=XF hx.2 q2;omega
 . obtain rfl:y=x:=by simpa using hy
   refine ⟨y.num*D,?_,?_⟩
   . have s1:=Wl y;simp only [Qbl,Qah,KC,<- s1];grind
   . rw [KV,XE];have:=XF hx.1 d2;omega

theorem CD.hb {l:List Rat} {M:Nat} (h:CD l M) {x:Rat} (hx:x ∈ l):Hb x M:=by
 obtain ⟨D,h1,h2,h3⟩:=h;obtain ⟨z,q1,q2⟩:=h3 x hx
 exact Bbj (d:=(D:Int)) (z:=z) (by rw [KC];exact q1) (by omega) q2 (by simpa using h2)

theorem Aoz {fit:Q4->Bool} {x u w:Nat->Rat}:∀ (ns:List Nd) (l l':List Q4),El fit x u w ns l = .inl l'->∀ i,i<ns.length->¬ Hh (evs x u w (ns.take i) l) (ns.getD i (0,0,0,0))
 | [],l,l',e,i,hi=>by simp at hi
 | n::r,l,l',e,i,hi=>by
  simp only [El] at e;by_cases hb:Hh l n
  . rw [QG hb] at e;cases e
  . rw [QI hb] at e;by_cases hf:fit (Ba x u w l n)=true
    . rw [QG hf] at e
      cases i with
      | zero=>simpa [evs] using hb
      | succ i =>
       have:=Aoz r _ l' e i (by simpa using hi)
       simpa [evs] using this
    . rw [QI hf] at e;cases e

theorem V1 (x u w:Nat->Rat) (ns:List Nd) {i:Nat} (h:i<ns.length):evs x u w (ns.take (i+1)) []=evs x u w (ns.take i) []++[Ba x u w (evs x u w (ns.take i) []) (ns.getD i (0,0,0,0))]:=by
 rw [YY h,Aaq];rw [QH,QM h];rfl

theorem L5 (x u w:Nat->Rat) (ns:List Nd) {i k:Nat} (hk:k<i) (hi:i<=ns.length):(evs x u w (ns.take i) []).getD k (Q4.cst 0)=(evs x u w ns []).getD k (Q4.cst 0):=by
 conv=>rhs;rw [<- JC i ns,Aaq]
 exact (Aox x u w (ns.drop i) (evs x u w (ns.take i) []) k (by rw [Cp];simp;omega)).symm

theorem Ajp (x u w:Nat->Rat) (ns:List Nd) {i:Nat} (h:i<ns.length):(evs x u w ns []).getD i (Q4.cst 0)=Ba x u w (evs x u w (ns.take i) []) (ns.getD i (0,0,0,0)):=by
 rw [<- L5 x u w ns (Nat.lt_succ_self i) (by omega),V1 x u w ns h]
 have hl:(evs x u w (ns.take i) []).length=i:=by rw [Cp];simp;omega
 rw [QH,ZC (by omega),hl];simp

theorem Xe {n L K:Nat} {x y:Rat} (hx:Sz x L) (hy:Sz y K) (hL:L+K<=1000000000) (hn:68719476736<=n):f99 n (rq x) (rq y)=some (rq (x+y)):=Aut (L:=L+K) (hx.mono (by omega)) (hy.mono (by omega)) (by omega) (by omega)

theorem De {n L K:Nat} {x y:Rat} (hx:Sz x L) (hy:Sz y K) (hL:L+K<=1000000000) (hn:68719476736<=n):f162 n (rq x) (rq y)=some (rq (x*y)):=Amx (L:=L+K) (hx.mono (by omega)) (hy.mono (by omega)) (by omega) (by omega)

theorem iOv {n L K:Nat} {x y:Rat} (hx:Sz x L) (hy:Sz y K) (h0:y ≠ 0) (hL:L+K<=1000000000) (hn:68719476736<=n):f206 n (rq x) (rq y)=some (rq (x / y)):=Bck (L:=L+K) (hx.mono (by omega)) (hy.mono (by omega)) h0 (by omega) (by omega)

theorem iNg {n L:Nat} {x:Rat} (hx:Sz x L) (hL:L<=1000000000):f158 n (rq x)=some (rq (-x)):=Bh0 hx (by omega)

theorem sPl {n L K:Nat} {x y:Rat} (hx:Sz x L) (hy:Sz y K) (hL:L+K<=1000000000) (hn:68719476736<=n):f138 n (rq x) (rq y)=some (rq (x+y)):=Ato (L:=L+K) (hx.mono (by omega)) (hy.mono (by omega)) (by omega) (by omega)

theorem Ml {n L K:Nat} {x y:Rat} (hx:Sz x L) (hy:Sz y K) (hL:L+K<=1000000000) (hn:68719476736<=n):f140 n (rq x) (rq y)=some (rq (x*y)):=B6v (L:=L+K) (hx.mono (by omega)) (hy.mono (by omega)) (by omega) (by omega)

theorem sOv {n L K:Nat} {x y:Rat} (hx:Sz x L) (hy:Sz y K) (h0:y ≠ 0) (hL:L+K<=1000000000) (hn:68719476736<=n):f142 n (rq x) (rq y)=some (rq (x / y)):=Bbv (L:=L+K) (hx.mono (by omega)) (hy.mono (by omega)) h0 (by omega) (by omega)

theorem sLs {n L K:Nat} {x y:Rat} (hx:Sz x L) (hy:Sz y K) (hL:L+K<=1000000000) (hn:68719476736<=n):f139 n (rq x) (rq y)=some (rq (x-y)):=Bbw (L:=L+K) (hx.mono (by omega)) (hy.mono (by omega)) (by omega) (by omega)

theorem Bo {a:Int} (h:a.natAbs<=1000000000):Sz (a:Rat) 3:=by
 unfold Sz;rw [Rat.num_intCast,Rat.den_intCast]
 exact ⟨Ej (by omega),Ej (by omega)⟩

theorem iW {n:Nat} {a:Int} (h:a.natAbs<=1000000000) (hn:68719476736<=n):f97 n a=some (rq (a:Rat)):=by
 unfold f97;rw [QK,Atq];by_cases h0:a<0
 . rw [QG h0,Ab (by omega) (by omega),show (0-a:Int)=((a.natAbs:Nat):Int) by omega,S7 (by omega) (by omega),A1,show f151 n=some [1] from rfl,A1,QU h0,Gl]
 . rw [QI h0]
   conv=>lhs;rw [show a=((a.natAbs:Nat):Int) by omega]
   rw [S7 (by omega) (by omega),A1,show f151 n=some [1] from rfl,A1,QQ h0,Gl]

theorem iW0 {n:Nat} (hn:68719476736<=n):f97 n 0=some (rq 0):=iW (a:=0) (by omega) hn

theorem iW1 {n:Nat} (hn:68719476736<=n):f97 n 1=some (rq 1):=iW (a:=1) (by omega) hn

theorem iW2 {n:Nat} (hn:68719476736<=n):f97 n 2=some (rq 2):=iW (a:=2) (by omega) hn

theorem iWm {n:Nat} (hn:68719476736<=n):f97 n (-1)=some (rq (-1)):=iW (a:=-1) (by omega) hn

theorem B6t (a:Int) (i:Nat):(!(decide (a ^ i<0)==decide (a<0)))=decide (a ^ (i+1)<0):=by
 rw [Qal];by_cases h0:a=0
 . subst h0
   have:¬ (0:Int) ^ i<0:=by cases i with | zero=>decide | succ i=>rw [Qal,Qan];decide
   rw [Qan,QQ this];rfl
 . have hp:a ^ i ≠ 0:=Int.pow_ne_zero h0;generalize a ^ i=p at hp;rcases Int.lt_trichotomy p 0 with ha | ha | ha <;> rcases Int.lt_trichotomy a 0 with hb | hb | hb
   . have:=Int.mul_pos_of_neg_of_neg ha hb
     rw [QU ha,QU hb,QQ (by omega)];rfl
   . exact absurd hb h0
   . have:=Int.mul_neg_of_neg_of_pos ha hb
     rw [QU ha,QQ (by omega),QU this];rfl
   . exact absurd ha hp
   . exact absurd ha hp
   . exact absurd ha hp
   . have:=Int.mul_neg_of_pos_of_neg ha hb
     rw [QQ (show ¬ p<0 by omega),QU hb,QU this];rfl
   . exact absurd hb h0
   . have:=Int.mul_pos ha hb
     rw [QQ (show ¬ p<0 by omega),QQ (show ¬ a<0 by omega),QQ (by omega)];rfl

theorem Rm (a L:Nat) (h:(dg a).length<=L):∀ i,(dg (a ^ i)).length<=L*i+1
 | 0=>by rw [Nat.pow_zero];exact ZQ (A8w (by decide)) (by omega)
 | i+1=>by
  have h1:=B2 (a ^ i) a;have h2:=Rm a L h i;rw [YG,Nat.mul_succ];omega

theorem Afo {α:Type} {n L k:Nat} {x:Rat} (hx:Sz x L) (hL:L<=10000000) (hk:k<=10) (hn:68719476736<=n) {k0:Bool->Bool->List Int->List Int->Option α}:∀ (m i:Nat),i<=k->k<i+m ->
  S0 n m (k:Int) (i:Int) (rq x).1 (rq x).2.1 (rq x).2.2 false (decide (x.num ^ i<0)) (dg (x.num.natAbs ^ i)) (dg (x.den ^ i)) k0=k0 false (decide (x.num ^ k<0)) (dg (x.num.natAbs ^ k)) (dg (x.den ^ k))
 | 0,i,hi,hm=>by omega
 | m+1,i,hi,hm=>by
  rw [Axc];unfold A3u;rw [QK];by_cases h:i<k
  . have l1:=Rm x.num.natAbs L hx.1 i;have l2:=Rm x.den L hx.2 i;have h1:=hx.1;have h2:=hx.2
    have h3:L*i<=L*10:=XL _ (by omega)
    rw [QG (by omega)]
    show ob (f152 n (dg (x.num.natAbs ^ i)) (dg x.num.natAbs)) _=_
    rw [Mz (by omega) (by omega),A1]
    show ob (f152 n (dg (x.den ^ i)) (dg x.den)) _=_
    rw [Mz (by omega) (by omega),A1,Ab (x:=(i:Int)+1) (by omega) (by omega),<- YG,<- YG]
    show S0 n m (k:Int) ((i+1:Nat):Int) (rq x).1 (rq x).2.1 (rq x).2.2 false (!(decide (x.num ^ i<0)==decide (x.num<0))) _ _ k0=_;rw [B6t]
    exact Afo hx hL hk hn m (i+1) (by omega) (by omega)
  . obtain rfl:i=k:=by omega
    rw [QI (by omega)]

theorem Kj {n L k:Nat} {x:Rat} (hx:Sz x L) (hL:L<=10000000) (hk:k<=10) (hn:68719476736<=n):f170 n (rq x) (k:Int)=some (rq (x ^ k)):=by
 unfold f170;rw [iW1 hn,A1]
 have h1:=Afo (n:=n) hx hL hk hn (k0:=λz_4 z_5 z_6 z_7=>(
   bif z_5 then
    ob (f168 n (z_5,z_6,z_7)) λr_8 =>
    ob (f168 n ((!r_8),z_6,z_7)) λr_9 =>
    bif r_9 then
     ob (f151 n) λr_10 =>
     some ((!r_8),z_6,r_10)
    else
     some ((!r_8),z_6,z_7)
   else
    ob (f168 n (false,z_6,z_7)) λr_11 =>
    bif r_11 then
     ob (f151 n) λr_12 =>
     some (false,z_6,r_12)
    else
     some (false,z_6,z_7))) n 0 (by omega) (by omega)
 rw [Int.pow_zero,Nat.pow_zero,Nat.pow_zero,show decide ((1:Int)<0)=false from rfl,show ((0:Nat):Int)=0 from rfl] at h1;rw [show rq 1=(false,dg 1,dg 1) from Afg 1,h1]
 have hzero:∀ (s:Bool) (a d:Nat),f168 n (s,dg a,dg d)=some (decide (a=0)):=λs a d=>by
  unfold f168;dsimp only;rw [A7y]
 have key:rq (x ^ k)=(decide (x.num ^ k<0),dg (x.num.natAbs ^ k),dg (x.den ^ k)):=by
  unfold rq;rw [Rat.num_pow,Rat.den_pow,Int.natAbs_pow]
 have hz:x.num.natAbs ^ k=0->x.den ^ k=1:=λh=>by
  rcases YU k with h2 | h2
  . subst h2;rfl
  . have h3:x.num.natAbs=0:=(Nat.pow_eq_zero.1 h).1
    have:x=0:=JE.1 (by omega)
    rw [this];exact Nat.one_pow k
 have hs:x.num.natAbs ^ k=0->¬ x.num ^ k<0:=λh=>by rw [<- Int.natAbs_pow] at h;omega
 rw [key];by_cases h2:x.num ^ k<0
 . rw [QU h2,ZE,hzero,A1,hzero,A1];have h3:¬ x.num.natAbs ^ k=0:=λh=>hs h h2;rw [QQ h3];rfl
 . rw [QQ h2,QR,hzero,A1];by_cases h3:x.num.natAbs ^ k=0
   . rw [QU h3,ZE,show f151 n=some [1] from rfl,A1,hz h3,Gl]
   . rw [QQ h3];rfl

abbrev Jn:=Rt × List Rt × Unit × Rt

abbrev Jc:=Rt × List Rt × List Rt × Rt

def jn (f v:Rat):Jn:=(rq f,[],(),rq v)

def jc (f v:Rat):Jc:=(rq f,[],[],rq v)

theorem Bcm {n:Nat} (hn:68719476736<=n):f64 n 0=some []:=by
 obtain ⟨m,rfl⟩:∃ m,n=m+1:=⟨n-1,by omega⟩
 rfl

theorem B5v {n:Nat} (hn:68719476736<=n):Mk n 0=some []:=by
 obtain ⟨m,rfl⟩:∃ m,n=m+1:=⟨n-1,by omega⟩
 rfl

theorem B22 {n:Nat} (hn:68719476736<=n):f51 n []=some ([],0):=by
 have:=Aga (n:=n) (x:=[]) (by simp) (by omega)
 exact this

theorem Dy {x:Rat} {L:Nat} (h:Sz x L) (k:Nat):Sz (x ^ k) (L*k+1):=by
 unfold Sz;rw [Rat.num_pow,Rat.den_pow,Int.natAbs_pow];exact ⟨Rm _ _ h.1 k,Rm _ _ h.2 k⟩

theorem Aeo {x:Rat} {L k:Nat} (h:Sz x L) (hk:k<=8):Sz (Q4.d1 x k) (L*8+5):=by
 cases k with
 | zero=>exact Ch.mono (by omega)
 | succ k =>
  have h1:=Aj (Dy h k) (Bo (a:=((k+1:Nat):Int)) (by omega))
  have:L*k<=L*8:=XL _ (by omega)
  exact h1.mono (by omega)

theorem Bi7 {x:Rat} {L k:Nat} (h:Sz x L) (hk:k<=8):Sz (Q4.d2 x k) (L*8+5):=by
 match k with
 | 0=>exact Ch.mono (by omega)
 | 1=>exact Ch.mono (by omega)
 | k+2 =>
  have h2:(k+2)*(k+1)<=8*8:=XF (by omega) (by omega)
  have h1:=Aj (Dy h k) (Bo (a:=(((k+2)*(k+1):Nat):Int)) (by rw [XE];omega))
  have:L*k<=L*8:=XL _ (by omega)
  exact h1.mono (by omega)

def Ak (V:List Rat) (k:Nat):Rat:=V.getD k 0

theorem B1u {n:Nat} {f:Rat} (hn:68719476736<=n):f163 n (0,()) (rq f)=some (jn f 0):=by
 unfold f163;dsimp only;rw [Bcm hn,A1,iW0 hn,A1];rfl

theorem Ams {n L K:Nat} {f g v w:Rat} (hf:Sz f L) (hg:Sz g L) (hv:Sz v K) (hw:Sz w K) (hL:L<=1000) (hK:K<=100000000) (hn:68719476736<=n):f165 n (jn f v) (jn g w)=some (jn (f+g) (v+w)):=by
 unfold f165 jn;dsimp only
 rw [Xe hf hg (by omega) hn,A1,Xe hv hw (by omega) hn,A1];rfl

theorem B5q {n L K:Nat} {f v k:Rat} (hf:Sz f L) (hv:Sz v K) (hk:Sz k 10) (hL:L<=1000) (hK:K<=100000000) (hn:68719476736<=n):f166 n (jn f v) (rq k)=some (jn (f*k) (v*k)):=by
 unfold f166 jn;dsimp only
 rw [De hf hk (by omega) hn,A1,De hv hk (by omega) hn,A1];rfl

theorem Ag4 {n L K:Nat} {f g v w:Rat} (hf:Sz f L) (hg:Sz g L) (hv:Sz v K) (hw:Sz w K) (hL:L<=1000) (hK:K<=100000000) (hn:68719476736<=n):f167 n (jn f v) (jn g w)=some (jn (f*g) (v*g+f*w)):=by
 unfold f167 jn;dsimp only
 rw [De hf hg (by omega) hn,A1,De hv hg (by omega) hn,A1,De hf hw (by omega) hn,A1,Xe (Aj hv hg) (Aj hf hw) (by omega) hn,A1];rfl

theorem Ag6 {n L K:Nat} {f v g d:Rat} {e:Rt} (hd:Sz d L) (hv:Sz v K) (hL:L<=100000) (hK:K<=100000000) (hn:68719476736<=n):f210 n (jn f v) (rq g) (rq d) e=some (jn g (d*v)):=by
 unfold f210 jn;dsimp only
 rw [De hd hv (by omega) hn,A1];rfl

theorem Bcf {n L K:Nat} {f v:Rat} (hf:Sz f L) (h0:f ≠ 0) (hv:Sz v K) (hL:L<=1000) (hK:K<=100000000) (hn:68719476736<=n):f169 n (jn f v)=some (jn (1 / f) (-(1 / f*(1 / f))*v)):=by
 have h1:=Sr (Bo (a:=1) (by omega)) hf h0
 have h1:Sz (1 / f) (3+L+1):=h1;have h2:=Aj h1 h1;have h3:=Aj h2 h1
 have t2:f162 n (rq (1 / f*(1 / f)*(1 / f))) (rq 2)=some (rq (1 / f*(1 / f)*(1 / f)*2)):=De h3 (Bo (a:=2) (by omega)) (by omega) hn
 unfold f169
 rw [iW1 hn,A1,show (jn f v).1=rq f from rfl,iOv (Pw (L:=1) (by omega)) hf h0 (by omega) hn,A1,De h1 h1 (by omega) hn,A1,iNg h2 (by omega),A1,De h2 h1 (by omega) hn,A1,iW2 hn,A1,t2,A1]
 have:=Ag6 (n:=n) (f:=f) (g:=1 / f) (e:=rq (1 / f*(1 / f)*(1 / f)*2)) (Cm h2) hv (by omega) hK hn
 have this:f210 n (rq f,(jn f v).2.1,(),(jn f v).2.2.2) (rq (1 / f)) (rq (-(1 / f*(1 / f)))) (rq (1 / f*(1 / f)*(1 / f)*2))=_:=this;rw [this,A1]

theorem Auo {n L k:Nat} {f:Rat} {v:Rat} (hf:Sz f L) (hL:L<=1000) (hk:k<=8) (hn:68719476736<=n):f161 n (jn f v) (k:Int)=some (rq (Q4.d1 f k),rq (Q4.d2 f k)):=by
 unfold f161;rw [iW0 hn,A1,A1];dsimp only;rw [show (jn f v).1=rq f from rfl]
 match k with
 | 0=>rfl
 | 1 =>
  rw [show decide (((1:Nat):Int)>=1)=true from rfl,ZE,show W (((1:Nat):Int)-1)=((0:Nat):Int) from rfl,Kj hf (by omega) (by omega) hn,A1,iW (by omega) hn,A1,De (Dy hf 0) (Bo (a:=((1:Nat):Int)) (by omega)) (by omega) hn,A1]
  rfl
 | k+2 =>
  have h2:(k+2)*(k+1)<=8*8:=XF (by omega) (by omega)
  have l1:L*(k+1)<=L*8:=XL _ (by omega)
  have l2:L*k<=L*8:=XL _ (by omega)
  rw [QK,QG (by omega),Ab (x:=((k+2:Nat):Int)-1) (by omega) (by omega),show ((k+2:Nat):Int)-1=((k+1:Nat):Int) by omega,Kj hf (by omega) (by omega) hn,A1,iW (by omega) hn,A1,
   De (Dy hf (k+1)) (Bo (a:=((k+2:Nat):Int)) (by omega)) (by omega) hn,A1,QK,QG (by omega),
   Ab (x:=((k+2:Nat):Int)-2) (by omega) (by omega),show ((k+2:Nat):Int)-2=((k:Nat):Int) by omega,Kj hf (by omega) (by omega) hn,A1,show ((k+2:Nat):Int)*((k+1:Nat):Int)=(((k+2)*(k+1):Nat):Int) by rw [XV],
   Ab (x:=(((k+2)*(k+1):Nat):Int)) (by omega) (by omega),iW (by rw [XE];omega) hn,A1,De (Dy hf k) (Bo (a:=(((k+2)*(k+1):Nat):Int)) (by rw [XE];omega)) (by omega) hn,A1]
  rfl

end Go.Ev
