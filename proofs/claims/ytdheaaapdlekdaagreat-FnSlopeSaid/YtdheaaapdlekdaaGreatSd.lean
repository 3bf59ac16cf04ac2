/- DERIVED. The plain laws: what the models compute. -/
import Derived.Test.YtdheaaapdlekdaaGreatSc

set_option linter.all false
set_option linter.unusedVariables false
set_option linter.unusedSimpArgs false

namespace Go.Ev
open Go

theorem Aa {x:Int} (h:-9223372036854775808<=x) (h':x<9223372036854775808):W x=x:=Ast h h'

@[simp] theorem A0 {α β:Type} (r:β) (k:β->Option α):ob (some r) k=k r:=rfl

@[simp] theorem Bg3 {α β:Type} (k:β->Option α):ob (none:Option β) k=none:=rfl

@[simp] theorem Bg4 {α:Type} (x:Option α):gd true x=x:=rfl

@[simp] theorem Bfw {α:Type} (x:Option α):gd false x=none:=rfl

theorem A3 {α:Type} {g:Bool} (h:g=true) (x:Option α):gd g x=x:=by rw [h];rfl

theorem Agc (l:List Int) (a b:Int):l.foldl max a<=b ↔ a<=b /\ ∀ x ∈ l,x<=b:=by
 induction l generalizing a with
 | nil=>simp
 | cons y r ih =>
  simp only [List.foldl_cons,ih,QV,forall_eq_or_imp];constructor
  . rintro ⟨h,h'⟩;exact ⟨by omega,by omega,h'⟩
  . rintro ⟨h,h',h''⟩;exact ⟨by omega,h''⟩

theorem Cc {α:Type} {l m:List α} {i:Nat} {d:α} (h:i<l.length):(l++m).getD i d=l.getD i d:=by
 simp [QL,ZB h]

theorem Cd {α:Type} {l:List α} {x d:α}:(l++[x]).getD l.length d=x:=by
 simp [QL]

theorem Gp {α:Type} {l r:List α} {x d:α} {k:Nat} (h:l.drop k=x::r):l.getD k d=x/\k<l.length/\l.drop (k+1)=r:=by
 have hk:k<l.length:=by
  rcases ZT k l.length with h' | h'
  . exact h'
  . rw [QW h'] at h;cases h
 have:=XQ hk;rw [h] at this;injection this with h1 h2
 exact ⟨by simp [QL,hk,h1],hk,h2.symm⟩

def vl:List Int->Int
 | []=>0
 | x::r=>x+10000*vl r

def Lm (l:List Int):Prop:=∀ x ∈ l,0<=x/\x<10000

def dg (n:Nat):List Int:=if n=0 then [] else ((n % 10000:Nat):Int)::dg (n / 10000)
termination_by n
decreasing_by omega

theorem By:dg 0=[]:=by rw [dg];rfl

theorem Dk {n:Nat} (h:n ≠ 0):dg n=((n % 10000:Nat):Int)::dg (n / 10000):=by rw [dg,QG h]

theorem Lm.nil:Lm []:=λ_ h=>by cases h

theorem Lm.cons {x:Int} {l:List Int} (hx:0<=x/\x<10000) (hl:Lm l):Lm (x::l):=λy hy=>by
 rcases QV.1 hy with rfl | hy
 . exact hx
 . exact hl y hy

theorem Lm.head {x:Int} {l:List Int} (h:Lm (x::l)):0<=x/\x<10000:=h x (by simp)

theorem Lm.tail {x:Int} {l:List Int} (h:Lm (x::l)):Lm l:=λy hy=>h y (by simp [hy])

theorem Lm.app {l m:List Int} (h:Lm l) (h':Lm m):Lm (l++m):=λy hy=>(QD.1 hy).elim (h y) (h' y)

theorem Lm.take {l:List Int} (h:Lm l) (k:Nat):Lm (l.take k):=λy hy=>h y (Qbe hy)

theorem Lm.drop {l:List Int} (h:Lm l) (k:Nat):Lm (l.drop k):=λy hy=>h y (List.mem_of_mem_drop hy)

theorem Lm.set {l:List Int} (h:Lm l) (k:Nat) {x:Int} (hx:0<=x/\x<10000):Lm (l.set k x):=λy hy=>by
 rcases Qah hy with hy | rfl
 . exact h y hy
 . exact hx

theorem Lm.get {l:List Int} (h:Lm l) (k:Nat):0<=l.getD k 0/\l.getD k 0<10000:=by
 rw [QL]
 cases e:l[k]? with
 | none=>simp
 | some x=>exact h x (ZO e)

theorem Lm.rep (n:Nat):Lm (List.replicate n 0):=λy hy=>by
 obtain rfl:=(List.mem_replicate.1 hy).2;omega

theorem Dt (n:Nat):Lm (dg n):=by
 induction n using Nat.strongRecOn with
 | _ n ih =>
  by_cases h:n=0
  . subst h;rw [By];exact Lm.nil
  . rw [Dk h]
    exact Lm.cons (by omega) (ih _ (by omega))

theorem Bd (n:Nat):vl (dg n)=n:=by
 induction n using Nat.strongRecOn with
 | _ n ih =>
  by_cases h:n=0
  . subst h;rw [By];rfl
  . rw [Dk h,vl,ih _ (by omega)]
    omega

theorem B9 {l:List Int} (h:Lm l):0<=vl l:=by
 induction l with
 | nil=>exact JP _
 | cons x r ih =>
  have:=h.head;have:=ih h.tail;simp only [vl];omega

theorem Fh (k:Nat):(0:Int)<10000 ^ k:=Int.pow_pos (by omega)

theorem Bw (k:Nat):(10000:Int) ^ (k+1)=10000*10000 ^ k:=by rw [Qak,Int.mul_comm]

theorem Zj {i j:Nat} (h:i<=j):(10000:Int) ^ i<=10000 ^ j:=by
 induction j with
 | zero => obtain rfl : i = 0 := by omega
           exact JP _
 | succ j ih =>
  by_cases e:i=j+1
  . subst e;exact JP _
  . have:=ih (by omega)
    have:=Fh j;rw [Bw];omega

theorem Apf {i j:Nat} (h:(10000:Int) ^ i<10000 ^ j):i<j:=by
 rcases ZT i j with h' | h'
 . exact h'
 . have:=Zj h';omega

theorem Hr {l:List Int} (h:Lm l):vl l<10000 ^ l.length:=by
 induction l with
 | nil=>simp [vl]
 | cons x r ih =>
  have:=h.head;have:=ih h.tail;simp only [vl,ZH,Bw];omega

theorem A61 (l m:List Int):vl (l++m)=vl l+10000 ^ l.length*vl m:=by
 induction l with
 | nil=>simp [vl]
 | cons x r ih=>simp only [YD,vl,ih,ZH,Bw];grind

theorem R7 (l:List Int) (x:Int):vl (l++[x])=vl l+10000 ^ l.length*x:=by rw [A61];simp [vl]

theorem Wd (n:Nat):vl (List.replicate n 0)=0:=by
 induction n with
 | zero=>rfl
 | succ n ih=>simp [List.replicate_succ,vl,ih]

theorem C7 {l:List Int} {k:Nat} (h:k<l.length):vl (l.take (k+1))=vl (l.take k)+10000 ^ k*l.getD k 0:=by
 rw [JE h,R7,KI,Qae (by omega),QL,QM h]
 rfl

theorem L6 {l:List Int} {k:Nat} (x:Int) (h:k<l.length):vl (l.set k x)=vl l+10000 ^ k*(x-l.getD k 0):=by
 induction l generalizing k with
 | nil=>simp at h
 | cons y r ih =>
  cases k with
  | zero=>simp [vl];omega
  | succ k =>
   have:=ih (k:=k) (by simpa using h)
   simp only [List.set_cons_succ,vl,this,Qad,Bw];grind

def Cn (l:List Int):Prop:=Lm l/\(l ≠ []->l.getD (l.length-1) 0 ≠ 0)

theorem G4 (n:Nat):Cn (dg n):=by
 refine ⟨Dt n,?_⟩
 induction n using Nat.strongRecOn with
 | _ n ih =>
  by_cases h:n=0
  . subst h;rw [By];exact λh=>absurd rfl h
  . rw [Dk h];intro _;by_cases e:dg (n / 10000)=[]
    . rw [e]
      have h0:n / 10000=0:=by
       have:=Bd (n / 10000);rw [e] at this;simp only [vl] at this;omega
      simp;omega
    . have:=ih (n / 10000) (by omega) e
      have hl:0<(dg (n / 10000)).length:=XO.2 e;simp only [ZH,Qal]
      rw [show (dg (n / 10000)).length=((dg (n / 10000)).length-1)+1 by omega,Qad]
      exact this

theorem Cn.tail {x:Int} {l:List Int} (h:Cn (x::l)):Cn l:=by
 refine ⟨h.1.tail,λhn=>?_⟩
 have:=h.2 (by simp)
 have hl:0<l.length:=XO.2 hn;simp only [ZH,Qal] at this
 rw [show l.length=(l.length-1)+1 by omega,Qad] at this
 exact this

theorem Cn.pos {l:List Int} (h:Cn l) (hn:l ≠ []):0<vl l:=by
 induction l with
 | nil=>exact absurd rfl hn
 | cons x r ih =>
  have hx:=h.1.head;have hr:=B9 h.1.tail;by_cases e:r=[]
  . subst e
    have:=h.2 (by simp)
    simp at this;simp only [vl];omega
  . have:=ih h.tail e;simp only [vl];omega

theorem Qp {l:List Int} (h:Cn l):dg (vl l).toNat=l:=by
 induction l with
 | nil=>exact By
 | cons x r ih =>
  have hx:=h.1.head;have hr:=B9 h.1.tail
  have hp:=h.pos (by simp)
  have ih:=ih h.tail;simp only [vl] at hp ⊢
  rw [Dk (by omega)]
  congr 1
  . omega
  . rw [<- ih];congr 1;rw [ih];omega

theorem Cn.ge {l:List Int} (h:Cn l) (hn:l ≠ []):(10000:Int) ^ (l.length-1)<=vl l:=by
 have hl:0<l.length:=XO.2 hn
 have h1:=C7 (l:=l) (k:=l.length-1) (by omega)
 rw [show l.length-1+1=l.length by omega,YI] at h1
 have h2:=h.2 hn;have h3:=h.1.get (l.length-1);have h4:=B9 (h.1.take (l.length-1));have h5:=Fh (l.length-1)
 have h6:(10000:Int) ^ (l.length-1)*1<=10000 ^ (l.length-1)*l.getD (l.length-1) 0:=XG (by omega) (by omega)
 omega

theorem Se {n k:Nat}:(dg n).length<=k ↔ (n:Int)<10000 ^ k:=by
 constructor
 . intro h;have:=Hr (Dt n);rw [Bd] at this;exact Int.lt_of_lt_of_le this (Zj h)
 . intro h;by_cases e:dg n=[]
   . rw [e];simp
   . have:=(G4 n).ge e;rw [Bd] at this;have:=Apf (Int.lt_of_le_of_lt this h);have hl:0<(dg n).length:=XO.2 e;omega

theorem Bdj {n:Nat}:dg n=[] ↔ n=0:=by
 constructor
 . intro h;have:=Bd n;rw [h] at this;simp only [vl] at this;omega
 . rintro rfl;exact By

theorem Az9 {a b:Nat} (h:dg a=dg b):a=b:=by
 have h1:=Bd a;rw [h,Bd] at h1;omega

theorem B8 {a b:Nat} (h:a<=b):(dg a).length<=(dg b).length:=by
 refine Se.2 ?_;have:=Hr (Dt b);rw [Bd] at this;omega

def cm (x y:Int):Int:=if x<y then -1 else if x=y then 0 else 1

theorem V1 {a b:List Int} (ha:Lm a) (hb:Lm b) {k:Nat} (h1:k<a.length) (h2:k<b.length) (h:a.getD k 0<b.getD k 0):vl (a.take (k+1))<vl (b.take (k+1)):=by
 rw [C7 h1,C7 h2];have q1:=Hr (ha.take k)
 rw [KI,Qae (by omega)] at q1
 have q2:=B9 (hb.take k)
 have q3:(10000:Int) ^ k*(a.getD k 0+1)<=10000 ^ k*b.getD k 0:=XG (by omega) (by have:=Fh k;omega)
 rw [Int.mul_add,Int.mul_one] at q3;omega

theorem Cn.lt_of_len {a b:List Int} (ha:Cn a) (hb:Cn b) (h:a.length<b.length):vl a<vl b:=by
 have h1:=Hr ha.1
 have h2:=hb.ge (by intro e;subst e;simp at h)
 have h3:(10000:Int) ^ a.length<=10000 ^ (b.length-1):=Zj (by omega)
 omega

theorem Cn.of_take {l:List Int} (h:Lm l) {t:Nat} (ht:t<=l.length) (hl:t=0 \/ l.getD (t-1) 0 ≠ 0):Cn (l.take t):=by
 refine ⟨h.take t,λhn=>?_⟩
 have hlen:(l.take t).length=t:=by simp;omega
 rcases hl with rfl | hl
 . simp at hn
 . have ht0:t ≠ 0:=by rintro rfl;simp at hn
   rw [hlen,QL,XH,QJ (by omega),<- QL]
   exact hl

theorem tdv {x:Int} (h:0<=x):Int.tdiv x 10000=x / 10000:=YQ h

theorem tmd {x:Int} (h:0<=x):Int.tmod x 10000=x % 10000:=JZ h

theorem Alu {α:Type} {n:Nat} {l:List Int} (hN:l.length<=1099511627776) {k0:List Int->Int->Option α}:∀ (m k:Nat),k<m->k<=l.length ->
  ∃ t,t<=k/\A07 n m l (k:Int) k0=k0 l (t:Int)/\vl (l.take t)=vl (l.take k)/\(t=0 \/ l.getD (t-1) 0 ≠ 0)
 | 0,k,h,_=>by omega
 | m+1,k,h,hk=>by
  rw [Av9];unfold A2y;dsimp only;by_cases h0:k=0
  . subst h0;exact ⟨0,QZ _,rfl,rfl,.inl rfl⟩
  . rw [QK,QJ (by omega),Aa (by omega) (by omega),A3 (by simp;omega)]
    have e:((k:Int)-1).toNat=k-1:=by omega
    rw [e,XD];by_cases hz:l.getD (k-1) 0=0
    . rw [QJ (by rw [hz];rfl)]
      obtain ⟨t,h1,h2,h3,h4⟩:=Alu (n:=n) hN (k0:=k0) m (k-1) (by omega) (by omega)
      refine ⟨t,by omega,?_,?_,h4⟩
      . rw [show (k:Int)-1=((k-1:Nat):Int) by omega];exact h2
      . rw [h3]
        have:=C7 (l:=l) (k:=k-1) (by omega)
        rw [show k-1+1=k by omega,hz] at this
        rw [this];simp
    . rw [QG (by simpa using hz)]
      exact ⟨k,QZ _,rfl,rfl,.inr hz⟩

theorem A06 {n:Nat} {l:List Int} (hl:Lm l) (hN:l.length<=1099511627776) (hn:l.length<n):f216 n l=some (dg (vl l).toNat):=by
 unfold f216;obtain ⟨t,h1,h2,h3,h4⟩:=Alu (n:=n) hN (k0:=λz_1 z_2=>gd (decide (0<=z_2)&&decide (z_2<=(z_1.length:Int))) (gd (decide ((0+((z_1.drop 0).take (z_2.toNat-0)).length)*8<=140737488355328)) (some ((z_1.drop 0).take (z_2.toNat-0))))) n l.length hn (QZ _)
 rw [h2,A3 (by simp;omega),A3 (by simp;omega)]
 simp only [ZQ,QP,Qba];rw [YI] at h3
 rw [<- h3,Qp (Cn.of_take hl (by omega) h4)]

theorem Alt {α:Type} {n:Nat} {l:List Int} (hN:l.length<=1099511627776) {k0:List Int->Int->Option α}:∀ (m k:Nat),k<m->k<=l.length ->
  ∃ t,t<=k/\A09 n m l (k:Int) k0=k0 l (t:Int)/\vl (l.take t)=vl (l.take k)/\(t=0 \/ l.getD (t-1) 0 ≠ 0)
 | 0,k,h,_=>by omega
 | m+1,k,h,hk=>by
  rw [Avp];unfold A3f;dsimp only;by_cases h0:k=0
  . subst h0;exact ⟨0,QZ _,rfl,rfl,.inl rfl⟩
  . rw [QK,QJ (by omega),Aa (by omega) (by omega),A3 (by simp;omega)]
    have e:((k:Int)-1).toNat=k-1:=by omega
    rw [e,XD];by_cases hz:l.getD (k-1) 0=0
    . rw [QJ (by rw [hz];rfl)]
      obtain ⟨t,h1,h2,h3,h4⟩:=Alt (n:=n) hN (k0:=k0) m (k-1) (by omega) (by omega)
      refine ⟨t,by omega,?_,?_,h4⟩
      . rw [show (k:Int)-1=((k-1:Nat):Int) by omega];exact h2
      . rw [h3]
        have:=C7 (l:=l) (k:=k-1) (by omega)
        rw [show k-1+1=k by omega,hz] at this
        rw [this];simp
    . rw [QG (by simpa using hz)]
      exact ⟨k,QZ _,rfl,rfl,.inr hz⟩

theorem Rm {n:Nat} {l:List Int} (hl:Lm l) (hN:l.length<=1099511627776) (hn:l.length<n):f202 n l=some (dg (vl l).toNat):=by
 unfold f202;obtain ⟨t,h1,h2,h3,h4⟩:=Alt (n:=n) hN (k0:=λz_1 z_2=>gd (decide (0<=z_2)&&decide (z_2<=(z_1.length:Int))) (some ((z_1.drop 0).take (z_2.toNat-0)))) n l.length hn (QZ _)
 rw [h2,A3 (by simp;omega)]
 simp only [ZQ,QP,Qba];rw [YI] at h3
 rw [<- h3,Qp (Cn.of_take hl (by omega) h4)]

theorem Af3 {α:Type} {n:Nat} {k0:List Int->Option α}:∀ (m x:Nat) (o:List Int),(x:Int)<=9223372036854775807->(dg x).length<m->o.length+(dg x).length<=1099511627776->A0d n m (x:Int) o k0=k0 (o++dg x)
 | 0,x,o,_,h,_=>by omega
 | m+1,x,o,hx,h,hN=>by
  rw [Aw4];unfold A3x;dsimp only;by_cases h0:x=0
  . subst h0;rw [By];simp
  . rw [Dk h0] at h hN ⊢;simp only [ZH] at h hN
    rw [QK,QJ (by omega),A3 (by simp;omega),tdv (by omega),tmd (by omega),Aa (by omega) (by omega),show (x:Int) / 10000=((x / 10000:Nat):Int) by omega,show (x:Int) % 10000=((x % 10000:Nat):Int) by omega]
    rw [Af3 (n:=n) m (x / 10000) _ (by omega) (by omega) (by simp;omega)]
    simp

theorem Ni {n:Nat} {x:Nat} (hx:(x:Int)<=9223372036854775807) (hn:10<n):f194 n (x:Int)=some (dg x):=by
 have hl:(dg x).length<=5:=Se.2 (by rw [show (10000:Int) ^ 5=100000000000000000000 from rfl];omega)
 unfold f194
 rw [Af3 (n:=n) n x [] hx (by omega) (by simp;omega)]
 simp

theorem Af4 {α:Type} {n:Nat} {k0:List Int->Option α}:∀ (m x:Nat) (o:List Int),(x:Int)<=9223372036854775807->(dg x).length<m->o.length+(dg x).length<=1099511627776->A0n n m (x:Int) o k0=k0 (o++dg x)
 | 0,x,o,_,h,_=>by omega
 | m+1,x,o,hx,h,hN=>by
  rw [Axq];unfold A4w;dsimp only;by_cases h0:x=0
  . subst h0;rw [By];simp
  . rw [Dk h0] at h hN ⊢;simp only [ZH] at h hN
    rw [QK,QJ (by omega),A3 (by simp;omega),tdv (by omega),tmd (by omega),Aa (by omega) (by omega),show (x:Int) / 10000=((x / 10000:Nat):Int) by omega,show (x:Int) % 10000=((x % 10000:Nat):Int) by omega]
    rw [Af4 (n:=n) m (x / 10000) _ (by omega) (by omega) (by simp;omega)]
    simp

theorem S0 {n:Nat} {x:Nat} (hx:(x:Int)<=9223372036854775807) (hn:10<n):f150 n (x:Int)=some (dg x):=by
 have hl:(dg x).length<=5:=Se.2 (by rw [show (10000:Int) ^ 5=100000000000000000000 from rfl];omega)
 unfold f150
 rw [Af4 (n:=n) n x [] hx (by omega) (by simp;omega)]
 simp

theorem Nk {n:Nat} {b:Bool}:f174 n b=some (if b=true then 1 else 0):=by cases b <;> rfl

theorem Je {x y:Int} (h:x<y):cm x y = -1:=by unfold cm;rw [QJ h]

theorem Jf {x y:Int} (h:y<x):cm x y=1:=by unfold cm;rw [QG (by omega),QG (by omega)]

theorem L4 {x y:Int} (h:x=y):cm x y=0:=by unfold cm;rw [QG (by omega),QJ h]

theorem Azc (x y z:Int):cm (x+z) (y+z)=cm x y:=by
 rcases Int.lt_trichotomy x y with h | h | h
 . rw [Je h,Je (by omega)]
 . rw [L4 h,L4 (by omega)]
 . rw [Jf h,Jf (by omega)]

theorem Azb {α:Type} {n:Nat} {a b:List Int} (ha:Lm a) (hb:Lm b) (hab:a.length=b.length) (hN:a.length<=1099511627776) {k0:Int->Option α} {k1:Unit->Option α}:∀ (m k:Nat),k<m->k<=a.length ->
  A0b n m a b ((k:Int)-1) k0 k1=if vl (a.take k)=vl (b.take k) then k1 () else k0 (cm (vl (a.take k)) (vl (b.take k)))
 | 0,k,h,_=>by omega
 | m+1,k,h,hk=>by
  rw [Avt];unfold A3l;dsimp only;by_cases h0:k=0
  . subst h0;simp
  . rw [QK,QJ (by omega),A3 (by simp;omega),A3 (by simp;omega)]
    have e:((k:Int)-1).toNat=k-1:=by omega
    rw [e,XD]
    have ta:=C7 (l:=a) (k:=k-1) (by omega)
    have tb:=C7 (l:=b) (k:=k-1) (by omega)
    rw [show k-1+1=k by omega] at ta tb
    by_cases hz:a.getD (k-1) 0=b.getD (k-1) 0
    . rw [QG (by simpa using hz),Aa (by omega) (by omega)]
      rw [show (k:Int)-1-1=((k-1:Nat):Int)-1 by omega,Azb (n:=n) ha hb hab hN m (k-1) (by omega) (by omega)]
      rw [ta,tb,hz];by_cases h1:vl (a.take (k-1))=vl (b.take (k-1))
      . rw [QJ h1,QJ (by omega)]
      . rw [QG h1,QG (by omega)]
        rw [Azc]
    . rw [QJ (by simpa using hz),A3 (by simp;omega),A3 (by simp;omega),Nk,A0]
      rcases Int.lt_or_gt_of_ne hz with h1 | h1
      . have:=V1 ha hb (k:=k-1) (by omega) (by omega) h1
        rw [show k-1+1=k by omega] at this
        rw [show (if vl (a.take k)=vl (b.take k) then k1 () else k0 (cm (vl (a.take k)) (vl (b.take k))))=k0 (-1) by rw [QG (by omega),Je this],QG (by rw [QO];omega)]
        rfl
      . have:=V1 hb ha (k:=k-1) (by omega) (by omega) h1
        rw [show k-1+1=k by omega] at this
        rw [show (if vl (a.take k)=vl (b.take k) then k1 () else k0 (cm (vl (a.take k)) (vl (b.take k))))=k0 1 by rw [QG (by omega),Jf this],QJ (by rw [QO];omega)]
        rfl

theorem B66 {n:Nat} {a b:List Int} (ha:Cn a) (hb:Cn b) (hN:a.length<=1099511627776) (hn:a.length<n):f199 n a b=some (cm (vl a) (vl b)):=by
 unfold f199;rw [XD];by_cases h:a.length=b.length
 . rw [QG (by simp [h]),Aa (by omega) (by omega),Azb (n:=n) ha.1 hb.1 h hN n a.length hn (QZ _)]
   rw [YI,h,YI];by_cases h1:vl a=vl b
   . rw [QJ h1,L4 h1]
   . rw [QG h1]
 . rw [QJ (by simp;omega),Nk,A0]
   rcases Nat.lt_or_gt_of_ne h with h1 | h1
   . rw [Je (ha.lt_of_len hb h1),QG (by simp;omega)];rfl
   . rw [Jf (hb.lt_of_len ha h1),QJ (by simp;omega)];rfl

theorem Aza {α:Type} {n:Nat} {a b:List Int} (ha:Lm a) (hb:Lm b) (hab:a.length=b.length) {k0 k1:Int->Option α}:∀ (k:Nat),k<=a.length ->
  P8 n a k a b 0 k0 k1=if vl (a.take k)=vl (b.take k) then k0 0 else k1 (cm (vl (a.take k)) (vl (b.take k)))
 | 0,_=>by rw [Axf];simp
 | k+1,hk=>by
  rw [Axd];unfold A4k;dsimp only
  rw [A3 (by simp;omega),XD]
  have ta:=C7 (l:=a) (k:=k) (by omega)
  have tb:=C7 (l:=b) (k:=k) (by omega)
  simp only [QP];by_cases hz:a.getD k 0=b.getD k 0
  . rw [QG (by simpa using hz),A3 (by simp),Aza ha hb hab k (by omega)]
    rw [ta,tb,hz];by_cases h1:vl (a.take k)=vl (b.take k)
    . rw [QJ h1,QJ (by omega)]
    . rw [QG h1,QG (by omega)]
      rw [Azc]
  . rw [QJ (by simpa using hz),A3 (by simp;omega),QK]
    rcases Int.lt_or_gt_of_ne hz with h1 | h1
    . have:=V1 ha hb (k:=k) (by omega) (by omega) h1
      rw [show (if vl (a.take (k+1))=vl (b.take (k+1)) then k0 0 else k1 (cm (vl (a.take (k+1))) (vl (b.take (k+1)))))=k1 (-1) by rw [QG (by omega),Je this],QJ h1]
    . have:=V1 hb ha (k:=k) (by omega) (by omega) h1
      rw [show (if vl (a.take (k+1))=vl (b.take (k+1)) then k0 0 else k1 (cm (vl (a.take (k+1))) (vl (b.take (k+1)))))=k1 1 by rw [QG (by omega),Jf this],QG (by omega)]

theorem B7m {n:Nat} {a b:List Int} (ha:Cn a) (hb:Cn b) (hN:a.length<=1099511627776):f155 n a b=some (cm (vl a) (vl b)):=by
 unfold f155;rw [XD];by_cases h:a.length=b.length
 . rw [QG (by simp [h])]
   rw [show f205 n a=some a from rfl,A0,Axe,A3 (by simp;omega),Aza ha.1 hb.1 h a.length (QZ _)]
   rw [YI,h,YI];by_cases h1:vl a=vl b
   . rw [QJ h1,L4 h1]
   . rw [QG h1]
 . rw [QJ (by simp;omega),QK]
   rcases Nat.lt_or_gt_of_ne h with h1 | h1
   . rw [Je (ha.lt_of_len hb h1),QJ (by omega)]
   . rw [Jf (hb.lt_of_len ha h1),QG (by omega)]

theorem Ba (l:List Int) (k:Nat):vl (l.take (k+1))=vl (l.take k)+10000 ^ k*l.getD k 0:=by
 rcases ZT k l.length with h | h
 . exact C7 h
 . rw [YK (by omega),YK (by omega),QL,KV h]
   simp

theorem Bf {l:List Int} {k:Nat} (h:l.length<=k):l.getD k 0=0:=by
 rw [QL,KV h];rfl

theorem Cn.of_ge {l:List Int} (h:Lm l) (hg:l ≠ []->(10000:Int) ^ (l.length-1)<=vl l):Cn l:=by
 refine ⟨h,λhn e=>?_⟩;have hl:0<l.length:=XO.2 hn;have h1:=Ba l (l.length-1)
 rw [show l.length-1+1=l.length by omega,YI,e] at h1
 have h2:=Hr (h.take (l.length-1))
 rw [KI,Qae (by omega)] at h2
 have:=hg hn;omega

theorem Jt (l:List Int) {k:Nat} (h:l.length<=k):l.take k=l:=YK h

theorem Azs {α:Type} {n:Nat} {a b:List Int} (ha:Cn a) (hb:Cn b) (hN:a.length<=1099511627776) (hNb:b.length<=1099511627776) {k0:List Int->Option α}:∀ (m i:Nat) (c:Int) (o:List Int),o.length=i->Lm o->0<=c->c<=1 ->
  vl o+10000 ^ i*c=vl (a.take i)+vl (b.take i)->(i<=max a.length b.length \/ (i=max a.length b.length+1/\c=0/\o.getD (i-1) 0 ≠ 0))->max a.length b.length+2<=i+m ->
  Rn n m a b c (i:Int) o k0=k0 (dg (vl a+vl b).toNat)
 | 0,i,c,o,ho,hlo,hc0,hc1,hv,hq,hm=>by omega
 | m+1,i,c,o,ho,hlo,hc0,hc1,hv,hq,hm=>by
  rw [Avw];unfold A3o;dsimp only
  have fin:a.length<=i->b.length<=i->c=0->o=dg (vl a+vl b).toNat:=λh1 h2 h3=>by
   rw [Jt a h1,Jt b h2,h3] at hv
   have hv':vl o=vl a+vl b:=by simpa using hv
   have:Cn o:=Cn.of_ge hlo λhn=>by
    have hl:0<o.length:=XO.2 hn;rcases hq with hq | ⟨hq1,_,hq3⟩
    . have hmx:i=max a.length b.length:=by omega
      rw [ho,hv'];rcases Nat.le_total a.length b.length with hab | hab
      . have h4:=hb.ge (XO.1 (by omega))
        have h5:=B9 ha.1
        rw [show i-1=b.length-1 by omega];omega
      . have h4:=ha.ge (XO.1 (by omega))
        have h5:=B9 hb.1
        rw [show i-1=a.length-1 by omega];omega
    . have h1:=Ba o (o.length-1)
      rw [show o.length-1+1=o.length by omega,YI] at h1
      have h2:=B9 (hlo.take (o.length-1));have h3:=hlo.get (o.length-1);rw [<- ho] at hq3;have h4:=Fh (o.length-1)
      have h5:(10000:Int) ^ (o.length-1)*1<=10000 ^ (o.length-1)*o.getD (o.length-1) 0:=XG (by omega) (by omega)
      omega
   rw [<- hv',Qp this]
  have go:∀ (y:Int),y=c+a.getD i 0+b.getD i 0->(i<max a.length b.length \/ (i=max a.length b.length/\0<c))->Rn n m a b (W (Int.tdiv y 10000)) (W ((i:Int)+1)) (o++[Int.tmod y 10000]) k0=k0 (dg (vl a+vl b).toNat):=by
   intro y hy hi;have h1:=ha.1.get i;have h2:=hb.1.get i
   rw [tdv (by omega),tmd (by omega),Aa (by omega) (by omega),Aa (by omega) (by omega)]
   have ta:=Ba a i;have tb:=Ba b i
   have hyy:y=10000*(y / 10000)+y % 10000:=by omega
   refine Azs (n:=n) ha hb hN hNb m (i+1) _ _ (by simp [ho]) (hlo.app (Lm.cons (by omega) Lm.nil)) (by omega) (by omega) ?_ ?_ (by omega)
   . rw [R7,ho,ta,tb,Bw];generalize y / 10000=q at *;generalize y % 10000=r at *;generalize (10000:Int) ^ i=P at *;grind
   . rcases hi with hi | ⟨hi,hc⟩
     . exact .inl (by omega)
     . right
       have e1:a.getD i 0=0:=Bf (by omega)
       have e2:b.getD i 0=0:=Bf (by omega)
       have e3:y=1:=by omega
       subst e3
       refine ⟨by omega,by rfl,?_⟩
       rw [Qal,<- ho,QL];simp
  have hcases:(i<a.length \/ i<b.length \/ 0<c)->(i<max a.length b.length \/ (i=max a.length b.length/\0<c)):=λh=>by
   rcases h with h | h | h
   . exact .inl (by omega)
   . exact .inl (by omega)
   . rcases hq with hq | ⟨_,h0,_⟩
     . omega
     . omega
  have ho2:(decide ((o.length+1)*8<=140737488355328))=true:=by
   rw [QO];rcases hq with hq | ⟨hq,_⟩ <;> omega
  have h1:=ha.1.get i;have h2:=hb.1.get i;by_cases hA:i<a.length
  . have dA:decide ((i:Int)<(a.length:Int))=true:=by rw [QO];omega
    simp only [dA,ZJ,QP]
    rw [A3 (by simp;try omega),Aa (x:=c+a.getD i 0) (by omega) (by omega)]
    by_cases hB:i<b.length
    . have dB:decide ((i:Int)<(b.length:Int))=true:=by rw [QO];omega
      simp only [dB,ZJ]
      rw [A3 (by simp;try omega),A3 ho2,Aa (x:=c+a.getD i 0+b.getD i 0) (by omega) (by omega)]
      exact go _ rfl (hcases (.inl hA))
    . have dB:decide ((i:Int)<(b.length:Int))=false:=by rw [ZV];omega
      simp only [dB,QQ];rw [A3 ho2]
      exact go _ (by rw [Bf (l:=b) (by omega)];omega) (hcases (.inl hA))
  . have dA:decide ((i:Int)<(a.length:Int))=false:=by rw [ZV];omega
    simp only [dA,QQ,QP];by_cases hB:i<b.length
    . have dB:decide ((i:Int)<(b.length:Int))=true:=by rw [QO];omega
      simp only [dB,ZJ]
      rw [A3 (by simp;try omega),A3 ho2,Aa (x:=c+b.getD i 0) (by omega) (by omega)]
      exact go _ (by rw [Bf (l:=a) (by omega)];omega) (hcases (.inr (.inl hB)))
    . have dB:decide ((i:Int)<(b.length:Int))=false:=by rw [ZV];omega
      simp only [dB,QQ];rw [QK];by_cases hc:0<c
      . rw [QJ (by omega),A3 ho2]
        exact go _ (by rw [Bf (l:=a) (by omega),Bf (l:=b) (by omega)];omega) (hcases (.inr (.inr hc)))
      . rw [QG (by omega),fin (by omega) (by omega) (by omega)]

theorem B68 {n:Nat} {a b:List Int} (ha:Cn a) (hb:Cn b) (hN:a.length<=1099511627776) (hNb:b.length<=1099511627776) (hn:max a.length b.length+2<=n):f198 n a b=some (dg (vl a+vl b).toNat):=by
 unfold f198
 have:=Azs (n:=n) ha hb hN hNb (k0:=λz_6=>some z_6) n 0 0 [] rfl Lm.nil (by omega) (by omega) (by simp [vl]) (.inl (by omega)) (by omega)
 exact this

theorem Asy {α:Type} {n:Nat} {a b:List Int} (ha:Lm a) (hb:Lm b) (hN:a.length<=1099511627776) {k0:List Int->Option α}:∀ (m i:Nat) (c:Int) (o:List Int),o.length=i->Lm o->0<=c->c<=1->i<=a.length ->
  vl o-10000 ^ i*c=vl (a.take i)-vl (b.take i)->a.length+1<=i+m ->
  ∃ o' c',Nc n m a b c (i:Int) o k0=k0 o'/\o'.length=a.length/\Lm o'/\0<=c'/\c'<=1/\vl o'-10000 ^ a.length*c'=vl a-vl (b.take a.length)
 | 0,i,c,o,ho,hlo,hc0,hc1,hi,hv,hm=>by omega
 | m+1,i,c,o,ho,hlo,hc0,hc1,hi,hv,hm=>by
  rw [Avr];unfold A3i;dsimp only;by_cases hA:i<a.length
  . rw [QK,QJ (by omega),A3 (by simp;try omega)]
    have h1:=ha.get i;have h2:=hb.get i;have ta:=Ba a i;have tb:=Ba b i
    have ho2:(decide ((o.length+1)*8<=140737488355328))=true:=by
     rw [QO];omega
    have go:∀ y:Int,y=a.getD i 0-c-b.getD i 0->∃ o' c',Nc n m a b (if y<0 then 1 else 0) (W ((i:Int)+1)) (o++[W (y+W ((if y<0 then 1 else 0)*10000))]) k0=k0 o'/\o'.length=a.length/\Lm o'/\0<=c'/\c'<=1/\vl o'-10000 ^ a.length*c'=vl a-vl (b.take a.length):=by
     intro y hy
     obtain ⟨d,hd⟩:∃ d:Int,d=if y<0 then 1 else 0:=⟨_,rfl⟩
     have hd1:0<=d/\d<=1/\0<=y+d*10000/\y+d*10000<10000:=by
      rw [hd];split <;> omega
     rw [<- hd,Aa (x:=d*10000) (by omega) (by omega),Aa (x:=y+d*10000) (by omega) (by omega),Aa (x:=(i:Int)+1) (by omega) (by omega)]
     refine Asy (n:=n) ha hb hN m (i+1) d _ (by simp [ho]) (hlo.app (Lm.cons (by omega) Lm.nil)) (by omega) (by omega) (by omega) ?_ (by omega)
     rw [R7,ho,ta,tb,Bw];generalize (10000:Int) ^ i=P at *;grind
    simp only [QP];by_cases hB:i<b.length
    . have dB:decide ((i:Int)<(b.length:Int))=true:=by rw [QO];omega
      simp only [dB,ZJ]
      rw [A3 (by simp;try omega)]
      simp only [Aa (x:=a.getD i 0-c) (by omega) (by omega),Aa (x:=a.getD i 0-c-b.getD i 0) (by omega) (by omega)]
      rw [Nk,A0,A3 ho2];simp only [QO];exact go _ rfl
    . have dB:decide ((i:Int)<(b.length:Int))=false:=by rw [ZV];omega
      simp only [dB,QQ]
      simp only [Aa (x:=a.getD i 0-c) (by omega) (by omega)]
      rw [Nk,A0,A3 ho2];simp only [QO]
      exact go _ (by rw [Bf (l:=b) (by omega)];omega)
  . rw [QK,QG (by omega)]
    obtain rfl:i=a.length:=by omega
    rw [YI] at hv;exact ⟨o,c,rfl,ho,hlo,hc0,hc1,hv⟩

theorem B64 {n:Nat} {a b:List Int} (ha:Cn a) (hb:Cn b) (hN:a.length<=1099511627776) (hn:a.length+1<=n) (hab:vl b<=vl a):f200 n a b=some (dg (vl a-vl b).toNat):=by
 have hl:b.length<=a.length:=by
  rcases ZT a.length b.length with h | h
  . have:=ha.lt_of_len hb h;omega
  . exact h
 unfold f200
 obtain ⟨o,c,h1,h2,h3,h4,h5,h6⟩:=Asy (n:=n) ha.1 hb.1 hN (k0:=λz_4=>ob (f216 n z_4) λr_5=>some r_5) n 0 0 [] rfl Lm.nil (by omega) (by omega) (by omega) (by simp [vl]) (by omega)
 have h1:Nc n n a b 0 0 [] (λz_4=>ob (f216 n z_4) λr_5=>some r_5)=_:=h1
 rw [h1,A06 h3 (by omega) (by omega),A0]
 rw [Jt b hl] at h6;have h7:=Hr h3;rw [h2] at h7
 have:c=0:=by
  rcases Int.lt_or_eq_of_le h4 with h | h
  . have:c=1:=by omega
    rw [this] at h6;omega
  . exact h.symm
 rw [this] at h6
 rw [show vl o=vl a-vl b by simpa using h6]

theorem N7 {l:List Int} {k:Nat} (h:k<l.length):vl (l.drop k)=l.getD k 0+10000*vl (l.drop (k+1)):=by
 rw [XQ h,vl,QL,QM h];rfl

theorem Afp {P o ok y q r c ai bk v' T:Int} (h:o+P*(c+ai*(bk+10000*v'))=T) (hy:y=ok+c+ai*bk) (hq:y=10000*q+r):o+P*(r-ok)+10000*P*(q+ai*v')=T:=by
 grind

theorem A2k {x y:Int} (hx:0<=x/\x<10000) (hy:0<=y/\y<10000):0<=x*y/\x*y<=99980001:=by
 have h1:=Int.mul_nonneg hx.1 hy.1
 have h2:x*y<=9999*y:=Int.mul_le_mul_of_nonneg_right (by omega) hy.1
 omega

theorem Atq {α:Type} {n:Nat} {a b:List Int} (ha:Lm a) (hb:Lm b) (i:Nat) (hi:i<a.length) {S:Nat} (hS:a.length+b.length<S) (hN:S<=1099511627776) {T:Int} (hT:T<10000 ^ S) {k0:List Int->List Int->Int->List Int->Option α} :
  ∀ (m k:Nat) (c:Int) (o:List Int),Lm o->o.length=S->0<=c->c<10000->i+k<=S->vl o+10000 ^ (i+k)*(c+a.getD i 0*vl (b.drop k))=T->S+1<=i+k+m ->
  ∃ o',Lm o'/\o'.length=S/\vl o'=T/\Ng n m a b (i:Int) c (k:Int) o k0=k0 a b (i:Int) o'
 | 0,k,c,o,hlo,ho,hc0,hc1,hik,hv,hm=>by omega
 | m+1,k,c,o,hlo,ho,hc0,hc1,hik,hv,hm=>by
  rw [Avz];unfold A3r;dsimp only;have h1:=ha.get i;have h2:=hb.get k;have h3:=hlo.get (i+k);have h4:=A2k h1 h2;have hvo:=B9 hlo
  have go:∀ y:Int,i+k<S->(k<b.length \/ b.length<=k)->y=o.getD (i+k) 0+c+a.getD i 0*b.getD k 0 ->
    ∃ o',Lm o'/\o'.length=S/\vl o'=T/\Ng n m a b (i:Int) (W (Int.tdiv y 10000)) (W ((k:Int)+1)) (o.set (i+k) (Int.tmod y 10000)) k0=k0 a b (i:Int) o':=by
   intro y hlt hk hy
   rw [tdv (by omega),tmd (by omega),Aa (by omega) (by omega),Aa (by omega) (by omega)]
   refine Atq (n:=n) ha hb i hi hS hN hT m (k+1) _ _ (hlo.set _ (by omega)) (by simpa using ho) (by omega) (by omega) (by omega) ?_ (by omega)
   rw [L6 _ (by omega),show i+(k+1)=(i+k)+1 by omega,Bw]
   have hyy:y=10000*(y / 10000)+y % 10000:=by omega
   refine Afp (bk:=b.getD k 0) ?_ hy hyy;rcases hk with hk | hk
   . rw [<- N7 hk];exact hv
   . rw [QW (by omega)] at hv ⊢
     rw [Bf hk];simpa [vl] using hv
  by_cases hB:k<b.length
  . have dB:decide ((k:Int)<(b.length:Int))=true:=by rw [QO];omega
    simp only [dB,ZJ,QP]
    rw [Aa (x:=(i:Int)+(k:Int)) (by omega) (by omega)]
    have e:((i:Int)+(k:Int)).toNat=i+k:=by omega
    simp only [e]
    rw [A3 (by simp;try omega),A3 (by simp;try omega),A3 (by simp;try omega),A3 (by simp;try omega),Aa (x:=a.getD i 0*b.getD k 0) (by omega) (by omega),Aa (x:=o.getD (i+k) 0+c) (by omega) (by omega),Aa (x:=o.getD (i+k) 0+c+a.getD i 0*b.getD k 0) (by omega) (by omega),A3 (by simp;try omega),A3 (by simp;try omega)]
    exact go _ (by omega) (.inl hB) rfl
  . have dB:decide ((k:Int)<(b.length:Int))=false:=by rw [ZV];omega
    simp only [dB,QQ];rw [QK]
    rw [QW (by omega)] at hv
    by_cases hc:0<c
    . have hlt : i + k < S := by
       refine Apf ?_
       have h5:(10000:Int) ^ (i+k)*1<=10000 ^ (i+k)*c:=XG (by omega) (by have:=Fh (i+k);omega)
       simp only [vl,Qam,Qbg] at hv;omega
      rw [QJ (by omega),Aa (x:=(i:Int)+(k:Int)) (by omega) (by omega)]
      have e:((i:Int)+(k:Int)).toNat=i+k:=by omega
      simp only [e]
      rw [A3 (by simp;try omega),A3 (by simp;try omega),A3 (by simp;try omega),A3 (by simp;try omega),Aa (x:=o.getD (i+k) 0+c) (by omega) (by omega)]
      exact go _ hlt (.inr (by omega)) (by rw [Bf (l:=b) (by omega)];omega)
    . rw [QG (by omega)]
      obtain rfl:c=0:=by omega
      exact ⟨o,hlo,ho,by simpa [vl] using hv,rfl⟩

theorem Atp {a b:List Int} (ha:Lm a) (hb:Lm b) {i S:Nat} (hS:i+b.length<=S):vl (a.take i)*vl b<10000 ^ S:=by
 have h1:=Hr (ha.take i);have h2:=Hr hb;have h3:=B9 (ha.take i);have h4:=B9 hb
 have h5:(10000:Int) ^ (a.take i).length<=10000 ^ i:=Zj (by simp;omega)
 have h6:=Fh i;have h7:=Fh b.length
 have h8:vl (a.take i)*vl b<=vl (a.take i)*10000 ^ b.length:=XG (by omega) h3
 have h9:vl (a.take i)*10000 ^ b.length<10000 ^ i*10000 ^ b.length:=Int.mul_lt_mul_of_pos_right (by omega) h7
 rw [<- Int.pow_add] at h9;have h10:(10000:Int) ^ (i+b.length)<=10000 ^ S:=Zj hS;omega

theorem Am8 {α:Type} {n:Nat} {a b:List Int} (ha:Lm a) (hb:Lm b) {S:Nat} (hS:a.length+b.length<S) (hN:S<=1099511627776) (hn:S+1<=n) {k0:List Int->Option α} :
  ∀ (m i:Nat) (o:List Int),Lm o->o.length=S->i<=a.length->vl o=vl (a.take i)*vl b->a.length+1<=i+m ->
  ∃ o',Lm o'/\o'.length=S/\vl o'=vl a*vl b/\Nh n m a b (i:Int) o k0=k0 o'
 | 0,i,o,hlo,ho,hi,hv,hm=>by omega
 | m+1,i,o,hlo,ho,hi,hv,hm=>by
  rw [Aw1];unfold A3u;dsimp only;rw [QK];by_cases hA:i<a.length
  . rw [QJ (by omega)]
    have hT:vl (a.take (i+1))*vl b<10000 ^ S:=Atp ha hb (by omega)
    obtain ⟨o',q1,q2,q3,q4⟩:=Atq (n:=n) ha hb i hA hS hN hT (k0:=λz_1 z_2 z_3 z_4=>Nh n m z_1 z_2 (W (z_3+1)) z_4 k0) n 0 0 o hlo ho (by omega) (by omega) (by omega) (by
     rw [hv,Ba,ZQ,KB];generalize (10000:Int) ^ i=P
     grind) (by omega)
    have q4:Ng n n a b (i:Int) 0 0 o _=_:=q4
    rw [q4,Aa (by omega) (by omega)]
    exact Am8 (n:=n) ha hb hS hN hn m (i+1) o' q1 q2 (by omega) q3 (by omega)
  . rw [QG (by omega)]
    obtain rfl:i=a.length:=by omega
    rw [YI] at hv;exact ⟨o,hlo,ho,hv,rfl⟩

theorem B6b {n:Nat} {a b:List Int} (ha:Lm a) (hb:Lm b) (hN:a.length+b.length<=1099511627770) (hn:a.length+b.length+2<=n):f196 n a b=some (dg (vl a*vl b).toNat):=by
 unfold f196
 rw [Aa (x:=(a.length:Int)+(b.length:Int)) (by omega) (by omega),Aa (x:=(a.length:Int)+(b.length:Int)+1) (by omega) (by omega),A3 (by simp;try omega)]
 have e:((a.length:Int)+(b.length:Int)+1).toNat=a.length+b.length+1:=by omega
 rw [e]
 obtain ⟨o,q1,q2,q3,q4⟩:=Am8 (n:=n) ha hb (S:=a.length+b.length+1) (by omega) (by omega) (by omega) (k0:=λz_5=>ob (f216 n z_5) λr_6=>some r_6) n 0 (List.replicate (a.length+b.length+1) 0) (Lm.rep _) (by simp) (by omega) (by rw [Wd];simp [vl]) (by omega)
 have q4:Nh n n a b 0 _ _=_:=q4
 rw [q4,A06 q1 (by omega) (by omega),A0,q3]

theorem Atr {α:Type} {n:Nat} {a b:List Int} (ha:Lm a) (hb:Lm b) (i:Nat) (hi:i<a.length) {S:Nat} (hS:a.length+b.length<=S) (hN:S<=1099511627776) {T:Int} (hT:T<10000 ^ S) (q1:List Int) (q2 q3:Int) {k0:List Int->List Int->Int->Int->List Int->Option α} :
  ∀ (m k:Nat) (c:Int) (o:List Int),Lm o->o.length=S->0<=c->c<10000->i+k<=S->vl o+10000 ^ (i+k)*(c+a.getD i 0*vl (b.drop k))=T->S+1<=i+k+m ->
  ∃ o',Lm o'/\o'.length=S/\vl o'=T/\Nn n m b (i:Int) (a.getD i 0) c (k:Int) q1 q2 q3 o k0=k0 b q1 q2 q3 o'
 | 0,k,c,o,hlo,ho,hc0,hc1,hik,hv,hm=>by omega
 | m+1,k,c,o,hlo,ho,hc0,hc1,hik,hv,hm=>by
  rw [Axl];unfold A4q;dsimp only;have h1:=ha.get i;have h2:=hb.get k;have h3:=hlo.get (i+k);have h4:=A2k h1 h2;have hvo:=B9 hlo
  have go:∀ y:Int,i+k<S->(k<b.length \/ b.length<=k)->y=o.getD (i+k) 0+c+a.getD i 0*b.getD k 0 ->
    ∃ o',Lm o'/\o'.length=S/\vl o'=T/\Nn n m b (i:Int) (a.getD i 0) (W (Int.tdiv y 10000)) (W ((k:Int)+1)) q1 q2 q3 (o.set (i+k) (Int.tmod y 10000)) k0=k0 b q1 q2 q3 o':=by
   intro y hlt hk hy
   rw [tdv (by omega),tmd (by omega),Aa (by omega) (by omega),Aa (by omega) (by omega)]
   refine Atr (n:=n) ha hb i hi hS hN hT q1 q2 q3 m (k+1) _ _ (hlo.set _ (by omega)) (by simpa using ho) (by omega) (by omega) (by omega) ?_ (by omega)
   rw [L6 _ (by omega),show i+(k+1)=(i+k)+1 by omega,Bw]
   have hyy:y=10000*(y / 10000)+y % 10000:=by omega
   refine Afp (bk:=b.getD k 0) ?_ hy hyy;rcases hk with hk | hk
   . rw [<- N7 hk];exact hv
   . rw [QW (by omega)] at hv ⊢
     rw [Bf hk];simpa [vl] using hv
  by_cases hB:k<b.length
  . have dB:decide ((k:Int)<(b.length:Int))=true:=by rw [QO];omega
    simp only [dB,ZJ,QP]
    rw [Aa (x:=(i:Int)+(k:Int)) (by omega) (by omega)]
    have e:((i:Int)+(k:Int)).toNat=i+k:=by omega
    simp only [e]
    rw [A3 (by simp;try omega),Aa (x:=a.getD i 0*b.getD k 0) (by omega) (by omega),Aa (x:=c+a.getD i 0*b.getD k 0) (by omega) (by omega),A3 (by simp;try omega),A3 (by simp;try omega),A3 (by simp;try omega),A3 (by simp;try omega),Aa (x:=c+a.getD i 0*b.getD k 0+o.getD (i+k) 0) (by omega) (by omega)]
    exact go _ (by omega) (.inl hB) (by omega)
  . have dB:decide ((k:Int)<(b.length:Int))=false:=by rw [ZV];omega
    simp only [dB,QQ];rw [QK]
    rw [QW (by omega)] at hv
    by_cases hc:0<c
    . have hlt : i + k < S := by
       refine Apf ?_
       have h5:(10000:Int) ^ (i+k)*1<=10000 ^ (i+k)*c:=XG (by omega) (by have:=Fh (i+k);omega)
       simp only [vl,Qam,Qbg] at hv;omega
      rw [QJ (by omega),Aa (x:=(i:Int)+(k:Int)) (by omega) (by omega)]
      have e:((i:Int)+(k:Int)).toNat=i+k:=by omega
      simp only [e]
      rw [A3 (by simp;try omega),A3 (by simp;try omega),A3 (by simp;try omega),A3 (by simp;try omega),Aa (x:=c+o.getD (i+k) 0) (by omega) (by omega)]
      exact go _ hlt (.inr (by omega)) (by rw [Bf (l:=b) (by omega)];omega)
    . rw [QG (by omega)]
      obtain rfl:c=0:=by omega
      exact ⟨o,hlo,ho,by simpa [vl] using hv,rfl⟩

theorem Am9 {α:Type} {n:Nat} {a b:List Int} (ha:Lm a) (hb:Lm b) {S:Nat} (hS:a.length+b.length<=S) (hN:S<=1099511627776) (hn:S+1<=n) {k0:List Int->Option α} :
  ∀ (m i:Nat) (o:List Int),Lm o->o.length=S->i<=a.length->vl o=vl (a.take i)*vl b->a.length+1<=i+m ->
  ∃ o',Lm o'/\o'.length=S/\vl o'=vl a*vl b/\No n m b a (a.length:Int) (i:Int) o k0=k0 o'
 | 0,i,o,hlo,ho,hi,hv,hm=>by omega
 | m+1,i,o,hlo,ho,hi,hv,hm=>by
  rw [Axn];unfold A4t;dsimp only;rw [QK];by_cases hA:i<a.length
  . rw [QJ (by omega),A3 (by simp;try omega)]
    simp only [QP]
    have hT:vl (a.take (i+1))*vl b<10000 ^ S:=Atp ha hb (by omega)
    obtain ⟨o',q1,q2,q3,q4⟩:=Atr (n:=n) ha hb i hA hS hN hT a (a.length:Int) (i:Int) (k0:=λz_1 z_2 z_3 z_4 z_5=>No n m z_1 z_2 z_3 (W (z_4+1)) z_5 k0) n 0 0 o hlo ho (by omega) (by omega) (by omega) (by
     rw [hv,Ba,ZQ,KB];generalize (10000:Int) ^ i=P
     grind) (by omega)
    have q4:Nn n n b (i:Int) (a.getD i 0) 0 0 a (a.length:Int) (i:Int) o _=_:=q4
    rw [q4,Aa (by omega) (by omega)]
    exact Am9 (n:=n) ha hb hS hN hn m (i+1) o' q1 q2 (by omega) q3 (by omega)
  . rw [QG (by omega)]
    obtain rfl:i=a.length:=by omega
    rw [YI] at hv;exact ⟨o,hlo,ho,hv,rfl⟩

theorem B7s {n:Nat} {a b:List Int} (ha:Lm a) (hb:Lm b) (hN:a.length+b.length<=1099511627770) (hn:a.length+b.length+2<=n):f152 n a b=some (dg (vl a*vl b).toNat):=by
 unfold f152
 rw [Aa (x:=(a.length:Int)+(b.length:Int)) (by omega) (by omega),A3 (by simp;try omega)]
 have e:((a.length:Int)+(b.length:Int)).toNat=a.length+b.length:=by omega
 rw [e]
 obtain ⟨o,q1,q2,q3,q4⟩:=Am9 (n:=n) ha hb (S:=a.length+b.length) (by omega) (by omega) (by omega) (k0:=λz_5=>ob (f202 n z_5) λr_6=>some r_6) n 0 (List.replicate (a.length+b.length) 0) (Lm.rep _) (by simp) (by omega) (by rw [Wd];simp [vl]) (by omega)
 have q4:No n n b a (a.length:Int) 0 _ _=_:=q4
 rw [q4,Rm q1 (by omega) (by omega),A0,q3]

theorem pwc (k:Nat):((10000 ^ k:Nat):Int)=(10000:Int) ^ k:=by rw [Int.natCast_pow];rfl

theorem B9l (Q:Nat):((10000*Q:Nat):Int)=10000*(Q:Int):=by omega

theorem A6g (Q q:Nat):((10000*Q+q:Nat):Int)=10000*(Q:Int)+q:=by omega

theorem Ae9 (Q q:Nat):((q+10000*Q:Nat):Int)=q+10000*(Q:Int):=by omega

theorem D7 {n k:Nat} (h:n<10000 ^ k):(dg n).length<=k:=Se.2 (by rw [<- pwc];omega)

theorem A6j (n:Nat):n<10000 ^ (dg n).length:=by
 have:=Se.1 (QZ (dg n).length);rw [<- pwc] at this;omega

theorem Id {n k:Nat} (h:(dg n).length<=k):n<10000 ^ k:=by
 have:=Se.1 h;rw [<- pwc] at this;omega

theorem B4 (a b:Nat):(dg (a*b)).length<=(dg a).length+(dg b).length:=by
 refine D7 ?_;rw [Nat.pow_add];exact Nat.mul_lt_mul'' (A6j a) (A6j b)

theorem Zo (a b:Nat):(dg (a+b)).length<=max (dg a).length (dg b).length+1:=by
 refine D7 ?_
 have h1:a<10000 ^ max (dg a).length (dg b).length:=Id (by omega)
 have h2:b<10000 ^ max (dg a).length (dg b).length:=Id (by omega)
 rw [YG];omega

theorem A9e {a:Nat} (h:a<10000):(dg a).length<=1:=D7 (by simpa using h)

theorem B51 (a:Nat) (x:Nat) (h:x<10000):(dg (x+10000*a)).length<=(dg a).length+1:=by
 refine D7 ?_;have:=A6j a;rw [YG];omega

theorem Ae4 {n a b:Nat} (h:(dg a).length<=1099511627776) (hn:(dg a).length<n):f199 n (dg a) (dg b)=some (cm a b):=by
 rw [B66 (G4 a) (G4 b) h hn,Bd,Bd]

theorem Mj {n a b:Nat} (h:(dg a).length+(dg b).length<=1099511627770) (hn:(dg a).length+(dg b).length+2<=n):f196 n (dg a) (dg b)=some (dg (a*b)):=by
 rw [B6b (Dt a) (Dt b) h hn,Bd,Bd];congr 1

theorem Be3 {n a b:Nat} (h:(dg a).length<=1099511627776) (h':(dg b).length<=1099511627776) (hn:max (dg a).length (dg b).length+2<=n):f198 n (dg a) (dg b)=some (dg (a+b)):=by
 rw [B68 (G4 a) (G4 b) h h' hn,Bd,Bd];congr 1

theorem Ap8 {n a b:Nat} (h:(dg a).length<=1099511627776) (hn:(dg a).length+1<=n) (hab:b<=a):f200 n (dg a) (dg b)=some (dg (a-b)):=by
 rw [B64 (G4 a) (G4 b) h hn (by rw [Bd,Bd];omega),Bd,Bd]
 congr 2;omega

theorem Mp {n a b:Nat} (h:(dg a).length+(dg b).length<=1099511627770) (hn:(dg a).length+(dg b).length+2<=n):f152 n (dg a) (dg b)=some (dg (a*b)):=by
 rw [B7s (Dt a) (Dt b) h hn,Bd,Bd];congr 1

theorem Aeb {n a b:Nat} (h:(dg a).length<=1099511627776):f155 n (dg a) (dg b)=some (cm a b):=by
 rw [B7m (G4 a) (G4 b) h,Bd,Bd]

theorem Ajt {α:Type} {n B R:Nat} (hBl:(dg B).length<=1099511627700) (hn:(dg B).length+20<=n) (s0:List Int) (s8:Int) (b14:List Int) {k0:List Int->List Int->List Int->Int->Int->List Int->Option α} :
  ∀ (m lo hi:Nat),lo<hi->hi<=10000->lo*B<=R->R<hi*B->hi<=lo+m ->
  Og n m s0 (dg B) (dg R) s8 (lo:Int) (hi:Int) b14 k0=k0 s0 (dg B) (dg R) s8 ((R / B:Nat):Int) b14
 | 0,lo,hi,h1,h2,h3,h4,h5=>by omega
 | m+1,lo,hi,h1,h2,h3,h4,h5=>by
  rw [Aqh];unfold Xy;dsimp only
  rw [Aa (x:=(hi:Int)-(lo:Int)) (by omega) (by omega),Aa (x:=(lo:Int)+(hi:Int)) (by omega) (by omega)]
  have e:Int.tdiv ((lo:Int)+(hi:Int)) 2=(((lo+hi) / 2:Nat):Int):=by
   rw [YQ (by omega)];omega
  rw [e,Aa (x:=(((lo+hi) / 2:Nat):Int)) (by omega) (by omega)]
  generalize hmid:(lo+hi) / 2=mid;by_cases hc:lo+1<hi
  . rw [QK,QJ (by omega),Ni (by omega) (by omega),A0]
    have hl:=A9e (a:=mid) (by omega)
    have hm:=B4 B mid
    rw [Mj (by omega) (by omega),A0,Ae4 (by omega) (by omega),A0,QK]
    by_cases hle:B*mid<=R
    . have : cm ((B * mid : Nat) : Int) (R : Int) <= 0 := by
       rcases JK hle with h | h
       . rw [Je (by omega)];omega
       . rw [L4 (by omega)];omega
      rw [QJ this]
      exact Ajt hBl hn s0 s8 b14 m mid hi (by omega) h2 (by rw [KC];exact hle) h4 (by omega)
    . have : ¬ cm ((B * mid : Nat) : Int) (R : Int) <= 0 := by
       rw [Jf (by omega)];omega
      rw [QG this]
      exact Ajt hBl hn s0 s8 b14 m lo mid (by omega) (by omega) h3 (by rw [KC];omega) (by omega)
  . rw [QK,QG (by omega)]
    obtain rfl:hi=lo+1:=by omega
    have:R / B=lo:=by
     rw [Nat.div_eq_iff (XB (by rintro rfl;simp at h4))]
     rw [YO] at h4;omega
    rw [this]

theorem Ajf {α:Type} {n L A B:Nat} (hB:0<B) (hA:(dg A).length<=L) (hBl:(dg B).length<=L) (hL:L<=1099511627000) (hn:L+10040<=n) {k0:List Int->List Int->Option α} :
  ∀ (k m Q R:Nat) (o:List Int),k<m->k<=(dg A).length->R<B->o.length=(dg A).length->Lm o->(∀ i,i<k->o.getD i 0=0)->vl o=10000 ^ k*(Q:Int)->(Q:Int)*B+R=vl ((dg A).drop k) ->
  ∃ o',Lm o'/\o'.length=(dg A).length/\vl o'=((A / B:Nat):Int)/\Rj n m (dg A) (dg B) (dg R) ((k:Int)-1) o k0=k0 (dg (A % B)) o'
 | _,0,_,_,_,h1,_,_,_,_,_,_,_=>by omega
 | 0,m+1,Q,R,o,h1,h2,h3,h4,h5,h6,h7,h8=>by
  rw [Ac3];unfold Tl;dsimp only
  rw [QK,QG (by omega)]
  rw [ZQ,Bd] at h8
  have h8:Q*B+R=A:=by
   have:((Q*B+R:Nat):Int)=A:=by rw [JL,YC];exact h8
   omega
  have h9:A / B=Q:=by rw [<- h8,Nat.add_comm,Qaz _ _ hB,JD h3,YM]
  have h10:A % B=R:=by rw [<- h8,Qaa,KO h3]
  exact ⟨o,h5,h4,by rw [h7,h9];simp,by rw [h10]⟩
 | k+1,m+1,Q,R,o,h1,h2,h3,h4,h5,h6,h7,h8=>by
  rw [Ac3];unfold Tl;dsimp only
  rw [QK,QJ (by omega)]
  rw [show (((k+1:Nat):Int)-1)=(k:Int) by omega]
  simp only [QP];have hg:=(Dt A).get k
  obtain ⟨x,hx⟩:∃ x:Nat,(dg A).getD k 0=(x:Int):=⟨((dg A).getD k 0).toNat,by omega⟩
  have hlR:(dg R).length<=L:=ZL (B8 (by omega)) hBl
  have hlRx:=B51 R x (by omega)
  have hRx:vl ((dg A).drop k)=(x:Int)+10000*((Q:Int)*B+R):=by
   rw [N7 (by omega),hx,<- h8]
  have hR':x+10000*R<10000*B:=by omega
  rw [hx,A3 (by simp;try omega),A3 (by simp;try omega),A06 (Lm.app (Lm.cons (by omega) Lm.nil) (Dt R)) (by simp;omega) (by simp;omega),A0]
  have e1:(vl ([(x:Int)]++dg R)).toNat=x+10000*R:=by
   rw [YD,JJ,vl,Bd];omega
  rw [e1,Ae4 (by omega) (by omega),A0,Aa (x:=(k:Int)-1) (by omega) (by omega),QK]
  by_cases hlt:x+10000*R<B
  . rw [QJ (by rw [Je (by omega)];omega)]
    refine Ajf hB hA hBl hL hn k m (10000*Q) (x+10000*R) o (by omega) (by omega) hlt h4 h5 (λi hi=>h6 i (by omega)) ?_ ?_
    . rw [h7,Bw,B9l];grind
    . rw [hRx,B9l,Ae9];grind
  . rw [QG (by
     rcases JK (Nat.le_of_not_lt hlt) with h | h
     . rw [Jf (by omega)];omega
     . rw [L4 (by omega)];omega)]
    have hbis := Ajt (n := n) (B := B) (R := x + 10000 * R) (by omega) (by omega) (dg A) (k : Int) o (k0 := fun z_3 z_4 z_5 z_6 z_7 z_8 => (
            gd (decide (0<=z_6)&&decide (z_6<(z_8.length:Int))) (
             gd (decide (z_6.toNat<z_8.length)) (
              ob (f194 n z_7) λr_9 =>
              ob (f196 n z_4 r_9) λr_10 =>
              ob (f200 n z_5 r_10) λr_11 =>
              Rj n m z_3 z_4 r_11 (W (z_6-1)) (z_8.set z_6.toNat z_7) k0)))) n 0 10000 (by omega) (by omega) (by omega) hR' (by omega)
    have hbis:Og n n (dg A) (dg B) (dg (x+10000*R)) (k:Int) 0 10000 o _=_:=hbis;rw [hbis];simp only [QP]
    have hq:(x+10000*R) / B<10000:=by
     rw [KZ hB];omega
    have hqr:=Qai (x+10000*R) B;have hqm:=KK (x+10000*R) hB;generalize hqq:(x+10000*R) / B=q at *;generalize hrr:(x+10000*R) % B=r at *;have hl1:=A9e hq;have hl2:=B4 B q
    rw [A3 (by simp;try omega),A3 (by simp;try omega),Ni (by omega) (by omega),A0,Mj (by omega) (by omega),A0,Ap8 (by omega) (by omega) (by omega),A0,Aa (x:=(k:Int)-1) (by omega) (by omega),show x+10000*R-B*q=r by omega]
    refine Ajf hB hA hBl hL hn k m (10000*Q+q) r _ (by omega) (by omega) hqm (by simpa using h4) (h5.set _ (by omega)) (λi hi=>?_) ?_ ?_
    . rw [QL,Qbc (by omega),<- QL]
      exact h6 i (by omega)
    . rw [L6 _ (by omega),h7,h6 k (by omega),Bw,A6g]
      generalize (10000:Int) ^ k=P;grind
    . rw [hRx]
      have:(B:Int)*q+r=x+10000*R:=by
       rw [<- Ae9,<- hqr,JL,YC]
      rw [A6g];grind

theorem Ap9 {n L A B:Nat} (hB:0<B) (hA:(dg A).length<=L) (hBl:(dg B).length<=L) (hL:L<=1099511627000) (hn:L+10040<=n):f217 n (dg A) (dg B)=some (dg (A / B),dg (A % B)):=by
 unfold f217
 rw [A3 (by simp;try omega),Aa (x:=((dg A).length:Int)-1) (by omega) (by omega)]
 simp only [QP]
 obtain ⟨o, h1, h2, h3, h4⟩ := Ajf (n := n) hB hA hBl hL hn (k0 := fun z_12 z_13 => (
       ob (f216 n z_13) λr_14 =>
       some (r_14,z_12))) (dg A).length n 0 0 (List.replicate (dg A).length 0) (by omega) (QZ _) hB (by simp) (Lm.rep _) (λi hi=>by simp [QL,XK,hi]) (by rw [Wd];simp) (by simp [vl])
 rw [By] at h4
 rw [h4,A06 h1 (by omega) (by omega),A0,h3]
 rfl

theorem Agb {a b:Nat} (hb:0<b) (hr:0<a % b) {j:Nat} (h:b<2 ^ (j+1)):b % (a % b)<2 ^ j:=by
 have h1:=KK a hb;have h2:=KK b hr;have h3:=Qai b (a % b);generalize a % b=r at *
 have h4:1<=b / r:=by rw [Nat.le_div_iff_mul_le hr];omega
 have h5:r*1<=r*(b / r):=XS r h4;rw [YG] at h;omega

theorem Ba3 {α:Type} {n L:Nat} (hL:L<=1099511627000) (hn:L+10040<=n) {k0:List Int->Option α} :
  ∀ (j m a b:Nat),b<2 ^ j->2*j+1<=m->(dg a).length<=L->(dg b).length<=L->K8 n m (dg a) (dg b) k0=k0 (dg (Nat.gcd b a)):=by
 have stop:∀ (m a:Nat),0<m->K8 n m (dg a) (dg 0) k0=k0 (dg (Nat.gcd 0 a)):=λm a hm=>by
  obtain ⟨m,rfl⟩:∃ m',m=m'+1:=⟨m-1,by omega⟩
  rw [Ac6,Qaw,By];rfl
 have step:∀ (m a b:Nat),0<b->(dg a).length<=L->(dg b).length<=L->K8 n (m+1) (dg a) (dg b) k0=K8 n m (dg b) (dg (a % b)) k0:=λm a b hb ha hbl=>by
  rw [Ac6];unfold A31
  have:0<(dg b).length:=by rw [Dk (by omega)];simp
  rw [QK,QJ (by omega),Ap9 hb ha hbl hL hn,A0]
 intro j
 induction j with
 | zero =>
  intro m a b h1 h2 h3 h4
  obtain rfl:b=0:=by simpa using h1
  exact stop m a (by omega)
 | succ j ih =>
  intro m a b h1 h2 h3 h4;rcases YV b with rfl | hb
  . exact stop m a (by omega)
  obtain ⟨m,rfl⟩:∃ m',m=m'+2:=⟨m-2,by omega⟩
  have h5:(dg (a % b)).length<=L:=ZL (B8 (Nat.le_of_lt (KK a hb))) h4;rw [step _ _ _ hb h3 h4,Nat.gcd_rec b a];rcases YV (a % b) with hr | hr
  . rw [hr];exact stop _ _ (by omega)
  have h6:(dg (b % (a % b))).length<=L:=ZL (B8 (Nat.le_of_lt (KK b hr))) h5;rw [step _ _ _ hr h4 h5,Nat.gcd_rec (a % b) b]
  exact ih m _ _ (Agb hb hr h1) (by omega) h5 h6

theorem Am2 {b L:Nat} (h:b<10000 ^ L):b<2 ^ (14*L):=by
 rw [Nat.pow_mul]
 exact ZU h (Nat.pow_le_pow_left (by decide) L)

theorem B3l {n L a b:Nat} (hL:L<=1099511627000) (hn:28*L+10040<=n) (ha:(dg a).length<=L) (hb:(dg b).length<=L):f213 n (dg a) (dg b)=some (dg (Nat.gcd a b)):=by
 unfold f213
 have h1:(dg (Nat.gcd b a)).length<=L:=by
  rcases YV b with rfl | h
  . rw [Qaw];exact ha
  . exact ZL (B8 (Nat.gcd_le_left a h)) hb
 rw [Ba3 hL (by omega) (14*L) n a b (Am2 (Id hb)) (by omega) ha hb,A3 (by simp;try omega),Nat.gcd_comm]

theorem Re {pre w post:List Int} {i:Nat} (h:i<w.length):(pre++w++post).getD (pre.length+i) 0=w.getD i 0:=by
 rw [ZP,QL,ZC (by omega),KN,ZB h,<- QL]

theorem Ama {pre w post:List Int} {i:Nat} (h:i<w.length) (x:Int):(pre++w++post).set (pre.length+i) x=pre++w.set i x++post:=by
 rw [ZP,List.set_append_right _ _ (by omega),KN,List.set_append_left _ _ h,ZP]

theorem Azh {y:Int} (h:y<0) (h':-1099511627776<y):W (Int.tdiv (W (W (y-10000)+1)) 10000)=y / 10000:=by
 rw [Aa (x:=y-10000) (by omega) (by omega),Aa (x:=y-10000+1) (by omega) (by omega)]
 have:Int.tdiv (y-10000+1) 10000=y / 10000:=by
  rw [show y-10000+1 = -(9999-y) by omega,Int.neg_tdiv,YQ (by omega)]
  omega
 rw [this,Aa (by omega) (by omega)]

theorem B03 {o P q c wi bi v' T y d r:Int} (h:o+P*(c-q*(bi+10000*v'))=T) (hy:y=wi+c-q*bi) (hd:y=10000*d+r):o+P*(r-wi)+10000*P*(d-q*v')=T:=by
 grind

theorem Ati {o P c wi bi v' T y d r:Int} (h:o+P*(c+(bi+10000*v'))=T) (hy:y=wi+c+bi) (hd:y=10000*d+r):o+P*(r-wi)+10000*P*(d+v')=T:=by
 grind

theorem A2a {l:List Int} (k:Nat):vl (l.drop k)=l.getD k 0+10000*vl (l.drop (k+1)):=by
 rcases ZT k l.length with h | h
 . exact N7 h
 . rw [QW h,QW (by omega),Bf h];rfl

theorem Asx {α:Type} {n N:Nat} {b pre post:List Int} (hb:Lm b) (hbN:b.length=N) (hN:pre.length+N+1+post.length<=1099511627776) {q:Int} (hq:0<=q/\q<10000) {T:Int} {k0:Nat->Nat->List Int->Int->Int->Int->List Int->Option α} :
  ∀ (m i:Nat) (c:Int) (w:List Int),Lm w->w.length=N+1->-9999<=c->c<=0->i<=N+1->vl w+10000 ^ i*(c-q*vl (b.drop i))=T->N+2<=i+m ->
  ∃ w' c',Lm w'/\w'.length=N+1/\c'<=0/\vl w'+10000 ^ (N+1)*c'=T/\G9 n m pre.length (N+1) b (b.length:Int) q c ((N+1:Nat):Int) (i:Int) (pre++w++post) k0=k0 pre.length (N+1) b (b.length:Int) q c' (pre++w'++post)
 | 0,i,c,w,h1,h2,h3,h4,h5,h6,h7=>by omega
 | m+1,i,c,w,h1,h2,h3,h4,h5,h6,h7=>by
  rw [Aqe];unfold Xu;dsimp only;by_cases hi:i<N+1
  . rw [QK,QJ (by omega)]
    simp only [QP]
    rw [A3 (by simp;try omega),A3 (by simp;try omega)]
    simp only [Re (pre:=pre) (post:=post) (w:=w) (i:=i) (by omega)]
    have g1:=h1.get i;have g2:=hb.get i;have g3:=A2k hq g2
    have go:∀ y:Int,y=w.getD i 0+c-q*b.getD i 0 ->
      ∃ w' c',Lm w'/\w'.length=N+1/\c'<=0/\vl w'+10000 ^ (N+1)*c'=T /\
      (bif (decide (y<0)) then (gd (decide (0<=(i:Int))&&decide ((i:Int)<((N+1:Nat):Int))) (
        gd (decide ((pre.length+i)<(pre++w++post).length)) (
         G9 n m pre.length (N+1) b (b.length:Int) q (W (Int.tdiv (W ((W (y-10000))+1)) 10000)) ((N+1:Nat):Int) (W ((i:Int)+1)) ((pre++w++post).set (pre.length+i) (W (y-(W ((W (Int.tdiv (W ((W (y-10000))+1)) 10000))*10000))))) k0)))
       else (gd (decide (0<=(i:Int))&&decide ((i:Int)<((N+1:Nat):Int))) (
        gd (decide ((pre.length+i)<(pre++w++post).length)) (
         G9 n m pre.length (N+1) b (b.length:Int) q 0 ((N+1:Nat):Int) (W ((i:Int)+1)) ((pre++w++post).set (pre.length+i) (W (y-(W (0*10000))))) k0))))=k0 pre.length (N+1) b (b.length:Int) q c' (pre++w'++post):=by
     intro y hy
     have hd:y=10000*(y / 10000)+y % 10000:=by omega
     have go2 : ∀ d : Int, d = y / 10000 -> ∃ w' c', Lm w' /\ w'.length = N + 1 /\ c' <= 0 /\ vl w' + 10000 ^ (N + 1) * c' = T /\ (gd (decide (0 <= (i : Int)) && decide ((i : Int) < ((N + 1 : Nat) : Int))) (
           gd (decide ((pre.length+i)<(pre++w++post).length)) (
            G9 n m pre.length (N+1) b (b.length:Int) q d ((N+1:Nat):Int) (W ((i:Int)+1)) ((pre++w++post).set (pre.length+i) (W (y-(W (d*10000))))) k0)))=k0 pre.length (N+1) b (b.length:Int) q c' (pre++w'++post):=by
      intro d hdd
      rw [A3 (by simp;try omega),A3 (by simp;try omega),Ama (by omega),Aa (x:=d*10000) (by omega) (by omega),Aa (x:=y-d*10000) (by omega) (by omega),Aa (x:=(i:Int)+1) (by omega) (by omega)]
      refine Asx (n:=n) hb hbN hN hq m (i+1) d _ (h1.set _ (by omega)) (by simpa using h2) (by omega) (by omega) (by omega) ?_ (by omega)
      rw [L6 _ (by omega),Bw]
      refine B03 (bi:=b.getD i 0) ?_ hy (by omega)
      rw [<- A2a];exact h6
     rw [QK];by_cases hneg:y<0
     . rw [QJ hneg]
       simp only [Azh hneg (by omega)]
       exact go2 _ rfl
     . rw [QG hneg]
       exact go2 0 (by omega)
    by_cases hB:i<b.length
    . have dB:decide ((i:Int)<(b.length:Int))=true:=by rw [QO];omega
      simp only [dB,ZJ]
      rw [A3 (by simp;try omega)]
      simp only [Aa (x:=q*b.getD i 0) (by omega) (by omega),Aa (x:=w.getD i 0+c) (by omega) (by omega),Aa (x:=w.getD i 0+c-q*b.getD i 0) (by omega) (by omega)]
      exact go _ rfl
    . have dB:decide ((i:Int)<(b.length:Int))=false:=by rw [ZV];omega
      simp only [dB,QQ]
      simp only [Aa (x:=w.getD i 0+c) (by omega) (by omega)]
      exact go _ (by rw [Bf (l:=b) (by omega)];omega)
  . rw [QK,QG (by omega)]
    obtain rfl:i=N+1:=by omega
    rw [QW (by omega)] at h6
    exact ⟨w,c,h1,h2,h4,by simpa [vl] using h6,rfl⟩

theorem Am3 {α:Type} {n N:Nat} {b pre post:List Int} (hb:Lm b) (hbN:b.length=N) (hN:pre.length+N+1+post.length<=1099511627776) {q z:Int} {T:Int} {k0:Nat->Nat->List Int->Int->Int->Int->Int->List Int->Option α} :
  ∀ (m i:Nat) (c:Int) (w:List Int),Lm w->w.length=N+1->0<=c->c<=1->i<=N+1->vl w+10000 ^ i*(c+vl (b.drop i))=T->N+2<=i+m ->
  ∃ w' c',Lm w'/\w'.length=N+1/\0<=c'/\c'<=1/\vl w'+10000 ^ (N+1)*c'=T/\If n m pre.length (N+1) b (b.length:Int) q z c ((N+1:Nat):Int) (i:Int) (pre++w++post) k0=k0 pre.length (N+1) b (b.length:Int) q z c' (pre++w'++post)
 | 0,i,c,w,h1,h2,h3,h4,h5,h6,h7=>by omega
 | m+1,i,c,w,h1,h2,h3,h4,h5,h6,h7=>by
  rw [Al0];unfold Tg;dsimp only;by_cases hi:i<N+1
  . rw [QK,QJ (by omega)]
    simp only [QP]
    rw [A3 (by simp;try omega),A3 (by simp;try omega),Re (by omega)]
    have g1:=h1.get i;have g2:=hb.get i
    have go : ∀ y : Int, y = w.getD i 0 + c + b.getD i 0 -> ∃ w' c', Lm w' /\ w'.length = N + 1 /\ 0 <= c' /\ c' <= 1 /\ vl w' + 10000 ^ (N + 1) * c' = T /\ (gd (decide (0 <= (i : Int)) && decide ((i : Int) < ((N + 1 : Nat) : Int))) (
            gd (decide ((pre.length+i)<(pre++w++post).length)) (
             If n m pre.length (N+1) b (b.length:Int) q z (W (Int.tdiv y 10000)) ((N+1:Nat):Int) (W ((i:Int)+1)) ((pre++w++post).set (pre.length+i) (Int.tmod y 10000)) k0)))=k0 pre.length (N+1) b (b.length:Int) q z c' (pre++w'++post):=by
     intro y hy
     have hd:y=10000*(y / 10000)+y % 10000:=by omega
     rw [A3 (by simp;try omega),A3 (by simp;try omega),Ama (by omega),tdv (by omega),tmd (by omega),Aa (x:=y / 10000) (by omega) (by omega),Aa (x:=(i:Int)+1) (by omega) (by omega)]
     refine Am3 (n:=n) hb hbN hN m (i+1) _ _ (h1.set _ (by omega)) (by simpa using h2) (by omega) (by omega) (by omega) ?_ (by omega)
     rw [L6 _ (by omega),Bw]
     refine Ati (bi:=b.getD i 0) ?_ hy hd;rw [<- A2a];exact h6
    by_cases hB:i<b.length
    . have dB:decide ((i:Int)<(b.length:Int))=true:=by rw [QO];omega
      simp only [dB,ZJ]
      rw [A3 (by simp;try omega)]
      simp only [Aa (x:=w.getD i 0+c) (by omega) (by omega),Aa (x:=w.getD i 0+c+b.getD i 0) (by omega) (by omega)]
      exact go _ rfl
    . have dB:decide ((i:Int)<(b.length:Int))=false:=by rw [ZV];omega
      simp only [dB,QQ]
      simp only [Aa (x:=w.getD i 0+c) (by omega) (by omega)]
      exact go _ (by rw [Bf (l:=b) (by omega)];omega)
  . rw [QK,QG (by omega)]
    obtain rfl:i=N+1:=by omega
    rw [QW (by omega)] at h6
    exact ⟨w,c,h1,h2,h3,h4,by simpa [vl] using h6,rfl⟩

theorem B37 {P v c R qB:Int} (h1:v<P) (hP:0<P) (h:v+P*c=R-qB) (hc:c<0):R-qB<0:=by
 have:P*c<=P*(-1):=XG (by omega) (by omega)
 omega

theorem B38 {P v c R q B:Int} (h0:v<P) (h:v+P*c=R-q*B) (hB:0<=B) (hBP:B<P) (hR:0<=R) (hq:q<10000) (hq0:0<=q):-10000<=c:=by
 have h9:q*B<=10000*B:=Int.mul_le_mul_of_nonneg_right (by omega) (by omega)
 rcases Int.lt_or_le c (-10000) with h1 | h1
 . have h8:P*c<=P*(-10001):=XG (by omega) (by omega)
   exfalso;omega
 . exact h1

theorem B36 {v v' x x' R qB B:Int} (h:v+x=R-qB) (h':v'+x'=v+B):v'+(x+x')=R-(qB-B):=by omega

theorem Aos {α:Type} {n N R B:Nat} {pre post:List Int} (hB:0<B) (hbN:(dg B).length=N) (hN:pre.length+N+1+post.length<=1099511627776) (hn:N+2<=n) {k0:Int->List Int->Option α} :
  ∀ (m q:Nat) (c:Int) (w:List Int),Lm w->w.length=N+1->c<=0->vl w+10000 ^ (N+1)*c=(R:Int)-q*B->R / B<=q->q<10000->q<m ->
  ∃ w',Lm w'/\w'.length=N+1/\vl w'=((R % B:Nat):Int)/\Ig n m pre.length (N+1) (dg B) ((dg B).length:Int) (q:Int) c (pre++w++post) k0=k0 ((R / B:Nat):Int) (pre++w'++post)
 | 0,q,c,w,h1,h2,h3,h4,h5,h6,h7=>by omega
 | m+1,q,c,w,h1,h2,h3,h4,h5,h6,h7=>by
  rw [Al2];unfold Tj;dsimp only;have hw:=Hr h1;have hw0:=B9 h1;rw [h2] at hw;rw [QK];have hP:=Fh (N+1);have hBP:=A6j B;rw [hbN] at hBP;have hdm:=Qai R B;have hml:=KK R hB;by_cases hc:c<0
  . rw [QJ hc];have hneg:=B37 hw hP h4 hc
    have hlt:R / B<q:=by
     rw [KZ hB];have:((q*B:Nat):Int)=(q:Int)*B:=YC q B;omega
    have hq0:0<q:=JM (KJ _) hlt
    have hBi:(B:Int)<10000 ^ N:=by rw [<- pwc];omega
    have hBP':(B:Int)<10000 ^ (N+1):=by
     have:=Zj (show N<=N+1 by omega)
     omega
    have hcm:=B38 (q:=(q:Int)) hw h4 (by omega) hBP' (by omega) (by omega) (by omega)
    rw [Aa (x:=(q:Int)-1) (by omega) (by omega),show (q:Int)-1=((q-1:Nat):Int) by omega]
    obtain ⟨w',c',q1,q2,q3,q4,q5,q6⟩:=Am3 (n:=n) (Dt B) hbN hN (q:=((q-1:Nat):Int)) (z:=c) (T:=vl w+B) (k0:=λz_12 z_13 z_14 z_15 z_16 z_17 z_18 z_19=>(
     Ig n m z_12 z_13 z_14 z_15 z_16 (W (z_17+z_18)) z_19 k0)) n 0 0 w h1 h2 (by omega) (by omega) (by omega) (by rw [ZQ,Bd,Int.pow_zero,Int.one_mul,Int.zero_add]) (by omega)
    have q6:If n n pre.length (N+1) (dg B) ((dg B).length:Int) ((q-1:Nat):Int) c 0 ((N+1:Nat):Int) 0 (pre++w++post) _=_:=q6;rw [q6]
    have hq1:((q-1:Nat):Int)*B=q*B-B:=by
     rw [show ((q-1:Nat):Int)=(q:Int)-1 by omega,Int.sub_mul,Int.one_mul]
    have hnew:vl w'+10000 ^ (N+1)*(c+c')=(R:Int)-((q-1:Nat):Int)*B:=by
     rw [Int.mul_add,hq1];exact B36 h4 q5
    rw [Aa (x:=c+c') (by omega) (by omega)]
    exact Aos hB hbN hN hn m (q-1) (c+c') w' q1 q2 (by omega) hnew (by omega) (by omega) (by omega)
  . rw [QG hc]
    obtain rfl:c=0:=by omega
    rw [Qam,Qbg] at h4
    have e:R / B=q:=by
     refine Nat.le_antisymm h5 ?_;rw [Nat.le_div_iff_mul_le hB];have:((q*B:Nat):Int)=(q:Int)*B:=YC q B;omega
    refine ⟨w,h1,h2,?_,by rw [e]⟩
    have:((B*q:Nat):Int)=(q:Int)*B:=by rw [YC,Int.mul_comm]
    rw [e] at hdm;omega

theorem Bee {P lowR lowB high top t R B:Int} (hR:R=lowR+P*high) (hB:B=lowB+P*top) (h1:lowR<P) (h2:0<=lowB) (hP:0<P) (ht:0<=t) (hle:t*B<=R):t*top<=high:=by
 have h3:t*(P*top)<=t*B:=XG (by omega) ht
 have h4:P*(t*top)<P*(high+1):=by
  rw [Int.mul_add,Int.mul_one,show P*(t*top)=t*(P*top) by grind];omega
 have:=Int.lt_of_mul_lt_mul_left h4 (by omega)
 omega

theorem B1v {n M R B:Nat} {pre w post:List Int} (hbN:(dg B).length=M+2) (hN:pre.length+(M+2)+1+post.length<=1099511627776) (hn:M+10010<=n) (hw:Lm w) (hwl:w.length=M+3) (hv:vl w=(R:Int)) (hR:R<10000*B) :
  ∃ w',Lm w'/\w'.length=M+3/\vl w'=((R % B:Nat):Int)/\Aec n (pre++w++post,pre.length,M+3) (dg B)=some (((R / B:Nat):Int),pre++w'++post):=by
 have hB:0<B:=by omega
 unfold Aec;dsimp only;rw [hbN]
 rw [Aa (x:=((M+2:Nat):Int)-1) (by omega) (by omega),Aa (x:=((M+2:Nat):Int)-2) (by omega) (by omega),show ((M+2:Nat):Int)-1=((M+1:Nat):Int) by omega,show ((M+2:Nat):Int)-2=(M:Int) by omega]
 simp only [QP];have hb:=Dt B;have g0:=hw.get (M+2);have g1:=hw.get (M+1);have g2:=hw.get M;have b1:=hb.get (M+1);have b2:=hb.get M
 have bt:(dg B).getD (M+1) 0 ≠ 0:=by
  have:=(G4 B).2 (XO.1 (by omega))
  rw [hbN] at this;exact this
 rw [A3 (by simp;try omega),A3 (by simp;try omega),A3 (by simp;try omega),A3 (by simp;try omega),A3 (by simp;try omega),A3 (by simp;try omega),A3 (by simp;try omega),A3 (by simp;try omega)]
 simp only [Re (pre:=pre) (post:=post) (w:=w) (i:=M+2) (by omega),Re (pre:=pre) (post:=post) (w:=w) (i:=M+1) (by omega),Re (pre:=pre) (post:=post) (w:=w) (i:=M) (by omega)]
 simp only [Aa (x:=(dg B).getD (M+1) 0*10000) (by omega) (by omega),Aa (x:=(dg B).getD (M+1) 0*10000+(dg B).getD M 0) (by omega) (by omega),Aa (x:=w.getD (M+2) 0*10000) (by omega) (by omega),Aa (x:=w.getD (M+2) 0*10000+w.getD (M+1) 0) (by omega) (by omega),Aa (x:=(w.getD (M+2) 0*10000+w.getD (M+1) 0)*10000) (by omega) (by omega),Aa (x:=(w.getD (M+2) 0*10000+w.getD (M+1) 0)*10000+w.getD M 0) (by omega) (by omega)]
 rw [A3 (by simp only [QO];omega)]
 have vw:(R:Int)=vl (w.take M)+10000 ^ M*((w.getD (M+2) 0*10000+w.getD (M+1) 0)*10000+w.getD M 0):=by
  have t1:=Ba w (M+2);have t2:=Ba w (M+1);have t3:=Ba w M
  rw [Jt w (by omega),hv] at t1
  rw [t1,t2,t3,Bw,Bw];grind
 have vb:(B:Int)=vl ((dg B).take M)+10000 ^ M*((dg B).getD (M+1) 0*10000+(dg B).getD M 0):=by
  have t2:=Ba (dg B) (M+1);have t3:=Ba (dg B) M
  rw [Jt (dg B) (by omega),Bd] at t2
  rw [t2,t3,Bw];grind
 have lw:=Hr (hw.take M)
 rw [KI,Qae (by omega)] at lw
 have lb:=B9 (hb.take M);generalize hhigh:(w.getD (M+2) 0*10000+w.getD (M+1) 0)*10000+w.getD M 0=high at *;generalize htop:(dg B).getD (M+1) 0*10000+(dg B).getD M 0=top at *
 have htop0:0<top:=by omega
 have hh0:0<=high/\high<1000000000000:=by omega
 rw [YQ (by omega)]
 have hd0:0<=high / top:=Int.ediv_nonneg (by omega) (by omega)
 have hd1:high / top<=high:=Int.ediv_le_self _ (by omega)
 rw [Aa (x:=high / top) (by omega) (by omega)]
 obtain ⟨q,hq⟩:∃ q:Nat,min (high / top) 9999=(q:Int):=⟨(min (high / top) 9999).toNat,by omega⟩
 have hql:q<10000:=by omega
 have hqr:R / B<=q:=by
  have h1:(((R / B:Nat):Int))*top<=high:=by
   refine Bee vw vb lw lb (Fh M) (Int.natCast_nonneg _) ?_;have:=Nat.div_mul_le_self R B;rw [<- YC];omega
  have h2:((R / B:Nat):Int)<=high / top:=by rw [Int.le_ediv_iff_mul_le htop0];exact h1
  have h3:R / B<10000:=by rw [KZ hB];omega
  omega
 rw [hq]
 obtain ⟨w1, c1, r1, r2, r3, r4, r5⟩ := Asx (n := n) (N := M + 2) (b := dg B) (pre := pre) (post := post) hb hbN hN (q := (q : Int)) (by omega) (T := (R : Int) - q * B) (k0 := fun z_5 z_6 z_7 z_8 z_9 z_10 z_11 => (
                       Ig n n z_5 z_6 z_7 z_8 z_9 z_10 z_11
                        (λz_20 z_21=>(
                         some (z_20,z_21))))) n 0 0 w hw hwl (by omega) (by omega) (by omega) (by rw [ZQ,Bd,hv,Int.pow_zero,Int.one_mul,Int.zero_sub,Int.sub_eq_add_neg]) (by omega)
 obtain ⟨w2,s1,s2,s3,s4⟩:=Aos (n:=n) (N:=M+2) (R:=R) (B:=B) (pre:=pre) (post:=post) hB hbN hN (by omega) (k0:=λz_20 z_21=>(some (z_20,z_21))) n q c1 w1 r1 r2 r3 r4 hqr hql (by omega)
 refine ⟨w2,s1,s2,s3,?_⟩;rw [hbN] at r5 s4;have r5:G9 n n pre.length (M+3) (dg B) ((M+2:Nat):Int) (q:Int) 0 ((M+3:Nat):Int) 0 (pre++w++post) _=_:=r5;rw [r5];exact s4

theorem Bdw (y b:Nat):Int.tdiv (y:Int) (b:Int)=((y / b:Nat):Int):=by
 rw [YQ (by omega),Int.natCast_ediv]

theorem Bdv (y b:Nat):Int.tmod (y:Int) (b:Int)=((y % b:Nat):Int):=by
 rw [JZ (by omega),Int.natCast_emod]

theorem Alw {o:List Int} {k i:Nat} {x:Int} (h:∀ i,i<k+1->o.getD i 0=0) (hi:i<k):(o.set k x).getD i 0=0:=by
 rw [QL,Qbc (by omega),<- QL]
 exact h i (by omega)

theorem Af1 {Q B R x q r y:Nat} (hy:x+10000*R=y) (hqr:B*q+r=y) {V:Int} (hV:(Q:Int)*B+R=V):((10000*Q+q:Nat):Int)*B+r=x+10000*V:=by
 have:(B:Int)*q+r=x+10000*R:=by
  rw [<- Ae9,hy,<- hqr,JL,YC]
 rw [A6g,<- hV];grind

theorem Atl {α:Type} {n A B:Nat} (hB:0<B) (hB1:B<10000) (hlA:(dg A).length<=1099511627000) {k0:Int->List Int->Option α} :
  ∀ (k Q R:Nat) (o:List Int),k<=(dg A).length->R<B->o.length=(dg A).length->Lm o->(∀ i,i<k->o.getD i 0=0)->vl o=10000 ^ k*(Q:Int)->(Q:Int)*B+R=vl ((dg A).drop k) ->
  ∃ o',Lm o'/\o'.length=(dg A).length/\vl o'=((A / B:Nat):Int)/\Kb n (dg A) k (dg A) [(B:Int)] (R:Int) o k0=k0 ((A % B:Nat):Int) o'
 | 0,Q,R,o,h2,h3,h4,h5,h6,h7,h8=>by
  rw [Avm];rw [ZQ,Bd] at h8
  have h8:Q*B+R=A:=by
   have:((Q*B+R:Nat):Int)=A:=by rw [JL,YC];exact h8
   omega
  have h9:A / B=Q:=by rw [<- h8,Nat.add_comm,Qaz _ _ hB,JD h3,YM]
  have h10:A % B=R:=by rw [<- h8,Qaa,KO h3]
  exact ⟨o,h5,h4,by rw [h7,h9];simp,by rw [h10]⟩
 | k+1,Q,R,o,h2,h3,h4,h5,h6,h7,h8=>by
  rw [Avk];unfold A39;dsimp only;have hg:=(Dt A).get k
  obtain ⟨x,hx⟩:∃ x:Nat,(dg A).getD k 0=(x:Int):=⟨((dg A).getD k 0).toNat,by omega⟩
  have hRx:vl ((dg A).drop k)=(x:Int)+10000*vl ((dg A).drop (k+1)):=by
   rw [N7 (by omega),hx]
  simp only [QP]
  rw [A3 (by simp;try omega),A3 (by simp;omega),A3 (by simp;try omega),A3 (by simp;omega),A3 (by simp;try omega),A3 (by simp;try omega),A3 (by simp),hx]
  rw [Aa (x:=(R:Int)*10000) (by omega) (by omega),Aa (x:=(R:Int)*10000+(x:Int)) (by omega) (by omega),show (R:Int)*10000+(x:Int)=((x+10000*R:Nat):Int) by omega]
  have e0:([(B:Int)]).getD 0 0=(B:Int):=rfl;rw [e0,Bdw,Bdv]
  have hq:(x+10000*R) / B<10000:=by
   rw [KZ hB];omega
  have hqr:=Qai (x+10000*R) B;have hqm:=KK (x+10000*R) hB;generalize (x+10000*R) / B=q at *;generalize (x+10000*R) % B=r at *
  rw [Aa (x:=(q:Int)) (by omega) (by omega)]
  refine Atl hB hB1 hlA k (10000*Q+q) r _ (by omega) hqm (by simpa using h4) (h5.set _ (by omega)) (λi hi=>Alw h6 hi) ?_ ?_
  . rw [L6 _ (by omega),h7,h6 k (by omega),Bw,A6g]
    generalize (10000:Int) ^ k=P;grind
  . rw [hRx,<- h8];exact Af1 rfl hqr rfl

theorem Amd {α:Type} {n A B M:Nat} (hM:(dg B).length=M+2) (hla:(dg B).length<=(dg A).length) (hlA:(dg A).length<=1099511627000) (hn:(dg A).length+10040<=n) {k0:List Int->List Int->Option α} :
  ∀ (k m Q R:Nat) (o u:List Int),k<m->k<=(dg A).length-(M+1)->R<B->o.length=(dg A).length-(M+1)->Lm o->(∀ i,i<k->o.getD i 0=0)->vl o=10000 ^ k*(Q:Int) ->
  Lm u->u.length+k=(dg A).length+1->vl u=(R:Int)->(Q:Int)*B+R=vl ((dg A).drop k) ->
  ∃ o' u',Lm o'/\o'.length=(dg A).length-(M+1)/\vl o'=((A / B:Nat):Int)/\Lm u'/\u'.length=(dg A).length+1/\vl u'=((A % B:Nat):Int) /\
   Tr n m ((dg B).length:Int) ((k:Int)-1) (dg B) o ((dg A).take k++u) k0=k0 o' u'
 | _,0,_,_,_,_,h1,_,_,_,_,_,_,_,_,_,_=>by omega
 | 0,m+1,Q,R,o,u,h1,h2,h3,h4,h5,h6,h7,u1,u2,u3,h8=>by
  rw [A7i];unfold Qd;dsimp only
  rw [QK,QG (by omega)]
  rw [ZQ,Bd] at h8
  have h8:Q*B+R=A:=by
   have:((Q*B+R:Nat):Int)=A:=by rw [JL,YC];exact h8
   omega
  have hB:0<B:=by omega
  have h9:A / B=Q:=by rw [<- h8,Nat.add_comm,Qaz _ _ hB,JD h3,YM]
  have h10:A % B=R:=by rw [<- h8,Qaa,KO h3]
  exact ⟨o,u,h5,h4,by rw [h7,h9];simp,u1,by omega,by rw [u3,h10],by simp⟩
 | k+1,m+1,Q,R,o,u,h1,h2,h3,h4,h5,h6,h7,u1,u2,u3,h8=>by
  rw [A7i];unfold Qd;dsimp only
  have hB:0<B:=by omega
  rw [QK,QJ (by omega)]
  rw [show (((k+1:Nat):Int)-1)=(k:Int) by omega]
  have hg:=(Dt A).get k
  obtain ⟨x,hx⟩:∃ x:Nat,(dg A).getD k 0=(x:Int):=⟨((dg A).getD k 0).toNat,by omega⟩
  have hRx:vl ((dg A).drop k)=(x:Int)+10000*vl ((dg A).drop (k+1)):=by
   rw [N7 (by omega),hx]
  have htk:(dg A).take (k+1)++u=(dg A).take k++((x:Int)::u):=by
   rw [JE (by omega),ZP]
   congr 1
   rw [<- hx,QL,QM (by omega)]
   rfl
  have hL:Lm ((x:Int)::u):=Lm.cons (by omega) u1
  have hv:vl ((x:Int)::u)=((x+10000*R:Nat):Int):=by rw [vl,u3,Ae9]
  have hlt:x+10000*R<10000*B:=by omega
  obtain ⟨w,post,hwp,hw,hp,hwl⟩:∃ w post,(x:Int)::u=w++post/\Lm w/\Lm post/\w.length=M+3 :=
   ⟨((x:Int)::u).take (M+3),((x:Int)::u).drop (M+3),(KY _ _).symm,hL.take _,hL.drop _,by rw [KI,ZH];omega⟩
  have hlp:w.length+post.length=u.length+1:=by
   have:=XC List.length hwp;simpa using this.symm
  have hvp:vl post=0:=by
   have e:=hv;rw [hwp,A61,hwl] at e
   have h10:B<10000 ^ (M+2):=Id (by omega)
   have h11:((x+10000*R:Nat):Int)<10000 ^ (M+3):=by
    rw [Bw,<- pwc];omega
   have h12:=B9 hw;have h13:=B9 hp;rcases Int.lt_or_eq_of_le h13 with h | h
   . exfalso
     have h14:(10000:Int) ^ (M+3)*1<=10000 ^ (M+3)*vl post:=XG (by omega) (by have:=Fh (M+3);omega)
     generalize (10000:Int) ^ (M+3)*vl post=z at *;generalize (10000:Int) ^ (M+3)=P at *;omega
   . exact h.symm
  have hvw:vl w=((x+10000*R:Nat):Int):=by
   rw [<- hv,hwp,A61,hvp];simp
  rw [htk,hwp,<- ZP]
  have hpl:((dg A).take k).length=k:=by rw [KI];omega
  obtain ⟨w',q1,q2,q3,q4⟩:=B1v (n:=n) (pre:=(dg A).take k) (post:=post) hM (by omega) (by omega) hw hwl hvw hlt
  rw [hpl] at q4
  rw [Aa (x:=(k:Int)+((dg B).length:Int)) (by omega) (by omega),Aa (x:=(k:Int)+((dg B).length:Int)+1) (by omega) (by omega)]
  rw [A3 (by simp only [QF,QO,ZF,hpl];omega)]
  rw [show ((k:Int)+((dg B).length:Int)+1).toNat-(k:Int).toNat=M+3 by omega]
  simp only [QP];rw [q4,A0];dsimp only;have hqm:=KK (x+10000*R) hB;have hqr:=Qai (x+10000*R) B
  have hq:(x+10000*R) / B<10000:=by
   rw [KZ hB];omega
  generalize (x+10000*R) / B=q at *;generalize (x+10000*R) % B=r at *
  rw [A3 (by simp [hwl,q2]),A3 (by simp;try omega),A3 (by simp;try omega),Aa (x:=(k:Int)-1) (by omega) (by omega),ZP]
  refine Amd hM hla hlA hn k m (10000*Q+q) r _ _ (by omega) (by omega) hqm (by simpa using h4) (h5.set _ (by omega)) (λi hi=>Alw h6 hi) ?_ (q1.app hp) ?_ ?_ ?_
  . rw [L6 _ (by omega),h7,h6 k (by omega),Bw,A6g]
    generalize (10000:Int) ^ k=P;grind
  . rw [ZF];omega
  . rw [A61,hvp,q3];simp
  . rw [hRx,<- h8];exact Af1 rfl hqr rfl

theorem Kj (n:Nat) {l:List Int} (h:l.length<=17592186044416):f123 n l=some l:=by
 unfold f123
 cases l with
 | nil=>rfl
 | cons x r =>
  unfold Arz
  rw [XD,QG (by simp),A3 (by rfl),A3 (by simp only [QO];simp only [ZH] at *;omega)]

theorem Aiy (n:Nat) {l:List Int} (h:l.length<=17592186044416) (h0:l ≠ []):A8b n l=some l:=by
 unfold A8b
 cases l with
 | nil=>exact absurd rfl h0
 | cons x r=>rw [A3 (by rfl),A3 (by simp only [QO];simp only [ZH] at *;omega)]

theorem Apt {n L A B:Nat} (hB:0<B) (hA:(dg A).length<=L) (hBl:(dg B).length<=L) (hL:L<=1099511627000) (hn:L+10040<=n):f204 n (dg A) (dg B)=some (dg (A / B),dg (A % B)):=by
 unfold f204
 rw [Aeb (by omega),A0,QK]
 by_cases hlt:A<B
 . rw [QJ (by rw [Je (by omega)];omega),Kj n (by omega),A0,JD hlt,KO hlt,By]
 . rw [QG (by
    rcases JK (Nat.le_of_not_lt hlt) with h | h
    . rw [Jf (by omega)];omega
    . rw [L4 (by omega)];omega)]
   have hmn:(dg B).length<=(dg A).length:=B8 (by omega)
   have hb0:0<(dg B).length:=by rw [Dk (by omega)];simp
   rw [XD];by_cases h1:(dg B).length=1
   . rw [QJ (by simp [h1])]
     have hB1:B<10000:=by have:=Id (n:=B) (k:=1) (by omega);simpa using this
     have hBd:dg B=[(B:Int)]:=by
      rw [Dk (by omega),KO hB1,JD hB1,By]
     rw [A3 (by simp;try omega),show f205 n (dg A)=some (dg A) from rfl,A0,Avl,A3 (by simp;try omega),hBd]
     simp only [QP]
     obtain ⟨o, q1, q2, q3, q4⟩ := Atl (n := n) (A := A) hB hB1 (by omega) (k0 := fun z_4 z_5 => (
           ob (f202 n z_5) λr_6 =>
           ob (f150 n z_4) λr_7 =>
           some (r_6,r_7))) (dg A).length 0 0 (List.replicate (dg A).length 0) (QZ _) hB (by simp) (Lm.rep _) (λi hi=>by simp [QL,XK,hi]) (by rw [Wd];simp) (by simp [vl])
     have q4:Kb n (dg A) (dg A).length (dg A) [(B:Int)] 0 _ _=_:=q4;have hm:=KK A hB
     rw [q4,Rm q1 (by omega) (by omega),A0,S0 (by omega) (by omega),A0,q3]
     rfl
   . rw [QG (by simp;omega)]
     obtain ⟨M,hM⟩:∃ M,(dg B).length=M+2:=⟨(dg B).length-2,by omega⟩
     rw [Aiy n (by omega) (XO.1 (by omega)),A0,A3 (by simp;try omega)]
     rw [Aa (x:=((dg A).length:Int)-((dg B).length:Int)) (by omega) (by omega),Aa (x:=((dg A).length:Int)-((dg B).length:Int)+1) (by omega) (by omega),A3 (by simp;try omega)]
     rw [show (((dg A).length:Int)-((dg B).length:Int)+1).toNat=(dg A).length-(M+1) by omega]
     have hR0:=B9 ((Dt A).drop ((dg A).length-(M+1)));obtain ⟨R,hR⟩:∃ R:Nat,vl ((dg A).drop ((dg A).length-(M+1)))=(R:Int):=⟨_,(Int.toNat_of_nonneg hR0).symm⟩
     have hRB:R<B:=by
      have:=Hr ((Dt A).drop ((dg A).length-(M+1)))
      rw [List.length_drop,show (dg A).length-((dg A).length-(M+1))=M+1 by omega,hR] at this
      have h2:=(G4 B).ge (XO.1 (by omega))
      rw [hM,Bd] at h2;have h2:(10000:Int) ^ (M+1)<=B:=h2;generalize (10000:Int) ^ (M+1)=P at *;omega
     obtain ⟨o, u, q1, q2, q3, q4, q5, q6, q7⟩ := Amd (n := n) (A := A) (B := B) hM hmn (by omega) (by omega) (k0 := fun z_10 z_11 => (
             ob (f202 n z_10) λr_12 =>
             ob (f202 n z_11) λr_13 =>
             some (r_12,r_13))) ((dg A).length-(M+1)) n 0 R (List.replicate ((dg A).length-(M+1)) 0) ((dg A).drop ((dg A).length-(M+1))++[0]) (by omega) (QZ _) hRB (by simp) (Lm.rep _) (λi hi=>by simp [QL,XK,hi]) (by rw [Wd];simp) (((Dt A).drop _).app (Lm.cons (by omega) Lm.nil)) (by simp;omega) (by rw [R7,hR];simp) (by rw [hR];simp)
     rw [<- ZP,KY] at q7
     rw [show ((dg A).length:Int)-((dg B).length:Int)=(((dg A).length-(M+1):Nat):Int)-1 by omega,q7,Rm q1 (by omega) (by omega),A0,Rm q4 (by omega) (by omega),A0,q3,q6]
     rfl

theorem Ba2 {α:Type} {n L:Nat} (hL:L<=1099511627000) (hn:L+10040<=n) {k0:List Int->Option α} :
  ∀ (j m a b:Nat),b<2 ^ j->2*j+1<=m->(dg a).length<=L->(dg b).length<=L->Kd n m (dg a) (dg b) k0=k0 (dg (Nat.gcd b a)):=by
 have stop:∀ (m a:Nat),0<m->Kd n m (dg a) (dg 0) k0=k0 (dg (Nat.gcd 0 a)):=λm a hm=>by
  obtain ⟨m,rfl⟩:∃ m',m=m'+1:=⟨m-1,by omega⟩
  rw [Aca,Qaw,By];rfl
 have step:∀ (m a b:Nat),0<b->(dg a).length<=L->(dg b).length<=L->Kd n (m+1) (dg a) (dg b) k0=Kd n m (dg b) (dg (a % b)) k0:=λm a b hb ha hbl=>by
  rw [Aca];unfold A3c
  have:0<(dg b).length:=by rw [Dk (by omega)];simp
  rw [QK,QJ (by omega),Apt hb ha hbl hL hn,A0]
 intro j
 induction j with
 | zero =>
  intro m a b h1 h2 h3 h4
  obtain rfl:b=0:=by simpa using h1
  exact stop m a (by omega)
 | succ j ih =>
  intro m a b h1 h2 h3 h4;rcases YV b with rfl | hb
  . exact stop m a (by omega)
  obtain ⟨m,rfl⟩:∃ m',m=m'+2:=⟨m-2,by omega⟩
  have h5:(dg (a % b)).length<=L:=ZL (B8 (Nat.le_of_lt (KK a hb))) h4;rw [step _ _ _ hb h3 h4,Nat.gcd_rec b a];rcases YV (a % b) with hr | hr
  . rw [hr];exact stop _ _ (by omega)
  have h6:(dg (b % (a % b))).length<=L:=ZL (B8 (Nat.le_of_lt (KK b hr))) h5;rw [step _ _ _ hr h4 h5,Nat.gcd_rec (a % b) b]
  exact ih m _ _ (Agb hb hr h1) (by omega) h5 h6

theorem B3y {n L a b:Nat} (hL:L<=1099511627000) (hn:28*L+10040<=n) (ha:(dg a).length<=L) (hb:(dg b).length<=L):f203 n (dg a) (dg b)=some (dg (Nat.gcd a b)):=by
 unfold f203
 rw [Ba2 hL (by omega) (14*L) n a b (Am2 (Id hb)) (by omega) ha hb,Nat.gcd_comm]

abbrev Rt:=Bool × List Int × List Int

abbrev rt0:Rt:=(false,[],[])

def Sm (x:Rt):Prop:=x.2.1.length<=1048576/\x.2.2.length<=1048576

theorem Sm.get {l:List Rt} (h:∀ x ∈ l,Sm x) (i:Nat):Sm (l.getD i rt0):=by
 rw [QL]
 cases e:l[i]? with
 | none=>exact ⟨by simp,by simp⟩
 | some x=>exact h x (ZO e)

def Gz (x:Int):Bool:=decide (0<=x/\x<=9999)

def Pz (l:List Int):Bool:=decide (l.length<=40)&&l.all Gz&&(l.isEmpty || decide (0<l.getD (l.length-1) 0))

theorem A6e {l:List Int} (h:Pz l=true):Cn l/\l.length<=40:=by
 unfold Pz at h;simp only [QF,QO,XJ,QH,YS] at h;obtain ⟨⟨h1,h2⟩,h3⟩:=h;refine ⟨⟨λx hx=>?_,λhn=>?_⟩,h1⟩
 . have:=h2 x hx;unfold Gz at this;rw [QO] at this;omega
 . rcases h3 with h3 | h3
   . exact absurd h3 hn
   . omega

theorem Nu {α:Type} {l:List α} {p:α->Bool} {i:Nat} (h:i<l.length) (d:α):(l.drop i).all p=(p (l.getD i d)&&(l.drop (i+1)).all p):=by
 rw [XQ h,XL,QL,QM h];rfl

theorem Ke {n:Nat} {a lo hi:Int}:f181 n a lo hi=some (decide (lo<=a/\a<=hi)):=by
 unfold f181;by_cases h:lo<=a <;> simp [h]

theorem A0h {n:Nat} {a lo hi:Int}:f177 n a lo hi=some (decide (lo<=a/\a<=hi)):=by
 unfold f177;by_cases h:lo<=a <;> simp [h]

theorem Ac7 {α:Type} {n:Nat} {l:List Int} (hl:l.length<=1048576) {k0:Bool->Option α} {k1:List Int->Option α}:∀ (m i:Nat),i<=l.length->l.length<i+m->Rk n m l (i:Int) k0 k1=if (l.drop i).all Gz=true then k1 l else k0 false
 | 0,i,hi,hm=>by omega
 | m+1,i,hi,hm=>by
  rw [Ave];unfold A34;dsimp only;rw [QK];by_cases h:i<l.length
  . rw [QJ (by omega),A3 (by simp;try omega)]
    simp only [QP];rw [Ke,A0,Nu h 0]
    cases hp:Gz (l.getD i 0) with
    | true =>
     unfold Gz at hp
     rw [hp,Aa (x:=(i:Int)+1) (by omega) (by omega)]
     simp only [ZS,QQ,ZX]
     exact Ac7 hl m (i+1) (by omega) (by omega)
    | false =>
     unfold Gz at hp;rw [hp];simp
  . rw [QG (by omega),QW (by omega)]
    rfl

theorem An2 {n:Nat} {l:List Int} (hn:1048577<=n):f212 n l=some (Pz l):=by
 unfold f212 Pz;rw [QK];by_cases h:l.length<=4096
 . rw [QG (by omega)]
   have:=Ac7 (n:=n) (l:=l) (by omega) (k0:=λz_2=>some z_2) (k1:=λz_3=>(
     bif (decide ((z_3.length:Int)<=40)) then
      bif ((z_3.length:Int)==0) then
       some true
      else
       gd (decide (0<=(W ((z_3.length:Int)-1)))&&decide ((W ((z_3.length:Int)-1))<(z_3.length:Int))) (
        some (decide ((z_3.getD ((W ((z_3.length:Int)-1)).toNat) 0)>0)))
     else
      some false)) n 0 (by omega) (by omega)
   have this:Rk n n l 0 _ _=_:=this;rw [this,ZQ]
   cases l.all Gz with
   | false=>simp
   | true =>
    rw [QJ rfl,QK];by_cases h40:l.length<=40
    . rw [QJ (by omega)]
      cases l with
      | nil=>rfl
      | cons x r =>
       rw [XD,QG (by simp;omega),Aa (x:=((x::r).length:Int)-1) (by omega) (by omega),A3 (by simp;omega),show (((x::r).length:Int)-1).toNat=(x::r).length-1 by omega]
       have h41:r.length<=39:=by simpa using h40
       simp [h41]
    . rw [QG (by omega)]
      simp [h40]
 . rw [QJ (by omega),QT (by omega)]
   rfl

theorem Vu {n:Nat} {l:List Int} (hl:l.length<=1048576):∀ (m i:Nat),i<=l.length->l.length<i+m->∃ r,Hh n m l (l.length:Int) (i:Int) (λz=>some z) (λ(_:Unit)=>some (-1))=some r/\decide (r>=0) = !(l.drop i).all Gz
 | 0,i,hi,hm=>by omega
 | m+1,i,hi,hm=>by
  rw [Ado];unfold Oe;dsimp only;rw [QK];by_cases h:i<l.length
  . rw [QJ (by omega),A3 (by simp;try omega)]
    simp only [QP]
    have e:f227 n (l.getD i 0)=some (!Gz (l.getD i 0)):=by
     unfold f227 Gz;rw [QK];generalize l.getD i 0=x;by_cases h1:x<0
     . rw [QJ h1,QT (by omega)];rfl
     . rw [QG h1];by_cases h2:x<=9999
       . rw [QT (by omega),QY (by omega)];rfl
       . rw [QY (by omega),QT (by omega)];rfl
    rw [e,A0,Nu h 0]
    cases hp:Gz (l.getD i 0) with
    | true =>
     rw [Aa (x:=(i:Int)+1) (by omega) (by omega)]
     simp only [ZS,QQ,ZX]
     exact Vu hl m (i+1) (by omega) (by omega)
    | false =>
     exact ⟨i,rfl,by simp⟩
  . rw [QG (by omega),QW (by omega)]
    exact ⟨-1,rfl,rfl⟩

theorem A1y {n:Nat} {l:List Int} (hl:l.length<=1048576) (hn:1048577<=n):Of n l ()=some (!l.all Gz):=by
 unfold Of A2t
 obtain ⟨r,h1,h2⟩:=Vu (n:=n) hl n 0 (by omega) (by omega)
 have h1:Hh n n l (l.length:Int) 0 _ _=_:=h1;rw [h1,A0,h2,ZQ]

theorem Amx {n:Nat} {l:List Int} (hn:1048577<=n):f225 n l=some (Pz l):=by
 unfold f225 Pz;rw [QK];by_cases h:l.length<=40
 . rw [QG (by omega),QY h,ZX,QK]
   cases l with
   | nil=>rw [QG (by simp),A1y (by omega) hn];rfl
   | cons x r =>
    rw [QJ (by simp),Aa (x:=((x::r).length:Int)-1) (by omega) (by omega),A3 (by simp;omega),show (((x::r).length:Int)-1).toNat=(x::r).length-1 by omega]
    rw [A1y (by omega) hn,A0,Bool.not_not,XD]
    by_cases hz:(x::r).getD ((x::r).length-1) 0=0
    . rw [QJ (by rw [hz];rfl),hz];simp
    . rw [QG (by rw [KR];exact hz)]
      cases ha:(x::r).all Gz with
      | false=>rfl
      | true =>
       have:Gz ((x::r).getD ((x::r).length-1) 0)=true:=by
        rw [QH] at ha;apply ha
        rw [QL,QM (by simp)]
        simp only [YL];exact KQ _
       unfold Gz at this;rw [QO] at this
       rw [QY (by omega)]
       simp
 . rw [QJ (by omega),QT h];rfl

theorem App {α:Type} (l:List α):((l.length:Int)==0)=l.isEmpty:=by
 cases l with
 | nil=>rfl
 | cons x r=>rw [beq_eq_false_iff_ne.2 (by simp;omega)];rfl

def L9 (x:Rt):Bool:=Pz x.2.1&&Pz x.2.2 && !x.2.2.isEmpty && !(x.2.1.isEmpty&&x.1)&&decide (Nat.gcd (vl x.2.1).toNat (vl x.2.2).toNat=1)

theorem Fl:dg 1=[1]:=by rw [Dk (by omega),show 1 / 10000=0 from rfl,By];rfl

theorem Ajo {g:Nat}:(cm (g:Int) ((1:Nat):Int)==0)=decide (g=1):=by
 unfold cm;by_cases h:g=1
 . subst h;rfl
 . rw [QT h];by_cases h2:(g:Int)<(1:Nat)
   . rw [QJ h2];rfl
   . rw [QG h2,QG (by omega)];rfl

theorem Amq {a b:Nat} (ha:(dg a).length<=40) (hb:(dg b).length<=40):(dg (Nat.gcd a b)).length<=40:=by
 rcases YV a with rfl | h
 . rw [Qaw];exact hb
 . exact ZL (B8 (Nat.gcd_le_left b h)) ha

theorem B6n {n:Nat} {x:Rt} (hn:1048577<=n):f184 n x=some (L9 x):=by
 obtain ⟨s,a,b⟩:=x;unfold f184 L9;dsimp only;simp only [App];rw [An2 hn,A0,An2 hn,A0]
 cases ha:Pz a with
 | false=>rfl
 | true =>
  cases hb:Pz b with
  | false=>rfl
  | true =>
   obtain ⟨ca,la⟩:=A6e ha;obtain ⟨cb,lb⟩:=A6e hb;have ea:=Qp ca;have eb:=Qp cb
   have hg:f213 n a b=some (dg (Nat.gcd (vl a).toNat (vl b).toNat)):=by
    conv=>lhs;rw [<- ea,<- eb]
    exact B3l (L:=40) (by omega) (by omega) (by rw [ea];exact la) (by rw [eb];exact lb)
   have hgl:=Amq (a:=(vl a).toNat) (b:=(vl b).toNat) (by rw [ea];exact la) (by rw [eb];exact lb)
   rw [hg,A0,<- Fl,Ae4 (by omega) (by omega),A0,Ajo]
   cases b <;> cases a <;> cases s <;> simp

theorem B5w {n:Nat} {x:Rt} (hn:1048577<=n):f215 n x=some (L9 x):=by
 obtain ⟨s,a,b⟩:=x;unfold f215 L9;dsimp only;rw [Amx hn,A0,Amx hn,A0]
 cases ha:Pz a with
 | false=>rfl
 | true =>
  cases hb:Pz b with
  | false=>rfl
  | true =>
   obtain ⟨ca,la⟩:=A6e ha;obtain ⟨cb,lb⟩:=A6e hb;have ea:=Qp ca;have eb:=Qp cb
   have hg:f203 n a b=some (dg (Nat.gcd (vl a).toNat (vl b).toNat)):=by
    conv=>lhs;rw [<- ea,<- eb]
    exact B3y (L:=40) (by omega) (by omega) (by rw [ea];exact la) (by rw [eb];exact lb)
   have hgl:=Amq (a:=(vl a).toNat) (b:=(vl b).toNat) (by rw [ea];exact la) (by rw [eb];exact lb)
   rw [hg,A0,show f151 n=some [1] from rfl,A0,<- Fl,Aeb (by omega),A0,Ajo,show f168 n (s,a,b)=some ((a.length:Int)==0) from rfl,A0,App,App]
   cases b <;> cases a <;> cases s <;> simp

theorem Vy {n:Nat} {l:List Rt} (hl:l.length<=1048576) (hn:1048577<=n):∀ (m i:Nat),i<=l.length->l.length<i+m->∃ r,Hm n m l (l.length:Int) (i:Int) (λz=>some z) (λ(_:Unit)=>some (-1))=some r/\decide (r>=0) = !(l.drop i).all L9
 | 0,i,hi,hm=>by omega
 | m+1,i,hi,hm=>by
  rw [Adr];unfold P1;dsimp only;rw [QK];by_cases h:i<l.length
  . rw [QJ (by omega),A3 (by simp;try omega)]
    simp only [QP]
    have e:f214 n (l.getD i rt0)=some (!L9 (l.getD i rt0)):=by
     unfold f214;rw [B5w hn,A0]
    rw [e,A0,Nu h rt0]
    cases hp:L9 (l.getD i rt0) with
    | true =>
     rw [Aa (x:=(i:Int)+1) (by omega) (by omega)]
     simp only [ZS,QQ,ZX]
     exact Vy hl hn m (i+1) (by omega) (by omega)
    | false=>exact ⟨i,rfl,by simp⟩
  . rw [QG (by omega),QW (by omega)]
    exact ⟨-1,rfl,rfl⟩

theorem Alh {n:Nat} {l:List Rt} (hl:l.length<=1048576) (hn:1048577<=n):Uv n l ()=some (!l.all L9):=by
 unfold Uv A46
 obtain ⟨r,h1,h2⟩:=Vy (n:=n) hl hn n 0 (by omega) (by omega)
 have h1:Hm n n l (l.length:Int) 0 _ _=_:=h1;rw [h1,A0,h2,ZQ]

theorem B6l {n:Nat} {l:List Rt} (hl:l.length<=1048576) (hn:1048577<=n):f185 n l=some (if l.all L9=true then 0 else 1):=by
 unfold f185;rw [Alh hl hn,A0]
 cases l.all L9 <;> rfl

def Jp (l:List Rt):Bool:=decide (1<=l.length/\l.length<=4)&&l.all L9

theorem Ad6 {α:Type} {n:Nat} {l:List Rt} (hl:l.length<=1048576) (hn:1048577<=n) {k0:Bool->Option α} {k1:List Rt->Option α}:∀ (m i:Nat),i<=l.length->l.length<i+m->S7 n m l (i:Int) k0 k1=if (l.drop i).all L9=true then k1 l else k0 false
 | 0,i,hi,hm=>by omega
 | m+1,i,hi,hm=>by
  rw [Ayp];unfold A5l;dsimp only;rw [QK];by_cases h:i<l.length
  . rw [QJ (by omega),A3 (by simp;try omega)]
    simp only [QP];rw [B6n hn,A0,Nu h rt0]
    cases hp:L9 (l.getD i rt0) with
    | true =>
     rw [Aa (x:=(i:Int)+1) (by omega) (by omega)]
     simp only [ZS,QQ,ZX]
     exact Ad6 hl hn m (i+1) (by omega) (by omega)
    | false=>simp
  . rw [QG (by omega),QW (by omega)]
    rfl

theorem B8f {n:Nat} {l:List Rt} (hn:1048577<=n):f116 n l=some (Jp l):=by
 unfold f116 Jp;rw [QK];by_cases h:l.length<=4096
 . rw [QG (by omega)]
   have h1:=Ad6 (n:=n) (l:=l) (by omega) hn (k0:=λz_3=>some z_3) (k1:=λz_4=>(
     ob (f181 n (z_4.length:Int) 1 4) λr_5 =>
     some r_5)) n 0 (by omega) (by omega)
   have h1:S7 n n l 0 _ _=_:=h1;rw [h1,ZQ,Ke,A0]
   have e:decide ((1:Int)<=(l.length:Int)/\(l.length:Int)<=4)=decide (1<=l.length/\l.length<=4):=by
    apply decide_eq_decide.2;omega
   rw [e]
   cases l.all L9 <;> simp
 . rw [QJ (by omega),QT (by omega)];rfl

theorem Aar {n:Nat} {l:List Rt} (hn:1048577<=n):f119 n l=some (Jp l):=by
 unfold f119 Jp;rw [QK,QK];by_cases h:1<=l.length/\l.length<=4
 . rw [QJ (by omega),QJ (by omega),B6l (by omega) hn,QY h,A0]
   cases l.all L9 <;> rfl
 . rw [QT h];split
   . rw [QG (by omega)];rfl
   . rfl

theorem Ad2 {n:Nat} {l:List Int} (hl:l.length<=1048576):∀ (m i:Nat),i<=l.length->l.length<i+m->∃ c,S6 n m 4096 l (l.length:Int) (i:Int) (λz=>some z) (λ(_:Unit)=>some 0)=some c/\((c=0 /\ ∀ x ∈ l.drop i,x<=4096) \/ (c=2 /\ ∃ x ∈ l,4096<x))
 | 0,i,hi,hm=>by omega
 | m+1,i,hi,hm=>by
  rw [Ayf];unfold A5c;dsimp only;rw [QK];by_cases h:i<l.length
  . rw [QJ (by omega),A3 (by simp;try omega)]
    simp only [QP];rw [QK];by_cases hx:4096<l.getD i 0
    . rw [QJ hx];refine ⟨2,rfl,.inr ⟨rfl,l.getD i 0,?_,hx⟩⟩;rw [QL,QM h];exact KQ h
    . rw [QG hx,Aa (x:=(i:Int)+1) (by omega) (by omega)]
      obtain ⟨c,h1,h2⟩:=Ad2 (n:=n) hl m (i+1) (by omega) (by omega)
      refine ⟨c,h1,h2.imp (λ⟨e,h3⟩=>⟨e,λx hx'=>?_⟩) (λh=>h)⟩;rw [XQ h] at hx';rcases QV.1 hx' with rfl | hx'
      . rw [QL,QM h] at hx;exact Int.not_lt.1 hx
      . exact h3 x hx'
  . rw [QG (by omega)]
    refine ⟨0,rfl,.inl ⟨rfl,λx hx=>?_⟩⟩
    rw [QW (by omega)] at hx
    cases hx

theorem Agn {α:Type} {n:Nat} {L:List (List Rt)} (hl:L.length<=1048576) {k0:List Int->Option α}:∀ (m i:Nat) (o:List Int),o.length<=i->i<=L.length->L.length<i+m->Xn n m L (L.length:Int) (i:Int) o k0=k0 (o++(L.drop i).map λv=>(v.length:Int))
 | 0,i,o,ho,hi,hm=>by omega
 | m+1,i,o,ho,hi,hm=>by
  rw [B1h];unfold A9q;dsimp only;rw [QK];by_cases h:i<L.length
  . rw [QJ (by omega),A3 (by simp;try omega),A3 (by simp only [QO];omega)]
    simp only [QP]
    rw [Aa (x:=(i:Int)+1) (by omega) (by omega),show (i:Int)+1=((i+1:Nat):Int) from rfl,Agn hl m (i+1) _ (by simp;omega) (by omega) (by omega),XQ h,QL,QM h,ZP]
    rfl
  . rw [QG (by omega),QW (by omega)]
    simp

theorem Aun {n:Nat} {L:List (List Rt)} (hl:L.length<=1048576) (hn:1048577<=n):∃ c,f71 n L=some c/\((c=0 /\ ∀ v ∈ L,v.length<=4096) \/ (c=2 /\ ∃ v ∈ L,4096<v.length)):=by
 unfold f71
 have h1:=Agn (n:=n) (L:=L) hl (k0:=λz_1=>(
   ob (f122 n 4096 z_1) λr_2 =>
   some r_2)) n 0 [] (by simp) (by omega) (by omega)
 have h1:Xn n n L (L.length:Int) 0 [] _=_:=h1;rw [h1,ZQ,JJ];unfold f122
 obtain ⟨c,h2,h3⟩:=Ad2 (n:=n) (l:=L.map λv=>(v.length:Int)) (by simpa using hl) n 0 (by omega) (by simp;omega)
 have h2:S6 n n 4096 _ _ 0 _ _=_:=h2
 refine ⟨c,by rw [h2,A0],h3.imp (λ⟨e,h⟩=>⟨e,λv hv=>by have:=h _ (by rw [ZQ];exact ZK.2 ⟨v,hv,rfl⟩);omega⟩) λ⟨e,x,hx,hx'⟩=>⟨e,?_⟩⟩
 obtain ⟨v,hv,rfl⟩:=ZK.1 hx
 exact ⟨v,hv,by omega⟩

theorem A88 {α:Type} {n:Nat} {L:List (List Rt)} (hl:L.length<=1048576) (hn:1048577<=n) {k0:Int->Option α} {k1:List (List Rt)->Option α}:∀ (m i:Nat),i<=L.length->L.length<i+m->S5 n m L L (L.length:Int) (i:Int) k0 k1=if (L.drop i).all Jp=true then k1 L else k0 1
 | 0,i,hi,hm=>by omega
 | m+1,i,hi,hm=>by
  rw [Axz];unfold A52;dsimp only;rw [QK];by_cases h:i<L.length
  . rw [QJ (by omega),A3 (by simp;try omega)]
    simp only [QP];rw [Aar hn,A0,Nu h []]
    cases hp:Jp (L.getD i []) with
    | true =>
     rw [Aa (x:=(i:Int)+1) (by omega) (by omega)]
     simp only [ZS,QQ,ZX]
     exact A88 hl hn m (i+1) (by omega) (by omega)
    | false=>simp
  . rw [QG (by omega),QW (by omega)]
    rfl

theorem A1z {α:Type} {n:Nat} {L:List (List Rt)} (hl:L.length<=1048576) {k0:Int->Option α} {k1:Unit->Option α}:∀ (m i:Nat),i<=L.length->L.length<i+m->Kh n m L L (L.length:Int) (i:Int) k0 k1=if ((L.drop i).all λv=>v.length==(L.getD 0 []).length)=true then k1 () else k0 8
 | 0,i,hi,hm=>by omega
 | m+1,i,hi,hm=>by
  rw [Arr];unfold Yn;dsimp only;rw [QK];by_cases h:i<L.length
  . rw [QJ (by omega),A3 (by simp;try omega),A3 (by simp only [QO];omega)]
    simp only [QP];rw [Nu h []];by_cases hp:(L.getD i []).length=(L.getD 0 []).length
    . rw [hp,Aa (x:=(i:Int)+1) (by omega) (by omega),XI,QQ,BEq.rfl,ZX]
      exact A1z hl m (i+1) (by omega) (by omega)
    . rw [show (((L.getD i []).length:Int) != ((L.getD 0 []).length:Int))=true by rw [Qbh];omega,show ((L.getD i []).length==(L.getD 0 []).length)=false by rw [beq_eq_false_iff_ne];exact hp]
      simp
  . rw [QG (by omega),QW (by omega)]
    rfl

theorem B80 {n:Nat} {L:List (List Rt)} (hl:L.length<=1048576) (hn:1048577<=n):∃ c,f128 n L=some c/\(c==0)=(L.all Jp&&L.all λv=>v.length==(L.getD 0 []).length):=by
 unfold f128;obtain ⟨c,h1,h2⟩:=Aun hl hn;rw [h1,A0];rcases h2 with ⟨rfl,_⟩ | ⟨rfl,v,hv,hlv⟩
 . rw [XI,QQ]
   have h5:=A88 (n:=n) (L:=L) hl hn (k0:=λz_3=>some z_3) (k1:=λz_4=>(
     Kh n n z_4 z_4 (z_4.length:Int) 0
      (λz_5=>(
       some z_5))
      (λ(_:Unit)=>(
       some 0)))) n 0 (by omega) (by omega)
   have h5:S5 n n L L (L.length:Int) 0 _ _=_:=h5;rw [h5,ZQ]
   cases L.all Jp with
   | false=>exact ⟨1,rfl,rfl⟩
   | true =>
    have h6:=A1z (n:=n) (L:=L) hl (k0:=λz_5=>some z_5) (k1:=λ(_:Unit)=>some 0) n 0 (by omega) (by omega)
    have h6:Kh n n L L (L.length:Int) 0 _ _=_:=h6;rw [QJ rfl,h6,ZQ]
    cases L.all λv=>v.length==(L.getD 0 []).length with
    | false=>exact ⟨8,rfl,rfl⟩
    | true=>exact ⟨0,rfl,rfl⟩
 . refine ⟨2,rfl,?_⟩
   have:L.all Jp=false:=by
    rw [List.all_eq_false];refine ⟨v,hv,?_⟩;unfold Jp
    rw [QT (by omega)]
    simp
   rw [this];rfl

abbrev Nod:=Int × Int × Int × Int

def Dc (op:Int):Int:=if op=3 \/ op=4 \/ op=5 \/ op=6 then 2 else if op=7 \/ op=8 then 1 else 0

theorem Xq {n:Nat} {x:Nod}:f61 n x=some (Dc x.1):=by
 unfold f61 Dc;simp only [XD,KR];grind

def Jz (x:Nod):Prop:=if x.1=1 then 0<=x.2.2.2/\x.2.2.2<=999999999 else if x.1=2 then 0<=x.2.2.2/\x.2.2.2<=3 else if x.1=8 then 0<=x.2.2.2/\x.2.2.2<=8 else x.2.2.2=0

instance (x:Nod):Decidable (Jz x):=by unfold Jz;infer_instance

theorem B5r {n:Nat} {x:Nod}:f223 n x=some (decide (Jz x)):=by
 unfold f223 Jz;simp only [XD,KR,A0h,A0];grind

theorem B5p {n:Nat} {h:Bool} {k i:Int} (hi:0<=i/\i<1152921504606846976):f224 n h k i=some (decide (if h=true then 0<=k/\k<=i-1 else k=0)):=by
 unfold f224
 simp only [A0h,A0,Aa (x:=i-1) (by omega) (by omega),XD]
 cases h <;> grind

def D5 (x:Nod) (i:Int):Prop:=(1<=x.1/\x.1<=8)/\Jz x/\(if Dc x.1>0 then 0<=x.2.1/\x.2.1<=i-1 else x.2.1=0)/\(if Dc x.1>1 then 0<=x.2.2.1/\x.2.2.1<=i-1 else x.2.2.1=0)

instance (x:Nod) (i:Int):Decidable (D5 x i):=by unfold D5;infer_instance

theorem B60 {n:Nat} {x:Nod} {i:Int} (hi:0<=i/\i<1152921504606846976):f211 n x i=some (decide (D5 x i)):=by
 unfold f211 D5;simp only [A0h,B5r,Xq,A0,B5p hi,XD,QO];grind

theorem Aao {n:Nat} {a:Int}:f146 n a=some (decide (3<=a/\a<=6)):=by
 unfold f146;simp [Ke]

theorem Aam {n:Nat} {a:Int}:f147 n a=some (decide (a=7 \/ a=8)):=by
 unfold f147;simp only [XD,KR];grind

def Em (x:Nod) (i:Int):Prop:=(1<=x.1/\x.1<=8)/\(if 3<=x.1/\x.1<=6 then (0<=x.2.1/\x.2.1<=i-1)/\(x.2.1+1<=x.2.2.1/\x.2.2.1<=i-1)/\x.2.2.2=0
 else if x.1=7 \/ x.1=8 then x.2.1=i-1/\0<i/\x.2.2.1=0/\0<=x.2.2.2/\x.2.2.2<=(if x.1=8 then 8 else 0)
 else if x.1=2 then x.2.1=0/\x.2.2.1=0/\0<=x.2.2.2/\x.2.2.2<=3 else x.2.1=0/\x.2.2.1=0/\0<=x.2.2.2/\x.2.2.2<=999999999)

instance (x:Nod) (i:Int):Decidable (Em x i):=by unfold Em;infer_instance

theorem B6j {n:Nat} {x:Nod} {i:Int} (hi:0<=i/\i<1152921504606846976):f186 n x i=some (decide (Em x i)):=by
 unfold f186 Em
 simp only [Ke,Aao,Aam,Nk,A0,Aa (x:=i-1) (by omega) (by omega),XD,QO,KR]
 by_cases h0:1<=x.1/\x.1<=8
 . by_cases h1:3<=x.1/\x.1<=6
   . by_cases h2:0<=x.2.1/\x.2.1<=i-1
     . rw [Aa (x:=x.2.1+1) (by omega) (by omega)]
       simp only [h0,h1,h2];by_cases h3:x.2.1+1<=x.2.2.1/\x.2.2.1<=i-1
       . simp [h3];rfl
       . simp [h3]
     . simp [h0,h1,h2]
   . by_cases h2:x.1=7 \/ x.1=8
     . have e : W (8 * (if (x.1 == 8) = true then 1 else 0)) = if x.1 = 8 then 8 else 0 := by
        by_cases h:x.1=8 <;> simp [h] <;> exact Aa (by omega) (by omega)
       simp only [KR] at e;simp only [h0,h1,h2,e];grind
     . grind
 . simp [h0]

def okP (bs:List Int) (x:Nod) (i:Int):Prop:=Em x i/\(3<=x.1/\x.1<=6->x.2.2.1=i-1/\bs.getD x.2.2.1.toNat 0=x.2.1+1)

instance (bs:List Int) (x:Nod) (i:Int):Decidable (okP bs x i):=by unfold okP;infer_instance

def nb (bs:List Int) (x:Nod) (i:Int):Int:=if 3<=x.1/\x.1<=8 then bs.getD x.2.1.toNat 0 else i

def nd (ds:List Int) (x:Nod):Int:=if 3<=x.1/\x.1<=6 then 1+max (ds.getD x.2.1.toNat 0) (ds.getD x.2.2.1.toNat 0) else if x.1=7 \/ x.1=8 then 1+ds.getD x.2.1.toNat 0 else 1

def Cb:List Int->List Int->List Nod->Option (List Int × List Int)
 | bs,ds,[]=>some (bs,ds)
 | bs,ds,x::r=>if okP bs x bs.length then Cb (bs++[nb bs x bs.length]) (ds++[nd ds x]) r else none

structure R5 (bs ds:List Int):Prop where
 len:ds.length=bs.length
 small:bs.length<=1048576
 b:∀ j,j<bs.length->0<=bs.getD j 0/\bs.getD j 0<=j
 d:∀ j,j<ds.length->1<=ds.getD j 0/\ds.getD j 0<=j+1

theorem Ny {a:Int} {k:Nat} (h0:0<=a) (h:a<=(k:Int)-1):a.toNat<k:=by omega

theorem R5.step {bs ds:List Int} (h:R5 bs ds) {x:Nod} (hx:okP bs x bs.length) (hs:bs.length+1<=1048576):R5 (bs++[nb bs x bs.length]) (ds++[nd ds x]):=by
 obtain ⟨h1,h2,h3,h4⟩:=h;have hn:=hx.1;unfold Em at hn
 refine ⟨by simp [h1],by simpa using hs,λj hj=>?_,λj hj=>?_⟩
 . simp only [ZF,ZH,XA] at hj;rcases ZT j bs.length with hlt | hge
   . rw [Cc hlt];exact h3 j hlt
   . obtain rfl:j=bs.length:=by omega
     rw [Cd];unfold nb;split
     . have ha : 0 <= x.2.1 /\ x.2.1 <= (bs.length : Int) - 1 := by
        split at hn
        . omega
        . split at hn
          . omega
          . omega
       have:=h3 _ (Ny ha.1 ha.2);omega
     . omega
 . simp only [ZF,ZH,XA] at hj;rcases ZT j ds.length with hlt | hge
   . rw [Cc hlt];exact h4 j hlt
   . obtain rfl:j=ds.length:=by omega
     rw [Cd];unfold nd;split
     . rename_i h2';rw [QJ h2'] at hn
       have ha:=h4 _ (by rw [h1];exact Ny (k:=bs.length) (a:=x.2.1) (by omega) (by omega))
       have hb:=h4 _ (by rw [h1];exact Ny (k:=bs.length) (a:=x.2.2.1) (by omega) (by omega))
       omega
     . rename_i h2';rw [QG h2'] at hn;split
       . rename_i h3';rw [QJ h3'] at hn
         have ha:=h4 _ (by rw [h1];exact Ny (k:=bs.length) (a:=x.2.1) (by omega) (by omega))
         omega
       . omega

theorem B0g {bs ds:List Int} (h:R5 bs ds) {x:Nod}:okP bs x bs.length ↔ D5 x bs.length/\(Dc x.1=1->x.2.1=(bs.length:Int)-1)/\(Dc x.1=2->x.2.2.1=(bs.length:Int)-1/\x.2.1=bs.getD x.2.2.1.toNat 0-1):=by
 obtain ⟨h1,h2,h3,h4⟩:=h;unfold okP Em D5 Jz Dc;by_cases h2:3<=x.1/\x.1<=6
 . have e:x.1=3 \/ x.1=4 \/ x.1=5 \/ x.1=6:=by omega
   have e1:¬ x.1=1:=by omega
   have e2:¬ x.1=2:=by omega
   have e3:¬ x.1=8:=by omega
   simp only [QJ e,QJ h2,QG e1,QG e2,QG e3];constructor
   . rintro ⟨⟨ha,hb,hc,hd⟩,hf⟩
     obtain ⟨hf1,hf2⟩:=hf h2
     refine ⟨⟨ha,hd,by rw [QJ (by decide)];omega,by rw [QJ (by decide)];omega⟩,λh=>absurd h (by decide),λ_=>by omega⟩
   . rintro ⟨⟨ha,hb,hc,hd⟩,_,hf⟩
     obtain ⟨hf1,hf2⟩:=hf trivial
     rw [QJ (by decide)] at hc hd
     have:=h3 _ (Ny hd.1 hd.2)
     refine ⟨⟨ha,hc,?_,hb⟩,λ_=>⟨hf1,by omega⟩⟩
     omega
 . have e:¬ (x.1=3 \/ x.1=4 \/ x.1=5 \/ x.1=6):=by omega
   simp only [QG e,QG h2];by_cases h5:x.1=7 \/ x.1=8
   . have e1:¬ x.1=1:=by omega
     have e2:¬ x.1=2:=by omega
     simp only [QJ h5,QG e1,QG e2];constructor
     . rintro ⟨⟨ha,hb,hc,hd,hn⟩,_⟩
       refine ⟨⟨ha,?_,by rw [QJ (by decide)];omega,by rw [QG (by decide)];exact hd⟩,λ_=>hb,λh=>absurd h (by decide)⟩
       split <;> (split at hn <;> omega)
     . rintro ⟨⟨ha,hb,hc,hd⟩,hf,_⟩
       rw [QJ (by decide)] at hc
       rw [QG (by decide)] at hd
       have hf:=hf trivial
       refine ⟨⟨ha,hf,by omega,hd,?_⟩,λh=>absurd h h2⟩
       split at hb <;> split <;> omega
   . have e3:¬ x.1=8:=by omega
     simp only [QG h5,QG e3];constructor
     . rintro ⟨⟨ha,hb⟩,_⟩
       refine ⟨⟨ha,?_,?_,?_⟩,λh=>absurd h (by decide),λh=>absurd h (by decide)⟩
       . have hb1:x.1=1 \/ x.1=2:=by omega
         rcases hb1 with h1' | h1'
         . rw [QG (by omega)] at hb;rw [QJ h1'];omega
         . rw [QJ h1'] at hb;rw [QG (by omega),QJ h1'];omega
       . rw [QG (by decide)];split at hb <;> omega
       . rw [QG (by decide)];split at hb <;> omega
     . rintro ⟨⟨ha,hb,hc,hd⟩,_,_⟩
       rw [QG (by decide)] at hc hd
       refine ⟨⟨ha,?_⟩,λh=>absurd h h2⟩
       have hb1:x.1=1 \/ x.1=2:=by omega
       rcases hb1 with h1' | h1'
       . rw [QJ h1'] at hb;rw [QG (by omega)];omega
       . rw [QG (by omega),QJ h1'] at hb;rw [QJ h1'];omega

theorem Akn {α:Type} {n k:Nat} {e:List Nod} {bs ds:List Int} {f} {k0:Bool->Option α} {k1} (hi:R5 bs ds) (hk:bs.length=k) (hlt:k<e.length) (hN:e.length<=1048576) :
  Ox n e (e.length:Int) (k:Int) bs ds f k0 k1=if okP bs (e.getD k (0,0,0,0)) (bs.length:Nat) then f e (e.length:Int) ((k+1:Nat):Int) (bs++[nb bs (e.getD k (0,0,0,0)) (bs.length:Nat)]) (ds++[nd ds (e.getD k (0,0,0,0))]) else k0 false:=by
 have hp:=B0g hi (x:=e.getD k (0,0,0,0));obtain ⟨h1,h2,h3,h4⟩:=hi;subst hk;unfold Ox;generalize hx:e.getD bs.length (0,0,0,0)=x at hp ⊢
 rw [QK,QJ (by omega),A3 (by simp;omega)]
 simp only [QP,hx,B60 (x:=x) (i:=(bs.length:Int)) (by omega),Xq,A0,Aa (x:=(bs.length:Int)-1) (by omega) (by omega),Aa (x:=(bs.length:Int)+1) (by omega) (by omega)]
 by_cases hpl:D5 x bs.length
 . simp only [hpl,decide_true,ZS,QQ];have hpl':=hpl;unfold D5 at hpl';by_cases k1':Dc x.1=1
   . have hop:x.1=7 \/ x.1=8:=by unfold Dc at k1';grind
     simp only [k1',beq_self_eq_true,ZJ]
     rw [QJ (by rw [k1'];decide)] at hpl'
     by_cases ha:x.2.1=(bs.length:Int)-1
     . have hok:okP bs x bs.length:=hp.2 ⟨hpl,λ_=>ha,λh=>by omega⟩
       have hd:=h4 x.2.1.toNat (by omega)
       rw [QJ hok]
       have e1:(x.2.1 != (bs.length:Int)-1)=false:=by simp [ha]
       rw [e1,QQ,A3 (by simp;omega),A3 (by simp;omega),A3 (by simp;omega),A3 (by simp;omega),A3 (by simp;omega),A3 (by simp;omega),Aa (by omega) (by omega)]
       have e2:nb bs x bs.length=bs.getD x.2.1.toNat 0:=by unfold nb;rw [QJ (by omega)]
       have e3:nd ds x=ds.getD x.2.1.toNat 0+1:=by unfold nd;rw [QG (by omega),QJ hop];omega
       rw [e2,e3];rfl
     . have hok:¬ okP bs x bs.length:=λh=>ha ((hp.1 h).2.1 k1');rw [QG hok]
       have e1:(x.2.1 != (bs.length:Int)-1)=true:=by simp [ha]
       rw [e1,ZJ]
   . have e0:(Dc x.1==1)=false:=by simp [k1']
     rw [e0,QQ];by_cases k2':Dc x.1=2
     . have hop:3<=x.1/\x.1<=6:=by unfold Dc at k2';grind
       simp only [k2',beq_self_eq_true,ZJ]
       rw [QJ (by rw [k2'];decide),QJ (by rw [k2'];decide)] at hpl'
       by_cases hb:x.2.2.1=(bs.length:Int)-1
       . have e1:(x.2.2.1 != (bs.length:Int)-1)=false:=by simp [hb]
         have hbb:=h3 x.2.2.1.toNat (by omega)
         rw [e1,QQ,A3 (by simp;omega),A3 (by simp;omega),Aa (x:=bs.getD x.2.2.1.toNat 0-1) (by omega) (by omega)]
         by_cases ha:x.2.1=bs.getD x.2.2.1.toNat 0-1
         . have hok:okP bs x bs.length:=hp.2 ⟨hpl,λh=>by omega,λ_=>⟨hb,ha⟩⟩
           have hd:=h4 x.2.1.toNat (by omega)
           have hd':=h4 x.2.2.1.toNat (by omega)
           rw [QJ hok]
           have e1:(x.2.1 != bs.getD x.2.2.1.toNat 0-1)=false:=by rw [<- ha];simp
           rw [e1,QQ,A3 (by simp;omega),A3 (by simp;omega),A3 (by simp;omega),A3 (by simp;omega),A3 (by simp;omega),A3 (by simp;omega),A3 (by simp;omega),A3 (by simp;omega),Aa (by omega) (by omega)]
           have e2:nb bs x bs.length=bs.getD x.2.1.toNat 0:=by unfold nb;rw [QJ (by omega)]
           have e3:nd ds x=max (ds.getD x.2.1.toNat 0) (ds.getD x.2.2.1.toNat 0)+1:=by unfold nd;rw [QJ hop];omega
           rw [e2,e3];rfl
         . have hok:¬ okP bs x bs.length:=λh=>ha ((hp.1 h).2.2 k2').2;rw [QG hok]
           have e1:(x.2.1 != bs.getD x.2.2.1.toNat 0-1)=true:=by simp only [Qbh,ne_eq];exact ha
           rw [e1,ZJ]
       . have hok:¬ okP bs x bs.length:=λh=>hb ((hp.1 h).2.2 k2').1;rw [QG hok]
         have e1:(x.2.2.1 != (bs.length:Int)-1)=true:=by simp [hb]
         rw [e1,ZJ]
     . have e0:(Dc x.1==2)=false:=by simp [k2']
       rw [e0,QQ];have hok:okP bs x bs.length:=hp.2 ⟨hpl,λh=>absurd h k1',λh=>absurd h k2'⟩
       have hop:x.1=1 \/ x.1=2:=by unfold Dc at k1' k2';grind
       rw [QJ hok,A3 (by simp;omega),A3 (by simp;omega)]
       have e2:nb bs x bs.length=bs.length:=by unfold nb;rw [QG (by omega)]
       have e3:nd ds x=1:=by unfold nd;rw [QG (by omega),QG (by omega)]
       rw [e2,e3];rfl
 . have hok:¬ okP bs x bs.length:=λh=>hpl (hp.1 h).1;rw [QG hok];simp only [hpl,decide_false,ZW,ZJ]

theorem T0:∀ (r:List Nod) (bs ds bs' ds':List Int),R5 bs ds->bs.length+r.length<=1048576->Cb bs ds r=some (bs',ds')->R5 bs' ds'/\bs'.length=bs.length+r.length/\(∀ j,j<bs.length->bs'.getD j 0=bs.getD j 0)/\(∀ j,j<ds.length->ds'.getD j 0=ds.getD j 0)
 | [],bs,ds,bs',ds',hi,_,h=>by
  simp only [Cb,QC,QI] at h;obtain ⟨rfl,rfl⟩:=h
  exact ⟨hi,by simp,λ_ _=>rfl,λ_ _=>rfl⟩
 | x::r,bs,ds,bs',ds',hi,hl,h=>by
  simp only [Cb] at h;simp only [ZH] at hl;split at h
  . rename_i hok
    obtain ⟨h1,h2,h3,h4⟩:=T0 r _ _ bs' ds' (hi.step hok (by omega)) (by simp;omega) h
    refine ⟨h1,by rw [h2];simp;omega,λj hj=>?_,λj hj=>?_⟩
    . rw [h3 j (by simp;omega),Cc hj]
    . rw [h4 j (by simp;omega),Cc hj]
  . cases h

theorem A66 {α:Type} {n:Nat} {e:List Nod} (hN:e.length<=1048576) {k0:Bool->Option α} {k1:List Int->List Int->Option α}:∀ (r:List Nod) (m:Nat) (bs ds:List Int),R5 bs ds->e.drop bs.length=r->bs.length+r.length=e.length->r.length<m ->
  A0g n m e (e.length:Int) (bs.length:Int) bs ds k0 k1=match Cb bs ds r with
   | some (bs',ds')=>k1 bs' ds'
   | none=>k0 false
 | [],m+1,bs,ds,hi,hd,hl,hm=>by
  rw [Ack];unfold Ox;simp only [XA] at hl
  rw [QK,QG (by omega)]
  rfl
 | x::r,m+1,bs,ds,hi,hd,hl,hm=>by
  obtain ⟨hx,hlt,hd'⟩:=Gp (d:=(0,0,0,0)) hd;rw [Ack,Akn hi rfl hlt hN,hx];simp only [Cb];by_cases hok:okP bs x bs.length
  . rw [QJ hok,QJ hok]
    have ih:=A66 hN r m (bs++[nb bs x bs.length]) (ds++[nd ds x]) (hi.step hok (by omega)) (by simpa using hd') (by simp;simp at hl;omega) (by simp at hm;omega) (n:=n) (k0:=k0) (k1:=k1)
    simp only [ZF,ZH,XA,YM] at ih;exact ih
  . rw [QG hok,QG hok]

theorem Aps:R5 [] []:=⟨rfl,by simp,λj hj=>by simp at hj,λj hj=>by simp at hj⟩

theorem B6u {n:Nat} {e:List Nod} (hN:e.length<=1048576) (hn:1048577<=n):f178 n e=some (match Cb [] [] e with
  | some (bs,ds)=>(bs,ds,true)
  | none=>([],[],false)):=by
 unfold f178
 have:=A66 (n:=n) hN (k0:=λz=>some ([],[],z)) (k1:=λa b=>some (a,b,true)) e n [] [] Aps rfl (by simp) (by omega)
 simp only [XA] at this;refine Eq.trans this ?_
 cases Cb [] [] e with
 | none=>rfl
 | some p=>rfl

theorem Afu {α:Type} {n:Nat} {l:List Int} (hN:l.length<=1048576) {k0:Int->Option α}:∀ (r:List Int) (m k:Nat) (a:Int),l.drop k=r->k+r.length=l.length->r.length<m->A0f n m l a (k:Int) k0=k0 (r.foldl max a)
 | [],m+1,k,a,hd,hl,hm=>by
  rw [Aci];unfold U3;simp only [XA] at hl
  rw [QK,QG (by omega)]
  rfl
 | x::r,m+1,k,a,hd,hl,hm=>by
  obtain ⟨hx,hlt,hd'⟩:=Gp (d:=0) hd;rw [Aci];unfold U3
  rw [QK,QJ (by omega),A3 (by simp;omega),Aa (by omega) (by omega)]
  simp only [QP,hx];simp only [ZH] at hl hm
  exact Afu hN r m (k+1) (max a x) hd' (by omega) (by omega)

theorem B6s {n:Nat} {l:List Int} (hN:l.length<=1048576) (hn:1048577<=n) (h0:0<l.length):∃ r,f179 n l=some r/\(r<=12 ↔ ∀ x ∈ l,x<=12):=by
 cases l with
 | nil=>cases h0
 | cons x r =>
  refine ⟨r.foldl max x,?_,?_⟩
  . unfold f179
    rw [QK,QG (by simp only [ZH];omega),A3 (by simp)]
    have:=Afu (n:=n) (k0:=λz=>some z) hN r n 1 x rfl (by simp only [ZH];omega) (by simp at hN;omega)
    exact this
  . rw [Agc];simp

def E9 (e:List Nod):Prop:=(1<=e.length/\e.length<=60) /\ ∃ bs ds,Cb [] [] e=some (bs,ds)/\bs.getD (e.length-1) 0=0 /\ ∀ x ∈ ds,x<=12

open Classical in
theorem B8j {n:Nat} {e:List Nod} (hN:e.length<=1048576) (hn:1048577<=n):f112 n e=some (decide (E9 e)):=by
 unfold f112;rw [A0h,A0];by_cases h1:(1:Int)<=(e.length:Int)/\(e.length:Int)<=60
 . simp only [h1,JF,decide_true,ZS,QQ];rw [B6u hN hn,A0]
   cases hr:Cb [] [] e with
   | none =>
    have:¬ E9 e:=λ⟨_,_,_,h,_⟩=>by rw [hr] at h;cases h
    simp [this]
   | some p =>
    obtain ⟨bs,ds⟩:=p
    obtain ⟨hi,hl,_,_⟩:=T0 e [] [] bs ds Aps (by simpa using hN) hr
    simp only [XA,YM] at hl;simp only [ZJ]
    rw [Aa (x:=(e.length:Int)-1) (by omega) (by omega),A3 (by simp;omega)]
    have et:((e.length:Int)-1).toNat=e.length-1:=by omega
    rw [et];by_cases hb:bs.getD (e.length-1) 0=0
    . obtain ⟨r,hr1,hr2⟩:=B6s (n:=n) (l:=ds) (by rw [hi.len];omega) hn (by rw [hi.len];omega)
      rw [hr1,A0]
      have e1:(bs.getD (e.length-1) 0==0)=true:=by rw [hb];rfl
      rw [e1,ZJ];congr 1;rw [decide_eq_decide,hr2];constructor
      . intro h;exact ⟨by omega,bs,ds,hr,hb,h⟩
      . rintro ⟨_,bs',ds',h,_,h'⟩
        rw [hr] at h;simp only [QC,QI] at h;obtain ⟨rfl,rfl⟩:=h;exact h'
    . have e1:(bs.getD (e.length-1) 0==0)=false:=by simp only [beq_eq_false_iff_ne,ne_eq];exact hb
      have:¬ E9 e:=λ⟨_,bs',ds',h,hb',_⟩=>by
       rw [hr] at h;simp only [QC,QI] at h;obtain ⟨rfl,rfl⟩:=h;exact hb hb'
      rw [e1,QQ];simp [this]
 . have:¬ E9 e:=λ⟨h,_⟩=>h1 (by omega)
   simp only [h1,decide_false,ZW,ZJ,this]

theorem Apw {α:Type} {n:Nat} {e:List Nod} {bs:List Int} (hN:e.length<=1048576)
  (hb:∀ j,j<bs.length->okP (bs.take j) (e.getD j (0,0,0,0)) j/\bs.getD j 0=nb (bs.take j) (e.getD j (0,0,0,0)) j) (hl:bs.length<=e.length) {k0:Int->Option α} :
  ∀ (j m:Nat),j<bs.length->j<m->A0e n m (j:Int) e (e.getD j (0,0,0,0)).1 (e.getD j (0,0,0,0)).2.1 (e.getD j (0,0,0,0)).2.2.1 (e.getD j (0,0,0,0)).2.2.2 k0=k0 (bs.getD j 0):=by
 intro j
 induction j using Nat.strongRecOn with
 | ind j ih =>
  intro m hj hm
  obtain ⟨m,rfl⟩:∃ m',m=m'+1:=⟨m-1,by omega⟩
  obtain ⟨hok,hv⟩:=hb j hj;rw [Awa];unfold A40;rw [hv];generalize hx:e.getD j (0,0,0,0)=x at hok hv ⊢;have hn:=hok.1;unfold Em at hn;simp only [Aao,Aam,A0,QK];by_cases h1:3<=x.1/\x.1<=8
  . have ha : 0 <= x.2.1 /\ x.2.1 <= (j : Int) - 1 := by
     split at hn
     . omega
     . split at hn
       . omega
       . omega
    have hlt:x.2.1.toNat<j:=by omega
    have e1:nb (bs.take j) x j=bs.getD x.2.1.toNat 0:=by
     unfold nb;rw [QJ h1];simp [QL,XH,hlt]
    have key:=ih x.2.1.toNat hlt m (by omega) (by omega)
    have et:((x.2.1.toNat:Nat):Int)=x.2.1:=by omega
    rw [et] at key
    rw [e1,A3 (by simp;omega)]
    by_cases h2:3<=x.1/\x.1<=6
    . rw [QJ h2];exact key
    . rw [QG h2,QJ (by omega)];exact key
  . rw [QG (by omega),QG (by omega)]
    unfold nb;rw [QG h1]

def Ran (e:List Nod) (bs:List Int):Prop:=∀ j,j<bs.length->okP (bs.take j) (e.getD j (0,0,0,0)) j/\bs.getD j 0=nb (bs.take j) (e.getD j (0,0,0,0)) j

theorem Anh {n:Nat} {e:List Nod} {bs:List Int} (hN:e.length<=1048576) (hn:1048577<=n) (hb:Ran e bs) (hl:bs.length<=e.length) {j:Int} (hj:0<=j/\j<(bs.length:Int)):f187 n e j=some (bs.getD j.toNat 0):=by
 unfold f187
 rw [A3 (by simp;omega)]
 have:=Apw (n:=n) hN hb hl (k0:=λz=>some z) j.toNat n (by omega) (by omega)
 rw [show ((j.toNat:Nat):Int)=j by omega] at this
 exact this

theorem Ran.step {e:List Nod} {bs:List Int} (h:Ran e bs) {x:Nod} (hx:e.getD bs.length (0,0,0,0)=x) (hok:okP bs x bs.length):Ran e (bs++[nb bs x bs.length]):=by
 intro j hj;simp only [ZF,ZH,XA] at hj;rcases ZT j bs.length with hlt | hge
 . rw [Cc hlt,List.take_append_of_le_length (by omega)]
   exact h j hlt
 . obtain rfl:j=bs.length:=by omega
   rw [Cd,List.take_left',hx]
   . exact ⟨hok,rfl⟩
   . rfl

theorem Abj {α:Type} {n:Nat} {e:List Nod} (hN:e.length<=1048576) (hn:1048577<=n) {k0:Bool->Option α} {k1:List Nod->Option α}:∀ (r:List Nod) (m:Nat) (bs ds:List Int),R5 bs ds->Ran e bs->(∀ x ∈ ds,x<=12)->e.drop bs.length=r->bs.length+r.length=e.length->r.length<m ->
  A0r n m (bs.length:Int) e ds k0 k1=match Cb bs ds r with
   | some (_,ds')=>if ∀ x ∈ ds',x<=12 then k1 e else k0 false
   | none=>k0 false
 | [],m+1,bs,ds,hi,hr,h12,hd,hl,hm=>by
  rw [Ad1];unfold Pc;simp only [XA] at hl
  rw [QK,QG (by omega)]
  simp only [Cb];rw [QJ h12]
 | x::r,m+1,bs,ds,hi,hr,h12,hd,hl,hm=>by
  obtain ⟨hx,hlt,hd'⟩:=Gp (d:=(0,0,0,0)) hd;have hi0:=hi;obtain ⟨h1,h2,h3,h4⟩:=hi;simp only [ZH] at hl hm
  have round:∀ f:Int->List Nod->List Int->Option α,Pc n (bs.length:Int) e ds f k0 k1=if okP bs x bs.length/\nd ds x<=12 then f ((bs.length+1:Nat):Int) e (ds++[nd ds x]) else k0 false:=by
   intro f;unfold Pc
   rw [QK,QJ (by omega),A3 (by simp;omega)]
   simp only [QP,hx,B6j (x:=x) (i:=(bs.length:Int)) (by omega),Aao,Aam,A0,Aa (x:=(bs.length:Int)-1) (by omega) (by omega),Aa (x:=(bs.length:Int)+1) (by omega) (by omega)]
   by_cases hno:Em x bs.length
   . simp only [hno,decide_true,ZS,QQ];have hno':=hno;unfold Em at hno';by_cases h5:3<=x.1/\x.1<=6
     . have h6:¬ (x.1=7 \/ x.1=8):=by omega
       rw [QJ h5] at hno';simp only [h5,h6,JF,decide_true,ZJ,decide_false,QQ];by_cases hb:x.2.2.1=(bs.length:Int)-1
       . have e1:(x.2.2.1 != (bs.length:Int)-1)=false:=by simp [hb]
         rw [e1,QQ,Anh hN hn hr (by omega) (by omega),A0,Aa (x:=x.2.1+1) (by omega) (by omega)]
         by_cases ha:bs.getD x.2.2.1.toNat 0=x.2.1+1
         . have hok:okP bs x bs.length:=⟨hno,λ_=>⟨hb,ha⟩⟩
           have e1:(bs.getD x.2.2.1.toNat 0 != x.2.1+1)=false:=by rw [ha];simp
           have da:=h4 x.2.1.toNat (by omega)
           have db:=h4 x.2.2.1.toNat (by omega)
           have e3:nd ds x=1+max (ds.getD x.2.1.toNat 0) (ds.getD x.2.2.1.toNat 0):=by unfold nd;rw [QJ h5]
           rw [e1,QQ,A3 (by simp;omega),A3 (by simp;omega),A3 (by simp;omega),A3 (by simp;omega),Aa (by omega) (by omega),<- e3,QK]
           by_cases h12':nd ds x<=12
           . rw [QG (by omega),A3 (by simp;omega),QJ ⟨hok,h12'⟩]
             rfl
           . rw [QJ (by omega),QG (λh=>h12' h.2)]
         . have hok:¬ okP bs x bs.length:=λh=>ha (h.2 h5).2
           have e1:(bs.getD x.2.2.1.toNat 0 != x.2.1+1)=true:=by simp only [Qbh,ne_eq];exact ha
           rw [e1,ZJ,QG (λh=>hok h.1)]
       . have hok:¬ okP bs x bs.length:=λh=>hb (h.2 h5).1
         have e1:(x.2.2.1 != (bs.length:Int)-1)=true:=by simp [hb]
         rw [e1,ZJ,QG (λh=>hok h.1)]
     . rw [QG h5] at hno';have hok:okP bs x bs.length:=⟨hno,λh=>absurd h h5⟩;simp only [h5,decide_false,QQ];by_cases h6:x.1=7 \/ x.1=8
       . rw [QJ h6] at hno'
         have da:=h4 x.2.1.toNat (by omega)
         have e3:nd ds x=1+ds.getD x.2.1.toNat 0:=by unfold nd;rw [QG h5,QJ h6]
         simp only [h6,decide_true,ZJ]
         rw [A3 (by simp;omega),A3 (by simp;omega),Aa (by omega) (by omega),<- e3,QK]
         by_cases h12':nd ds x<=12
         . rw [QG (by omega),A3 (by simp;omega),QJ ⟨hok,h12'⟩]
           rfl
         . rw [QJ (by omega),QG (λh=>h12' h.2)]
       . simp only [h6,decide_false,QQ]
         have e3:nd ds x=1:=by unfold nd;rw [QG h5,QG h6]
         rw [QK,QG (by omega),A3 (by simp;omega),QJ ⟨hok,by omega⟩,e3]
         rfl
   . have hok:¬ okP bs x bs.length:=λh=>hno h.1;simp only [hno,decide_false,ZW,ZJ];rw [QG (λh=>hok h.1)]
  rw [Ad1,round];simp only [Cb];by_cases hok:okP bs x bs.length
  . rw [QJ hok];by_cases h12':nd ds x<=12
    . rw [QJ ⟨hok,h12'⟩]
      have ih:=Abj hN hn r m (bs++[nb bs x bs.length]) (ds++[nd ds x]) (hi0.step hok (by omega)) (hr.step hx hok) (λy hy=>by
       rcases QD.1 hy with hy | hy
       . exact h12 y hy
       . simp only [QR] at hy;subst hy;exact h12') (by simpa using hd') (by simp;omega) (by omega) (k0:=k0) (k1:=k1)
      simp only [ZF,ZH,XA,YM] at ih;exact ih
    . rw [QG (λh=>h12' h.2)]
      cases hrun:Cb (bs++[nb bs x bs.length]) (ds++[nd ds x]) r with
      | none=>rfl
      | some p =>
       obtain ⟨bs',ds'⟩:=p
       obtain ⟨q1,q2,_,q4⟩:=T0 r _ _ bs' ds' (hi0.step hok (by omega)) (by simp;omega) hrun
       have hlt':ds.length<ds'.length:=by rw [q1.len,q2];simp;omega
       have hv:=q4 ds.length (by simp)
       rw [Cd] at hv
       have hm':nd ds x ∈ ds':=by
        rw [<- hv];simp only [QL,QM hlt',YL];exact KQ hlt'
       simp only;rw [QG (λh=>h12' (h _ hm'))]
  . rw [QG hok,QG (λh=>hok h.1)]

theorem Af9 {e:List Nod}:∀ (r:List Nod) (bs ds bs' ds':List Int),Ran e bs->e.drop bs.length=r->Cb bs ds r=some (bs',ds')->Ran e bs'
 | [],bs,ds,bs',ds',hr,_,h=>by
  simp only [Cb,QC,QI] at h;obtain ⟨rfl,_⟩:=h;exact hr
 | x::r,bs,ds,bs',ds',hr,hd,h=>by
  obtain ⟨hx,_,hd'⟩:=Gp (d:=(0,0,0,0)) hd;simp only [Cb] at h;split at h
  . rename_i hok
    exact Af9 r _ _ bs' ds' (hr.step hx hok) (by simpa using hd') h
  . cases h

open Classical in
theorem B85 {n:Nat} {e:List Nod} (hN:e.length<=1048576) (hn:1048577<=n):f124 n e=some (decide (E9 e)):=by
 unfold f124;rw [Ke,A0];by_cases h1:(1:Int)<=(e.length:Int)/\(e.length:Int)<=60
 . simp only [h1,JF,decide_true,ZS,QQ]
   have:=Abj (n:=n) hN hn (k0:=λz=>some z) (k1:=λz=>ob (f187 n z (W ((z.length:Int)-1))) λr=>some (r==0)) e n [] [] Aps (λj hj=>by simp at hj) (by simp) rfl (by simp) (by omega)
   simp only [XA] at this;refine Eq.trans this ?_
   cases hr:Cb [] [] e with
   | none =>
    have:¬ E9 e:=λ⟨_,_,_,h,_⟩=>by rw [hr] at h;cases h
    simp [this]
   | some p =>
    obtain ⟨bs,ds⟩:=p
    obtain ⟨hi,hl,_,_⟩:=T0 e [] [] bs ds Aps (by simpa using hN) hr
    simp only [XA,YM] at hl
    have hran:=Af9 e [] [] bs ds (λj hj=>by simp at hj) rfl hr
    simp only;by_cases h12:∀ x ∈ ds,x<=12
    . rw [QJ h12,Aa (by omega) (by omega),Anh hN hn hran (by omega) (by omega),A0]
      have et:((e.length:Int)-1).toNat=e.length-1:=by omega
      rw [et];by_cases hb:bs.getD (e.length-1) 0=0
      . have:E9 e:=⟨by omega,bs,ds,hr,hb,h12⟩
        rw [hb];simp [this]
      . have : ¬ E9 e := fun ⟨_, bs', ds', h, hb', _⟩ => by
         rw [hr] at h;simp only [QC,QI] at h;obtain ⟨rfl,rfl⟩:=h;exact hb hb'
        have e1:(bs.getD (e.length-1) 0==0)=false:=by simp only [beq_eq_false_iff_ne,ne_eq];exact hb
        rw [e1];simp [this]
    . have : ¬ E9 e := fun ⟨_, bs', ds', h, _, h'⟩ => by
       rw [hr] at h;simp only [QC,QI] at h;obtain ⟨rfl,rfl⟩:=h;exact h12 h'
      rw [QG h12];simp [this]
 . have:¬ E9 e:=λ⟨h,_⟩=>h1 (by omega)
   simp only [h1,decide_false,ZW,ZJ,this]

theorem A8j {m:Nat}:(((dg m).length:Int)==0)=decide (m=0):=by
 rw [App];by_cases h:m=0
 . subst h;rw [By];rfl
 . rw [QT h,Dk h];rfl

theorem Ajh {m:Nat}:decide (((dg m).length:Int)>0)=decide (m ≠ 0):=by
 by_cases h:m=0
 . subst h;rw [By];rfl
 . rw [Dk h];simp [h]

def Pk (s:Int) (l:List Nod):Int:=l.foldl (λs x=>if x.1=2 then max s (W (x.2.2.2+1)) else s) s

abbrev nd0:Nod:=(0,0,0,0)

theorem Ajg {l:List Nod} {i:Nat} (h:i<l.length) (s:Int):Pk s (l.drop i)=Pk (if (l.getD i nd0).1=2 then max s (W ((l.getD i nd0).2.2.2+1)) else s) (l.drop (i+1)):=by
 rw [XQ h,QL,QM h];rfl

theorem Ys {α:Type} {n:Nat} {l:List Nod} (hl:l.length<=1048576) {k0:Int->Option α}:∀ (m i:Nat) (s:Int),i<=l.length->l.length<i+m->A0q n m s (i:Int) l k0=k0 (Pk s (l.drop i))
 | 0,i,s,hi,hm=>by omega
 | m+1,i,s,hi,hm=>by
  rw [Ay9];unfold A57;dsimp only;rw [QK];by_cases h:i<l.length
  . rw [QJ (by omega),A3 (by simp;try omega),A3 (by simp;try omega),Ajg h]
    simp only [QP]
    rw [XD,Aa (x:=(i:Int)+1) (by omega) (by omega)]
    by_cases hv:(l.getD i nd0).1=2
    . rw [QJ (by rw [KR];exact hv),QJ hv]
      exact Ys hl m (i+1) _ (by omega) (by omega)
    . rw [QG (by rw [KR];exact hv),QG hv]
      exact Ys hl m (i+1) _ (by omega) (by omega)
  . rw [QG (by omega),QW (by omega)]
    rfl

theorem Yt {α:Type} {n:Nat} {l:List Nod} (hl:l.length<=1048576) {k0:Int->Option α}:∀ (m i:Nat) (s:Int),i<=l.length->l.length<i+m->A0s n m s l (l.length:Int) (i:Int) k0=k0 (Pk s (l.drop i))
 | 0,i,s,hi,hm=>by omega
 | m+1,i,s,hi,hm=>by
  rw [Ayk];unfold A5f;dsimp only;rw [QK];by_cases h:i<l.length
  . rw [QJ (by omega),A3 (by simp;try omega),Ajg h]
    simp only [QP]
    rw [XD,Aa (x:=(i:Int)+1) (by omega) (by omega)]
    by_cases hv:(l.getD i nd0).1=2
    . rw [QJ (by rw [KR];exact hv),QJ hv]
      exact Yt hl m (i+1) _ (by omega) (by omega)
    . rw [QG (by rw [KR];exact hv),QG hv]
      exact Yt hl m (i+1) _ (by omega) (by omega)
  . rw [QG (by omega),QW (by omega)]
    rfl

theorem B83 {n:Nat} {l:List Nod} (hl:l.length<=1048576) (hn:1048577<=n):f125 n l=some (Pk 0 l):=by
 unfold f125
 have:=Ys (n:=n) hl (k0:=λz_3=>some z_3) n 0 0 (by omega) (by omega)
 simpa using this

theorem B8c {n:Nat} {l:List Nod} (hl:l.length<=1048576) (hn:1048577<=n):f120 n l=some (Pk 0 l):=by
 unfold f120
 have:=Yt (n:=n) hl (k0:=λz_2=>some z_2) n 0 0 (by omega) (by omega)
 simpa using this

theorem Azt {α:Type} {n:Nat} {a b:List Int} (ha:Cn a) (hb:Cn b) (hN:a.length<=1099511627776) (hNb:b.length<=1099511627776) {k0:List Int->Option α}:∀ (m i:Nat) (c:Int) (o:List Int),o.length=i->Lm o->0<=c->c<=1 ->
  vl o+10000 ^ i*c=vl (a.take i)+vl (b.take i)->(i<=max a.length b.length \/ (i=max a.length b.length+1/\c=0/\o.getD (i-1) 0 ≠ 0))->max a.length b.length+2<=i+m ->
  Nm n m a b c (i:Int) o k0=k0 (dg (vl a+vl b).toNat)
 | 0,i,c,o,ho,hlo,hc0,hc1,hv,hq,hm=>by omega
 | m+1,i,c,o,ho,hlo,hc0,hc1,hv,hq,hm=>by
  rw [Axi];unfold A4n;dsimp only
  have fin:a.length<=i->b.length<=i->c=0->o=dg (vl a+vl b).toNat:=λh1 h2 h3=>by
   rw [Jt a h1,Jt b h2,h3] at hv
   have hv':vl o=vl a+vl b:=by simpa using hv
   have:Cn o:=Cn.of_ge hlo λhn=>by
    have hl:0<o.length:=XO.2 hn;rcases hq with hq | ⟨hq1,_,hq3⟩
    . have hmx:i=max a.length b.length:=by omega
      rw [ho,hv'];rcases Nat.le_total a.length b.length with hab | hab
      . have h4:=hb.ge (XO.1 (by omega))
        have h5:=B9 ha.1
        rw [show i-1=b.length-1 by omega];omega
      . have h4:=ha.ge (XO.1 (by omega))
        have h5:=B9 hb.1
        rw [show i-1=a.length-1 by omega];omega
    . have h1:=Ba o (o.length-1)
      rw [show o.length-1+1=o.length by omega,YI] at h1
      have h2:=B9 (hlo.take (o.length-1));have h3:=hlo.get (o.length-1);rw [<- ho] at hq3;have h4:=Fh (o.length-1)
      have h5:(10000:Int) ^ (o.length-1)*1<=10000 ^ (o.length-1)*o.getD (o.length-1) 0:=XG (by omega) (by omega)
      omega
   rw [<- hv',Qp this]
  have go:∀ (y:Int),y=c+a.getD i 0+b.getD i 0->(i<max a.length b.length \/ (i=max a.length b.length/\0<c))->Nm n m a b (W (Int.tdiv y 10000)) (W ((i:Int)+1)) (o++[Int.tmod y 10000]) k0=k0 (dg (vl a+vl b).toNat):=by
   intro y hy hi;have h1:=ha.1.get i;have h2:=hb.1.get i
   rw [tdv (by omega),tmd (by omega),Aa (by omega) (by omega),Aa (by omega) (by omega)]
   have ta:=Ba a i;have tb:=Ba b i
   have hyy:y=10000*(y / 10000)+y % 10000:=by omega
   refine Azt (n:=n) ha hb hN hNb m (i+1) _ _ (by simp [ho]) (hlo.app (Lm.cons (by omega) Lm.nil)) (by omega) (by omega) ?_ ?_ (by omega)
   . rw [R7,ho,ta,tb,Bw];generalize y / 10000=q at *;generalize y % 10000=r at *;generalize (10000:Int) ^ i=P at *;grind
   . rcases hi with hi | ⟨hi,hc⟩
     . exact .inl (by omega)
     . right
       have e1:a.getD i 0=0:=Bf (by omega)
       have e2:b.getD i 0=0:=Bf (by omega)
       have e3:y=1:=by omega
       subst e3
       refine ⟨by omega,by rfl,?_⟩
       rw [Qal,<- ho,QL];simp
  have hcases:(i<a.length \/ i<b.length \/ 0<c)->(i<max a.length b.length \/ (i=max a.length b.length/\0<c)):=λh=>by
   rcases h with h | h | h
   . exact .inl (by omega)
   . exact .inl (by omega)
   . rcases hq with hq | ⟨_,h0,_⟩
     . omega
     . omega
  have ho2:(decide ((o.length+1)*8<=140737488355328))=true:=by
   rw [QO];rcases hq with hq | ⟨hq,_⟩ <;> omega
  have h1:=ha.1.get i;have h2:=hb.1.get i;by_cases hA:i<a.length
  . have dA:decide ((i:Int)<(a.length:Int))=true:=by rw [QO];omega
    have dM:decide ((i:Int)<max (a.length:Int) (b.length:Int))=true:=by rw [QO];omega
    simp only [dM,dA,ZJ,QP]
    rw [A3 (by simp;try omega),Aa (x:=c+a.getD i 0) (by omega) (by omega)]
    by_cases hB:i<b.length
    . have dB:decide ((i:Int)<(b.length:Int))=true:=by rw [QO];omega
      simp only [dB,ZJ]
      rw [A3 (by simp;try omega),A3 ho2,Aa (x:=c+a.getD i 0+b.getD i 0) (by omega) (by omega)]
      exact go _ rfl (hcases (.inl hA))
    . have dB:decide ((i:Int)<(b.length:Int))=false:=by rw [ZV];omega
      simp only [dB,QQ];rw [A3 ho2]
      exact go _ (by rw [Bf (l:=b) (by omega)];omega) (hcases (.inl hA))
  . have dA:decide ((i:Int)<(a.length:Int))=false:=by rw [ZV];omega
    by_cases hB:i<b.length
    . have dB:decide ((i:Int)<(b.length:Int))=true:=by rw [QO];omega
      have dM:decide ((i:Int)<max (a.length:Int) (b.length:Int))=true:=by rw [QO];omega
      simp only [dM,dA,dB,ZJ,QQ,QP]
      rw [A3 (by simp;try omega),A3 ho2,Aa (x:=c+b.getD i 0) (by omega) (by omega)]
      exact go _ (by rw [Bf (l:=a) (by omega)];omega) (hcases (.inr (.inl hB)))
    . have dB:decide ((i:Int)<(b.length:Int))=false:=by rw [ZV];omega
      have dM:decide ((i:Int)<max (a.length:Int) (b.length:Int))=false:=by rw [ZV];omega
      simp only [dM,dA,dB,QQ];rw [QK];by_cases hc:0<c
      . rw [QJ (by omega),A3 ho2]
        exact go _ (by rw [Bf (l:=a) (by omega),Bf (l:=b) (by omega)];omega) (hcases (.inr (.inr hc)))
      . rw [QG (by omega),fin (by omega) (by omega) (by omega)]

theorem Bec {n a b:Nat} (h:(dg a).length<=1099511627776) (h':(dg b).length<=1099511627776) (hn:max (dg a).length (dg b).length+2<=n):f154 n (dg a) (dg b)=some (dg (a+b)):=by
 unfold f154
 have:=Azt (n:=n) (G4 a) (G4 b) h h' (k0:=λz_6=>some z_6) n 0 0 [] rfl Lm.nil (by omega) (by omega) (by simp [vl]) (.inl (by omega)) (by omega)
 have this:Nm n n (dg a) (dg b) 0 0 [] _=_:=this;rw [this,Bd,Bd];congr 1

theorem Au0 {o P c wi bi v' T y d r:Int} (h:o-P*(c+(bi+10000*v'))=T) (hy:y=wi-c-bi) (hd:y=r-10000*d):o+P*(r-wi)-10000*P*(d+v')=T:=by
 grind

theorem Asz {α:Type} {n:Nat} {b:List Int} (hb:Lm b) {N:Nat} (hN:N<=1099511627776) {T:Int} {k0:List Int->Option α}:∀ (m i:Nat) (c:Int) (o:List Int),o.length=N->Lm o->0<=c->c<=1->i<=N ->
  vl o-10000 ^ i*(c+vl (b.drop i))=T->N+1<=i+m ->
  ∃ o' c',Ii n m b c (N:Int) (i:Int) o k0=k0 o'/\o'.length=N/\Lm o'/\0<=c'/\c'<=1/\vl o'-10000 ^ N*(c'+vl (b.drop N))=T
 | 0,i,c,o,ho,hlo,hc0,hc1,hi,hv,hm=>by omega
 | m+1,i,c,o,ho,hlo,hc0,hc1,hi,hv,hm=>by
  rw [Axb];unfold A4j;dsimp only;by_cases hA:i<N
  . rw [QK,QJ (by omega),A3 (by simp;try omega),A3 (by simp;try omega)]
    have h1:=hlo.get i;have h2:=hb.get i;simp only [QP]
    have go:∀ (d r:Int),d=(if o.getD i 0-c-b.getD i 0<0 then 1 else 0)->r=o.getD i 0-c-b.getD i 0+10000*d->∃ o' c',Ii n m b d (N:Int) (W ((i:Int)+1)) (o.set i r) k0=k0 o'/\o'.length=N/\Lm o'/\0<=c'/\c'<=1/\vl o'-10000 ^ N*(c'+vl (b.drop N))=T:=by
     intro d r hd hr
     have hd1:0<=d/\d<=1/\0<=r/\r<10000:=by
      rw [hr,hd];split <;> omega
     rw [Aa (x:=(i:Int)+1) (by omega) (by omega)]
     refine Asz (n:=n) hb hN m (i+1) d _ (by simpa using ho) (hlo.set _ (by omega)) (by omega) (by omega) (by omega) ?_ (by omega)
     rw [L6 _ (by omega),Bw]
     refine Au0 (bi:=b.getD i 0) (y:=o.getD i 0-c-b.getD i 0) ?_ rfl (by omega)
     rw [<- A2a];exact hv
    have go2 : ∀ y : Int, y = o.getD i 0 - c - b.getD i 0 -> ∃ o' c', (bif (decide (y < 0)) then
          gd (decide (0<=(i:Int))&&decide ((i:Int)<(o.length:Int))) (
           gd (decide (i<o.length)) (
            Ii n m b 1 (N:Int) (W ((i:Int)+1)) (o.set i (W (y+10000))) k0))
      else
       gd (decide (0<=(i:Int))&&decide ((i:Int)<(o.length:Int))) (
        gd (decide (i<o.length)) (
         Ii n m b 0 (N:Int) (W ((i:Int)+1)) (o.set i y) k0)))=k0 o'/\o'.length=N/\Lm o'/\0<=c'/\c'<=1/\vl o'-10000 ^ N*(c'+vl (b.drop N))=T:=by
     intro y hy;rw [QK];by_cases hneg:y<0
     . rw [QJ hneg,A3 (by simp;try omega),A3 (by simp;try omega),Aa (x:=y+10000) (by omega) (by omega)]
       exact go 1 _ (by rw [QJ (by omega)]) (by omega)
     . rw [QG hneg,A3 (by simp;try omega),A3 (by simp;try omega)]
       exact go 0 _ (by rw [QG (by omega)]) (by omega)
    by_cases hB:i<b.length
    . have dB:decide ((i:Int)<(b.length:Int))=true:=by rw [QO];omega
      simp only [dB,ZJ]
      rw [A3 (by simp;try omega)]
      simp only [Aa (x:=o.getD i 0-c) (by omega) (by omega),Aa (x:=o.getD i 0-c-b.getD i 0) (by omega) (by omega)]
      exact go2 _ rfl
    . have dB:decide ((i:Int)<(b.length:Int))=false:=by rw [ZV];omega
      simp only [dB,QQ]
      simp only [Aa (x:=o.getD i 0-c) (by omega) (by omega)]
      exact go2 _ (by rw [Bf (l:=b) (by omega)];omega)
  . rw [QK,QG (by omega)]
    obtain rfl:i=N:=by omega
    exact ⟨o,c,rfl,ho,hlo,hc0,hc1,hv⟩

theorem B3x {n a b:Nat} (h:(dg a).length<=1099511627000) (hn:(dg a).length+1<=n) (hab:b<=a) (ha:0<a):f156 n (dg a) (dg b)=some (dg (a-b)):=by
 have hlab:=B8 hab;unfold f156
 rw [Aiy n (by omega) (λe=>by have:=Bdj.1 e;omega),A0]
 obtain ⟨o,c,h1,h2,h3,h4,h5,h6⟩:=Asz (n:=n) (Dt b) (N:=(dg a).length) (by omega) (T:=(a:Int)-b) (k0:=λz_4=>(
   ob (f202 n z_4) λr_5 =>
   some r_5)) n 0 0 (dg a) rfl (Dt a) (by omega) (by omega) (by omega) (by rw [ZQ,Bd,Bd,Int.pow_zero,Int.one_mul,Int.zero_add]) (by omega)
 have h1:Ii n n (dg b) 0 ((dg a).length:Int) 0 (dg a) _=_:=h1
 rw [QW (by omega)] at h6
 have h7:=Hr h3;rw [h2] at h7;have h8:=B9 h3
 have:c=0:=by
  rcases Int.lt_or_eq_of_le h4 with h | h
  . have:c=1:=by omega
    rw [this] at h6;simp only [vl,Qbg,Int.mul_one] at h6;generalize (10000:Int) ^ (dg a).length=P at *;omega
  . exact h.symm
 rw [this] at h6;simp only [vl,Qbg,Qam,Int.sub_zero] at h6
 rw [h1,Rm h3 (by omega) (by omega),A0,h6,show ((a:Int)-(b:Int)).toNat=a-b by omega]

def rq (x:Rat):Rt:=(decide (x.num<0),dg x.num.natAbs,dg x.den)

def mq (s:Bool) (a d:Nat):Rat:=mkRat (if s=true then -(a:Int) else a) d

def Sz (x:Rat) (L:Nat):Prop:=(dg x.num.natAbs).length<=L/\(dg x.den).length<=L

theorem Wz (s:Bool) (a:Nat):(if s=true then -(a:Int) else a).natAbs=a:=by cases s <;> simp

theorem Afq {s:Bool} {a d:Nat} (hd:0<d):(mq s a d).num=if s=true then -((a / Nat.gcd a d:Nat):Int) else ((a / Nat.gcd a d:Nat):Int):=by
 unfold mq
 rw [Rat.num_mkRat,QG (by omega),Wz,Nat.gcd_comm d a]
 cases s with
 | false=>simp
 | true =>
  simp only [if_true]
  rw [Int.neg_ediv_of_dvd (by exact_mod_cast Nat.gcd_dvd_left a d)]
  simp

theorem Afr {s:Bool} {a d:Nat} (hd:0<d):(mq s a d).den=d / Nat.gcd a d:=by
 unfold mq
 rw [Rat.den_mkRat,QG (by omega),Wz,Nat.gcd_comm d a]

theorem B3m {s:Bool} {a d:Nat} (hd:0<d):rq (mq s a d)=(s&&decide (a / Nat.gcd a d ≠ 0),dg (a / Nat.gcd a d),dg (d / Nat.gcd a d)):=by
 unfold rq;rw [Afq hd,Afr hd];generalize a / Nat.gcd a d=q
 cases s with
 | false=>simp
 | true =>
  simp only [if_true,ZX,Qbp,XR];congr 1;apply decide_eq_decide.2;omega

theorem N6 {s:Bool} {a d L:Nat} (hd:0<d) (h1:(dg a).length<=L) (h2:(dg d).length<=L):Sz (mq s a d) L:=by
 unfold Sz;rw [Afq hd,Afr hd,Wz];exact ⟨ZL (B8 (JN _ _)) h1,ZL (B8 (JN _ _)) h2⟩

theorem Rb {n L x d:Nat} {s:Bool} (hd:0<d) (hx:(dg x).length<=L) (hdl:(dg d).length<=L) (hL:L<=1099511627000) (hn:28*L+10040<=n):f197 n s (dg x) (dg d)=some (rq (mq s x d)):=by
 have hg:0<Nat.gcd x d:=Nat.gcd_pos_of_pos_right x hd;have hgl:(dg (Nat.gcd x d)).length<=L:=ZL (B8 (Nat.gcd_le_right x hd)) hdl;rw [B3m hd];unfold f197
 rw [B3l hL hn hx hdl,A0,Ap9 hg hx hgl hL (by omega),A0,Ap9 hg hdl hgl hL (by omega),A0]
 dsimp only;rw [Ajh]
 cases s <;> rfl

theorem Xg {n L x d:Nat} {s:Bool} (hd:0<d) (hx:(dg x).length<=L) (hdl:(dg d).length<=L) (hL:L<=1099511627000) (hn:28*L+10040<=n):f153 n s (dg x) (dg d)=some (rq (mq s x d)):=by
 have hg:0<Nat.gcd x d:=Nat.gcd_pos_of_pos_right x hd;have hgl:(dg (Nat.gcd x d)).length<=L:=ZL (B8 (Nat.gcd_le_right x hd)) hdl;have hq1:(dg (x / Nat.gcd x d)).length<=L:=ZL (B8 (JN _ _)) hx;have hq2:(dg (d / Nat.gcd x d)).length<=L:=ZL (B8 (JN _ _)) hdl;rw [B3m hd];unfold f153;dsimp only
 rw [B3y hL hn hx hdl,A0,show f151 n=some [1] from rfl,A0,<- Fl,Aeb (by omega),A0]
 have fin:∀ y z:List Int,y=dg (x / Nat.gcd x d)->z=dg (d / Nat.gcd x d)->(bif s then
   ob (f123 n y) λr_8 =>
   ob (f123 n z) λr_9 =>
   some ((decide ((y.length:Int)>0)),r_8,r_9)
  else
   ob (f123 n y) λr_10 =>
   ob (f123 n z) λr_11 =>
   some (false,r_10,r_11))=some (s&&decide (x / Nat.gcd x d ≠ 0),dg (x / Nat.gcd x d),dg (d / Nat.gcd x d)):=by
  rintro y z rfl rfl
  rw [Kj n (by omega),A0,Kj n (by omega),A0,Ajh]
  cases s <;> rfl
 by_cases h1:Nat.gcd x d=1
 . have e:(cm ((Nat.gcd x d:Nat):Int) ((1:Nat):Int) != 0)=false:=by rw [h1,L4 rfl];rfl
   rw [e,QQ]
   exact fin _ _ (by rw [h1,Nat.div_one]) (by rw [h1,Nat.div_one])
 . have e : (cm ((Nat.gcd x d : Nat) : Int) ((1 : Nat) : Int) != 0) = true := by
    rw [bne,Ajo,QT h1];rfl
   rw [e,ZJ,Apt hg hx hgl hL (by omega),A0,Apt hg hdl hgl hL (by omega),A0]
   exact fin _ _ rfl rfl

theorem Hd (x:Rat):x.num=if decide (x.num<0)=true then -(x.num.natAbs:Int) else x.num.natAbs:=by
 by_cases h:x.num<0
 . rw [QY h,QJ rfl];omega
 . rw [QT h,QG (by decide)];omega

theorem Vi {x y:Rat} (h:decide (x.num<0)=decide (y.num<0)):x+y=mq (decide (x.num<0)) (x.num.natAbs*y.den+y.num.natAbs*x.den) (x.den*y.den):=by
 rw [Rat.add_def'];unfold mq;congr 1;have hx:=Hd x;have hy:=Hd y;rw [<- h] at hy;generalize decide (x.num<0)=s at *;generalize x.num.natAbs=p at *;generalize y.num.natAbs=q at *;rw [hx,hy]
 cases s with
 | true=>simp only [if_true,JL,YC];grind
 | false=>simp

theorem Lt {x y:Rat} (h:decide (x.num<0) ≠ decide (y.num<0)) (hle:y.num.natAbs*x.den<=x.num.natAbs*y.den):x+y=mq (decide (x.num<0)) (x.num.natAbs*y.den-y.num.natAbs*x.den) (x.den*y.den):=by
 rw [Rat.add_def'];unfold mq;congr 1;have hx:=Hd x;have hy:=Hd y
 have h':decide (y.num<0) = !decide (x.num<0):=by
  generalize decide (x.num<0)=s at h;generalize decide (y.num<0)=t at h
  cases s <;> cases t <;> first | rfl | exact absurd rfl h
 rw [h'] at hy;generalize decide (x.num<0)=s at *;generalize x.num.natAbs=p at *;generalize y.num.natAbs=q at *;rw [hx,hy,Int.natCast_sub hle]
 cases s with
 | true=>simp only [if_true,YC,ZS];simp;grind
 | false=>simp only [YC,ZW,if_true];simp;grind

theorem At6 {n L:Nat} {x y:Rat} (hx:Sz x L) (hy:Sz y L) (hL:2*L+1<=1099511627000) (hn:28*(2*L+1)+10040<=n):f138 n (rq x) (rq y)=some (rq (x+y)):=by
 obtain ⟨x1,x2⟩:=hx;obtain ⟨y1,y2⟩:=hy;have l1:=B4 x.num.natAbs y.den;have l2:=B4 y.num.natAbs x.den;have l3:=B4 x.den y.den;have l4:=Zo (x.num.natAbs*y.den) (y.num.natAbs*x.den);have hd:0<x.den*y.den:=YZ (XB x.den_nz) (XB y.den_nz);unfold f138 rq;dsimp only
 rw [Mj (by omega) (by omega),A0,Mj (by omega) (by omega),A0,Mj (by omega) (by omega),A0,XD]
 by_cases hs:decide (x.num<0)=decide (y.num<0)
 . rw [QJ (by rw [hs];simp),Be3 (by omega) (by omega) (by omega),A0,Rb hd (L:=2*L+1) (by omega) (by omega) hL hn,A0,Vi hs];rfl
 . rw [QG (by simpa using hs),Ae4 (by omega) (by omega),A0,QK]
   by_cases hle:y.num.natAbs*x.den<=x.num.natAbs*y.den
   . have l5:=B8 (JY (x.num.natAbs*y.den) (y.num.natAbs*x.den))
     rw [QJ (by
      rcases JK hle with h | h
      . rw [Jf (by omega)];omega
      . rw [L4 (by omega)];omega),Ap8 (by omega) (by omega) hle,A0,Rb hd (L:=2*L+1) (by omega) (by omega) hL hn,A0,Lt hs hle];rfl
   . have l5:=B8 (JY (y.num.natAbs*x.den) (x.num.natAbs*y.den))
     rw [QG (by rw [Je (by omega)];omega),Ap8 (by omega) (by omega) (by omega),A0,Rb hd (L:=2*L+1) (by omega) (by omega) hL hn,A0,Rat.add_comm,Lt (λe=>hs e.symm) (by omega),KC y.den x.den];rfl

theorem Aua {n L:Nat} {x y:Rat} (hx:Sz x L) (hy:Sz y L) (hL:2*L+1<=1099511627000) (hn:28*(2*L+1)+10040<=n):f99 n (rq x) (rq y)=some (rq (x+y)):=by
 obtain ⟨x1,x2⟩:=hx;obtain ⟨y1,y2⟩:=hy;have l1:=B4 x.num.natAbs y.den;have l2:=B4 y.num.natAbs x.den;have l3:=B4 x.den y.den;have l4:=Zo (x.num.natAbs*y.den) (y.num.natAbs*x.den);have hd:0<x.den*y.den:=YZ (XB x.den_nz) (XB y.den_nz);unfold f99 rq;dsimp only
 rw [Mp (by omega) (by omega),A0,Mp (by omega) (by omega),A0,Mp (by omega) (by omega),A0,XD]
 by_cases hs:decide (x.num<0)=decide (y.num<0)
 . rw [QJ (by rw [hs];simp),Bec (by omega) (by omega) (by omega),A0,Xg hd (L:=2*L+1) (by omega) (by omega) hL hn,A0,Vi hs];rfl
 . rw [QG (by simpa using hs),Aeb (by omega),A0,QK]
   by_cases hle:y.num.natAbs*x.den<=x.num.natAbs*y.den
   . have l5:=B8 (JY (x.num.natAbs*y.den) (y.num.natAbs*x.den))
     have hp:0<x.num.natAbs*y.den:=by
      rcases YV (x.num.natAbs*y.den) with h | h
      . exfalso;have hyd:=y.den_nz;have hxd:=x.den_nz
        have h2:y.num.natAbs*x.den=0:=by omega
        have e1:x.num=0:=by rcases Qbb.1 h with h | h <;> omega
        have e2:y.num=0:=by rcases Qbb.1 h2 with h | h <;> omega
        exact hs (by rw [e1,e2])
      . exact h
     rw [QJ (by
      rcases JK hle with h | h
      . rw [Jf (by omega)];omega
      . rw [L4 (by omega)];omega),B3x (by omega) (by omega) hle hp,A0,Xg hd (L:=2*L+1) (by omega) (by omega) hL hn,A0,Lt hs hle];rfl
   . have l5:=B8 (JY (y.num.natAbs*x.den) (x.num.natAbs*y.den))
     rw [QG (by rw [Je (by omega)];omega),B3x (by omega) (by omega) (by omega) (by omega),A0,Xg hd (L:=2*L+1) (by omega) (by omega) hL hn,A0,Rat.add_comm,Lt (λe=>hs e.symm) (by omega),KC y.den x.den];rfl

theorem A6h (x y:Rat):x*y=mq (!(decide (x.num<0)==decide (y.num<0))) (x.num.natAbs*y.num.natAbs) (x.den*y.den):=by
 rw [Rat.mul_def'];unfold mq;congr 1;have hx:=Hd x;have hy:=Hd y;generalize decide (x.num<0)=s at *;generalize decide (y.num<0)=t at *;generalize x.num.natAbs=p at *;generalize y.num.natAbs=q at *;rw [hx,hy]
 cases s <;> cases t <;> simp [Int.neg_mul,Int.mul_neg]

theorem B4o {n L:Nat} {x y:Rat} (hx:Sz x L) (hy:Sz y L) (hL:2*L+1<=1099511627000) (hn:28*(2*L+1)+10040<=n):f140 n (rq x) (rq y)=some (rq (x*y)):=by
 obtain ⟨x1,x2⟩:=hx;obtain ⟨y1,y2⟩:=hy;have l1:=B4 x.num.natAbs y.num.natAbs;have l3:=B4 x.den y.den;have hd:0<x.den*y.den:=YZ (XB x.den_nz) (XB y.den_nz);unfold f140 rq;dsimp only
 rw [Mj (by omega) (by omega),A0,Mj (by omega) (by omega),A0,Rb hd (L:=2*L+1) (by omega) (by omega) hL hn,A0,A6h];rfl

theorem Amn {n L:Nat} {x y:Rat} (hx:Sz x L) (hy:Sz y L) (hL:2*L+1<=1099511627000) (hn:28*(2*L+1)+10040<=n):f162 n (rq x) (rq y)=some (rq (x*y)):=by
 obtain ⟨x1,x2⟩:=hx;obtain ⟨y1,y2⟩:=hy;have l1:=B4 x.num.natAbs y.num.natAbs;have l3:=B4 x.den y.den;have hd:0<x.den*y.den:=YZ (XB x.den_nz) (XB y.den_nz);unfold f162 rq;dsimp only
 rw [Mp (by omega) (by omega),A0,Mp (by omega) (by omega),A0,Xg hd (L:=2*L+1) (by omega) (by omega) hL hn,A0,A6h];rfl

theorem Aje {x y:Rat} (hy:y ≠ 0):x / y=mq (!(decide (x.num<0)==decide (y.num<0))) (x.num.natAbs*y.den) (x.den*y.num.natAbs):=by
 have hyn:y.num ≠ 0:=λe=>hy (JA.1 e)
 have key:mq (!(decide (x.num<0)==decide (y.num<0))) (x.num.natAbs*y.den) (x.den*y.num.natAbs)*y=x:=by
  conv=>lhs;rhs;rw [<- Rat.mkRat_self y]
  conv=>rhs;rw [<- Rat.mkRat_self x]
  unfold mq
  rw [Rat.mkRat_mul_mkRat,Rat.mkRat_eq_iff (Nat.mul_ne_zero (Nat.mul_ne_zero x.den_nz (by omega)) y.den_nz) x.den_nz]
  have hx:=Hd x;have hy:=Hd y;generalize decide (x.num<0)=s at *;generalize decide (y.num<0)=t at *;generalize x.num.natAbs=p at *;generalize y.num.natAbs=q at *;rw [hx,hy];simp only [YC]
  cases s <;> cases t <;> simp <;> grind
 conv=>lhs;rw [<- key]
 exact Rat.mul_div_cancel hy

theorem B96 {n L:Nat} {x y:Rat} (hx:Sz x L) (hy:Sz y L) (hy0:y ≠ 0) (hL:2*L+1<=1099511627000) (hn:28*(2*L+1)+10040<=n):f142 n (rq x) (rq y)=some (rq (x / y)):=by
 obtain ⟨x1,x2⟩:=hx;obtain ⟨y1,y2⟩:=hy;have l1:=B4 x.num.natAbs y.den;have l3:=B4 x.den y.num.natAbs;have hyn:y.num ≠ 0:=λe=>hy0 (JA.1 e)
 have hd:0<x.den*y.num.natAbs:=YZ (XB x.den_nz) (by omega)
 unfold f142 rq;dsimp only
 rw [Mj (by omega) (by omega),A0,Mj (by omega) (by omega),A0,Rb hd (L:=2*L+1) (by omega) (by omega) hL hn,A0,Aje hy0];rfl

theorem B9v {n L:Nat} {x y:Rat} (hx:Sz x L) (hy:Sz y L) (hy0:y ≠ 0) (hL:2*L+1<=1099511627000) (hn:28*(2*L+1)+10040<=n):f206 n (rq x) (rq y)=some (rq (x / y)):=by
 obtain ⟨x1,x2⟩:=hx;obtain ⟨y1,y2⟩:=hy;have l1:=B4 x.num.natAbs y.den;have l3:=B4 x.den y.num.natAbs;have hyn:y.num ≠ 0:=λe=>hy0 (JA.1 e)
 have hd:0<x.den*y.num.natAbs:=YZ (XB x.den_nz) (by omega)
 unfold f206 rq;dsimp only
 rw [Mp (by omega) (by omega),A0,Mp (by omega) (by omega),A0,Xg hd (L:=2*L+1) (by omega) (by omega) hL hn,A0,Aje hy0];rfl

theorem Sy {n:Nat} {x:Rat}:f143 n (rq x)=some (rq (-x)):=by
 unfold f143 rq;dsimp only;rw [Rat.neg_num,Rat.neg_den,Qbp,Ajh];by_cases h:x.num<0
 . rw [QY h,QT (show ¬ -x.num<0 by omega)];rfl
 . rw [QT h]
   have:decide (x.num.natAbs ≠ 0)=decide (-x.num<0):=decide_eq_decide.2 (by omega)
   rw [this];rfl

theorem Bea {n L:Nat} {x:Rat} (hx:Sz x L) (hL:L<=1099511627000):f158 n (rq x)=some (rq (-x)):=by
 obtain ⟨x1,x2⟩:=hx;unfold f158 rq;dsimp only
 rw [Rat.neg_num,Rat.neg_den,Qbp,show f168 n (decide (x.num<0),dg x.num.natAbs,dg x.den)=some (((dg x.num.natAbs).length:Int)==0) from rfl,A0,Kj n (by omega),A0,Kj n (by omega),A0,A8j]
 by_cases h:x.num<0
 . rw [QY h,QT (show ¬ -x.num<0 by omega)];rfl
 . rw [QT h]
   have:(!decide (x.num.natAbs=0))=decide (-x.num<0):=by
    by_cases h2:x.num.natAbs=0
    . rw [QY h2,QT (by omega)];rfl
    . rw [QT h2,QY (by omega)];rfl
   rw [this];rfl

theorem D9 {x:Rat} {L:Nat} (h:Sz x L):Sz (-x) L:=by
 unfold Sz at *;rw [Rat.neg_num,Rat.neg_den,Qbp];exact h

theorem Sz.mono {x:Rat} {L M:Nat} (h:Sz x L) (hLM:L<=M):Sz x M:=⟨ZL h.1 hLM,ZL h.2 hLM⟩

theorem B97 {n L:Nat} {x y:Rat} (hx:Sz x L) (hy:Sz y L) (hL:2*L+1<=1099511627000) (hn:28*(2*L+1)+10040<=n):f139 n (rq x) (rq y)=some (rq (x-y)):=by
 unfold f139;rw [Sy,A0,At6 hx (D9 hy) hL hn,A0,Rat.sub_eq_add_neg]

theorem Bdq {x y:Rat} {L:Nat} (hx:Sz x L) (hy:Sz y L):Sz (x+y) (2*L+1):=by
 obtain ⟨x1,x2⟩:=hx;obtain ⟨y1,y2⟩:=hy;have l1:=B4 x.num.natAbs y.den;have l2:=B4 y.num.natAbs x.den;have l3:=B4 x.den y.den;have l4:=Zo (x.num.natAbs*y.den) (y.num.natAbs*x.den);have hd:0<x.den*y.den:=YZ (XB x.den_nz) (XB y.den_nz);by_cases hs:decide (x.num<0)=decide (y.num<0)
 . rw [Vi hs];exact N6 hd (by omega) (by omega)
 . by_cases hle:y.num.natAbs*x.den<=x.num.natAbs*y.den
   . have l5:=B8 (JY (x.num.natAbs*y.den) (y.num.natAbs*x.den))
     rw [Lt hs hle];exact N6 hd (by omega) (by omega)
   . have l5:=B8 (JY (y.num.natAbs*x.den) (x.num.natAbs*y.den))
     rw [Rat.add_comm,Lt (λe=>hs e.symm) (by omega),KC y.den x.den];exact N6 hd (by omega) (by omega)

theorem Bdp {x y:Rat} {L:Nat} (hx:Sz x L) (hy:Sz y L):Sz (x*y) (2*L+1):=by
 obtain ⟨x1,x2⟩:=hx;obtain ⟨y1,y2⟩:=hy;have l1:=B4 x.num.natAbs y.num.natAbs;have l3:=B4 x.den y.den;rw [A6h]
 exact N6 (YZ (XB x.den_nz) (XB y.den_nz)) (by omega) (by omega)

theorem B95 {n:Nat} {x:Rat}:f141 n (rq x)=some (decide (x=0)):=by
 unfold f141 rq;dsimp only;rw [A8j];congr 1
 exact decide_eq_decide.2 ⟨λh=>JA.1 (by omega),λh=>by rw [h];rfl⟩

theorem Ag9 {n:Nat} {x:Rat}:f168 n (rq x)=some (decide (x=0)):=by
 unfold f168 rq;dsimp only;rw [A8j];congr 1
 exact decide_eq_decide.2 ⟨λh=>JA.1 (by omega),λh=>by rw [h];rfl⟩

theorem B9c {x y:Rat} (h:rq x=rq y):x=y:=by
 unfold rq at h;simp only [QI] at h;obtain ⟨h1,h2,h3⟩:=h;have e2:=Az9 h2;have e3:=Az9 h3;refine Rat.ext ?_ e3;rw [Hd x,Hd y,h1,e2]

abbrev Jr:=List Int × Int × Int

def Dd (P:Int) (s:Jr):Prop:=(∀ x ∈ s.1,0<=x/\x<=255)/\s.1.length<=1048576/\(0<=s.2.1/\s.2.1<=P)/\0<=s.2.2/\s.2.2<2147483648

theorem Ajr {l:List Int} (h:∀ x ∈ l,0<=x/\x<=255) (k:Nat):0<=l.getD k 0/\l.getD k 0<=255:=by
 rw [QL]
 cases e:l[k]? with
 | none=>simp
 | some x=>exact h x (ZO e)

theorem Fy {x m:Int} (h:0<=x):Int.tmod x m=x % m:=JZ h

theorem Aac {n:Nat} {P:Int} {s:Jr} (h:Dd P s) (hP:P<=1099511627776):∃ b s',Mv n s=some (b,s')/\(0<=b/\b<=255)/\Dd (P+1) s':=by
 obtain ⟨l,p,d⟩:=s;obtain ⟨h1,h2,⟨h3,h4⟩,h5,h6⟩:=h;dsimp only at h1 h2 h3 h4 h5 h6;unfold Mv;dsimp only
 rw [Aa (x:=p+1) (by omega) (by omega),Aa (x:=p+1-1) (by omega) (by omega),QK]
 have hb:=Ajr h1 (p+1-1).toNat;by_cases hc:p+1<=(l.length:Int)
 . rw [QJ hc,A3 (by simp;omega),A3 (by simp;omega)]
   generalize l.getD (p+1-1).toNat 0=b at *
   rw [Aa (x:=b) (by omega) (by omega),Aa (x:=d*31) (by omega) (by omega),Aa (x:=d*31+b) (by omega) (by omega),Aa (x:=d*31+b+7) (by omega) (by omega),Fy (by omega)]
   exact ⟨_,_,rfl,by omega,h1,h2,by dsimp only;omega,by dsimp only;omega,by dsimp only;omega⟩
 . rw [QG hc,QK];by_cases hc2:p+1>3000
   . rw [QJ hc2]
     exact ⟨_,_,rfl,by omega,h1,h2,by dsimp only;omega,h5,h6⟩
   . rw [QG hc2,Aa (x:=d*1103515245) (by omega) (by omega),Aa (x:=d*1103515245+12345) (by omega) (by omega),Fy (x:=d*1103515245+12345) (by omega)]
     generalize hz:(d*1103515245+12345) % 2147483648=z
     have hz2:0<=z/\z<2147483648:=by omega
     rw [YQ (a:=z) (by omega),Aa (x:=z / 65536) (by omega) (by omega),Fy (x:=z / 65536) (by omega)]
     exact ⟨_,_,rfl,by omega,h1,h2,by dsimp only;omega,by dsimp only;omega,by dsimp only;omega⟩

theorem A0u {n:Nat} {P k:Int} {s:Jr} (h:Dd P s) (hP:P<=1099511627000) (hk:1<k) (hk':k<=1048576):∃ v s',Dr n s k=some (v,s')/\(0<=v/\v<k)/\Dd (P+3) s':=by
 unfold Dr
 rw [QK,QG (by omega),QK]
 obtain ⟨b1,s1,e1,r1,o1⟩:=Aac (n:=n) h (by omega)
 rw [e1];by_cases hc:k<=256
 . rw [QJ hc,A0,A3 (by simp;omega),Fy r1.1]
   have:=Qbi b1 (show k ≠ 0 by omega)
   have:=Qan b1 (show 0<k by omega)
   exact ⟨_,_,rfl,by omega,o1.1,o1.2.1,⟨o1.2.2.1.1,by have:=o1.2.2.1.2;show s1.2.1<=P+3;omega⟩,o1.2.2.2⟩
 . rw [QG hc,A0]
   obtain ⟨b2,s2,e2,r2,o2⟩:=Aac (n:=n) o1 (by omega)
   rw [e2,A0]
   obtain ⟨b3,s3,e3,r3,o3⟩:=Aac (n:=n) o2 (by omega)
   rw [e3,A0];dsimp only
   rw [A3 (by simp;omega),Aa (x:=b1*65536) (by omega) (by omega),Aa (x:=b2*256) (by omega) (by omega),Aa (x:=b1*65536+b2*256) (by omega) (by omega),Aa (x:=b1*65536+b2*256+b3) (by omega) (by omega),Fy (by omega)]
   have:=Qbi (b1*65536+b2*256+b3) (show k ≠ 0 by omega)
   have:=Qan (b1*65536+b2*256+b3) (show 0<k by omega)
   exact ⟨_,_,rfl,by omega,o3.1,o3.2.1,⟨o3.2.2.1.1,by have:=o3.2.2.1.2;show s3.2.1<=P+3;omega⟩,o3.2.2.2⟩

theorem B6x {n:Nat} {P k:Int} {s:Jr} (h:Dd P s) (hP:P<=1099511627000) (hk:1<k) (hk':k<=1048576):∃ v s',A7p n s k=some (v,s')/\Dd (P+3) s':=by
 unfold A7p;obtain ⟨v,s',e,_,o⟩:=A0u (n:=n) h hP hk hk';rw [e,A0];exact ⟨_,_,rfl,o⟩

theorem Aap {n:Nat} {a:Int} (h:-1000000000<=a/\a<=1000000000) (hn:1048577<=n):f131 n a=some (decide (a<0),dg a.natAbs,dg 1):=by
 unfold f131;rw [QK,Fl];by_cases hc:a<0
 . rw [QJ hc,Aa (x:=0-a) (by omega) (by omega),show 0-a=(a.natAbs:Int) by omega,Ni (by omega) (by omega),A0,QY hc]
 . rw [QG hc]
   conv=>lhs;rw [show a=(a.natAbs:Int) by omega]
   rw [Ni (by omega) (by omega),A0,QT hc]

theorem Ato {N:Nat} (h:(dg N).length<=40):Pz (dg N)=true:=by
 unfold Pz;have hc:=G4 N;rw [QY h,ZX,QF,QH];refine ⟨λx hx=>?_,?_⟩
 . have:=hc.1 x hx;unfold Gz;rw [QO];omega
 . by_cases hn:dg N=[]
   . rw [hn];rfl
   . have h1:=hc.2 hn;have h2:=hc.1.get ((dg N).length-1);rw [XJ];right;rw [QO];omega

theorem B9b {x:Rat} (h:Sz x 40):L9 (rq x)=true:=by
 obtain ⟨h1,h2⟩:=h;unfold L9 rq;dsimp only
 have hd:(dg x.den).isEmpty=false:=by
  rw [Dk x.den_nz];rfl
 rw [Ato h1,Ato h2,hd,Bd,Bd]
 have hg:Nat.gcd (x.num.natAbs:Int).toNat (x.den:Int).toNat=1:=by
  rw [QP,QP];exact x.reduced
 rw [QY hg];by_cases hz:x.num.natAbs=0
 . rw [hz,By,QT (by omega)];rfl
 . rw [Dk hz];rfl

theorem Agh {α:Type} {n:Nat} {a b:List Int} (hab:a.length=b.length) (hl:a.length<=1048576) {k0:Bool->Option α} {k1:Unit->Option α}:∀ (m i:Nat),i<=a.length->a.length<i+m->Xm n m a b (i:Int) k0 k1=if a.drop i=b.drop i then k1 () else k0 false
 | 0,i,hi,hm=>by omega
 | m+1,i,hi,hm=>by
  rw [B1b];unfold A9l;rw [QK];by_cases h:i<a.length
  . rw [QJ (by omega),A3 (by simp;omega),A3 (by simp;omega)]
    simp only [QP]
    have da:a.drop i=a.getD i 0::a.drop (i+1):=by
     rw [XQ h,QL,QM h];rfl
    have db:b.drop i=b.getD i 0::b.drop (i+1):=by
     rw [XQ (by omega),QL,QM (by omega)];rfl
    rw [da,db];by_cases hz:a.getD i 0=b.getD i 0
    . rw [hz,XI,QQ,Aa (x:=(i:Int)+1) (by omega) (by omega),show (i:Int)+1=((i+1:Nat):Int) from rfl,Agh hab hl m (i+1) (by omega) (by omega)]
      simp
    . rw [show (a.getD i 0 != b.getD i 0)=true by rw [Qbh];exact hz,ZJ,QG (λe=>hz (List.cons.inj e).1)]
  . rw [QG (by omega),QW (by omega),QW (by omega),QJ rfl]

theorem Agi {n:Nat} {a b:List Int} (hl:a.length<=1048576) (hn:1048577<=n):f77 n a b=some (decide (a=b)):=by
 unfold f77;rw [XD];by_cases h:a.length=b.length
 . rw [QG (by simp [h])]
   have h1:=Agh (n:=n) h hl (k0:=λz_1=>some z_1) (k1:=λ(_:Unit)=>some true) n 0 (by omega) (by omega)
   have h1:Xm n n a b 0 _ _=_:=h1;rw [h1,ZQ,ZQ];by_cases e:a=b
   . rw [QJ e,QY e]
   . rw [QG e,QT e]
 . rw [QJ (by rw [Qbh];omega),QT (λe=>h (by rw [e]))]

theorem A78 {n:Nat} {x y:Rat} (hx:Sz x 1000) (hn:1048577<=n):f32 n (rq x) (rq y)=some (decide (x=y)):=by
 obtain ⟨h1,h2⟩:=hx;unfold f32
 have key:(rq x).1=(rq y).1->(rq x).2.1=(rq y).2.1->(rq x).2.2=(rq y).2.2->x=y:=λa b c=>B9c (by
  rw [show rq x=((rq x).1,(rq x).2.1,(rq x).2.2) from rfl,a,b,c])
 rw [XD];by_cases e1:(rq x).1=(rq y).1
 . rw [QJ (by rw [e1];simp),Agi (by show (dg x.num.natAbs).length<=_;omega) hn,A0,QK]
   by_cases e2:(rq x).2.1=(rq y).2.1
   . rw [QJ e2,Agi (by show (dg x.den).length<=_;omega) hn,A0]
     by_cases e3:(rq x).2.2=(rq y).2.2
     . rw [QY e3,QY (key e1 e2 e3)]
     . rw [QT e3,QT (λe=>e3 (by rw [e]))]
   . rw [QG e2,QT (λe=>e2 (by rw [e]))]
 . rw [QG (by simpa using e1),QT (λe=>e1 (by rw [e]))]

def vq (x:List Rat):List Rt:=x.map rq

def Sv (x:List Rat) (L:Nat):Prop:=∀ a ∈ x,Sz a L

def Bm (acc:Rat):List Rat->List Rat->Rat
 | a::x,b::y=>Bm (acc+a*b) x y
 | _,_=>acc

def B5 (x:Rat):Bool:=decide ((dg x.num.natAbs).length<=40)&&decide ((dg x.den).length<=40)

theorem K5 {x:Rat}:B5 x=true ↔ Sz x 40:=by unfold B5 Sz;simp

@[simp] theorem Bp (x:List Rat):(vq x).length=x.length:=by simp [vq]

theorem Ff {x:List Rat} {i:Nat} (h:i<x.length):(vq x).getD i (false,[],[])=rq (x.getD i 0):=by
 unfold vq;rw [QL,QN,QL,QM h];rfl

theorem A6b {x:List Rat} {i:Nat} (h:i<x.length):x.drop i=x.getD i 0::x.drop (i+1):=by
 rw [XQ h,QL,QM h];rfl

theorem Sv.get {x:List Rat} {L i:Nat} (hs:Sv x L) (h:i<x.length):Sz (x.getD i 0) L:=by
 refine hs _ ?_;rw [QL,QM h];exact KQ h

theorem Sv.mono {x:List Rat} {L M:Nat} (h:Sv x L) (hLM:L<=M):Sv x M:=λa ha=>(h a ha).mono hLM

theorem A60 {x:List Rat} (h:Sv x 40) (h1:1<=x.length) (h4:x.length<=4):Jp (vq x)=true:=by
 unfold Jp
 rw [QY (by rw [Bp];omega),ZX,QH]
 intro r hr;obtain ⟨a,ha,rfl⟩:=ZK.1 hr;exact B9b (h a ha)

theorem Acx {α:Type} {n:Nat} {x y:List Rat} (hx:Sv x 40) (hy:Sv y 40) (hl:x.length=y.length) (h4:x.length<=4) (hn:1048577<=n) {f:Bool} {k0:Bool->Bool->List Int->List Int->Option α}:∀ (m i:Nat) (acc:Rat),Sz acc (82*2 ^ i-1)->i<=x.length->x.length<i+m ->
  S2 n m (vq y) (vq x) (x.length:Int) (i:Int) f (rq acc).1 (rq acc).2.1 (rq acc).2.2 k0=k0 f (rq (Bm acc (x.drop i) (y.drop i))).1 (rq (Bm acc (x.drop i) (y.drop i))).2.1 (rq (Bm acc (x.drop i) (y.drop i))).2.2
 | 0,i,acc,ho,hi,hm=>by omega
 | m+1,i,acc,ho,hi,hm=>by
  rw [Axv];unfold A4z;dsimp only;rw [QK];by_cases h:i<x.length
  . rw [QJ (by omega),A3 (by simp;omega),A3 (by simp;omega)]
    have hp:2 ^ i<=2 ^ 3:=XW (by omega) (by omega)
    have hp1:1<=2 ^ i:=Qao;rw [show (2:Nat) ^ 3=8 from rfl] at hp
    have h1:Sz (x.getD i 0*y.getD i 0) 81:=Bdp (hx.get h) (hy.get (by omega))
    have h2:Sz (acc+x.getD i 0*y.getD i 0) (82*2 ^ (i+1)-1):=(Bdq ho (h1.mono (by omega))).mono (by rw [YG];omega)
    have e2:=Aua (n:=n) ho (h1.mono (show 81<=82*2 ^ i-1 by omega)) (by omega) (by omega)
    have e2:f99 n ((rq acc).1,(rq acc).2.1,(rq acc).2.2) _=_:=e2
    rw [QP,Ff h,Ff (by omega),Amn (hx.get h) (hy.get (by omega)) (by omega) (by omega),A0,e2,A0,Aa (x:=(i:Int)+1) (by omega) (by omega)]
    have:=Acx hx hy hl h4 hn (f:=f) (k0:=k0) m (i+1) _ h2 (by omega) (by omega)
    rw [A6b h,A6b (x:=y) (by omega)]
    rw [show (i:Int)+1=((i+1:Nat):Int) from rfl,this];rfl
  . rw [QG (by omega),QW (by omega),QW (by omega)]
    rfl

theorem Alz:rq 0=(false,[],dg 1):=by
 unfold rq;rw [show (0:Rat).num=0 from rfl,show (0:Rat).den=1 from rfl,show (0:Int).natAbs=0 from rfl,By];rfl

theorem C3:Sz 0 1:=by
 refine ⟨?_,?_⟩
 . rw [show (0:Rat).num=0 from rfl,show (0:Int).natAbs=0 from rfl,By];simp
 . rw [show (0:Rat).den=1 from rfl,Fl];simp

theorem Beb {n:Nat} {x y:List Rat} (hx:Sv x 40) (hy:Sv y 40) (hl:x.length=y.length) (h4:x.length<=4) (hn:1048577<=n):f130 n (vq x) (vq y)=some (rq (Bm 0 x y)):=by
 unfold f130
 have e0:f97 n 0=some (rq 0):=by
  unfold f97
  rw [QT (by omega),QQ,show (0:Int)=((0:Nat):Int) from rfl,S0 (by omega) (by omega),A0,Alz,By,Fl]
  rfl
 rw [e0,A0]
 have h1:=Acx (n:=n) hx hy hl h4 hn (f:=false) (k0:=λz_6 z_7 z_8 z_9=>some (z_7,z_8,z_9)) n 0 0 (C3.mono (by simp)) (by omega) (by omega)
 have h1:S2 n n (vq y) (vq x) (x.length:Int) 0 _ _ _ _ _=_:=h1;rw [Bp,h1,ZQ,ZQ]

theorem W5 {n:Nat} {x:List Rat} (hl:x.length<=1048576):∀ (m i:Nat),i<=x.length->x.length<i+m ->
  ∃ r,Hn n m (vq x) (x.length:Int) (i:Int) (λz_3=>some z_3) (λ(_:Unit)=>some (-1))=some r/\decide (r>=0) = !(x.drop i).all B5
 | 0,i,hi,hm=>by omega
 | m+1,i,hi,hm=>by
  rw [Adu];unfold P4;dsimp only;rw [QK];by_cases h:i<x.length
  . rw [QJ (by omega),A3 (by simp;omega),QP,Ff h,A6b h,XL]
    have e:f105 n (rq (x.getD i 0))=some (!B5 (x.getD i 0)):=by
     unfold f105 f98 rq B5;dsimp only;generalize (dg (x.getD i 0).num.natAbs).length=p;generalize (dg (x.getD i 0).den).length=q;rw [QK];by_cases c:p<=40
     . rw [QJ (by omega),A0,QY c,ZX];congr 2;exact decide_eq_decide.2 (by omega)
     . rw [QG (by omega),A0,QT c,Bool.false_and]
    rw [e,A0]
    cases hf:B5 (x.getD i 0) with
    | false=>exact ⟨(i:Int),by simp,by simp⟩
    | true =>
     rw [ZS,QQ,Aa (x:=(i:Int)+1) (by omega) (by omega),ZX]
     exact W5 hl m (i+1) (by omega) (by omega)
  . rw [QG (by omega),QW (by omega)]
    exact ⟨-1,rfl,rfl⟩

theorem Aub {n:Nat} {x:List Rat} (hl:x.length<=1048576) (hn:1048577<=n):f51 n (vq x)=some (if x.all B5=true then (vq x,0) else ([],7)):=by
 unfold f51 A5o A47
 obtain ⟨r,h1,h2⟩:=W5 (n:=n) hl n 0 (by omega) (by omega)
 have h1:Hn n n (vq x) (x.length:Int) 0 _ _=_:=h1;rw [Bp,h1,A0,A0,h2,ZQ]
 cases x.all B5 <;> rfl

theorem Agy {α:Type} {n:Nat} {x y:List Rat} (hl:x.length=y.length) (h4:x.length<=4096) (hs:Sv x 1000) (hn:1048577<=n) {k0:Bool->Option α} {k1:Unit->Option α}:∀ (m i:Nat),i<=x.length->x.length<i+m ->
  Xr n m (vq x) (vq y) (i:Int) k0 k1=if x.drop i=y.drop i then k1 () else k0 false
 | 0,i,hi,hm=>by omega
 | m+1,i,hi,hm=>by
  rw [B1r];unfold Aa2;dsimp only;rw [QK,Bp];by_cases h:i<x.length
  . rw [QJ (by omega),A3 (by simp;omega),A3 (by simp;omega),QP,Ff h,Ff (by omega),A78 (hs.get h) hn,A0,A6b h,A6b (x:=y) (by omega)]
    by_cases e:x.getD i 0=y.getD i 0
    . rw [QY e,ZS,QQ,Aa (x:=(i:Int)+1) (by omega) (by omega),e]
      rw [show (i:Int)+1=((i+1:Nat):Int) from rfl,Agy hl h4 hs hn m (i+1) (by omega) (by omega)]
      simp
    . rw [QT e,ZW,ZJ,QG (λq=>e (List.cons.inj q).1)]
  . rw [QG (by omega),QW (by omega),QW (by omega),QJ rfl]

theorem Au3 {n:Nat} {x y:List Rat} (hl:x.length=y.length) (h4:x.length<=4096) (hs:Sv x 1000) (hn:1048577<=n):f25 n (vq x) (vq y)=some (decide (x=y)):=by
 unfold f25
 have h1:=Agy (n:=n) hl h4 hs hn (k0:=λz_4=>some z_4) (k1:=λ(_:Unit)=>some true) n 0 (by omega) (by omega)
 have h1:Xr n n (vq x) (vq y) 0 _ _=_:=h1;rw [Bp,Bp,hl,XI,QQ,h1,ZQ,ZQ];by_cases e:x=y
 . rw [QJ e,QY e]
 . rw [QG e,QT e]

theorem Bdu {n:Nat} {x y:List Rat} (hx:Sv x 40) (hy:Sv y 40) (h1:1<=x.length) (h4:x.length<=4) (hl:x.length=y.length) (hn:1048577<=n):f128 n [vq x,vq y]=some 0:=by
 obtain ⟨c,e1,e2⟩:=B80 (n:=n) (L:=[vq x,vq y]) (by simp) hn
 rw [e1]
 have:(c==0)=true:=by
  rw [e2]
  simp [A60 hx h1 h4,A60 hy (by omega) (by omega),hl]
 rw [KR] at this;rw [this]

theorem Baa {n:Nat} {x y:List Rat} (hx:Sv x 40) (hy:Sv y 40) (h1:1<=x.length) (h4:x.length<=4) (hl:x.length=y.length) (hz:Sz (Bm 0 x y) 40) (hn:1048577<=n):f78 n (vq x) (vq y)=some (rq (Bm 0 x y),0):=by
 unfold f78;rw [Bdu hx hy h1 h4 hl hn,A0,XI,QQ,Beb hx hy hl h4 hn,A0];obtain ⟨s1,s2⟩:=hz;unfold f129 f98 rq;dsimp only
 rw [QY (by omega),QY (by omega)]
 rfl

def Bq (x:Rat) (N D:Nat):Prop:=x.num.natAbs<=N/\x.den<=D

def Bv (x:List Rat) (N D:Nat):Prop:=∀ a ∈ x,Bq a N D

theorem Bq.sz {x:Rat} {N D:Nat} (h:Bq x N D) {L:Nat} (h1:N<10000 ^ L) (h2:D<10000 ^ L):Sz x L:=⟨D7 (by have:=h.1;omega),D7 (by have:=h.2;omega)⟩

theorem Bv.sz {x:List Rat} {N D:Nat} (h:Bv x N D) {L:Nat} (h1:N<10000 ^ L) (h2:D<10000 ^ L):Sv x L:=λa ha=>(h a ha).sz h1 h2

theorem Bq.mono {x:Rat} {N D N' D':Nat} (h:Bq x N D) (h1:N<=N') (h2:D<=D'):Bq x N' D':=⟨ZL h.1 h1,ZL h.2 h2⟩

theorem Bfi {s:Bool} {a d N D:Nat} (hd:0<d) (h1:a<=N) (h2:d<=D):Bq (mq s a d) N D:=by
 unfold Bq;rw [Afq hd,Afr hd];have e1:a / Nat.gcd a d<=a:=JN _ _;have e2:d / Nat.gcd a d<=d:=JN _ _;generalize a / Nat.gcd a d=q at *
 refine ⟨?_,by omega⟩
 cases s <;> simp <;> omega

theorem Bv.get {x:List Rat} {N D i:Nat} (hs:Bv x N D) (h:i<x.length):Bq (x.getD i 0) N D:=by
 refine hs _ ?_;rw [QL,QM h];exact KQ h

theorem Anj {n:Nat} {a b:Int} (ha:-10<=a/\a<=10) (hb:1<=b/\b<=9) (hn:1048577<=n):∃ x:Rat,f176 n a b=some (rq x,0)/\Bq x 10 9:=by
 unfold f176
 have la:(dg a.natAbs).length<=4:=D7 (by omega)
 have lb:(dg b.natAbs).length<=4:=D7 (by omega)
 rw [Ke,A0,QY (by omega),Ke,A0,QY (by omega),show (b==0)=false by rw [beq_eq_false_iff_ne];omega,Aap (by omega) hn,A0,Aap (by omega) hn,A0]
 dsimp only
 rw [Rb (L:=4) (show 0<b.natAbs by omega) la lb (by omega) (by omega),A0]
 exact ⟨_,rfl,Bfi (by omega) (by omega) (by omega)⟩

theorem B8k {n:Nat} {P:Int} {s:Jr} (h:Dd P s) (hP:P<=1099511620000) (hn:1048577<=n):∃ (x:Rat) (s':Jr),Qk n s=some (rq x,s')/\Bq x 10 9/\Dd (P+6) s':=by
 unfold Qk
 obtain ⟨a,s1,e1,r1,o1⟩:=A0u (n:=n) (k:=21) h (by omega) (by omega) (by omega)
 rw [e1,A0]
 obtain ⟨b,s2,e2,r2,o2⟩:=A0u (n:=n) (k:=6) o1 (by omega) (by omega) (by omega)
 rw [e2,A0];dsimp only
 rw [Aa (x:=a-10) (by omega) (by omega),Aa (x:=1+b) (by omega) (by omega)]
 obtain ⟨x,e3,z⟩:=Anj (n:=n) (a:=a-10) (b:=1+b) (by omega) (by omega) hn
 rw [e3,A0]
 exact ⟨x,s2,rfl,z,o2.1,o2.2.1,⟨o2.2.2.1.1,by have:=o2.2.2.1.2;show s2.2.1<=P+6;omega⟩,o2.2.2.2⟩

theorem B93 {l:List Int} (h:∀ x ∈ l,0<=x/\x<=255) (hl:l.length<=1048576):Dd 0 (l,0,Int.tmod (l.length:Int) 1000) :=
 ⟨h,hl,⟨Int.le_refl _,Int.le_refl _⟩,by rw [Fy (by omega)];dsimp only;omega,by rw [Fy (by omega)];dsimp only;omega⟩

theorem Agv {α:Type} {n k:Nat} (hk:k<=1000) (hn:1048577<=n) {k0:List Rt->List Int->Int->Int->Option α}:∀ (m i:Nat) (P:Int) (o:List Rat) (s:Jr),Dd P s->P+6*(k-i:Nat)<=1099511620000->o.length=i->i<=k->k<i+m->Bv o 10 9 ->
  ∃ (x:List Rat) (s':Jr),x.length=k/\Bv x 10 9/\Dd (P+6*(k-i:Nat)) s'/\K6 n m (k:Int) (i:Int) (vq o) s.1 s.2.1 s.2.2 k0=k0 (vq x) s'.1 s'.2.1 s'.2.2
 | 0,i,P,o,s,h1,h2,h3,h4,h5,h6=>by omega
 | m+1,i,P,o,s,h1,h2,h3,h4,h5,h6=>by
  rw [Ac2];unfold Tc;rw [QK];by_cases h:i<k
  . rw [QJ (by omega)]
    obtain ⟨a,s1,e1,r1,o1⟩:=B8k (n:=n) h1 (by omega) hn
    have e1:Qk n (s.1,s.2.1,s.2.2)=_:=e1
    rw [e1,A0,A3 (by simp;omega),Aa (x:=(i:Int)+1) (by omega) (by omega)]
    dsimp only
    obtain ⟨x,s',q1,q2,q3,q4⟩:=Agv hk hn (k0:=k0) m (i+1) (P+6) (o++[a]) s1 o1 (by omega) (by simp;omega) (by omega) (by omega) (λc hc=>by
     rcases QD.1 hc with hc | hc
     . exact h6 c hc
     . rw [QR.1 hc];exact r1)
    refine ⟨x,s',q1,q2,?_,?_⟩
    . rw [show P+6*((k-i:Nat):Int)=P+6+6*((k-(i+1):Nat):Int) by omega];exact q3
    . rw [<- q4];simp [vq]
  . rw [QG (by omega)]
    exact ⟨o,s,by omega,h6,by rw [show ((k-i:Nat):Int)=0 by omega];simpa using h1,rfl⟩

theorem Bb3 {n k:Nat} {l:List Int} (h:∀ x ∈ l,0<=x/\x<=255) (hl:l.length<=1048576) (hk:k<=1000) (hn:1048577<=n):∃ x:List Rat,f21 n l (k:Int)=some (vq x)/\x.length=k/\Bv x 10 9:=by
 unfold f21 A9z;rw [A0];unfold Aq9
 obtain ⟨x,s',q1,q2,_,q4⟩:=Agv (k:=k) hk hn (k0:=λz_2 z_3 z_4 z_5=>some (z_2,(z_3,z_4,z_5))) n 0 0 [] _ (B93 h hl) (by omega) rfl (by omega) (by omega) (λc hc=>by simp at hc)
 have q4:K6 n n (k:Int) 0 [] _ _ _ _=_:=q4;rw [q4,A0];exact ⟨x,rfl,q1,q2⟩

theorem Afc (c:Nat):rq (c:Rat)=(false,dg c,dg 1):=by
 unfold rq
 rw [Rat.num_natCast,Rat.den_natCast,XR,QT (by omega)]

theorem Ba7 {n c:Nat} (hc:c<=100) (hn:1048577<=n):f97 n (c:Int)=some (rq (c:Rat)):=by
 unfold f97
 rw [QT (by omega),QQ,S0 (by omega) (by omega),A0,Afc,Fl]
 rfl

theorem A8u {c:Nat} (hc:c<=100):Sz (c:Rat) 1:=by
 unfold Sz;rw [Rat.num_natCast,Rat.den_natCast,XR]
 exact ⟨D7 (by omega),D7 (by omega)⟩

def M7:List Int->Int
 | []=>0
 | c::r=>if c=0 then M7 r else c

theorem Agp {n:Nat} {l:List Int} (hl:l.length<=1048576):∀ (m i:Nat),i<=l.length->l.length<i+m->A73 n m l (l.length:Int) (i:Int) (λz=>some z) (λ(_:Unit)=>some 0)=some (M7 (l.drop i))
 | 0,i,hi,hm=>by omega
 | m+1,i,hi,hm=>by
  rw [B1j];unfold A9t;rw [QK];by_cases h:i<l.length
  . have hx : l.drop i = l.getD i 0 :: l.drop (i + 1) := by
     rw [XQ h];simp [QL,h]
    rw [QJ (by omega),A3 (by simp;try omega),QP,hx]
    unfold M7;by_cases c:l.getD i 0=0
    . rw [c,XI,QQ,QJ rfl,Aa (x:=(i:Int)+1) (by omega) (by omega)]
      exact Agp hl m (i+1) (by omega) (by omega)
    . rw [QG c,show (l.getD i 0 != 0)=true by rw [Qbh];exact c,ZJ]
  . rw [QG (by omega),QW (by omega)];rfl

theorem Ob {n:Nat} {l:List Int} (hl:l.length<=1048576) (hn:1048577<=n):f70 n l=some (M7 l):=by
 unfold f70
 have:=Agp (n:=n) hl n 0 (by omega) (by omega)
 simpa using this

def Afy (L:List (List Rt)):Bool:=L.any λv=>decide (4096<v.length)

theorem Amu {n:Nat} {L:List (List Rt)} (hl:L.length<=1048576) (hn:1048577<=n):f71 n L=some (if Afy L=true then 2 else 0):=by
 obtain ⟨c,h1,h2⟩:=Aun (n:=n) hl hn;rw [h1];rcases h2 with ⟨rfl,h⟩ | ⟨rfl,v,hv,h⟩
 . rw [QG];intro c;obtain ⟨v,hv,h3⟩:=ZI.1 c;have:=h v hv;have:=Qat h3;omega
 . rw [QJ];exact ZI.2 ⟨v,hv,QY h⟩

theorem Zw {n:Nat} {x:Rat} (h:Sz x 1000000):f73 n (rq x)=some (rq x):=by
 obtain ⟨h1,h2⟩:=h;unfold f73 rq;dsimp only
 rw [Kj n (by omega),A0,Kj n (by omega),A0]

theorem Gc {n:Nat} {b:Bool} {c:Int}:f111 n b c=some (if b=true then 0 else c):=by
 unfold f111;cases b <;> rfl

theorem W1 {a:Nat} (h:a<=1000000):W ((a:Int)+1)=((a+1:Nat):Int):=Aa (by omega) (by omega)

theorem Axu {n:Nat} (hn:1048577<=n):f131 n 0=some (rq 0):=by
 unfold f131
 rw [QT (by omega),QQ,show (0:Int)=((0:Nat):Int) from rfl,Ni (by omega) (by omega),A0,Alz,By,Fl]

def Bfp (X:List Rat) (k i:Nat):List Rat:=(X.drop (i*k)).take k

def mvR (A X:List Rat):List Rat:=(List.range X.length).map λi=>Bm 0 (Bfp A X.length i) X

def Aen (w:Nat) (row:List Rt) (v:Nat->Rat):Prop:=row.length=w /\ ∀ c,c<w->row.getD c rt0=rq (v c)

def Akb (m w:Nat) (R:List (List Rt)) (M:Nat->Nat->Rat):Prop:=R.length=m /\ ∀ r,r<m->Aen w (R.getD r []) (M r)

def SzM (M:Nat->Nat->Rat) (L:Nat):Prop:=∀ r c,Sz (M r c) L

theorem SzM.mono {M:Nat->Nat->Rat} {L L':Nat} (h:SzM M L) (hL:L<=L'):SzM M L':=λr c=>(h r c).mono hL

theorem Aen.congr {w:Nat} {row:List Rt} {u v:Nat->Rat} (h:Aen w row u) (e:∀ c,c<w->u c=v c):Aen w row v:=⟨h.1,λc hc=>by rw [h.2 c hc,e c hc]⟩

theorem Akb.congr {m w:Nat} {R:List (List Rt)} {M M':Nat->Nat->Rat} (h:Akb m w R M) (e:∀ r c,r<m->c<w->M r c=M' r c):Akb m w R M':=⟨h.1,λr hr=>(h.2 r hr).congr λc hc=>e r c hr hc⟩

structure Ab8 (m:Nat) (a b:List Rt) (M:Nat->Nat->Rat):Prop where
 la:a.length=m*m
 lb:b.length=m
 at_:∀ r c,r<m->c<m->a.getD (r*m+c) rt0=rq (M r c)
 bt:∀ r,r<m->b.getD r rt0=rq (M r m)

theorem Ab8.congr {m:Nat} {a b:List Rt} {M M':Nat->Nat->Rat} (h:Ab8 m a b M) (e:∀ r c,r<m->c<=m->M r c=M' r c):Ab8 m a b M' :=
 ⟨h.la,h.lb,λr c hr hc=>by rw [h.at_ r c hr hc,e r c hr (by omega)],λr hr=>by rw [h.bt r hr,e r m hr (QZ _)]⟩

theorem Be2 {n c:Nat} (hc:c<=1000000) (hn:1048577<=n):f131 n (c:Int)=some (rq (c:Rat)):=by
 unfold f131
 rw [QT (by omega),QQ,Ni (by omega) (by omega),A0,Afc,Fl]

theorem Lv {L:Nat} (h:1<=L):Sz (1:Rat) L:=(A8u (c:=1) (by omega)).mono h

theorem Wm {α:Type} {n m:Nat} (hm:m<=100) (hn:1048577<=n) {k0:List Rt->Option α}:∀ (fu i:Nat),i<=m->m<i+fu->A0t n fu (m:Int) (i:Int) (vq (List.replicate i 0)) k0=k0 (vq (List.replicate m 0))
 | 0,i,hi,hf=>by omega
 | fu+1,i,hi,hf=>by
  rw [Ayn];unfold A5i;rw [QK];by_cases h:i<m
  . have e0:f131 n 0=some (rq 0):=Be2 (c:=0) (by omega) hn
    have e:vq (List.replicate i 0)++[rq 0]=vq (List.replicate (i+1) 0):=by rw [List.replicate_succ'];simp [vq]
    rw [QJ (by omega),e0,A0,A3 (by simp;omega),e,Aa (x:=(i:Int)+1) (by omega) (by omega)]
    exact Wm hm hn fu (i+1) (by omega) (by omega)
  . obtain rfl:i=m:=by omega
    rw [QG (by omega)]

theorem A95 {n m:Nat} (hm:m<=100) (hn:1048577<=n):f118 n (m:Int)=some (vq (List.replicate m 0)):=by
 unfold f118
 exact Wm (n:=n) (k0:=λz_2=>some z_2) hm hn n 0 (by omega) (by omega)

theorem Ata (a:Int):rq (a:Rat)=(decide (a<0),dg a.natAbs,dg 1):=by
 unfold rq;rw [Rat.num_intCast,Rat.den_intCast]

theorem A67 {n:Nat} {a:Int} (h:-1000000000<=a/\a<=1000000000) (hn:1048577<=n):f131 n a=some (rq (a:Rat)):=by rw [Aap h hn,Ata]

theorem Mq {n:Nat} {x:Rat}:f98 n (rq x)=some (B5 x):=by
 unfold f98 B5 rq;dsimp only;rw [QK];by_cases h:(dg x.num.natAbs).length<=40
 . rw [QJ (by omega),QY h,ZX]
   by_cases c:(dg x.den).length<=40
   . rw [QY c,QY (by omega)]
   . rw [QT c,QT (by omega)]
 . rw [QG (by omega),QT h];rfl

theorem Ae3 {n:Nat} {x:Rat}:f145 n (rq x)=some (B5 x):=by
 unfold f145 B5 rq;dsimp only;rw [QK];by_cases h:(dg x.num.natAbs).length<=40
 . rw [QJ (by omega),QY h,ZX]
   by_cases c:(dg x.den).length<=40
   . rw [QY c,QY (by omega)]
   . rw [QT c,QT (by omega)]
 . rw [QG (by omega),QT h];rfl

theorem Io {x y:Rat} {L K:Nat} (hx:Sz x L) (hy:Sz y K):Sz (x+y) (L+K+1):=by
 obtain ⟨x1,x2⟩:=hx;obtain ⟨y1,y2⟩:=hy;have l1:=B4 x.num.natAbs y.den;have l2:=B4 y.num.natAbs x.den;have l3:=B4 x.den y.den;have l4:=Zo (x.num.natAbs*y.den) (y.num.natAbs*x.den);have hd:0<x.den*y.den:=YZ (XB x.den_nz) (XB y.den_nz);by_cases hs:decide (x.num<0)=decide (y.num<0)
 . rw [Vi hs];exact N6 hd (by omega) (by omega)
 . by_cases hle:y.num.natAbs*x.den<=x.num.natAbs*y.den
   . have l5:=B8 (JY (x.num.natAbs*y.den) (y.num.natAbs*x.den))
     rw [Lt hs hle];exact N6 hd (by omega) (by omega)
   . have l5:=B8 (JY (y.num.natAbs*x.den) (x.num.natAbs*y.den))
     rw [Rat.add_comm,Lt (λe=>hs e.symm) (by omega),KC y.den x.den];exact N6 hd (by omega) (by omega)

theorem Ah {x y:Rat} {L K:Nat} (hx:Sz x L) (hy:Sz y K):Sz (x*y) (L+K+1):=by
 obtain ⟨x1,x2⟩:=hx;obtain ⟨y1,y2⟩:=hy;have l1:=B4 x.num.natAbs y.num.natAbs;have l3:=B4 x.den y.den;rw [A6h]
 exact N6 (YZ (XB x.den_nz) (XB y.den_nz)) (by omega) (by omega)

theorem Sn {x y:Rat} {L K:Nat} (hx:Sz x L) (hy:Sz y K) (hy0:y ≠ 0):Sz (x / y) (L+K+1):=by
 obtain ⟨x1,x2⟩:=hx;obtain ⟨y1,y2⟩:=hy;have l1:=B4 x.num.natAbs y.den;have l3:=B4 x.den y.num.natAbs;have hyn:y.num ≠ 0:=λe=>hy0 (JA.1 e);rw [Aje hy0]
 exact N6 (YZ (XB x.den_nz) (by omega)) (by omega) (by omega)

theorem B5e {n:Nat} (hn:1048577<=n):f97 n 0=some (rq 0):=Ba7 (c:=0) (by omega) hn

def Bfq (M:Nat->Nat->Rat) (m i:Nat):List Rat:=(List.range m).map (M i)

def bsV (M:Nat->Nat->Rat) (m i:Nat) (X:List Rat):Rat:=(M i m-Bm 0 (Bfq M m i) X) / M i i

def bs (M:Nat->Nat->Rat) (m:Nat):Nat->List Rat->List Rat
 | 0,X=>X
 | i+1,X=>bs M m i (X.set i (bsV M m i X))

theorem Alr {i:Nat}:vq (List.replicate i 0)++[rq 0]=vq (List.replicate (i+1) 0):=by
 rw [List.replicate_succ'];simp [vq]

theorem Vr {α:Type} {n m:Nat} (hm:m<=1000) (hn:1048577<=n) {k0:List Rt->Option α}:∀ (fu i:Nat),i<=m->m<i+fu->A01 n fu (m:Int) (i:Int) (vq (List.replicate i 0)) k0=k0 (vq (List.replicate m 0))
 | 0,i,h1,h2=>by omega
 | fu+1,i,h1,h2=>by
  rw [Auu];unfold A2q;rw [QK];by_cases h:i<m
  . rw [QJ (by omega),B5e hn,A0,A3 (by simp;omega),W1 (by omega),Alr]
    exact Vr hm hn fu (i+1) (by omega) (by omega)
  . obtain rfl:i=m:=by omega
    rw [QG (by omega)]

theorem B13 {n m:Nat} (hm:m<=1000) (hn:1048577<=n):Xo n (m:Int)=some (vq (List.replicate m 0)):=by
 unfold Xo
 exact Vr (n:=n) (k0:=λz=>some z) hm hn n 0 (by omega) (by omega)

theorem Vm {α:Type} {n m:Nat} (hm:m<=1000) (hn:1048577<=n) {k0:List Rt->Option α}:∀ (fu i:Nat),i<=m->m<i+fu->Uq n fu (m:Int) (i:Int) (vq (List.replicate i 0)) k0=k0 (vq (List.replicate m 0))
 | 0,i,h1,h2=>by omega
 | fu+1,i,h1,h2=>by
  rw [As3];unfold Yw;rw [QK];by_cases h:i<m
  . rw [QJ (by omega),Axu hn,A0,A3 (by simp;omega),W1 (by omega),Alr]
    exact Vm hm hn fu (i+1) (by omega) (by omega)
  . obtain rfl:i=m:=by omega
    rw [QG (by omega)]

theorem B07 {n m:Nat} (hm:m<=1000) (hn:1048577<=n):Aeh n (m:Int)=some (vq (List.replicate m 0)):=by
 unfold Aeh
 exact Vm (n:=n) (k0:=λz=>some z) hm hn n 0 (by omega) (by omega)

theorem I8:∀ (x y:List Rat) (a:Rat),Bm a x y=a+Bm 0 x y
 | [],_,a=>by simp [Bm,JG]
 | p::x,[],a=>by simp [Bm,JG]
 | p::x,q::y,a=>by
  simp only [Bm];rw [I8 x y (a+p*q),I8 x y (0+p*q)];grind

theorem Ade:∀ (x y:List Rat),Bm 0 x y=Bm 0 y x
 | [],[]=>rfl
 | [],_::_=>rfl
 | _::_,[]=>rfl
 | p::x,q::y=>by
  simp only [Bm];rw [I8,I8 y,Ade x y];grind

theorem Uz:∀ (x:List Rat),0<=Bm 0 x x
 | []=>by simp only [Bm];exact Rat.le_refl
 | p::x=>by
  have:=Uz x
  have h2:(0:Rat)<=p*p:=by
   rcases Rat.le_total (a:=0) (b:=p) with h | h
   . exact Qbq h h
   . have:=Qbq (a:=-p) (b:=-p) (by grind) (by grind)
     grind
  simp only [Bm];rw [I8];grind

theorem Ap6 (p:Rat):0<=p*p:=by
 rcases Rat.le_total (a:=0) (b:=p) with h | h
 . exact Qbq h h
 . have:=Qbq (a:=-p) (b:=-p) (by grind) (by grind)
   grind

theorem Ajd:∀ {x:List Rat},Bm 0 x x=0->∀ i,x.getD i 0=0
 | [],_,i=>by simp
 | p::x,h,i=>by
  simp only [Bm] at h;rw [I8] at h;have h1:=Uz x;have h2:=Ap6 p
  have h3:Bm 0 x x=0:=by grind
  have h4:p*p=0:=by grind
  have h5:p=0:=by rcases Rat.mul_eq_zero.1 h4 with h | h <;> exact h
  cases i with
  | zero=>simpa using h5
  | succ i=>simpa using Ajd h3 i

theorem Add:∀ {x:List Rat} (z:List Rat),(∀ i,x.getD i 0=0)->Bm 0 x z=0
 | [],_,_=>rfl
 | p::x,[],_=>rfl
 | p::x,c::z,h=>by
  have h0:p=0:=by simpa using h 0
  have h1:=Add (x:=x) z λi=>by simpa using h (i+1)
  simp only [Bm];rw [I8,h1,h0];grind

structure Pd (A:List Rat) (k:Nat):Prop where
 sa:∀ X Y,X.length=k->Y.length=k->Bm 0 (mvR A X) Y=Bm 0 X (mvR A Y)
 pd:∀ X,X.length=k->Bm 0 X X<=Bm 0 X (mvR A X)

structure CgI (A R D:List Rat) (k:Nat):Prop where
 lR:R.length=k
 lD:D.length=k
 i1:Bm 0 R D=Bm 0 R R
 i2:Bm 0 R (mvR A D)=Bm 0 D (mvR A D)

theorem CgI.p {A R D:List Rat} {k:Nat} (h:CgI A R D k) (hA:Pd A k) (hr:Bm 0 R R ≠ 0):Bm 0 D (mvR A D) ≠ 0:=by
 intro e;have h1:=hA.pd D h.lD;have h2:=Uz D
 have h3:Bm 0 D D=0:=by grind
 have h4:=Add R (Ajd h3);rw [Ade,h.i1] at h4;exact hr h4

structure Q4 where
 f:Rat
 a:Rat
 v:Rat
 c:Rat

theorem Q4.ext' {p q:Q4} (h1:p.f=q.f) (h2:p.a=q.a) (h3:p.v=q.v) (h4:p.c=q.c):p=q:=by
 cases p;cases q;simp only at h1 h2 h3 h4;rw [h1,h2,h3,h4]

def Q4.cst (k:Rat):Q4:=⟨k,0,0,0⟩

def Q4.add (p q:Q4):Q4:=⟨p.f+q.f,p.a+q.a,p.v+q.v,p.c+q.c⟩

def Q4.neg (p:Q4):Q4:=⟨-p.f,-p.a,-p.v,-p.c⟩

def Q4.mul (p q:Q4):Q4:=⟨p.f*q.f,p.a*q.f+p.f*q.a,p.v*q.f+p.f*q.v,p.c*q.f+p.f*q.c+(p.a*q.v+p.v*q.a)⟩

def Q4.inv (p:Q4):Q4:=⟨1 / p.f,-(p.a*(1 / p.f*(1 / p.f))),-(p.v*(1 / p.f*(1 / p.f))),2*(1 / p.f*(1 / p.f)*(1 / p.f))*(p.a*p.v)-p.c*(1 / p.f*(1 / p.f))⟩

def Q4.pow (p:Q4):Nat->Q4
 | 0=>cst 1
 | n+1=>mul (pow p n) p

def Q4.d1 (f:Rat):Nat->Rat
 | 0=>0
 | n+1=>f ^ n*((n+1:Nat):Rat)

def Q4.d2 (f:Rat):Nat->Rat
 | 0=>0
 | 1=>0
 | n+2=>f ^ n*(((n+2)*(n+1):Nat):Rat)

theorem Q4.d1_suc (f:Rat) (n:Nat):d1 f (n+1)=d1 f n*f+f ^ n:=by
 cases n with
 | zero=>simp [d1];grind
 | succ n=>simp only [d1,Rat.pow_succ];push_cast;grind

theorem Q4.d2_suc (f:Rat) (n:Nat):d2 f (n+1)=d2 f n*f+2*d1 f n:=by
 match n with
 | 0=>simp [d2,d1];grind
 | 1=>simp [d2,d1];grind
 | n+2=>simp only [d2,d1,Rat.pow_succ];push_cast;grind

theorem Q4.pow_eq (p:Q4):∀ n,pow p n=⟨p.f ^ n,d1 p.f n*p.a,d1 p.f n*p.v,d2 p.f n*p.a*p.v+d1 p.f n*p.c⟩
 | 0=>by simp [pow,cst,d1,d2];grind
 | n+1=>by
  rw [pow,pow_eq p n];simp only [mul];refine ext' ?_ ?_ ?_ ?_
  . simp only [Rat.pow_succ]
  . simp only [d1_suc];grind
  . simp only [d1_suc];grind
  . simp only [d1_suc,d2_suc];grind

structure Z4 where
 f:Int
 a:Int
 v:Int
 c:Int

def Z4.q (p:Z4):Q4:=⟨(p.f:Rat),(p.a:Rat),(p.v:Rat),(p.c:Rat)⟩

def Z4.n (p:Z4):Nat:=p.f.natAbs+p.a.natAbs+p.v.natAbs+p.c.natAbs

def Z4.add (p q:Z4):Z4:=⟨p.f+q.f,p.a+q.a,p.v+q.v,p.c+q.c⟩

def Z4.mul (p q:Z4):Z4:=⟨p.f*q.f,p.a*q.f+p.f*q.a,p.v*q.f+p.f*q.v,p.c*q.f+p.f*q.c+(p.a*q.v+p.v*q.a)⟩

theorem Z4.q_mul (p q:Z4):(mul p q).q=Q4.mul p.q q.q:=by
 refine Q4.ext' ?_ ?_ ?_ ?_ <;> simp only [Z4.q,mul,Q4.mul] <;> push_cast <;> rfl

theorem Z4.q_add (p q:Z4):(add p q).q=Q4.add p.q q.q:=by
 refine Q4.ext' ?_ ?_ ?_ ?_ <;> simp only [Z4.q,add,Q4.add] <;> push_cast <;> rfl

theorem Z4.n_add (p q:Z4):(add p q).n<=p.n+q.n:=by
 have h1:=YJ p.f q.f;have h2:=YJ p.a q.a;have h3:=YJ p.v q.v;have h4:=YJ p.c q.c;simp only [n,add];omega

theorem Z4.n_mul (p q:Z4):(mul p q).n<=p.n*q.n:=by
 have h2:=YJ (p.a*q.f) (p.f*q.a);have h3:=YJ (p.v*q.f) (p.f*q.v);have h4:=YJ (p.c*q.f+p.f*q.c) (p.a*q.v+p.v*q.a);have h5:=YJ (p.c*q.f) (p.f*q.c);have h6:=YJ (p.a*q.v) (p.v*q.a);simp only [n,mul,YO,Nat.mul_add,XX] at *;generalize p.f.natAbs*q.f.natAbs=x1 at *;generalize p.a.natAbs*q.f.natAbs=x2 at *;generalize p.f.natAbs*q.a.natAbs=x3 at *;generalize p.v.natAbs*q.f.natAbs=x4 at *;generalize p.f.natAbs*q.v.natAbs=x5 at *;generalize p.c.natAbs*q.f.natAbs=x6 at *;generalize p.f.natAbs*q.c.natAbs=x7 at *;generalize p.a.natAbs*q.v.natAbs=x8 at *;generalize p.v.natAbs*q.a.natAbs=x9 at *;omega

def Ca (q:Q4) (M:Nat):Prop:=∃ P Q:Z4,Q.f ≠ 0/\Q4.mul q Q.q=P.q/\P.n<=M/\Q.n<=M

theorem Ca.mono {q:Q4} {M N:Nat} (h:Ca q M) (hN:M<=N):Ca q N:=by
 obtain ⟨P,Q,h1,h2,h3,h4⟩:=h;exact ⟨P,Q,h1,h2,ZL h3 hN,ZL h4 hN⟩

theorem Q4.mul_comm (p q:Q4):mul p q=mul q p:=by
 refine ext' ?_ ?_ ?_ ?_ <;> simp only [mul] <;> grind

theorem Q4.mul_assoc (p q r:Q4):mul (mul p q) r=mul p (mul q r):=by
 refine ext' ?_ ?_ ?_ ?_ <;> simp only [mul] <;> grind

theorem Q4.add_mul (p q r:Q4):mul (add p q) r=add (mul p r) (mul q r):=by
 refine ext' ?_ ?_ ?_ ?_ <;> simp only [mul,add] <;> grind

theorem Q4.neg_mul (p r:Q4):mul (neg p) r=neg (mul p r):=by
 refine ext' ?_ ?_ ?_ ?_ <;> simp only [mul,neg] <;> grind

theorem Q4.inv_mul (p:Q4) (h:p.f ≠ 0):mul (inv p) p=cst 1:=by
 have h1:1 / p.f*p.f=1:=by grind
 generalize hr:1 / p.f=r at h1;refine ext' ?_ ?_ ?_ ?_ <;> simp only [mul,inv,cst,hr] <;> grind

theorem Q4.one_mul (p:Q4):mul (cst 1) p=p:=by
 refine ext' ?_ ?_ ?_ ?_ <;> simp only [mul,cst] <;> grind

theorem Q4.mul4 (p q r s:Q4):mul (mul p q) (mul r s)=mul (mul p r) (mul q s):=by
 rw [mul_assoc,<- mul_assoc q,mul_comm q r,mul_assoc r,<- mul_assoc]

theorem O6 {a b:Int} (ha:a ≠ 0) (hb:b ≠ 0):a*b ≠ 0:=by
 intro h;rcases Int.mul_eq_zero.1 h with h | h
 . exact ha h
 . exact hb h

theorem Ca.mul {p q:Q4} {M N:Nat} (hp:Ca p M) (hq:Ca q N):Ca (Q4.mul p q) (M*N):=by
 obtain ⟨P,Q,h1,h2,h3,h4⟩:=hp;obtain ⟨R,S,g1,g2,g3,g4⟩:=hq;refine ⟨Z4.mul P R,Z4.mul Q S,O6 h1 g1,?_,ZL (Z4.n_mul _ _) (XE h3 g3),ZL (Z4.n_mul _ _) (XE h4 g4)⟩;rw [Z4.q_mul,Z4.q_mul,Q4.mul4,h2,g2]

theorem Ca.add {p q:Q4} {M N:Nat} (hp:Ca p M) (hq:Ca q N):Ca (Q4.add p q) (2*(M*N)):=by
 obtain ⟨P,Q,h1,h2,h3,h4⟩:=hp;obtain ⟨R,S,g1,g2,g3,g4⟩:=hq;have e1:=XE h3 g4;have e2:=XE h4 g3;have e3:=XE h4 g4;have n1:=Z4.n_mul P S;have n2:=Z4.n_mul R Q;have n3:=Z4.n_mul Q S;have n4:=Z4.n_add (Z4.mul P S) (Z4.mul R Q);rw [KC R.n] at n2
 refine ⟨Z4.add (Z4.mul P S) (Z4.mul R Q),Z4.mul Q S,O6 h1 g1,?_,by omega,by omega⟩
 rw [Z4.q_add,Z4.q_mul,Z4.q_mul,Z4.q_mul,Q4.add_mul,<- h2,<- g2,Q4.mul_assoc,Q4.mul_assoc,Q4.mul_comm Q.q S.q]

theorem Ca.neg {p:Q4} {M:Nat} (hp:Ca p M):Ca (Q4.neg p) M:=by
 obtain ⟨P,Q,h1,h2,h3,h4⟩:=hp
 refine ⟨⟨-P.f,-P.a,-P.v,-P.c⟩,Q,h1,?_,by simpa [Z4.n] using h3,h4⟩
 rw [Q4.neg_mul,h2];refine Q4.ext' ?_ ?_ ?_ ?_ <;> simp only [Q4.neg,Z4.q] <;> push_cast <;> rfl

theorem Ca.inv {p:Q4} {M:Nat} (hp:Ca p M) (h0:p.f ≠ 0):Ca (Q4.inv p) M:=by
 obtain ⟨P,Q,h1,h2,h3,h4⟩:=hp;refine ⟨Q,P,?_,?_,h4,h3⟩
 . have:p.f*(Q.f:Rat)=(P.f:Rat):=XC Q4.f h2;intro h;rw [h] at this
   have hq:(Q.f:Rat) ≠ 0:=by simpa using h1
   grind
 . rw [<- h2,<- Q4.mul_assoc,Q4.inv_mul p h0,Q4.one_mul]

theorem Ca.one:Ca (Q4.cst 1) 1:=⟨⟨1,0,0,0⟩,⟨1,0,0,0⟩,by decide,by
 refine Q4.ext' ?_ ?_ ?_ ?_ <;> simp only [Q4.mul,Q4.cst,Z4.q] <;> simp [JG],by decide,by decide⟩

theorem Ca.cst (k:Int):Ca (Q4.cst (k:Rat)) (max k.natAbs 1):=⟨⟨k,0,0,0⟩,⟨1,0,0,0⟩,by simp,by
 refine Q4.ext' ?_ ?_ ?_ ?_ <;> simp only [Q4.mul,Q4.cst,Z4.q] <;> simp [JG],by simp [Z4.n];omega,by simp [Z4.n];omega⟩

theorem Ca.pow {p:Q4} {M:Nat} (hp:Ca p M):∀ n,Ca (Q4.pow p n) (M ^ n)
 | 0=>by simpa [Q4.pow] using Ca.one
 | n+1=>by simpa only [Q4.pow,YG] using (Ca.pow hp n).mul hp

def Hb (x:Rat) (B:Nat):Prop:=x.num.natAbs<=B/\x.den<=B

theorem Hb.mono {x:Rat} {B C:Nat} (h:Hb x B) (hC:B<=C):Hb x C:=⟨ZL h.1 hC,ZL h.2 hC⟩

theorem Sx (x:Rat):x*((x.den:Int):Rat)=(x.num:Rat):=by
 have h1:mkRat x.num x.den=x:=Rat.mkRat_self x;rw [Rat.mkRat_eq_div] at h1
 have h2:((x.den:Int):Rat) ≠ 0:=by have:=x.den_nz;simpa using this
 rw [KG] at h2 ⊢;generalize (x.den:Rat)=d at *;grind

theorem Ca.var {x w:Rat} {δ:Int} {A B C D:Nat} (hx:x.num.natAbs<=A) (hxd:x.den<=B) (hw:w.num.natAbs<=C) (hwd:w.den<=D) (hδ:δ.natAbs<=1):Ca ⟨x,(δ:Rat),w,0⟩ (A*D+B*D+C*B):=by
 have h1:=Sx x;have h2:=Sx w;have e1:=XE hx hwd;have e2:=XE hxd hwd;have e3:=XE hw hxd;have e4:δ.natAbs*(x.den*w.den)<=1*(x.den*w.den):=YE _ hδ
 refine ⟨⟨x.num*w.den,δ*(x.den*w.den),w.num*x.den,0⟩,⟨(x.den:Int)*w.den,0,0,0⟩,O6 (by have:=x.den_nz;omega) (by have:=w.den_nz;omega),?_,?_,?_⟩
 . refine Q4.ext' ?_ ?_ ?_ ?_ <;> simp only [Q4.mul,Z4.q] <;> simp only [Qaj,<- h1,<- h2] <;> grind
 . simp only [Z4.n,XX,XR];have:((0:Int).natAbs)=0:=rfl;omega
 . simp only [Z4.n,XX,XR];have:((0:Int).natAbs)=0:=rfl;omega

theorem Sp {x:Rat} {z d:Int} {B:Nat} (h:x*(d:Rat)=(z:Rat)) (hd:d ≠ 0) (h1:z.natAbs<=B) (h2:d.natAbs<=B):Hb x B:=by
 have hx:x.num*d=z*x.den:=by
  have:=Sx x
  have h3:(x.num:Rat)*(d:Rat)=(z:Rat)*((x.den:Int):Rat):=by grind
  exact_mod_cast h3
 have hc:=x.reduced
 have e1:x.num.natAbs*d.natAbs=z.natAbs*x.den:=by
  have:=XC Int.natAbs hx;simpa only [XX,XR] using this
 have d1:x.den ∣ d.natAbs:=hc.symm.dvd_of_dvd_mul_left (by rw [e1];exact Nat.dvd_mul_left _ _)
 have d2:x.num.natAbs ∣ z.natAbs:=hc.dvd_of_dvd_mul_right (by rw [<- e1];exact Nat.dvd_mul_right _ _)
 have p1:0<d.natAbs:=by omega
 refine ⟨?_,ZL (Nat.le_of_dvd p1 d1) h2⟩;rcases YV z.natAbs with h0 | h0
 . rw [h0] at d2
   have:x.num.natAbs=0:=by
    rw [h0,JC] at e1;rcases Qbb.1 e1 with h | h
    . exact h
    . omega
   omega
 . exact ZL (Nat.le_of_dvd h0 d2) h1

theorem Ca.sizes {q:Q4} {M:Nat} (h:Ca q M):Hb q.f (6*(M*M*M))/\Hb q.a (6*(M*M*M))/\Hb q.v (6*(M*M*M))/\Hb q.c (6*(M*M*M)):=by
 obtain ⟨P,Q,h1,h2,h3,h4⟩:=h
 have q0:(Q.f:Rat) ≠ 0:=by simpa using h1
 have e1:q.f*(Q.f:Rat)=(P.f:Rat):=XC Q4.f h2;have e2:q.a*(Q.f:Rat)+q.f*(Q.a:Rat)=(P.a:Rat):=XC Q4.a h2;have e3:q.v*(Q.f:Rat)+q.f*(Q.v:Rat)=(P.v:Rat):=XC Q4.v h2;have e4:q.c*(Q.f:Rat)+q.f*(Q.c:Rat)+(q.a*(Q.v:Rat)+q.v*(Q.a:Rat))=(P.c:Rat):=XC Q4.c h2
 have m1:1<=Q.f.natAbs:=by omega
 simp only [Z4.n] at h3 h4
 have M1:1<=M:=by omega
 have pf:P.f.natAbs<=M:=by omega
 have pa:P.a.natAbs<=M:=by omega
 have pv:P.v.natAbs<=M:=by omega
 have pc:P.c.natAbs<=M:=by omega
 have qf:Q.f.natAbs<=M:=by omega
 have qa:Q.a.natAbs<=M:=by omega
 have qv:Q.v.natAbs<=M:=by omega
 have qc:Q.c.natAbs<=M:=by omega
 clear h3 h4;have MM:M*1<=M*M:=XS _ M1;have MMM:M*M*1<=M*M*M:=XS _ M1;have b:∀ {x y:Nat},x<=M->y<=M->x*y<=M*M:=λhx hy=>XE hx hy;have b3:∀ {x y z:Nat},x<=M->y<=M->z<=M->x*y*z<=M*M*M:=λhx hy hz=>XE (XE hx hy) hz;have qq:Q.f.natAbs*Q.f.natAbs<=M*M:=b qf qf;have qqq:Q.f.natAbs*Q.f.natAbs*Q.f.natAbs<=M*M*M:=b3 qf qf qf
 refine ⟨Sp e1 h1 (by omega) (by omega),?_,?_,?_⟩
 . refine Sp (z:=P.a*Q.f-P.f*Q.a) (d:=Q.f*Q.f) ?_ (O6 h1 h1) ?_ (by rw [XX];omega)
   . push_cast;rw [<- e1,<- e2];grind
   . have:=JV (P.a*Q.f) (P.f*Q.a);have c1:=b pa qf;have c2:=b pf qa;rw [XX,XX] at this;omega
 . refine Sp (z:=P.v*Q.f-P.f*Q.v) (d:=Q.f*Q.f) ?_ (O6 h1 h1) ?_ (by rw [XX];omega)
   . push_cast;rw [<- e1,<- e3];grind
   . have:=JV (P.v*Q.f) (P.f*Q.v);have c1:=b pv qf;have c2:=b pf qv;rw [XX,XX] at this;omega
 . refine Sp (z:=P.c*Q.f*Q.f-P.a*Q.v*Q.f-P.v*Q.a*Q.f-P.f*Q.c*Q.f+(P.f*Q.a*Q.v+P.f*Q.a*Q.v)) (d:=Q.f*Q.f*Q.f) ?_ (O6 (O6 h1 h1) h1) ?_ (by rw [XX,XX];omega)
   . push_cast;rw [<- e1,<- e2,<- e3,<- e4];generalize (Q.f:Rat)=X1,(Q.a:Rat)=X2,(Q.v:Rat)=X3,(Q.c:Rat)=X4;grind
   . have s1:=JV (P.c*Q.f*Q.f) (P.a*Q.v*Q.f);have s2:=JV (P.c*Q.f*Q.f-P.a*Q.v*Q.f) (P.v*Q.a*Q.f);have s3:=JV (P.c*Q.f*Q.f-P.a*Q.v*Q.f-P.v*Q.a*Q.f) (P.f*Q.c*Q.f);have s4:=YJ (P.c*Q.f*Q.f-P.a*Q.v*Q.f-P.v*Q.a*Q.f-P.f*Q.c*Q.f) (P.f*Q.a*Q.v+P.f*Q.a*Q.v);have s5:=YJ (P.f*Q.a*Q.v) (P.f*Q.a*Q.v)
     have k:P.c.natAbs*Q.f.natAbs*Q.f.natAbs+P.a.natAbs*Q.v.natAbs*Q.f.natAbs+P.v.natAbs*Q.a.natAbs*Q.f.natAbs+P.f.natAbs*Q.c.natAbs*Q.f.natAbs+(P.f.natAbs*Q.a.natAbs*Q.v.natAbs+P.f.natAbs*Q.a.natAbs*Q.v.natAbs)<=6*(M*M*M):=by
      have c1:=b3 pc qf qf;have c2:=b3 pa qv qf;have c3:=b3 pv qa qf;have c4:=b3 pf qc qf;have c5:=b3 pf qa qv;omega
     simp only [XX] at s1 s2 s3 s4 s5;refine ZL (ZL s4 ?_) k;clear b b3 e1 e2 e3 e4 h2;omega

abbrev Nd:=Int × Int × Int × Int

def Au (x u w:Nat->Rat) (l:List Q4) (n:Nd):Q4 :=
 if n.1=1 then Q4.cst (n.2.2.2:Rat)
 else if n.1=2 then ⟨x n.2.2.2.toNat,u n.2.2.2.toNat,w n.2.2.2.toNat,0⟩
 else if n.1=3 then Q4.add (l.getD n.2.1.toNat (Q4.cst 0)) (l.getD n.2.2.1.toNat (Q4.cst 0))
 else if n.1=4 then Q4.add (l.getD n.2.1.toNat (Q4.cst 0)) (Q4.neg (l.getD n.2.2.1.toNat (Q4.cst 0)))
 else if n.1=5 then Q4.mul (l.getD n.2.1.toNat (Q4.cst 0)) (l.getD n.2.2.1.toNat (Q4.cst 0))
 else if n.1=6 then Q4.mul (l.getD n.2.1.toNat (Q4.cst 0)) (Q4.inv (l.getD n.2.2.1.toNat (Q4.cst 0)))
 else if n.1=7 then Q4.neg (l.getD n.2.1.toNat (Q4.cst 0))
 else Q4.pow (l.getD n.2.1.toNat (Q4.cst 0)) n.2.2.2.toNat

def evs (x u w:Nat->Rat):List Nd->List Q4->List Q4
 | [],l=>l
 | n::r,l=>evs x u w r (l++[Au x u w l n])

theorem Ey (x u w:Nat->Rat):∀ (ns:List Nd) (l:List Q4),(evs x u w ns l).length=l.length+ns.length
 | [],l=>by simp [evs]
 | n::r,l=>by rw [evs,Ey x u w r];simp;omega

theorem Nr (x u w:Nat->Rat):∀ (ns ms:List Nd) (l:List Q4),evs x u w (ns++ms) l=evs x u w ms (evs x u w ns l)
 | [],ms,l=>rfl
 | n::r,ms,l=>by rw [YD,evs,Nr x u w r,evs]

theorem Aaw (x u w:Nat->Rat):∀ (ns:List Nd) (l:List Q4) (k:Nat),k<l.length->(evs x u w ns l).getD k (Q4.cst 0)=l.getD k (Q4.cst 0)
 | [],l,k,h=>rfl
 | n::r,l,k,h=>by
  rw [evs,Aaw x u w r _ k (by simp;omega)]
  simp only [QL,ZB h]

structure Dm {ι:Type} (x:Nat->Rat) (u w:ι->Nat->Rat) (R:(ι->Q4)->Prop):Prop where
 cst:∀ k:Rat,R λ_=>Q4.cst k
 var:∀ n,R λi=>⟨x n,u i n,w i n,0⟩
 add:∀ {p q:ι->Q4},R p->R q->R λi=>Q4.add (p i) (q i)
 neg:∀ {p:ι->Q4},R p->R λi=>Q4.neg (p i)
 mul:∀ {p q:ι->Q4},R p->R q->R λi=>Q4.mul (p i) (q i)
 inv:∀ {p:ι->Q4},R p->R λi=>Q4.inv (p i)

theorem Dm.pow {ι:Type} {x:Nat->Rat} {u w:ι->Nat->Rat} {R:(ι->Q4)->Prop} (h:Dm x u w R) {p:ι->Q4} (hp:R p):∀ n,R λi=>Q4.pow (p i) n
 | 0=>h.cst 1
 | n+1=>h.mul (h.pow hp n) hp

theorem Dm.of {ι:Type} {x:Nat->Rat} {u w:ι->Nat->Rat} {R:(ι->Q4)->Prop} (h:Dm x u w R) {l:ι->List Q4} (hl:∀ k,R λi=>(l i).getD k (Q4.cst 0)) (n:Nd):R λi=>Au x (u i) (w i) (l i) n:=by
 unfold Au;by_cases h1:n.1=1
 . simp only [QJ h1];exact h.cst _
 by_cases h2:n.1=2
 . simp only [QG h1,QJ h2];exact h.var _
 by_cases h3:n.1=3
 . simp only [QG h1,QG h2,QJ h3];exact h.add (hl _) (hl _)
 by_cases h4:n.1=4
 . simp only [QG h1,QG h2,QG h3,QJ h4];exact h.add (hl _) (h.neg (hl _))
 by_cases h5:n.1=5
 . simp only [QG h1,QG h2,QG h3,QG h4,QJ h5];exact h.mul (hl _) (hl _)
 by_cases h6:n.1=6
 . simp only [QG h1,QG h2,QG h3,QG h4,QG h5,QJ h6];exact h.mul (hl _) (h.inv (hl _))
 by_cases h7:n.1=7
 . simp only [QG h1,QG h2,QG h3,QG h4,QG h5,QG h6,QJ h7];exact h.neg (hl _)
 . simp only [QG h1,QG h2,QG h3,QG h4,QG h5,QG h6,QG h7];exact h.pow (hl _) _

theorem Dm.evs {ι:Type} {x:Nat->Rat} {u w:ι->Nat->Rat} {R:(ι->Q4)->Prop} (h:Dm x u w R):∀ (ns:List Nd) {l:ι->List Q4} {N:Nat},(∀ i,(l i).length=N)->(∀ k,R λi=>(l i).getD k (Q4.cst 0))->∀ k,R λi=>(evs x (u i) (w i) ns (l i)).getD k (Q4.cst 0)
 | [],l,N,_,hl,k=>hl k
 | n::r,l,N,hN,hl,k=>by
  simp only [Go.Ev.evs]
  refine h.evs r (N:=N+1) (λi=>by simp [hN i]) (λk=>?_) k
  rcases Qas k N with hk | hk | hk
  . have e : (fun i => (l i ++ [Au x (u i) (w i) (l i) n]).getD k (Q4.cst 0)) = fun i => (l i).getD k (Q4.cst 0) := by
     funext i
     simp only [QL,ZB (show k<(l i).length by rw [hN i];exact hk)]
    rw [e];exact hl k
  . have e : (fun i => (l i ++ [Au x (u i) (w i) (l i) n]).getD k (Q4.cst 0)) = fun i => Au x (u i) (w i) (l i) n := by
     funext i
     rw [QL,ZC (by rw [hN i];omega),hN i,hk];simp
    rw [e];exact h.of hl n
  . have e : (fun i => (l i ++ [Au x (u i) (w i) (l i) n]).getD k (Q4.cst 0)) = fun _ => Q4.cst 0 := by
     funext i
     rw [QL,KV (by simp [hN i];omega)];rfl
    rw [e];exact h.cst 0

theorem Dm.run {ι:Type} {x:Nat->Rat} {u w:ι->Nat->Rat} {R:(ι->Q4)->Prop} (h:Dm x u w R) (ns:List Nd) (k:Nat):R λi=>(Go.Ev.evs x (u i) (w i) ns []).getD k (Q4.cst 0) :=
 h.evs ns (N:=0) (λ_=>rfl) (λk=>by simpa using h.cst 0) k

theorem Ae5 (x:Nat->Rat) (u w u' w':Nat->Rat) (ns:List Nd) (k:Nat):((evs x u w ns []).getD k (Q4.cst 0)).f=((evs x u' w' ns []).getD k (Q4.cst 0)).f:=by
 have h:Dm x (λb:Bool=>bif b then u else u') (λb:Bool=>bif b then w else w') (λp=>(p true).f=(p false).f):=by
  refine ⟨λ_=>rfl,λ_=>rfl,λh1 h2=>?_,λh1=>?_,λh1 h2=>?_,λh1=>?_⟩ <;> simp only [Q4.add,Q4.neg,Q4.mul,Q4.inv,h1] <;> (try simp only [h2])
 exact h.run ns k

theorem Apa (x:Nat->Rat) (u u' w:Nat->Rat) (ns:List Nd) (k:Nat):((evs x u w ns []).getD k (Q4.cst 0)).v=((evs x u' w ns []).getD k (Q4.cst 0)).v:=by
 have h:Dm x (λb:Bool=>bif b then u else u') (λ_:Bool=>w) (λp=>(p true).f=(p false).f/\(p true).v=(p false).v):=by
  refine ⟨λ_=>⟨rfl,rfl⟩,λ_=>⟨rfl,rfl⟩,λh1 h2=>?_,λh1=>?_,λh1 h2=>?_,λh1=>?_⟩ <;> simp only [Q4.add,Q4.neg,Q4.mul,Q4.inv,h1] <;> (try simp only [h2]) <;> (try simp only [JF])
 exact (h.run ns k).2

theorem A97 (x:Nat->Rat) (u w:Nat->Rat) (ns:List Nd) (k:Nat):((evs x u w ns []).getD k (Q4.cst 0)).a=((evs x w u ns []).getD k (Q4.cst 0)).v/\((evs x u w ns []).getD k (Q4.cst 0)).c=((evs x w u ns []).getD k (Q4.cst 0)).c:=by
 have h:Dm x (λb:Bool=>bif b then u else w) (λb:Bool=>bif b then w else u) (λp=>(p true).f=(p false).f/\(p true).a=(p false).v/\(p true).v=(p false).a/\(p true).c=(p false).c):=by
  refine ⟨λ_=>⟨rfl,rfl,rfl,rfl⟩,λ_=>⟨rfl,rfl,rfl,rfl⟩,λh1 h2=>?_,λh1=>?_,λh1 h2=>?_,λh1=>?_⟩ <;> simp only [Q4.add,Q4.neg,Q4.mul,Q4.inv,h1] <;> (try simp only [h2,JF,KP]) <;> (try grind)
 exact ⟨(h.run ns k).2.1,(h.run ns k).2.2.2⟩

theorem B4q (x:Nat->Rat) (u:Nat->Rat) (w0 w1 w2 w:Nat->Rat) (a b d:Rat) (hw:∀ n,w n=a*w0 n+b*w1 n+d*w2 n) (ns:List Nd) (k:Nat) :
  ((evs x u w ns []).getD k (Q4.cst 0)).v=a*((evs x u w0 ns []).getD k (Q4.cst 0)).v+b*((evs x u w1 ns []).getD k (Q4.cst 0)).v+d*((evs x u w2 ns []).getD k (Q4.cst 0)).v /\
  ((evs x u w ns []).getD k (Q4.cst 0)).c=a*((evs x u w0 ns []).getD k (Q4.cst 0)).c+b*((evs x u w1 ns []).getD k (Q4.cst 0)).c+d*((evs x u w2 ns []).getD k (Q4.cst 0)).c:=by
 have h:Dm x (λ_:Nat=>u) (λi:Nat=>if i=0 then w0 else if i=1 then w1 else if i=2 then w2 else w)
   (λp=>((p 0).f=(p 3).f/\(p 1).f=(p 3).f/\(p 2).f=(p 3).f)/\((p 0).a=(p 3).a/\(p 1).a=(p 3).a/\(p 2).a=(p 3).a)/\(p 3).v=a*(p 0).v+b*(p 1).v+d*(p 2).v/\(p 3).c=a*(p 0).c+b*(p 1).c+d*(p 2).c):=by
  refine ⟨λ_=>⟨⟨rfl,rfl,rfl⟩,⟨rfl,rfl,rfl⟩,?_,?_⟩,λn=>⟨⟨rfl,rfl,rfl⟩,⟨rfl,rfl,rfl⟩,?_,?_⟩,?_,?_,?_,?_⟩
  . simp only [Q4.cst];grind
  . simp only [Q4.cst];grind
  . simpa using hw n
  . grind
  . rintro p q ⟨⟨h1,h2,h3⟩,⟨h4,h5,h6⟩,h7,h8⟩ ⟨⟨g1,g2,g3⟩,⟨g4,g5,g6⟩,g7,g8⟩
    simp only [Q4.add,h1,h2,h3,h4,h5,h6,h7,h8,g1,g2,g3,g4,g5,g6,g7,g8,KP,JF]
    exact ⟨by grind,by grind⟩
  . rintro p ⟨⟨h1,h2,h3⟩,⟨h4,h5,h6⟩,h7,h8⟩
    simp only [Q4.neg,h1,h2,h3,h4,h5,h6,h7,h8,KP,JF]
    exact ⟨by grind,by grind⟩
  . rintro p q ⟨⟨h1,h2,h3⟩,⟨h4,h5,h6⟩,h7,h8⟩ ⟨⟨g1,g2,g3⟩,⟨g4,g5,g6⟩,g7,g8⟩
    simp only [Q4.mul,h1,h2,h3,h4,h5,h6,h7,h8,g1,g2,g3,g4,g5,g6,g7,g8,KP,JF]
    exact ⟨by grind,by grind⟩
  . rintro p ⟨⟨h1,h2,h3⟩,⟨h4,h5,h6⟩,h7,h8⟩
    simp only [Q4.inv,h1,h2,h3,h4,h5,h6,h7,h8,KP,JF];generalize 1 / (p 3).f=r
    exact ⟨by grind,by grind⟩
 have:=h.run ns k;exact this.2.2

theorem B0a (x:Nat->Rat) (u0 u1 u2 u w:Nat->Rat) (a b d:Rat) (hw:∀ n,w n=a*u0 n+b*u1 n+d*u2 n) (w':Nat->Rat) (ns:List Nd) (k:Nat) :
  ((evs x u w ns []).getD k (Q4.cst 0)).v=a*((evs x u0 w' ns []).getD k (Q4.cst 0)).a+b*((evs x u1 w' ns []).getD k (Q4.cst 0)).a+d*((evs x u2 w' ns []).getD k (Q4.cst 0)).a:=by
 rw [(B4q x u u0 u1 u2 w a b d hw ns k).1,(A97 x u0 w' ns k).1,(A97 x u1 w' ns k).1,(A97 x u2 w' ns k).1,Apa x w' u,Apa x w' u,Apa x w' u]

def Dl (l:List Q4) (n:Nd):Prop:=n.1=6/\(l.getD n.2.2.1.toNat (Q4.cst 0)).f=0

instance (l:List Q4) (n:Nd):Decidable (Dl l n):=by unfold Dl;infer_instance

def F1 (fit:Q4->Bool) (x u w:Nat->Rat):List Nd->List Q4->List Q4 ⊕ Int
 | [],l=>.inl l
 | n::r,l=>if Dl l n then .inr 10 else if fit (Au x u w l n)=true then F1 fit x u w r (l++[Au x u w l n]) else .inr 7

theorem Sd {fit:Q4->Bool} {x u w:Nat->Rat}:∀ (ns:List Nd) (l l':List Q4),(∀ k,k<l.length->fit (l.getD k (Q4.cst 0))=true)->F1 fit x u w ns l = .inl l'->(∀ k,k<l'.length->fit (l'.getD k (Q4.cst 0))=true)/\l'=evs x u w ns l
 | [],l,l',h,e=>by obtain rfl:=Sum.inl.inj e;exact ⟨h,rfl⟩
 | n::r,l,l',h,e=>by
  simp only [F1] at e;by_cases hb:Dl l n
  . rw [QJ hb] at e;cases e
  . rw [QG hb] at e;by_cases hf:fit (Au x u w l n)=true
    . rw [QJ hf] at e;refine Sd r _ l' (λk hk=>?_) e;simp only [ZF,ZH,XA] at hk;rcases ZT k l.length with h1 | h1
      . rw [QL,ZB h1,<- QL];exact h k h1
      . obtain rfl:k=l.length:=by omega
        rw [QL,ZC (QZ _)];simpa using hf
    . rw [QG hf] at e;cases e

theorem A5r {fit:Q4->Bool} {x u w:Nat->Rat}:∀ (ns:List Nd) (l:List Q4) (c:Int),F1 fit x u w ns l = .inr c->c=7 \/ c=10
 | [],l,c,e=>by cases e
 | n::r,l,c,e=>by
  simp only [F1] at e;by_cases hb:Dl l n
  . rw [QJ hb] at e;exact .inr (Sum.inr.inj e).symm
  . rw [QG hb] at e;by_cases hf:fit (Au x u w l n)=true
    . rw [QJ hf] at e;exact A5r r _ c e
    . rw [QG hf] at e;exact .inl (Sum.inr.inj e).symm

structure Pt where
 a:Rat
 b:Rat
 da:Rat
 db:Rat

def Lz (f d:Nat->Rat) (n:Nd):Pt :=
 let A:=n.2.1.toNat;let B:=n.2.2.1.toNat
 if n.1=3 then ⟨1,1,0,0⟩
 else if n.1=4 then ⟨1,-1,0,0⟩
 else if n.1=5 then ⟨f B,f A,d B,d A⟩
 else if n.1=6 then ⟨1 / f B,-(f A*(1 / f B*(1 / f B))),-(d B*(1 / f B*(1 / f B))),-(d A*(1 / f B*(1 / f B)))+2*(f A*d B*(1 / f B*(1 / f B)*(1 / f B)))⟩
 else if n.1=7 then ⟨-1,0,0,0⟩
 else if n.1=8 then ⟨Q4.d1 (f A) n.2.2.2.toNat,0,Q4.d2 (f A) n.2.2.2.toNat*d A,0⟩
 else ⟨0,0,0,0⟩

def B91 (n:Nd):Bool:=decide (n.1=3) || decide (n.1=4) || decide (n.1=5) || decide (n.1=6)

def Bfr (n:Nd):Bool:=decide (n.1=7) || decide (n.1=8)

def Bg9 (n:Nd) (k:Nat):Prop:=(1<=n.1/\n.1<=8)/\(B91 n=true \/ Bfr n=true->n.2.1.toNat<k)/\(B91 n=true->n.2.2.1.toNat<k)

def Afi (x u w:Nat->Rat) (Q:Nat->Q4) (n:Nd):Q4 :=
 if n.1=1 then Q4.cst (n.2.2.2:Rat)
 else if n.1=2 then ⟨x n.2.2.2.toNat,u n.2.2.2.toNat,w n.2.2.2.toNat,0⟩
 else if n.1=3 then Q4.add (Q n.2.1.toNat) (Q n.2.2.1.toNat)
 else if n.1=4 then Q4.add (Q n.2.1.toNat) (Q4.neg (Q n.2.2.1.toNat))
 else if n.1=5 then Q4.mul (Q n.2.1.toNat) (Q n.2.2.1.toNat)
 else if n.1=6 then Q4.mul (Q n.2.1.toNat) (Q4.inv (Q n.2.2.1.toNat))
 else if n.1=7 then Q4.neg (Q n.2.1.toNat)
 else Q4.pow (Q n.2.1.toNat) n.2.2.2.toNat

theorem B4v (x u w:Nat->Rat) (l:List Q4) (n:Nd):Au x u w l n=Afi x u w (λk=>l.getD k (Q4.cst 0)) n:=rfl

theorem B4w (x u w:Nat->Rat) (Q:Nat->Q4) (n:Nd) (hn:1<=n.1/\n.1<=8) (h2:n.1 ≠ 2) :
  (Afi x u w Q n).a=(Lz (λk=>(Q k).f) (λk=>(Q k).v) n).a*(Q n.2.1.toNat).a+(Lz (λk=>(Q k).f) (λk=>(Q k).v) n).b*(Q n.2.2.1.toNat).a /\
  (Afi x u w Q n).v=(Lz (λk=>(Q k).f) (λk=>(Q k).v) n).a*(Q n.2.1.toNat).v+(Lz (λk=>(Q k).f) (λk=>(Q k).v) n).b*(Q n.2.2.1.toNat).v /\
  (Afi x u w Q n).c=((Lz (λk=>(Q k).f) (λk=>(Q k).v) n).a*(Q n.2.1.toNat).c+(Lz (λk=>(Q k).f) (λk=>(Q k).v) n).da*(Q n.2.1.toNat).a)+((Lz (λk=>(Q k).f) (λk=>(Q k).v) n).b*(Q n.2.2.1.toNat).c+(Lz (λk=>(Q k).f) (λk=>(Q k).v) n).db*(Q n.2.2.1.toNat).a):=by
 unfold Lz Afi;dsimp only;generalize Q n.2.1.toNat=P;generalize Q n.2.2.1.toNat=Q
 obtain h | h | h | h | h | h | h:n.1=1 \/ n.1=3 \/ n.1=4 \/ n.1=5 \/ n.1=6 \/ n.1=7 \/ n.1=8:=by omega
 all_goals simp only [h,if_true]
 . simp only [show ¬ ((1:Int)=3) by decide,show ¬ ((1:Int)=4) by decide,show ¬ ((1:Int)=5) by decide,show ¬ ((1:Int)=6) by decide,show ¬ ((1:Int)=7) by decide,show ¬ ((1:Int)=8) by decide,if_false,Q4.cst]
   refine ⟨?_,?_,?_⟩ <;> grind
 . simp only [show ¬ ((3:Int)=1) by decide,show ¬ ((3:Int)=2) by decide,if_false,Q4.add]
   refine ⟨?_,?_,?_⟩ <;> grind
 . simp only [show ¬ ((4:Int)=1) by decide,show ¬ ((4:Int)=2) by decide,show ¬ ((4:Int)=3) by decide,if_false,Q4.add,Q4.neg]
   refine ⟨?_,?_,?_⟩ <;> grind
 . simp only [show ¬ ((5:Int)=1) by decide,show ¬ ((5:Int)=2) by decide,show ¬ ((5:Int)=3) by decide,show ¬ ((5:Int)=4) by decide,if_false,Q4.mul]
   refine ⟨?_,?_,?_⟩ <;> grind
 . simp only [show ¬ ((6:Int)=1) by decide,show ¬ ((6:Int)=2) by decide,show ¬ ((6:Int)=3) by decide,show ¬ ((6:Int)=4) by decide,show ¬ ((6:Int)=5) by decide,if_false,Q4.mul,Q4.inv]
   generalize 1 / Q.f=r;refine ⟨?_,?_,?_⟩ <;> grind
 . simp only [show ¬ ((7:Int)=1) by decide,show ¬ ((7:Int)=2) by decide,show ¬ ((7:Int)=3) by decide,show ¬ ((7:Int)=4) by decide,show ¬ ((7:Int)=5) by decide,show ¬ ((7:Int)=6) by decide,if_false,Q4.neg]
   refine ⟨?_,?_,?_⟩ <;> grind
 . simp only [show ¬ ((8:Int)=1) by decide,show ¬ ((8:Int)=2) by decide,show ¬ ((8:Int)=3) by decide,show ¬ ((8:Int)=4) by decide,show ¬ ((8:Int)=5) by decide,show ¬ ((8:Int)=6) by decide,show ¬ ((8:Int)=7) by decide,if_false,Q4.pow_eq]
   refine ⟨?_,?_,?_⟩ <;> grind

def CD (l:List Rat) (M:Nat):Prop:=∃ D:Nat,0<D/\D<=M /\ ∀ x ∈ l,∃ z:Int,x*(D:Rat)=(z:Rat)/\z.natAbs<=M

theorem CD.mono {l:List Rat} {M N:Nat} (h:CD l M) (hN:M<=N):CD l N:=by
 obtain ⟨D,h1,h2,h3⟩:=h
 exact ⟨D,h1,ZL h2 hN,λx hx=>by obtain ⟨z,q1,q2⟩:=h3 x hx;exact ⟨z,q1,ZL q2 hN⟩⟩

theorem Bdt:CD [] 1:=⟨1,by decide,QZ _,λx hx=>by cases hx⟩

theorem Wk (x:Rat):x*(x.den:Rat)=(x.num:Rat):=by
 have:=Sx x
 rwa [KG] at this

theorem CD.step {l:List Rat} {M H:Nat} (h:CD l M) {p q a b x:Rat} (hp:Hb p H) (hq:Hb q H) (ha:a ∈ l \/ a=0) (hb:b ∈ l \/ b=0) (hx:x=p*a+q*b):CD (l++[x]) (2*(H*H*M)):=by
 obtain ⟨D,h1,h2,h3⟩:=h;have pd:=p.den_pos;have qd:=q.den_pos;have hdd:p.den*q.den<=H*H:=XE hp.2 hq.2;have e1:p.den*q.den*D<=H*H*M:=XE hdd h2
 refine ⟨p.den*q.den*D,YZ (YZ pd qd) h1,by omega,λy hy=>?_⟩
 rcases QD.1 hy with hy | hy
 . obtain ⟨z,q1,q2⟩:=h3 y hy;refine ⟨(p.den*q.den:Nat)*z,?_,?_⟩
   . simp only [Qbj,Qaj,KG,<- q1];grind
   . rw [XX,XR];have:=XE hdd q2;omega
 . obtain rfl:y=x:=by simpa using hy
   have za:∃ z:Int,a*(D:Rat)=(z:Rat)/\z.natAbs<=M:=by
    rcases ha with ha | rfl
    . exact h3 a ha
    . exact ⟨0,by simp,by simp⟩
   have zb:∃ z:Int,b*(D:Rat)=(z:Rat)/\z.natAbs<=M:=by
    rcases hb with hb | rfl
    . exact h3 b hb
    . exact ⟨0,by simp,by simp⟩
   obtain ⟨u,u1,u2⟩:=za;obtain ⟨v,v1,v2⟩:=zb;refine ⟨p.num*q.den*u+q.num*p.den*v,?_,?_⟩
   . have s1:=Wk p;have s2:=Wk q;simp only [Qbj,Rat.intCast_add,Qaj,KG,<- s1,<- s2,<- u1,<- v1,hx];grind
   . have t0:=YJ (p.num*q.den*u) (q.num*p.den*v);have t1:p.num.natAbs*q.den<=H*H:=XE hp.1 hq.2;have t2:q.num.natAbs*p.den<=H*H:=XE hq.1 hp.2;have t3:=XE t1 u2;have t4:=XE t2 v2;simp only [XX,XR] at t0;omega

theorem CD.one {l:List Rat} {M H:Nat} (h:CD l M) {x:Rat} (hx:Hb x H) (h1:1<=H):CD (l++[x]) (2*(H*H*M)):=by
 obtain ⟨D,d1,d2,d3⟩:=h;have xd:=x.den_pos;have e0:x.den*D<=H*M:=XE hx.2 d2;have e2:H*M*1<=H*M*H:=XS _ h1
 have e3:H*M*H=H*H*M:=by rw [Nat.mul_assoc,KC M H,<- Nat.mul_assoc]
 refine ⟨x.den*D,YZ xd d1,by omega,λy hy=>?_⟩
 rcases QD.1 hy with hy | hy
 . obtain ⟨z,q1,q2⟩:=d3 y hy;refine ⟨(x.den:Nat)*z,?_,?_⟩
   . simp only [Qbj,Qaj,KG,<- q1];grind
   . rw [XX,XR];have:=XE hx.2 q2;omega
 . obtain rfl:y=x:=by simpa using hy
   refine ⟨y.num*D,?_,?_⟩
   . have s1:=Wk y;simp only [Qbj,Qaj,KG,<- s1];grind
   . rw [XX,XR];have:=XE hx.1 d2;omega

theorem CD.hb {l:List Rat} {M:Nat} (h:CD l M) {x:Rat} (hx:x ∈ l):Hb x M:=by
 obtain ⟨D,h1,h2,h3⟩:=h;obtain ⟨z,q1,q2⟩:=h3 x hx
 exact Sp (d:=(D:Int)) (z:=z) (by rw [KG];exact q1) (by omega) q2 (by simpa using h2)

theorem Aoo {fit:Q4->Bool} {x u w:Nat->Rat}:∀ (ns:List Nd) (l l':List Q4),F1 fit x u w ns l = .inl l'->∀ i,i<ns.length->¬ Dl (evs x u w (ns.take i) l) (ns.getD i (0,0,0,0))
 | [],l,l',e,i,hi=>by simp at hi
 | n::r,l,l',e,i,hi=>by
  simp only [F1] at e;by_cases hb:Dl l n
  . rw [QJ hb] at e;cases e
  . rw [QG hb] at e;by_cases hf:fit (Au x u w l n)=true
    . rw [QJ hf] at e
      cases i with
      | zero=>simpa [evs] using hb
      | succ i =>
       have:=Aoo r _ l' e i (by simpa using hi)
       simpa [evs] using this
    . rw [QG hf] at e;cases e

theorem Aj9 (x u w:Nat->Rat) (ns:List Nd) {i:Nat} (h:i<ns.length):evs x u w (ns.take (i+1)) []=evs x u w (ns.take i) []++[Au x u w (evs x u w (ns.take i) []) (ns.getD i (0,0,0,0))]:=by
 rw [JE h,Nr];rw [QL,QM h];rfl

theorem Aom (x u w:Nat->Rat) (ns:List Nd) {i k:Nat} (hk:k<i) (hi:i<=ns.length):(evs x u w (ns.take i) []).getD k (Q4.cst 0)=(evs x u w ns []).getD k (Q4.cst 0):=by
 conv=>rhs;rw [<- KY i ns,Nr]
 exact (Aaw x u w (ns.drop i) (evs x u w (ns.take i) []) k (by rw [Ey];simp;omega)).symm

theorem Az2 (x u w:Nat->Rat) (ns:List Nd) {i:Nat} (h:i<ns.length):(evs x u w ns []).getD i (Q4.cst 0)=Au x u w (evs x u w (ns.take i) []) (ns.getD i (0,0,0,0)):=by
 rw [<- Aom x u w ns (Nat.lt_succ_self i) (by omega),Aj9 x u w ns h]
 have hl:(evs x u w (ns.take i) []).length=i:=by rw [Ey];simp;omega
 rw [QL,ZC (by omega),hl];simp

theorem Rg {n L K:Nat} {x y:Rat} (hx:Sz x L) (hy:Sz y K) (hL:L+K<=1000000000) (hn:68719476736<=n):f99 n (rq x) (rq y)=some (rq (x+y)):=Aua (L:=L+K) (hx.mono (by omega)) (hy.mono (by omega)) (by omega) (by omega)

theorem Ck {n L K:Nat} {x y:Rat} (hx:Sz x L) (hy:Sz y K) (hL:L+K<=1000000000) (hn:68719476736<=n):f162 n (rq x) (rq y)=some (rq (x*y)):=Amn (L:=L+K) (hx.mono (by omega)) (hy.mono (by omega)) (by omega) (by omega)

theorem iOv {n L K:Nat} {x y:Rat} (hx:Sz x L) (hy:Sz y K) (h0:y ≠ 0) (hL:L+K<=1000000000) (hn:68719476736<=n):f206 n (rq x) (rq y)=some (rq (x / y)):=B9v (L:=L+K) (hx.mono (by omega)) (hy.mono (by omega)) h0 (by omega) (by omega)

theorem iNg {n L:Nat} {x:Rat} (hx:Sz x L) (hL:L<=1000000000):f158 n (rq x)=some (rq (-x)):=Bea hx (by omega)

theorem sPl {n L K:Nat} {x y:Rat} (hx:Sz x L) (hy:Sz y K) (hL:L+K<=1000000000) (hn:68719476736<=n):f138 n (rq x) (rq y)=some (rq (x+y)):=At6 (L:=L+K) (hx.mono (by omega)) (hy.mono (by omega)) (by omega) (by omega)

theorem L7 {n L K:Nat} {x y:Rat} (hx:Sz x L) (hy:Sz y K) (hL:L+K<=1000000000) (hn:68719476736<=n):f140 n (rq x) (rq y)=some (rq (x*y)):=B4o (L:=L+K) (hx.mono (by omega)) (hy.mono (by omega)) (by omega) (by omega)

theorem sOv {n L K:Nat} {x y:Rat} (hx:Sz x L) (hy:Sz y K) (h0:y ≠ 0) (hL:L+K<=1000000000) (hn:68719476736<=n):f142 n (rq x) (rq y)=some (rq (x / y)):=B96 (L:=L+K) (hx.mono (by omega)) (hy.mono (by omega)) h0 (by omega) (by omega)

theorem sLs {n L K:Nat} {x y:Rat} (hx:Sz x L) (hy:Sz y K) (hL:L+K<=1000000000) (hn:68719476736<=n):f139 n (rq x) (rq y)=some (rq (x-y)):=B97 (L:=L+K) (hx.mono (by omega)) (hy.mono (by omega)) (by omega) (by omega)

theorem C6 {a:Int} (h:a.natAbs<=1000000000):Sz (a:Rat) 3:=by
 unfold Sz;rw [Rat.num_intCast,Rat.den_intCast]
 exact ⟨D7 (by omega),D7 (by omega)⟩

theorem iW {n:Nat} {a:Int} (h:a.natAbs<=1000000000) (hn:68719476736<=n):f97 n a=some (rq (a:Rat)):=by
 unfold f97;rw [QK,Ata];by_cases h0:a<0
 . rw [QJ h0,Aa (by omega) (by omega),show (0-a:Int)=((a.natAbs:Nat):Int) by omega,S0 (by omega) (by omega),A0,show f151 n=some [1] from rfl,A0,QY h0,Fl]
 . rw [QG h0]
   conv=>lhs;rw [show a=((a.natAbs:Nat):Int) by omega]
   rw [S0 (by omega) (by omega),A0,show f151 n=some [1] from rfl,A0,QT h0,Fl]

theorem iW0 {n:Nat} (hn:68719476736<=n):f97 n 0=some (rq 0):=iW (a:=0) (by omega) hn

theorem iW1 {n:Nat} (hn:68719476736<=n):f97 n 1=some (rq 1):=iW (a:=1) (by omega) hn

theorem iW2 {n:Nat} (hn:68719476736<=n):f97 n 2=some (rq 2):=iW (a:=2) (by omega) hn

end Go.Ev
