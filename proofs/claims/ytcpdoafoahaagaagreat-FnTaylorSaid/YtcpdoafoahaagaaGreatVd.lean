/- DERIVED. The plain laws: what the models compute. -/
import Derived.Test.YtcpdoafoahaagaaGreatVc

set_option linter.all false
set_option linter.unusedVariables false
set_option linter.unusedSimpArgs false

namespace Go.Ev
open Go

theorem Ab {x:Int} (h:-9223372036854775808<=x) (h':x<9223372036854775808):W x=x:=Anl h h'

@[simp] theorem A1 {α β:Type} (r:β) (k:β->Option α):ob (some r) k=k r:=rfl

@[simp] theorem B7w {α β:Type} (k:β->Option α):ob (none:Option β) k=none:=rfl

@[simp] theorem F7 {α:Type} (x:Option α):gd true x=x:=rfl

@[simp] theorem B7q {α:Type} (x:Option α):gd false x=none:=rfl

theorem A3 {α:Type} {g:Bool} (h:g=true) (x:Option α):gd g x=x:=by rw [h];rfl

theorem Acf (l:List Int) (a b:Int):l.foldl max a<=b ↔ a<=b /\ ∀ x ∈ l,x<=b:=by
 induction l generalizing a with
 | nil=>simp
 | cons y r ih =>
  simp only [List.foldl_cons,ih,QT,forall_eq_or_imp];constructor
  . rintro ⟨h,h'⟩;exact ⟨by omega,by omega,h'⟩
  . rintro ⟨h,h',h''⟩;exact ⟨by omega,h''⟩

theorem Cw {α:Type} {l m:List α} {i:Nat} {d:α} (h:i<l.length):(l++m).getD i d=l.getD i d:=by
 simp [QJ,ZC h]

theorem H4 {α:Type} {l:List α} {x d:α}:(l++[x]).getD l.length d=x:=by
 simp [QJ]

theorem Py {α:Type} {l r:List α} {x d:α} {k:Nat} (h:l.drop k=x::r):l.getD k d=x/\k<l.length/\l.drop (k+1)=r:=by
 have hk:k<l.length:=by
  rcases ZZ k l.length with h' | h'
  . exact h'
  . rw [QX h'] at h;cases h
 have:=XG hk;rw [h] at this;injection this with h1 h2
 exact ⟨by simp [QJ,hk,h1],hk,h2.symm⟩

def vl:List Int->Int
 | []=>0
 | x::r=>x+10000*vl r

def Lm (l:List Int):Prop:=∀ x ∈ l,0<=x/\x<10000

def dg (n:Nat):List Int:=if n=0 then [] else ((n % 10000:Nat):Int)::dg (n / 10000)
termination_by n
decreasing_by omega

theorem Bw:dg 0=[]:=by rw [dg];rfl

theorem Cx {n:Nat} (h:n ≠ 0):dg n=((n % 10000:Nat):Int)::dg (n / 10000):=by rw [dg,QH h]

theorem Lm.nil:Lm []:=λ_ h=>by cases h

theorem Lm.cons {x:Int} {l:List Int} (hx:0<=x/\x<10000) (hl:Lm l):Lm (x::l):=λy hy=>by
 rcases QT.1 hy with rfl | hy
 . exact hx
 . exact hl y hy

theorem Lm.head {x:Int} {l:List Int} (h:Lm (x::l)):0<=x/\x<10000:=h x (by simp)

theorem Lm.tail {x:Int} {l:List Int} (h:Lm (x::l)):Lm l:=λy hy=>h y (by simp [hy])

theorem Lm.app {l m:List Int} (h:Lm l) (h':Lm m):Lm (l++m):=λy hy=>(QD.1 hy).elim (h y) (h' y)

theorem Lm.take {l:List Int} (h:Lm l) (k:Nat):Lm (l.take k):=λy hy=>h y (Qaq hy)

theorem Lm.drop {l:List Int} (h:Lm l) (k:Nat):Lm (l.drop k):=λy hy=>h y (List.mem_of_mem_drop hy)

theorem Lm.set {l:List Int} (h:Lm l) (k:Nat) {x:Int} (hx:0<=x/\x<10000):Lm (l.set k x):=λy hy=>by
 rcases JT hy with hy | rfl
 . exact h y hy
 . exact hx

theorem Lm.get {l:List Int} (h:Lm l) (k:Nat):0<=l.getD k 0/\l.getD k 0<10000:=by
 rw [QJ]
 cases e:l[k]? with
 | none=>simp
 | some x=>exact h x (ZH e)

theorem Lm.rep (n:Nat):Lm (List.replicate n 0):=λy hy=>by
 obtain rfl:=(List.mem_replicate.1 hy).2;omega

theorem D4 (n:Nat):Lm (dg n):=by
 induction n using Nat.strongRecOn with
 | _ n ih =>
  by_cases h:n=0
  . subst h;rw [Bw];exact Lm.nil
  . rw [Cx h]
    exact Lm.cons (by omega) (ih _ (by omega))

theorem Bd (n:Nat):vl (dg n)=n:=by
 induction n using Nat.strongRecOn with
 | _ n ih =>
  by_cases h:n=0
  . subst h;rw [Bw];rfl
  . rw [Cx h,vl,ih _ (by omega)]
    omega

theorem Bh {l:List Int} (h:Lm l):0<=vl l:=by
 induction l with
 | nil=>exact KX _
 | cons x r ih =>
  have:=h.head;have:=ih h.tail;simp only [vl];omega

theorem Fk (k:Nat):(0:Int)<10000 ^ k:=Int.pow_pos (by omega)

theorem Bu (k:Nat):(10000:Int) ^ (k+1)=10000*10000 ^ k:=by rw [Int.pow_succ,Int.mul_comm]

theorem Xe {i j:Nat} (h:i<=j):(10000:Int) ^ i<=10000 ^ j:=by
 induction j with
 | zero => obtain rfl : i = 0 := by omega
           exact KX _
 | succ j ih =>
  by_cases e:i=j+1
  . subst e;exact KX _
  . have:=ih (by omega)
    have:=Fk j;rw [Bu];omega

theorem Akh {i j:Nat} (h:(10000:Int) ^ i<10000 ^ j):i<j:=by
 rcases ZZ i j with h' | h'
 . exact h'
 . have:=Xe h';omega

theorem Gs {l:List Int} (h:Lm l):vl l<10000 ^ l.length:=by
 induction l with
 | nil=>simp [vl]
 | cons x r ih =>
  have:=h.head;have:=ih h.tail;simp only [vl,ZE,Bu];omega

theorem A33 (l m:List Int):vl (l++m)=vl l+10000 ^ l.length*vl m:=by
 induction l with
 | nil=>simp [vl]
 | cons x r ih=>simp only [YB,vl,ih,ZE,Bu];grind

theorem Xc (l:List Int) (x:Int):vl (l++[x])=vl l+10000 ^ l.length*x:=by rw [A33];simp [vl]

theorem Uk (n:Nat):vl (List.replicate n 0)=0:=by
 induction n with
 | zero=>rfl
 | succ n ih=>simp [List.replicate_succ,vl,ih]

theorem C0 {l:List Int} {k:Nat} (h:k<l.length):vl (l.take (k+1))=vl (l.take k)+10000 ^ k*l.getD k 0:=by
 rw [JA h,Xc,YX,JP (by omega),QJ,QM h]
 rfl

theorem K9 {l:List Int} {k:Nat} (x:Int) (h:k<l.length):vl (l.set k x)=vl l+10000 ^ k*(x-l.getD k 0):=by
 induction l generalizing k with
 | nil=>simp at h
 | cons y r ih =>
  cases k with
  | zero=>simp [vl];omega
  | succ k =>
   have:=ih (k:=k) (by simpa using h)
   simp only [List.set_cons_succ,vl,this,JO,Bu];grind

def Cn (l:List Int):Prop:=Lm l/\(l ≠ []->l.getD (l.length-1) 0 ≠ 0)

theorem H0 (n:Nat):Cn (dg n):=by
 refine ⟨D4 n,?_⟩
 induction n using Nat.strongRecOn with
 | _ n ih =>
  by_cases h:n=0
  . subst h;rw [Bw];exact λh=>absurd rfl h
  . rw [Cx h];intro _;by_cases e:dg (n / 10000)=[]
    . rw [e]
      have h0:n / 10000=0:=by
       have:=Bd (n / 10000);rw [e] at this;simp only [vl] at this;omega
      simp;omega
    . have:=ih (n / 10000) (by omega) e
      have hl:0<(dg (n / 10000)).length:=XT.2 e;simp only [ZE,Nat.add_sub_cancel]
      rw [show (dg (n / 10000)).length=((dg (n / 10000)).length-1)+1 by omega,JO]
      exact this

theorem Cn.tail {x:Int} {l:List Int} (h:Cn (x::l)):Cn l:=by
 refine ⟨h.1.tail,λhn=>?_⟩
 have:=h.2 (by simp)
 have hl:0<l.length:=XT.2 hn;simp only [ZE,Nat.add_sub_cancel] at this
 rw [show l.length=(l.length-1)+1 by omega,JO] at this
 exact this

theorem Cn.pos {l:List Int} (h:Cn l) (hn:l ≠ []):0<vl l:=by
 induction l with
 | nil=>exact absurd rfl hn
 | cons x r ih =>
  have hx:=h.1.head;have hr:=Bh h.1.tail;by_cases e:r=[]
  . subst e
    have:=h.2 (by simp)
    simp at this;simp only [vl];omega
  . have:=ih h.tail e;simp only [vl];omega

theorem A5c {l:List Int} (h:Cn l):dg (vl l).toNat=l:=by
 induction l with
 | nil=>exact Bw
 | cons x r ih =>
  have hx:=h.1.head;have hr:=Bh h.1.tail
  have hp:=h.pos (by simp)
  have ih:=ih h.tail;simp only [vl] at hp ⊢
  rw [Cx (by omega)]
  congr 1
  . omega
  . rw [<- ih];congr 1;rw [ih];omega

theorem Cn.ge {l:List Int} (h:Cn l) (hn:l ≠ []):(10000:Int) ^ (l.length-1)<=vl l:=by
 have hl:0<l.length:=XT.2 hn
 have h1:=C0 (l:=l) (k:=l.length-1) (by omega)
 rw [show l.length-1+1=l.length by omega,YC] at h1
 have h2:=h.2 hn;have h3:=h.1.get (l.length-1);have h4:=Bh (h.1.take (l.length-1));have h5:=Fk (l.length-1)
 have h6:(10000:Int) ^ (l.length-1)*1<=10000 ^ (l.length-1)*l.getD (l.length-1) 0:=XD (by omega) (by omega)
 omega

theorem Qp {n k:Nat}:(dg n).length<=k ↔ (n:Int)<10000 ^ k:=by
 constructor
 . intro h;have:=Gs (D4 n);rw [Bd] at this;exact Int.lt_of_lt_of_le this (Xe h)
 . intro h;by_cases e:dg n=[]
   . rw [e];simp
   . have:=(H0 n).ge e;rw [Bd] at this;have:=Akh (Int.lt_of_le_of_lt this h);have hl:0<(dg n).length:=XT.2 e;omega

theorem B5i {n:Nat}:dg n=[] ↔ n=0:=by
 constructor
 . intro h;have:=Bd n;rw [h] at this;simp only [vl] at this;omega
 . rintro rfl;exact Bw

theorem Ate {a b:Nat} (h:dg a=dg b):a=b:=by
 have h1:=Bd a;rw [h,Bd] at h1;omega

theorem Bc {a b:Nat} (h:a<=b):(dg a).length<=(dg b).length:=by
 refine Qp.2 ?_;have:=Gs (D4 b);rw [Bd] at this;omega

def cm (x y:Int):Int:=if x<y then -1 else if x=y then 0 else 1

theorem Td {a b:List Int} (ha:Lm a) (hb:Lm b) {k:Nat} (h1:k<a.length) (h2:k<b.length) (h:a.getD k 0<b.getD k 0):vl (a.take (k+1))<vl (b.take (k+1)):=by
 rw [C0 h1,C0 h2];have q1:=Gs (ha.take k)
 rw [YX,JP (by omega)] at q1
 have q2:=Bh (hb.take k)
 have q3:(10000:Int) ^ k*(a.getD k 0+1)<=10000 ^ k*b.getD k 0:=XD (by omega) (by have:=Fk k;omega)
 rw [Int.mul_add,Int.mul_one] at q3;omega

theorem Cn.lt_of_len {a b:List Int} (ha:Cn a) (hb:Cn b) (h:a.length<b.length):vl a<vl b:=by
 have h1:=Gs ha.1
 have h2:=hb.ge (by intro e;subst e;simp at h)
 have h3:(10000:Int) ^ a.length<=10000 ^ (b.length-1):=Xe (by omega)
 omega

theorem Cn.of_take {l:List Int} (h:Lm l) {t:Nat} (ht:t<=l.length) (hl:t=0 \/ l.getD (t-1) 0 ≠ 0):Cn (l.take t):=by
 refine ⟨h.take t,λhn=>?_⟩
 have hlen:(l.take t).length=t:=by simp;omega
 rcases hl with rfl | hl
 . simp at hn
 . have ht0:t ≠ 0:=by rintro rfl;simp at hn
   rw [hlen,QJ,XE,QK (by omega),<- QJ]
   exact hl

theorem tdv {x:Int} (h:0<=x):Int.tdiv x 10000=x / 10000:=YJ h

theorem tmd {x:Int} (h:0<=x):Int.tmod x 10000=x % 10000:=JJ h

theorem Ahj {α:Type} {n:Nat} {l:List Int} (hN:l.length<=1099511627776) {k0:List Int->Int->Option α}:∀ (m k:Nat),k<m->k<=l.length ->
  ∃ t,t<=k/\Y9 n m l (k:Int) k0=k0 l (t:Int)/\vl (l.take t)=vl (l.take k)/\(t=0 \/ l.getD (t-1) 0 ≠ 0)
 | 0,k,h,_=>by omega
 | m+1,k,h,hk=>by
  rw [Ar4];unfold A0z;dsimp only;by_cases h0:k=0
  . subst h0;exact ⟨0,QZ _,rfl,rfl,.inl rfl⟩
  . rw [QI,QK (by omega),Ab (by omega) (by omega),A3 (by simp;omega)]
    have e:((k:Int)-1).toNat=k-1:=by omega
    rw [e,XH];by_cases hz:l.getD (k-1) 0=0
    . rw [QK (by rw [hz];rfl)]
      obtain ⟨t,h1,h2,h3,h4⟩:=Ahj (n:=n) hN (k0:=k0) m (k-1) (by omega) (by omega)
      refine ⟨t,by omega,?_,?_,h4⟩
      . rw [show (k:Int)-1=((k-1:Nat):Int) by omega];exact h2
      . rw [h3]
        have:=C0 (l:=l) (k:=k-1) (by omega)
        rw [show k-1+1=k by omega,hz] at this
        rw [this];simp
    . rw [QH (by simpa using hz)]
      exact ⟨k,QZ _,rfl,rfl,.inr hz⟩

theorem Y8 {n:Nat} {l:List Int} (hl:Lm l) (hN:l.length<=1099511627776) (hn:l.length<n):f203 n l=some (dg (vl l).toNat):=by
 unfold f203;obtain ⟨t,h1,h2,h3,h4⟩:=Ahj (n:=n) hN (k0:=λz_1 z_2=>gd (decide (0<=z_2)&&decide (z_2<=(z_1.length:Int))) (gd (decide ((0+((z_1.drop 0).take (z_2.toNat-0)).length)*8<=140737488355328)) (some ((z_1.drop 0).take (z_2.toNat-0))))) n l.length hn (QZ _)
 rw [h2,A3 (by simp;omega),A3 (by simp;omega)]
 simp only [ZP,QQ,Qam];rw [YC] at h3
 rw [<- h3,A5c (Cn.of_take hl (by omega) h4)]

theorem Ahi {α:Type} {n:Nat} {l:List Int} (hN:l.length<=1099511627776) {k0:List Int->Int->Option α}:∀ (m k:Nat),k<m->k<=l.length ->
  ∃ t,t<=k/\Yb n m l (k:Int) k0=k0 l (t:Int)/\vl (l.take t)=vl (l.take k)/\(t=0 \/ l.getD (t-1) 0 ≠ 0)
 | 0,k,h,_=>by omega
 | m+1,k,h,hk=>by
  rw [Arl];unfold A1d;dsimp only;by_cases h0:k=0
  . subst h0;exact ⟨0,QZ _,rfl,rfl,.inl rfl⟩
  . rw [QI,QK (by omega),Ab (by omega) (by omega),A3 (by simp;omega)]
    have e:((k:Int)-1).toNat=k-1:=by omega
    rw [e,XH];by_cases hz:l.getD (k-1) 0=0
    . rw [QK (by rw [hz];rfl)]
      obtain ⟨t,h1,h2,h3,h4⟩:=Ahi (n:=n) hN (k0:=k0) m (k-1) (by omega) (by omega)
      refine ⟨t,by omega,?_,?_,h4⟩
      . rw [show (k:Int)-1=((k-1:Nat):Int) by omega];exact h2
      . rw [h3]
        have:=C0 (l:=l) (k:=k-1) (by omega)
        rw [show k-1+1=k by omega,hz] at this
        rw [this];simp
    . rw [QH (by simpa using hz)]
      exact ⟨k,QZ _,rfl,rfl,.inr hz⟩

theorem Qb {n:Nat} {l:List Int} (hl:Lm l) (hN:l.length<=1099511627776) (hn:l.length<n):f185 n l=some (dg (vl l).toNat):=by
 unfold f185;obtain ⟨t,h1,h2,h3,h4⟩:=Ahi (n:=n) hN (k0:=λz_1 z_2=>gd (decide (0<=z_2)&&decide (z_2<=(z_1.length:Int))) (some ((z_1.drop 0).take (z_2.toNat-0)))) n l.length hn (QZ _)
 rw [h2,A3 (by simp;omega)]
 simp only [ZP,QQ,Qam];rw [YC] at h3
 rw [<- h3,A5c (Cn.of_take hl (by omega) h4)]

theorem Ab9 {α:Type} {n:Nat} {k0:List Int->Option α}:∀ (m x:Nat) (o:List Int),(x:Int)<=9223372036854775807->(dg x).length<m->o.length+(dg x).length<=1099511627776->Ye n m (x:Int) o k0=k0 (o++dg x)
 | 0,x,o,_,h,_=>by omega
 | m+1,x,o,hx,h,hN=>by
  rw [Arz];unfold A1t;dsimp only;by_cases h0:x=0
  . subst h0;rw [Bw];simp
  . rw [Cx h0] at h hN ⊢;simp only [ZE] at h hN
    rw [QI,QK (by omega),A3 (by simp;omega),tdv (by omega),tmd (by omega),Ab (by omega) (by omega),show (x:Int) / 10000=((x / 10000:Nat):Int) by omega,show (x:Int) % 10000=((x % 10000:Nat):Int) by omega]
    rw [Ab9 (n:=n) m (x / 10000) _ (by omega) (by omega) (by simp;omega)]
    simp

theorem Yd {n:Nat} {x:Nat} (hx:(x:Int)<=9223372036854775807) (hn:10<n):f172 n (x:Int)=some (dg x):=by
 have hl:(dg x).length<=5:=Qp.2 (by rw [show (10000:Int) ^ 5=100000000000000000000 from rfl];omega)
 unfold f172
 rw [Ab9 (n:=n) n x [] hx (by omega) (by simp;omega)]
 simp

theorem Aba {α:Type} {n:Nat} {k0:List Int->Option α}:∀ (m x:Nat) (o:List Int),(x:Int)<=9223372036854775807->(dg x).length<m->o.length+(dg x).length<=1099511627776->Yi n m (x:Int) o k0=k0 (o++dg x)
 | 0,x,o,_,h,_=>by omega
 | m+1,x,o,hx,h,hN=>by
  rw [Asp];unfold A2c;dsimp only;by_cases h0:x=0
  . subst h0;rw [Bw];simp
  . rw [Cx h0] at h hN ⊢;simp only [ZE] at h hN
    rw [QI,QK (by omega),A3 (by simp;omega),tdv (by omega),tmd (by omega),Ab (by omega) (by omega),show (x:Int) / 10000=((x / 10000:Nat):Int) by omega,show (x:Int) % 10000=((x % 10000:Nat):Int) by omega]
    rw [Aba (n:=n) m (x / 10000) _ (by omega) (by omega) (by simp;omega)]
    simp

theorem Qh {n:Nat} {x:Nat} (hx:(x:Int)<=9223372036854775807) (hn:10<n):f160 n (x:Int)=some (dg x):=by
 have hl:(dg x).length<=5:=Qp.2 (by rw [show (10000:Int) ^ 5=100000000000000000000 from rfl];omega)
 unfold f160
 rw [Aba (n:=n) n x [] hx (by omega) (by simp;omega)]
 simp

theorem Yj {n:Nat} {b:Bool}:f147 n b=some (if b=true then 1 else 0):=by cases b <;> rfl

theorem K6 {x y:Int} (h:x<y):cm x y = -1:=by unfold cm;rw [QK h]

theorem K7 {x y:Int} (h:y<x):cm x y=1:=by unfold cm;rw [QH (by omega),QH (by omega)]

theorem Ly {x y:Int} (h:x=y):cm x y=0:=by unfold cm;rw [QH (by omega),QK h]

theorem Atj (x y z:Int):cm (x+z) (y+z)=cm x y:=by
 rcases Int.lt_trichotomy x y with h | h | h
 . rw [K6 h,K6 (by omega)]
 . rw [Ly h,Ly (by omega)]
 . rw [K7 h,K7 (by omega)]

theorem Ath {α:Type} {n:Nat} {a b:List Int} (ha:Lm a) (hb:Lm b) (hab:a.length=b.length) (hN:a.length<=1099511627776) {k0:Int->Option α} {k1:Unit->Option α}:∀ (m k:Nat),k<m->k<=a.length ->
  Ya n m a b ((k:Int)-1) k0 k1=if vl (a.take k)=vl (b.take k) then k1 () else k0 (cm (vl (a.take k)) (vl (b.take k)))
 | 0,k,h,_=>by omega
 | m+1,k,h,hk=>by
  rw [Ari];unfold A1a;dsimp only;by_cases h0:k=0
  . subst h0;simp
  . rw [QI,QK (by omega),A3 (by simp;omega),A3 (by simp;omega)]
    have e:((k:Int)-1).toNat=k-1:=by omega
    rw [e,XH]
    have ta:=C0 (l:=a) (k:=k-1) (by omega)
    have tb:=C0 (l:=b) (k:=k-1) (by omega)
    rw [show k-1+1=k by omega] at ta tb
    by_cases hz:a.getD (k-1) 0=b.getD (k-1) 0
    . rw [QH (by simpa using hz),Ab (by omega) (by omega)]
      rw [show (k:Int)-1-1=((k-1:Nat):Int)-1 by omega,Ath (n:=n) ha hb hab hN m (k-1) (by omega) (by omega)]
      rw [ta,tb,hz];by_cases h1:vl (a.take (k-1))=vl (b.take (k-1))
      . rw [QK h1,QK (by omega)]
      . rw [QH h1,QH (by omega)]
        rw [Atj]
    . rw [QK (by simpa using hz),A3 (by simp;omega),A3 (by simp;omega),Yj,A1]
      rcases Int.lt_or_gt_of_ne hz with h1 | h1
      . have:=Td ha hb (k:=k-1) (by omega) (by omega) h1
        rw [show k-1+1=k by omega] at this
        rw [show (if vl (a.take k)=vl (b.take k) then k1 () else k0 (cm (vl (a.take k)) (vl (b.take k))))=k0 (-1) by rw [QH (by omega),K6 this],QH (by rw [QP];omega)]
        rfl
      . have:=Td hb ha (k:=k-1) (by omega) (by omega) h1
        rw [show k-1+1=k by omega] at this
        rw [show (if vl (a.take k)=vl (b.take k) then k1 () else k0 (cm (vl (a.take k)) (vl (b.take k))))=k0 1 by rw [QH (by omega),K7 this],QK (by rw [QP];omega)]
        rfl

theorem B0q {n:Nat} {a b:List Int} (ha:Cn a) (hb:Cn b) (hN:a.length<=1099511627776) (hn:a.length<n):f187 n a b=some (cm (vl a) (vl b)):=by
 unfold f187;rw [XH];by_cases h:a.length=b.length
 . rw [QH (by simp [h]),Ab (by omega) (by omega),Ath (n:=n) ha.1 hb.1 h hN n a.length hn (QZ _)]
   rw [YC,h,YC];by_cases h1:vl a=vl b
   . rw [QK h1,Ly h1]
   . rw [QH h1]
 . rw [QK (by simp;omega),Yj,A1]
   rcases Nat.lt_or_gt_of_ne h with h1 | h1
   . rw [K6 (ha.lt_of_len hb h1),QH (by simp;omega)];rfl
   . rw [K7 (hb.lt_of_len ha h1),QK (by simp;omega)];rfl

theorem Atg {α:Type} {n:Nat} {a b:List Int} (ha:Lm a) (hb:Lm b) (hab:a.length=b.length) {k0 k1:Int->Option α}:∀ (k:Nat),k<=a.length ->
  Ny n a k a b 0 k0 k1=if vl (a.take k)=vl (b.take k) then k0 0 else k1 (cm (vl (a.take k)) (vl (b.take k)))
 | 0,_=>by rw [As5];simp
 | k+1,hk=>by
  rw [As3];unfold A1x;dsimp only
  rw [A3 (by simp;omega),XH]
  have ta:=C0 (l:=a) (k:=k) (by omega)
  have tb:=C0 (l:=b) (k:=k) (by omega)
  simp only [QQ];by_cases hz:a.getD k 0=b.getD k 0
  . rw [QH (by simpa using hz),A3 (by simp),Atg ha hb hab k (by omega)]
    rw [ta,tb,hz];by_cases h1:vl (a.take k)=vl (b.take k)
    . rw [QK h1,QK (by omega)]
    . rw [QH h1,QH (by omega)]
      rw [Atj]
  . rw [QK (by simpa using hz),A3 (by simp;omega),QI]
    rcases Int.lt_or_gt_of_ne hz with h1 | h1
    . have:=Td ha hb (k:=k) (by omega) (by omega) h1
      rw [show (if vl (a.take (k+1))=vl (b.take (k+1)) then k0 0 else k1 (cm (vl (a.take (k+1))) (vl (b.take (k+1)))))=k1 (-1) by rw [QH (by omega),K6 this],QK h1]
    . have:=Td hb ha (k:=k) (by omega) (by omega) h1
      rw [show (if vl (a.take (k+1))=vl (b.take (k+1)) then k0 0 else k1 (cm (vl (a.take (k+1))) (vl (b.take (k+1)))))=k1 1 by rw [QH (by omega),K7 this],QH (by omega)]

theorem B0x {n:Nat} {a b:List Int} (ha:Cn a) (hb:Cn b) (hN:a.length<=1099511627776):f170 n a b=some (cm (vl a) (vl b)):=by
 unfold f170;rw [XH];by_cases h:a.length=b.length
 . rw [QH (by simp [h])]
   rw [show f201 n a=some a from rfl,A1,As4,A3 (by simp;omega),Atg ha.1 hb.1 h a.length (QZ _)]
   rw [YC,h,YC];by_cases h1:vl a=vl b
   . rw [QK h1,Ly h1]
   . rw [QH h1]
 . rw [QK (by simp;omega),QI]
   rcases Nat.lt_or_gt_of_ne h with h1 | h1
   . rw [K6 (ha.lt_of_len hb h1),QK (by omega)]
   . rw [K7 (hb.lt_of_len ha h1),QH (by omega)]

theorem Bj (l:List Int) (k:Nat):vl (l.take (k+1))=vl (l.take k)+10000 ^ k*l.getD k 0:=by
 rcases ZZ k l.length with h | h
 . exact C0 h
 . rw [YM (by omega),YM (by omega),QJ,KH h]
   simp

theorem C4 {l:List Int} {k:Nat} (h:l.length<=k):l.getD k 0=0:=by
 rw [QJ,KH h];rfl

theorem Cn.of_ge {l:List Int} (h:Lm l) (hg:l ≠ []->(10000:Int) ^ (l.length-1)<=vl l):Cn l:=by
 refine ⟨h,λhn e=>?_⟩;have hl:0<l.length:=XT.2 hn;have h1:=Bj l (l.length-1)
 rw [show l.length-1+1=l.length by omega,YC,e] at h1
 have h2:=Gs (h.take (l.length-1))
 rw [YX,JP (by omega)] at h2
 have:=hg hn;omega

theorem Pp (l:List Int) {k:Nat} (h:l.length<=k):l.take k=l:=YM h

theorem Anq {α:Type} {n:Nat} {a b:List Int} (ha:Lm a) (hb:Lm b) (hN:a.length<=1099511627776) {k0:List Int->Option α}:∀ (m i:Nat) (c:Int) (o:List Int),o.length=i->Lm o->0<=c->c<=1->i<=a.length ->
  vl o-10000 ^ i*c=vl (a.take i)-vl (b.take i)->a.length+1<=i+m ->
  ∃ o' c',Mb n m a b c (i:Int) o k0=k0 o'/\o'.length=a.length/\Lm o'/\0<=c'/\c'<=1/\vl o'-10000 ^ a.length*c'=vl a-vl (b.take a.length)
 | 0,i,c,o,ho,hlo,hc0,hc1,hi,hv,hm=>by omega
 | m+1,i,c,o,ho,hlo,hc0,hc1,hi,hv,hm=>by
  rw [Arf];unfold A17;dsimp only;by_cases hA:i<a.length
  . rw [QI,QK (by omega),A3 (by simp;try omega)]
    have h1:=ha.get i;have h2:=hb.get i;have ta:=Bj a i;have tb:=Bj b i
    have ho2:(decide ((o.length+1)*8<=140737488355328))=true:=by
     rw [QP];omega
    have go:∀ y:Int,y=a.getD i 0-c-b.getD i 0->∃ o' c',Mb n m a b (if y<0 then 1 else 0) (W ((i:Int)+1)) (o++[W (y+W ((if y<0 then 1 else 0)*10000))]) k0=k0 o'/\o'.length=a.length/\Lm o'/\0<=c'/\c'<=1/\vl o'-10000 ^ a.length*c'=vl a-vl (b.take a.length):=by
     intro y hy
     obtain ⟨d,hd⟩:∃ d:Int,d=if y<0 then 1 else 0:=⟨_,rfl⟩
     have hd1:0<=d/\d<=1/\0<=y+d*10000/\y+d*10000<10000:=by
      rw [hd];split <;> omega
     rw [<- hd,Ab (x:=d*10000) (by omega) (by omega),Ab (x:=y+d*10000) (by omega) (by omega),Ab (x:=(i:Int)+1) (by omega) (by omega)]
     refine Anq (n:=n) ha hb hN m (i+1) d _ (by simp [ho]) (hlo.app (Lm.cons (by omega) Lm.nil)) (by omega) (by omega) (by omega) ?_ (by omega)
     rw [Xc,ho,ta,tb,Bu];generalize (10000:Int) ^ i=P at *;grind
    simp only [QQ];by_cases hB:i<b.length
    . have dB:decide ((i:Int)<(b.length:Int))=true:=by rw [QP];omega
      simp only [dB,ZS]
      rw [A3 (by simp;try omega)]
      simp only [Ab (x:=a.getD i 0-c) (by omega) (by omega),Ab (x:=a.getD i 0-c-b.getD i 0) (by omega) (by omega)]
      rw [Yj,A1,A3 ho2];simp only [QP];exact go _ rfl
    . have dB:decide ((i:Int)<(b.length:Int))=false:=by rw [ZW];omega
      simp only [dB,QV]
      simp only [Ab (x:=a.getD i 0-c) (by omega) (by omega)]
      rw [Yj,A1,A3 ho2];simp only [QP]
      exact go _ (by rw [C4 (l:=b) (by omega)];omega)
  . rw [QI,QH (by omega)]
    obtain rfl:i=a.length:=by omega
    rw [YC] at hv;exact ⟨o,c,rfl,ho,hlo,hc0,hc1,hv⟩

theorem B0o {n:Nat} {a b:List Int} (ha:Cn a) (hb:Cn b) (hN:a.length<=1099511627776) (hn:a.length+1<=n) (hab:vl b<=vl a):f188 n a b=some (dg (vl a-vl b).toNat):=by
 have hl:b.length<=a.length:=by
  rcases ZZ a.length b.length with h | h
  . have:=ha.lt_of_len hb h;omega
  . exact h
 unfold f188
 obtain ⟨o,c,h1,h2,h3,h4,h5,h6⟩:=Anq (n:=n) ha.1 hb.1 hN (k0:=λz_4=>ob (f203 n z_4) λr_5=>some r_5) n 0 0 [] rfl Lm.nil (by omega) (by omega) (by omega) (by simp [vl]) (by omega)
 have h1:Mb n n a b 0 0 [] (λz_4=>ob (f203 n z_4) λr_5=>some r_5)=_:=h1
 rw [h1,Y8 h3 (by omega) (by omega),A1]
 rw [Pp b hl] at h6;have h7:=Gs h3;rw [h2] at h7
 have:c=0:=by
  rcases Int.lt_or_eq_of_le h4 with h | h
  . have:c=1:=by omega
    rw [this] at h6;omega
  . exact h.symm
 rw [this] at h6
 rw [show vl o=vl a-vl b by simpa using h6]

theorem M6 {l:List Int} {k:Nat} (h:k<l.length):vl (l.drop k)=l.getD k 0+10000*vl (l.drop (k+1)):=by
 rw [XG h,vl,QJ,QM h];rfl

theorem Abt {P o ok y q r c ai bk v' T:Int} (h:o+P*(c+ai*(bk+10000*v'))=T) (hy:y=ok+c+ai*bk) (hq:y=10000*q+r):o+P*(r-ok)+10000*P*(q+ai*v')=T:=by
 grind

theorem A03 {x y:Int} (hx:0<=x/\x<10000) (hy:0<=y/\y<10000):0<=x*y/\x*y<=99980001:=by
 have h1:=Int.mul_nonneg hx.1 hy.1
 have h2:x*y<=9999*y:=Int.mul_le_mul_of_nonneg_right (by omega) hy.1
 omega

theorem Aoh {α:Type} {n:Nat} {a b:List Int} (ha:Lm a) (hb:Lm b) (i:Nat) (hi:i<a.length) {S:Nat} (hS:a.length+b.length<S) (hN:S<=1099511627776) {T:Int} (hT:T<10000 ^ S) {k0:List Int->List Int->Int->List Int->Option α} :
  ∀ (m k:Nat) (c:Int) (o:List Int),Lm o->o.length=S->0<=c->c<10000->i+k<=S->vl o+10000 ^ (i+k)*(c+a.getD i 0*vl (b.drop k))=T->S+1<=i+k+m ->
  ∃ o',Lm o'/\o'.length=S/\vl o'=T/\Mc n m a b (i:Int) c (k:Int) o k0=k0 a b (i:Int) o'
 | 0,k,c,o,hlo,ho,hc0,hc1,hik,hv,hm=>by omega
 | m+1,k,c,o,hlo,ho,hc0,hc1,hik,hv,hm=>by
  rw [Ars];unfold A1k;dsimp only;have h1:=ha.get i;have h2:=hb.get k;have h3:=hlo.get (i+k);have h4:=A03 h1 h2;have hvo:=Bh hlo
  have go:∀ y:Int,i+k<S->(k<b.length \/ b.length<=k)->y=o.getD (i+k) 0+c+a.getD i 0*b.getD k 0 ->
    ∃ o',Lm o'/\o'.length=S/\vl o'=T/\Mc n m a b (i:Int) (W (Int.tdiv y 10000)) (W ((k:Int)+1)) (o.set (i+k) (Int.tmod y 10000)) k0=k0 a b (i:Int) o':=by
   intro y hlt hk hy
   rw [tdv (by omega),tmd (by omega),Ab (by omega) (by omega),Ab (by omega) (by omega)]
   refine Aoh (n:=n) ha hb i hi hS hN hT m (k+1) _ _ (hlo.set _ (by omega)) (by simpa using ho) (by omega) (by omega) (by omega) ?_ (by omega)
   rw [K9 _ (by omega),show i+(k+1)=(i+k)+1 by omega,Bu]
   have hyy:y=10000*(y / 10000)+y % 10000:=by omega
   refine Abt (bk:=b.getD k 0) ?_ hy hyy;rcases hk with hk | hk
   . rw [<- M6 hk];exact hv
   . rw [QX (by omega)] at hv ⊢
     rw [C4 hk];simpa [vl] using hv
  by_cases hB:k<b.length
  . have dB:decide ((k:Int)<(b.length:Int))=true:=by rw [QP];omega
    simp only [dB,ZS,QQ]
    rw [Ab (x:=(i:Int)+(k:Int)) (by omega) (by omega)]
    have e:((i:Int)+(k:Int)).toNat=i+k:=by omega
    simp only [e]
    rw [A3 (by simp;try omega),A3 (by simp;try omega),A3 (by simp;try omega),A3 (by simp;try omega),Ab (x:=a.getD i 0*b.getD k 0) (by omega) (by omega),Ab (x:=o.getD (i+k) 0+c) (by omega) (by omega),Ab (x:=o.getD (i+k) 0+c+a.getD i 0*b.getD k 0) (by omega) (by omega),A3 (by simp;try omega),A3 (by simp;try omega)]
    exact go _ (by omega) (.inl hB) rfl
  . have dB:decide ((k:Int)<(b.length:Int))=false:=by rw [ZW];omega
    simp only [dB,QV];rw [QI]
    rw [QX (by omega)] at hv
    by_cases hc:0<c
    . have hlt : i + k < S := by
       refine Akh ?_
       have h5:(10000:Int) ^ (i+k)*1<=10000 ^ (i+k)*c:=XD (by omega) (by have:=Fk (i+k);omega)
       simp only [vl,JX,Qas] at hv;omega
      rw [QK (by omega),Ab (x:=(i:Int)+(k:Int)) (by omega) (by omega)]
      have e:((i:Int)+(k:Int)).toNat=i+k:=by omega
      simp only [e]
      rw [A3 (by simp;try omega),A3 (by simp;try omega),A3 (by simp;try omega),A3 (by simp;try omega),Ab (x:=o.getD (i+k) 0+c) (by omega) (by omega)]
      exact go _ hlt (.inr (by omega)) (by rw [C4 (l:=b) (by omega)];omega)
    . rw [QH (by omega)]
      obtain rfl:c=0:=by omega
      exact ⟨o,hlo,ho,by simpa [vl] using hv,rfl⟩

theorem Aog {a b:List Int} (ha:Lm a) (hb:Lm b) {i S:Nat} (hS:i+b.length<=S):vl (a.take i)*vl b<10000 ^ S:=by
 have h1:=Gs (ha.take i);have h2:=Gs hb;have h3:=Bh (ha.take i);have h4:=Bh hb
 have h5:(10000:Int) ^ (a.take i).length<=10000 ^ i:=Xe (by simp;omega)
 have h6:=Fk i;have h7:=Fk b.length
 have h8:vl (a.take i)*vl b<=vl (a.take i)*10000 ^ b.length:=XD (by omega) h3
 have h9:vl (a.take i)*10000 ^ b.length<10000 ^ i*10000 ^ b.length:=Int.mul_lt_mul_of_pos_right (by omega) h7
 rw [<- Int.pow_add] at h9;have h10:(10000:Int) ^ (i+b.length)<=10000 ^ S:=Xe hS;omega

theorem Ahw {α:Type} {n:Nat} {a b:List Int} (ha:Lm a) (hb:Lm b) {S:Nat} (hS:a.length+b.length<S) (hN:S<=1099511627776) (hn:S+1<=n) {k0:List Int->Option α} :
  ∀ (m i:Nat) (o:List Int),Lm o->o.length=S->i<=a.length->vl o=vl (a.take i)*vl b->a.length+1<=i+m ->
  ∃ o',Lm o'/\o'.length=S/\vl o'=vl a*vl b/\Md n m a b (i:Int) o k0=k0 o'
 | 0,i,o,hlo,ho,hi,hv,hm=>by omega
 | m+1,i,o,hlo,ho,hi,hv,hm=>by
  rw [Aru];unfold A1n;dsimp only;rw [QI];by_cases hA:i<a.length
  . rw [QK (by omega)]
    have hT:vl (a.take (i+1))*vl b<10000 ^ S:=Aog ha hb (by omega)
    obtain ⟨o',q1,q2,q3,q4⟩:=Aoh (n:=n) ha hb i hA hS hN hT (k0:=λz_1 z_2 z_3 z_4=>Md n m z_1 z_2 (W (z_3+1)) z_4 k0) n 0 0 o hlo ho (by omega) (by omega) (by omega) (by
     rw [hv,Bj,ZP,YY];generalize (10000:Int) ^ i=P
     grind) (by omega)
    have q4:Mc n n a b (i:Int) 0 0 o _=_:=q4
    rw [q4,Ab (by omega) (by omega)]
    exact Ahw (n:=n) ha hb hS hN hn m (i+1) o' q1 q2 (by omega) q3 (by omega)
  . rw [QH (by omega)]
    obtain rfl:i=a.length:=by omega
    rw [YC] at hv;exact ⟨o,hlo,ho,hv,rfl⟩

theorem B0r {n:Nat} {a b:List Int} (ha:Lm a) (hb:Lm b) (hN:a.length+b.length<=1099511627770) (hn:a.length+b.length+2<=n):f178 n a b=some (dg (vl a*vl b).toNat):=by
 unfold f178
 rw [Ab (x:=(a.length:Int)+(b.length:Int)) (by omega) (by omega),Ab (x:=(a.length:Int)+(b.length:Int)+1) (by omega) (by omega),A3 (by simp;try omega)]
 have e:((a.length:Int)+(b.length:Int)+1).toNat=a.length+b.length+1:=by omega
 rw [e]
 obtain ⟨o,q1,q2,q3,q4⟩:=Ahw (n:=n) ha hb (S:=a.length+b.length+1) (by omega) (by omega) (by omega) (k0:=λz_5=>ob (f203 n z_5) λr_6=>some r_6) n 0 (List.replicate (a.length+b.length+1) 0) (Lm.rep _) (by simp) (by omega) (by rw [Uk];simp [vl]) (by omega)
 have q4:Md n n a b 0 _ _=_:=q4
 rw [q4,Y8 q1 (by omega) (by omega),A1,q3]

theorem Aoi {α:Type} {n:Nat} {a b:List Int} (ha:Lm a) (hb:Lm b) (i:Nat) (hi:i<a.length) {S:Nat} (hS:a.length+b.length<=S) (hN:S<=1099511627776) {T:Int} (hT:T<10000 ^ S) (q1:List Int) (q2 q3:Int) {k0:List Int->List Int->Int->Int->List Int->Option α} :
  ∀ (m k:Nat) (c:Int) (o:List Int),Lm o->o.length=S->0<=c->c<10000->i+k<=S->vl o+10000 ^ (i+k)*(c+a.getD i 0*vl (b.drop k))=T->S+1<=i+k+m ->
  ∃ o',Lm o'/\o'.length=S/\vl o'=T/\Mf n m b (i:Int) (a.getD i 0) c (k:Int) q1 q2 q3 o k0=k0 b q1 q2 q3 o'
 | 0,k,c,o,hlo,ho,hc0,hc1,hik,hv,hm=>by omega
 | m+1,k,c,o,hlo,ho,hc0,hc1,hik,hv,hm=>by
  rw [Ass];unfold A2f;dsimp only;have h1:=ha.get i;have h2:=hb.get k;have h3:=hlo.get (i+k);have h4:=A03 h1 h2;have hvo:=Bh hlo
  have go:∀ y:Int,i+k<S->(k<b.length \/ b.length<=k)->y=o.getD (i+k) 0+c+a.getD i 0*b.getD k 0 ->
    ∃ o',Lm o'/\o'.length=S/\vl o'=T/\Mf n m b (i:Int) (a.getD i 0) (W (Int.tdiv y 10000)) (W ((k:Int)+1)) q1 q2 q3 (o.set (i+k) (Int.tmod y 10000)) k0=k0 b q1 q2 q3 o':=by
   intro y hlt hk hy
   rw [tdv (by omega),tmd (by omega),Ab (by omega) (by omega),Ab (by omega) (by omega)]
   refine Aoi (n:=n) ha hb i hi hS hN hT q1 q2 q3 m (k+1) _ _ (hlo.set _ (by omega)) (by simpa using ho) (by omega) (by omega) (by omega) ?_ (by omega)
   rw [K9 _ (by omega),show i+(k+1)=(i+k)+1 by omega,Bu]
   have hyy:y=10000*(y / 10000)+y % 10000:=by omega
   refine Abt (bk:=b.getD k 0) ?_ hy hyy;rcases hk with hk | hk
   . rw [<- M6 hk];exact hv
   . rw [QX (by omega)] at hv ⊢
     rw [C4 hk];simpa [vl] using hv
  by_cases hB:k<b.length
  . have dB:decide ((k:Int)<(b.length:Int))=true:=by rw [QP];omega
    simp only [dB,ZS,QQ]
    rw [Ab (x:=(i:Int)+(k:Int)) (by omega) (by omega)]
    have e:((i:Int)+(k:Int)).toNat=i+k:=by omega
    simp only [e]
    rw [A3 (by simp;try omega),Ab (x:=a.getD i 0*b.getD k 0) (by omega) (by omega),Ab (x:=c+a.getD i 0*b.getD k 0) (by omega) (by omega),A3 (by simp;try omega),A3 (by simp;try omega),A3 (by simp;try omega),A3 (by simp;try omega),Ab (x:=c+a.getD i 0*b.getD k 0+o.getD (i+k) 0) (by omega) (by omega)]
    exact go _ (by omega) (.inl hB) (by omega)
  . have dB:decide ((k:Int)<(b.length:Int))=false:=by rw [ZW];omega
    simp only [dB,QV];rw [QI]
    rw [QX (by omega)] at hv
    by_cases hc:0<c
    . have hlt : i + k < S := by
       refine Akh ?_
       have h5:(10000:Int) ^ (i+k)*1<=10000 ^ (i+k)*c:=XD (by omega) (by have:=Fk (i+k);omega)
       simp only [vl,JX,Qas] at hv;omega
      rw [QK (by omega),Ab (x:=(i:Int)+(k:Int)) (by omega) (by omega)]
      have e:((i:Int)+(k:Int)).toNat=i+k:=by omega
      simp only [e]
      rw [A3 (by simp;try omega),A3 (by simp;try omega),A3 (by simp;try omega),A3 (by simp;try omega),Ab (x:=c+o.getD (i+k) 0) (by omega) (by omega)]
      exact go _ hlt (.inr (by omega)) (by rw [C4 (l:=b) (by omega)];omega)
    . rw [QH (by omega)]
      obtain rfl:c=0:=by omega
      exact ⟨o,hlo,ho,by simpa [vl] using hv,rfl⟩

theorem Ahx {α:Type} {n:Nat} {a b:List Int} (ha:Lm a) (hb:Lm b) {S:Nat} (hS:a.length+b.length<=S) (hN:S<=1099511627776) (hn:S+1<=n) {k0:List Int->Option α} :
  ∀ (m i:Nat) (o:List Int),Lm o->o.length=S->i<=a.length->vl o=vl (a.take i)*vl b->a.length+1<=i+m ->
  ∃ o',Lm o'/\o'.length=S/\vl o'=vl a*vl b/\Mg n m b a (a.length:Int) (i:Int) o k0=k0 o'
 | 0,i,o,hlo,ho,hi,hv,hm=>by omega
 | m+1,i,o,hlo,ho,hi,hv,hm=>by
  rw [Asu];unfold A2i;dsimp only;rw [QI];by_cases hA:i<a.length
  . rw [QK (by omega),A3 (by simp;try omega)]
    simp only [QQ]
    have hT:vl (a.take (i+1))*vl b<10000 ^ S:=Aog ha hb (by omega)
    obtain ⟨o',q1,q2,q3,q4⟩:=Aoi (n:=n) ha hb i hA hS hN hT a (a.length:Int) (i:Int) (k0:=λz_1 z_2 z_3 z_4 z_5=>Mg n m z_1 z_2 z_3 (W (z_4+1)) z_5 k0) n 0 0 o hlo ho (by omega) (by omega) (by omega) (by
     rw [hv,Bj,ZP,YY];generalize (10000:Int) ^ i=P
     grind) (by omega)
    have q4:Mf n n b (i:Int) (a.getD i 0) 0 0 a (a.length:Int) (i:Int) o _=_:=q4
    rw [q4,Ab (by omega) (by omega)]
    exact Ahx (n:=n) ha hb hS hN hn m (i+1) o' q1 q2 (by omega) q3 (by omega)
  . rw [QH (by omega)]
    obtain rfl:i=a.length:=by omega
    rw [YC] at hv;exact ⟨o,hlo,ho,hv,rfl⟩

theorem B1h {n:Nat} {a b:List Int} (ha:Lm a) (hb:Lm b) (hN:a.length+b.length<=1099511627770) (hn:a.length+b.length+2<=n):f143 n a b=some (dg (vl a*vl b).toNat):=by
 unfold f143
 rw [Ab (x:=(a.length:Int)+(b.length:Int)) (by omega) (by omega),A3 (by simp;try omega)]
 have e:((a.length:Int)+(b.length:Int)).toNat=a.length+b.length:=by omega
 rw [e]
 obtain ⟨o,q1,q2,q3,q4⟩:=Ahx (n:=n) ha hb (S:=a.length+b.length) (by omega) (by omega) (by omega) (k0:=λz_5=>ob (f185 n z_5) λr_6=>some r_6) n 0 (List.replicate (a.length+b.length) 0) (Lm.rep _) (by simp) (by omega) (by rw [Uk];simp [vl]) (by omega)
 have q4:Mg n n b a (a.length:Int) 0 _ _=_:=q4
 rw [q4,Qb q1 (by omega) (by omega),A1,q3]

theorem pwc (k:Nat):((10000 ^ k:Nat):Int)=(10000:Int) ^ k:=by rw [Int.natCast_pow];rfl

theorem B2n (Q:Nat):((10000*Q:Nat):Int)=10000*(Q:Int):=by omega

theorem A3f (Q q:Nat):((10000*Q+q:Nat):Int)=10000*(Q:Int)+q:=by omega

theorem Aak (Q q:Nat):((q+10000*Q:Nat):Int)=q+10000*(Q:Int):=by omega

theorem Df {n k:Nat} (h:n<10000 ^ k):(dg n).length<=k:=Qp.2 (by rw [<- pwc];omega)

theorem A3i (n:Nat):n<10000 ^ (dg n).length:=by
 have:=Qp.1 (QZ (dg n).length);rw [<- pwc] at this;omega

theorem Hg {n k:Nat} (h:(dg n).length<=k):n<10000 ^ k:=by
 have:=Qp.1 h;rw [<- pwc] at this;omega

theorem Bi (a b:Nat):(dg (a*b)).length<=(dg a).length+(dg b).length:=by
 refine Df ?_;rw [Nat.pow_add];exact Nat.mul_lt_mul'' (A3i a) (A3i b)

theorem A66 (a b:Nat):(dg (a+b)).length<=max (dg a).length (dg b).length+1:=by
 refine Df ?_
 have h1:a<10000 ^ max (dg a).length (dg b).length:=Hg (by omega)
 have h2:b<10000 ^ max (dg a).length (dg b).length:=Hg (by omega)
 rw [YV];omega

theorem A65 {a:Nat} (h:a<10000):(dg a).length<=1:=Df (by simpa using h)

theorem Ayv (a:Nat) (x:Nat) (h:x<10000):(dg (x+10000*a)).length<=(dg a).length+1:=by
 refine Df ?_;have:=A3i a;rw [YV];omega

theorem Axh {n a b:Nat} (h:(dg a).length<=1099511627776) (hn:(dg a).length<n):f187 n (dg a) (dg b)=some (cm a b):=by
 rw [B0q (H0 a) (H0 b) h hn,Bd,Bd]

theorem Axg {n a b:Nat} (h:(dg a).length+(dg b).length<=1099511627770) (hn:(dg a).length+(dg b).length+2<=n):f178 n (dg a) (dg b)=some (dg (a*b)):=by
 rw [B0r (D4 a) (D4 b) h hn,Bd,Bd];congr 1

theorem B5y {n a b:Nat} (h:(dg a).length<=1099511627776) (hn:(dg a).length+1<=n) (hab:b<=a):f188 n (dg a) (dg b)=some (dg (a-b)):=by
 rw [B0o (H0 a) (H0 b) h hn (by rw [Bd,Bd];omega),Bd,Bd]
 congr 2;omega

theorem Lp {n a b:Nat} (h:(dg a).length+(dg b).length<=1099511627770) (hn:(dg a).length+(dg b).length+2<=n):f143 n (dg a) (dg b)=some (dg (a*b)):=by
 rw [B1h (D4 a) (D4 b) h hn,Bd,Bd];congr 1

theorem Aal {n a b:Nat} (h:(dg a).length<=1099511627776):f170 n (dg a) (dg b)=some (cm a b):=by
 rw [B0x (H0 a) (H0 b) h,Bd,Bd]

theorem Afm {α:Type} {n B R:Nat} (hBl:(dg B).length<=1099511627700) (hn:(dg B).length+20<=n) (s0:List Int) (s8:Int) (b14:List Int) {k0:List Int->List Int->List Int->Int->Int->List Int->Option α} :
  ∀ (m lo hi:Nat),lo<hi->hi<=10000->lo*B<=R->R<hi*B->hi<=lo+m ->
  Nl n m s0 (dg B) (dg R) s8 (lo:Int) (hi:Int) b14 k0=k0 s0 (dg B) (dg R) s8 ((R / B:Nat):Int) b14
 | 0,lo,hi,h1,h2,h3,h4,h5=>by omega
 | m+1,lo,hi,h1,h2,h3,h4,h5=>by
  rw [Aly];unfold We;dsimp only
  rw [Ab (x:=(hi:Int)-(lo:Int)) (by omega) (by omega),Ab (x:=(lo:Int)+(hi:Int)) (by omega) (by omega)]
  have e:Int.tdiv ((lo:Int)+(hi:Int)) 2=(((lo+hi) / 2:Nat):Int):=by
   rw [YJ (by omega)];omega
  rw [e,Ab (x:=(((lo+hi) / 2:Nat):Int)) (by omega) (by omega)]
  generalize hmid:(lo+hi) / 2=mid;by_cases hc:lo+1<hi
  . rw [QI,QK (by omega),Yd (by omega) (by omega),A1]
    have hl:=A65 (a:=mid) (by omega)
    have hm:=Bi B mid
    rw [Axg (by omega) (by omega),A1,Axh (by omega) (by omega),A1,QI]
    by_cases hle:B*mid<=R
    . have : cm ((B * mid : Nat) : Int) (R : Int) <= 0 := by
       rcases JY hle with h | h
       . rw [K6 (by omega)];omega
       . rw [Ly (by omega)];omega
      rw [QK this]
      exact Afm hBl hn s0 s8 b14 m mid hi (by omega) h2 (by rw [YP];exact hle) h4 (by omega)
    . have : ¬ cm ((B * mid : Nat) : Int) (R : Int) <= 0 := by
       rw [K7 (by omega)];omega
      rw [QH this]
      exact Afm hBl hn s0 s8 b14 m lo mid (by omega) (by omega) h3 (by rw [YP];omega) (by omega)
  . rw [QI,QH (by omega)]
    obtain rfl:hi=lo+1:=by omega
    have:R / B=lo:=by
     rw [Nat.div_eq_iff (ZT (by rintro rfl;simp at h4))]
     rw [YA] at h4;omega
    rw [this]

theorem Af7 {α:Type} {n L A B:Nat} (hB:0<B) (hA:(dg A).length<=L) (hBl:(dg B).length<=L) (hL:L<=1099511627000) (hn:L+10040<=n) {k0:List Int->List Int->Option α} :
  ∀ (k m Q R:Nat) (o:List Int),k<m->k<=(dg A).length->R<B->o.length=(dg A).length->Lm o->(∀ i,i<k->o.getD i 0=0)->vl o=10000 ^ k*(Q:Int)->(Q:Int)*B+R=vl ((dg A).drop k) ->
  ∃ o',Lm o'/\o'.length=(dg A).length/\vl o'=((A / B:Nat):Int)/\Q9 n m (dg A) (dg B) (dg R) ((k:Int)-1) o k0=k0 (dg (A % B)) o'
 | _,0,_,_,_,h1,_,_,_,_,_,_,_=>by omega
 | 0,m+1,Q,R,o,h1,h2,h3,h4,h5,h6,h7,h8=>by
  rw [A91];unfold Sb;dsimp only
  rw [QI,QH (by omega)]
  rw [ZP,Bd] at h8
  have h8:Q*B+R=A:=by
   have:((Q*B+R:Nat):Int)=A:=by rw [JD,XW];exact h8
   omega
  have h9:A / B=Q:=by rw [<- h8,Nat.add_comm,Qak _ _ hB,KZ h3,YK]
  have h10:A % B=R:=by rw [<- h8,JK,KL h3]
  exact ⟨o,h5,h4,by rw [h7,h9];simp,by rw [h10]⟩
 | k+1,m+1,Q,R,o,h1,h2,h3,h4,h5,h6,h7,h8=>by
  rw [A91];unfold Sb;dsimp only
  rw [QI,QK (by omega)]
  rw [show (((k+1:Nat):Int)-1)=(k:Int) by omega]
  simp only [QQ];have hg:=(D4 A).get k
  obtain ⟨x,hx⟩:∃ x:Nat,(dg A).getD k 0=(x:Int):=⟨((dg A).getD k 0).toNat,by omega⟩
  have hlR:(dg R).length<=L:=ZF (Bc (by omega)) hBl
  have hlRx:=Ayv R x (by omega)
  have hRx:vl ((dg A).drop k)=(x:Int)+10000*((Q:Int)*B+R):=by
   rw [M6 (by omega),hx,<- h8]
  have hR':x+10000*R<10000*B:=by omega
  rw [hx,A3 (by simp;try omega),A3 (by simp;try omega),Y8 (Lm.app (Lm.cons (by omega) Lm.nil) (D4 R)) (by simp;omega) (by simp;omega),A1]
  have e1:(vl ([(x:Int)]++dg R)).toNat=x+10000*R:=by
   rw [YB,JQ,vl,Bd];omega
  rw [e1,Axh (by omega) (by omega),A1,Ab (x:=(k:Int)-1) (by omega) (by omega),QI]
  by_cases hlt:x+10000*R<B
  . rw [QK (by rw [K6 (by omega)];omega)]
    refine Af7 hB hA hBl hL hn k m (10000*Q) (x+10000*R) o (by omega) (by omega) hlt h4 h5 (λi hi=>h6 i (by omega)) ?_ ?_
    . rw [h7,Bu,B2n];grind
    . rw [hRx,B2n,Aak];grind
  . rw [QH (by
     rcases JY (Nat.le_of_not_lt hlt) with h | h
     . rw [K7 (by omega)];omega
     . rw [Ly (by omega)];omega)]
    have hbis := Afm (n := n) (B := B) (R := x + 10000 * R) (by omega) (by omega) (dg A) (k : Int) o (k0 := fun z_3 z_4 z_5 z_6 z_7 z_8 => (
            gd (decide (0<=z_6)&&decide (z_6<(z_8.length:Int))) (
             gd (decide (z_6.toNat<z_8.length)) (
              ob (f172 n z_7) λr_9 =>
              ob (f178 n z_4 r_9) λr_10 =>
              ob (f188 n z_5 r_10) λr_11 =>
              Q9 n m z_3 z_4 r_11 (W (z_6-1)) (z_8.set z_6.toNat z_7) k0)))) n 0 10000 (by omega) (by omega) (by omega) hR' (by omega)
    have hbis:Nl n n (dg A) (dg B) (dg (x+10000*R)) (k:Int) 0 10000 o _=_:=hbis;rw [hbis];simp only [QQ]
    have hq:(x+10000*R) / B<10000:=by
     rw [KT hB];omega
    have hqr:=JU (x+10000*R) B;have hqm:=KJ (x+10000*R) hB;generalize hqq:(x+10000*R) / B=q at *;generalize hrr:(x+10000*R) % B=r at *;have hl1:=A65 hq;have hl2:=Bi B q
    rw [A3 (by simp;try omega),A3 (by simp;try omega),Yd (by omega) (by omega),A1,Axg (by omega) (by omega),A1,B5y (by omega) (by omega) (by omega),A1,Ab (x:=(k:Int)-1) (by omega) (by omega),show x+10000*R-B*q=r by omega]
    refine Af7 hB hA hBl hL hn k m (10000*Q+q) r _ (by omega) (by omega) hqm (by simpa using h4) (h5.set _ (by omega)) (λi hi=>?_) ?_ ?_
    . rw [QJ,Qao (by omega),<- QJ]
      exact h6 i (by omega)
    . rw [K9 _ (by omega),h7,h6 k (by omega),Bu,A3f]
      generalize (10000:Int) ^ k=P;grind
    . rw [hRx]
      have:(B:Int)*q+r=x+10000*R:=by
       rw [<- Aak,<- hqr,JD,XW]
      rw [A3f];grind

theorem Akd {n L A B:Nat} (hB:0<B) (hA:(dg A).length<=L) (hBl:(dg B).length<=L) (hL:L<=1099511627000) (hn:L+10040<=n):f202 n (dg A) (dg B)=some (dg (A / B),dg (A % B)):=by
 unfold f202
 rw [A3 (by simp;try omega),Ab (x:=((dg A).length:Int)-1) (by omega) (by omega)]
 simp only [QQ]
 obtain ⟨o, h1, h2, h3, h4⟩ := Af7 (n := n) hB hA hBl hL hn (k0 := fun z_12 z_13 => (
       ob (f203 n z_13) λr_14 =>
       some (r_14,z_12))) (dg A).length n 0 0 (List.replicate (dg A).length 0) (by omega) (QZ _) hB (by simp) (Lm.rep _) (λi hi=>by simp [QJ,XO,hi]) (by rw [Uk];simp) (by simp [vl])
 rw [Bw] at h4
 rw [h4,Y8 h1 (by omega) (by omega),A1,h3]
 rfl

theorem Acd {a b:Nat} (hb:0<b) (hr:0<a % b) {j:Nat} (h:b<2 ^ (j+1)):b % (a % b)<2 ^ j:=by
 have h1:=KJ a hb;have h2:=KJ b hr;have h3:=JU b (a % b);generalize a % b=r at *
 have h4:1<=b / r:=by rw [Nat.le_div_iff_mul_le hr];omega
 have h5:r*1<=r*(b / r):=XF r h4;rw [YV] at h;omega

theorem B2w {α:Type} {n L:Nat} (hL:L<=1099511627000) (hn:L+10040<=n) {k0:List Int->Option α} :
  ∀ (j m a b:Nat),b<2 ^ j->2*j+1<=m->(dg a).length<=L->(dg b).length<=L->Jf n m (dg a) (dg b) k0=k0 (dg (Nat.gcd b a)):=by
 have stop:∀ (m a:Nat),0<m->Jf n m (dg a) (dg 0) k0=k0 (dg (Nat.gcd 0 a)):=λm a hm=>by
  obtain ⟨m,rfl⟩:∃ m',m=m'+1:=⟨m-1,by omega⟩
  rw [A94,Qai,Bw];rfl
 have step:∀ (m a b:Nat),0<b->(dg a).length<=L->(dg b).length<=L->Jf n (m+1) (dg a) (dg b) k0=Jf n m (dg b) (dg (a % b)) k0:=λm a b hb ha hbl=>by
  rw [A94];unfold A14
  have:0<(dg b).length:=by rw [Cx (by omega)];simp
  rw [QI,QK (by omega),Akd hb ha hbl hL hn,A1]
 intro j
 induction j with
 | zero =>
  intro m a b h1 h2 h3 h4
  obtain rfl:b=0:=by simpa using h1
  exact stop m a (by omega)
 | succ j ih =>
  intro m a b h1 h2 h3 h4;rcases YR b with rfl | hb
  . exact stop m a (by omega)
  obtain ⟨m,rfl⟩:∃ m',m=m'+2:=⟨m-2,by omega⟩
  have h5:(dg (a % b)).length<=L:=ZF (Bc (Nat.le_of_lt (KJ a hb))) h4;rw [step _ _ _ hb h3 h4,Nat.gcd_rec b a];rcases YR (a % b) with hr | hr
  . rw [hr];exact stop _ _ (by omega)
  have h6:(dg (b % (a % b))).length<=L:=ZF (Bc (Nat.le_of_lt (KJ b hr))) h5;rw [step _ _ _ hr h4 h5,Nat.gcd_rec (a % b) b]
  exact ih m _ _ (Acd hb hr h1) (by omega) h5 h6

theorem Ahr {b L:Nat} (h:b<10000 ^ L):b<2 ^ (14*L):=by
 rw [Nat.pow_mul]
 exact ZO h (Nat.pow_le_pow_left (by decide) L)

theorem B5z {n L a b:Nat} (hL:L<=1099511627000) (hn:28*L+10040<=n) (ha:(dg a).length<=L) (hb:(dg b).length<=L):f190 n (dg a) (dg b)=some (dg (Nat.gcd a b)):=by
 unfold f190
 have h1:(dg (Nat.gcd b a)).length<=L:=by
  rcases YR b with rfl | h
  . rw [Qai];exact ha
  . exact ZF (Bc (Nat.gcd_le_left a h)) hb
 rw [B2w hL (by omega) (14*L) n a b (Ahr (Hg hb)) (by omega) ha hb,A3 (by simp;try omega),Nat.gcd_comm]

theorem Pv {pre w post:List Int} {i:Nat} (h:i<w.length):(pre++w++post).getD (pre.length+i) 0=w.getD i 0:=by
 rw [ZQ,QJ,ZD (by omega),Qac,ZC h,<- QJ]

theorem Ahy {pre w post:List Int} {i:Nat} (h:i<w.length) (x:Int):(pre++w++post).set (pre.length+i) x=pre++w.set i x++post:=by
 rw [ZQ,List.set_append_right _ _ (by omega),Qac,List.set_append_left _ _ h,ZQ]

theorem Ato {y:Int} (h:y<0) (h':-1099511627776<y):W (Int.tdiv (W (W (y-10000)+1)) 10000)=y / 10000:=by
 rw [Ab (x:=y-10000) (by omega) (by omega),Ab (x:=y-10000+1) (by omega) (by omega)]
 have:Int.tdiv (y-10000+1) 10000=y / 10000:=by
  rw [show y-10000+1 = -(9999-y) by omega,Int.neg_tdiv,YJ (by omega)]
  omega
 rw [this,Ab (by omega) (by omega)]

theorem Aud {o P q c wi bi v' T y d r:Int} (h:o+P*(c-q*(bi+10000*v'))=T) (hy:y=wi+c-q*bi) (hd:y=10000*d+r):o+P*(r-wi)+10000*P*(d-q*v')=T:=by
 grind

theorem Ao8 {o P c wi bi v' T y d r:Int} (h:o+P*(c+(bi+10000*v'))=T) (hy:y=wi+c+bi) (hd:y=10000*d+r):o+P*(r-wi)+10000*P*(d+v')=T:=by
 grind

theorem Zv {l:List Int} (k:Nat):vl (l.drop k)=l.getD k 0+10000*vl (l.drop (k+1)):=by
 rcases ZZ k l.length with h | h
 . exact M6 h
 . rw [QX h,QX (by omega),C4 h];rfl

theorem Anp {α:Type} {n N:Nat} {b pre post:List Int} (hb:Lm b) (hbN:b.length=N) (hN:pre.length+N+1+post.length<=1099511627776) {q:Int} (hq:0<=q/\q<10000) {T:Int} {k0:Nat->Nat->List Int->Int->Int->Int->List Int->Option α} :
  ∀ (m i:Nat) (c:Int) (w:List Int),Lm w->w.length=N+1->-9999<=c->c<=0->i<=N+1->vl w+10000 ^ i*(c-q*vl (b.drop i))=T->N+2<=i+m ->
  ∃ w' c',Lm w'/\w'.length=N+1/\c'<=0/\vl w'+10000 ^ (N+1)*c'=T/\Fm n m pre.length (N+1) b (b.length:Int) q c ((N+1:Nat):Int) (i:Int) (pre++w++post) k0=k0 pre.length (N+1) b (b.length:Int) q c' (pre++w'++post)
 | 0,i,c,w,h1,h2,h3,h4,h5,h6,h7=>by omega
 | m+1,i,c,w,h1,h2,h3,h4,h5,h6,h7=>by
  rw [Alu];unfold W7;dsimp only;by_cases hi:i<N+1
  . rw [QI,QK (by omega)]
    simp only [QQ]
    rw [A3 (by simp;try omega),A3 (by simp;try omega)]
    simp only [Pv (pre:=pre) (post:=post) (w:=w) (i:=i) (by omega)]
    have g1:=h1.get i;have g2:=hb.get i;have g3:=A03 hq g2
    have go:∀ y:Int,y=w.getD i 0+c-q*b.getD i 0 ->
      ∃ w' c',Lm w'/\w'.length=N+1/\c'<=0/\vl w'+10000 ^ (N+1)*c'=T /\
      (bif (decide (y<0)) then (gd (decide (0<=(i:Int))&&decide ((i:Int)<((N+1:Nat):Int))) (
        gd (decide ((pre.length+i)<(pre++w++post).length)) (
         Fm n m pre.length (N+1) b (b.length:Int) q (W (Int.tdiv (W ((W (y-10000))+1)) 10000)) ((N+1:Nat):Int) (W ((i:Int)+1)) ((pre++w++post).set (pre.length+i) (W (y-(W ((W (Int.tdiv (W ((W (y-10000))+1)) 10000))*10000))))) k0)))
       else (gd (decide (0<=(i:Int))&&decide ((i:Int)<((N+1:Nat):Int))) (
        gd (decide ((pre.length+i)<(pre++w++post).length)) (
         Fm n m pre.length (N+1) b (b.length:Int) q 0 ((N+1:Nat):Int) (W ((i:Int)+1)) ((pre++w++post).set (pre.length+i) (W (y-(W (0*10000))))) k0))))=k0 pre.length (N+1) b (b.length:Int) q c' (pre++w'++post):=by
     intro y hy
     have hd:y=10000*(y / 10000)+y % 10000:=by omega
     have go2 : ∀ d : Int, d = y / 10000 -> ∃ w' c', Lm w' /\ w'.length = N + 1 /\ c' <= 0 /\ vl w' + 10000 ^ (N + 1) * c' = T /\ (gd (decide (0 <= (i : Int)) && decide ((i : Int) < ((N + 1 : Nat) : Int))) (
           gd (decide ((pre.length+i)<(pre++w++post).length)) (
            Fm n m pre.length (N+1) b (b.length:Int) q d ((N+1:Nat):Int) (W ((i:Int)+1)) ((pre++w++post).set (pre.length+i) (W (y-(W (d*10000))))) k0)))=k0 pre.length (N+1) b (b.length:Int) q c' (pre++w'++post):=by
      intro d hdd
      rw [A3 (by simp;try omega),A3 (by simp;try omega),Ahy (by omega),Ab (x:=d*10000) (by omega) (by omega),Ab (x:=y-d*10000) (by omega) (by omega),Ab (x:=(i:Int)+1) (by omega) (by omega)]
      refine Anp (n:=n) hb hbN hN hq m (i+1) d _ (h1.set _ (by omega)) (by simpa using h2) (by omega) (by omega) (by omega) ?_ (by omega)
      rw [K9 _ (by omega),Bu]
      refine Aud (bi:=b.getD i 0) ?_ hy (by omega)
      rw [<- Zv];exact h6
     rw [QI];by_cases hneg:y<0
     . rw [QK hneg]
       simp only [Ato hneg (by omega)]
       exact go2 _ rfl
     . rw [QH hneg]
       exact go2 0 (by omega)
    by_cases hB:i<b.length
    . have dB:decide ((i:Int)<(b.length:Int))=true:=by rw [QP];omega
      simp only [dB,ZS]
      rw [A3 (by simp;try omega)]
      simp only [Ab (x:=q*b.getD i 0) (by omega) (by omega),Ab (x:=w.getD i 0+c) (by omega) (by omega),Ab (x:=w.getD i 0+c-q*b.getD i 0) (by omega) (by omega)]
      exact go _ rfl
    . have dB:decide ((i:Int)<(b.length:Int))=false:=by rw [ZW];omega
      simp only [dB,QV]
      simp only [Ab (x:=w.getD i 0+c) (by omega) (by omega)]
      exact go _ (by rw [C4 (l:=b) (by omega)];omega)
  . rw [QI,QH (by omega)]
    obtain rfl:i=N+1:=by omega
    rw [QX (by omega)] at h6
    exact ⟨w,c,h1,h2,h4,by simpa [vl] using h6,rfl⟩

theorem Ahs {α:Type} {n N:Nat} {b pre post:List Int} (hb:Lm b) (hbN:b.length=N) (hN:pre.length+N+1+post.length<=1099511627776) {q z:Int} {T:Int} {k0:Nat->Nat->List Int->Int->Int->Int->Int->List Int->Option α} :
  ∀ (m i:Nat) (c:Int) (w:List Int),Lm w->w.length=N+1->0<=c->c<=1->i<=N+1->vl w+10000 ^ i*(c+vl (b.drop i))=T->N+2<=i+m ->
  ∃ w' c',Lm w'/\w'.length=N+1/\0<=c'/\c'<=1/\vl w'+10000 ^ (N+1)*c'=T/\Hj n m pre.length (N+1) b (b.length:Int) q z c ((N+1:Nat):Int) (i:Int) (pre++w++post) k0=k0 pre.length (N+1) b (b.length:Int) q z c' (pre++w'++post)
 | 0,i,c,w,h1,h2,h3,h4,h5,h6,h7=>by omega
 | m+1,i,c,w,h1,h2,h3,h4,h5,h6,h7=>by
  rw [Ags];unfold S5;dsimp only;by_cases hi:i<N+1
  . rw [QI,QK (by omega)]
    simp only [QQ]
    rw [A3 (by simp;try omega),A3 (by simp;try omega),Pv (by omega)]
    have g1:=h1.get i;have g2:=hb.get i
    have go : ∀ y : Int, y = w.getD i 0 + c + b.getD i 0 -> ∃ w' c', Lm w' /\ w'.length = N + 1 /\ 0 <= c' /\ c' <= 1 /\ vl w' + 10000 ^ (N + 1) * c' = T /\ (gd (decide (0 <= (i : Int)) && decide ((i : Int) < ((N + 1 : Nat) : Int))) (
            gd (decide ((pre.length+i)<(pre++w++post).length)) (
             Hj n m pre.length (N+1) b (b.length:Int) q z (W (Int.tdiv y 10000)) ((N+1:Nat):Int) (W ((i:Int)+1)) ((pre++w++post).set (pre.length+i) (Int.tmod y 10000)) k0)))=k0 pre.length (N+1) b (b.length:Int) q z c' (pre++w'++post):=by
     intro y hy
     have hd:y=10000*(y / 10000)+y % 10000:=by omega
     rw [A3 (by simp;try omega),A3 (by simp;try omega),Ahy (by omega),tdv (by omega),tmd (by omega),Ab (x:=y / 10000) (by omega) (by omega),Ab (x:=(i:Int)+1) (by omega) (by omega)]
     refine Ahs (n:=n) hb hbN hN m (i+1) _ _ (h1.set _ (by omega)) (by simpa using h2) (by omega) (by omega) (by omega) ?_ (by omega)
     rw [K9 _ (by omega),Bu]
     refine Ao8 (bi:=b.getD i 0) ?_ hy hd;rw [<- Zv];exact h6
    by_cases hB:i<b.length
    . have dB:decide ((i:Int)<(b.length:Int))=true:=by rw [QP];omega
      simp only [dB,ZS]
      rw [A3 (by simp;try omega)]
      simp only [Ab (x:=w.getD i 0+c) (by omega) (by omega),Ab (x:=w.getD i 0+c+b.getD i 0) (by omega) (by omega)]
      exact go _ rfl
    . have dB:decide ((i:Int)<(b.length:Int))=false:=by rw [ZW];omega
      simp only [dB,QV]
      simp only [Ab (x:=w.getD i 0+c) (by omega) (by omega)]
      exact go _ (by rw [C4 (l:=b) (by omega)];omega)
  . rw [QI,QH (by omega)]
    obtain rfl:i=N+1:=by omega
    rw [QX (by omega)] at h6
    exact ⟨w,c,h1,h2,h3,h4,by simpa [vl] using h6,rfl⟩

theorem Ax3 {P v c R qB:Int} (h1:v<P) (hP:0<P) (h:v+P*c=R-qB) (hc:c<0):R-qB<0:=by
 have:P*c<=P*(-1):=XD (by omega) (by omega)
 omega

theorem Ax4 {P v c R q B:Int} (h0:v<P) (h:v+P*c=R-q*B) (hB:0<=B) (hBP:B<P) (hR:0<=R) (hq:q<10000) (hq0:0<=q):-10000<=c:=by
 have h9:q*B<=10000*B:=Int.mul_le_mul_of_nonneg_right (by omega) (by omega)
 rcases Int.lt_or_le c (-10000) with h1 | h1
 . have h8:P*c<=P*(-10001):=XD (by omega) (by omega)
   exfalso;omega
 . exact h1

theorem Ax2 {v v' x x' R qB B:Int} (h:v+x=R-qB) (h':v'+x'=v+B):v'+(x+x')=R-(qB-B):=by omega

theorem Ajz {α:Type} {n N R B:Nat} {pre post:List Int} (hB:0<B) (hbN:(dg B).length=N) (hN:pre.length+N+1+post.length<=1099511627776) (hn:N+2<=n) {k0:Int->List Int->Option α} :
  ∀ (m q:Nat) (c:Int) (w:List Int),Lm w->w.length=N+1->c<=0->vl w+10000 ^ (N+1)*c=(R:Int)-q*B->R / B<=q->q<10000->q<m ->
  ∃ w',Lm w'/\w'.length=N+1/\vl w'=((R % B:Nat):Int)/\Hk n m pre.length (N+1) (dg B) ((dg B).length:Int) (q:Int) c (pre++w++post) k0=k0 ((R / B:Nat):Int) (pre++w'++post)
 | 0,q,c,w,h1,h2,h3,h4,h5,h6,h7=>by omega
 | m+1,q,c,w,h1,h2,h3,h4,h5,h6,h7=>by
  rw [Agu];unfold S8;dsimp only;have hw:=Gs h1;have hw0:=Bh h1;rw [h2] at hw;rw [QI];have hP:=Fk (N+1);have hBP:=A3i B;rw [hbN] at hBP;have hdm:=JU R B;have hml:=KJ R hB;by_cases hc:c<0
  . rw [QK hc];have hneg:=Ax3 hw hP h4 hc
    have hlt:R / B<q:=by
     rw [KT hB];have:((q*B:Nat):Int)=(q:Int)*B:=XW q B;omega
    have hq0:0<q:=Nat.lt_of_le_of_lt (KI _) hlt
    have hBi:(B:Int)<10000 ^ N:=by rw [<- pwc];omega
    have hBP':(B:Int)<10000 ^ (N+1):=by
     have:=Xe (show N<=N+1 by omega)
     omega
    have hcm:=Ax4 (q:=(q:Int)) hw h4 (by omega) hBP' (by omega) (by omega) (by omega)
    rw [Ab (x:=(q:Int)-1) (by omega) (by omega),show (q:Int)-1=((q-1:Nat):Int) by omega]
    obtain ⟨w',c',q1,q2,q3,q4,q5,q6⟩:=Ahs (n:=n) (D4 B) hbN hN (q:=((q-1:Nat):Int)) (z:=c) (T:=vl w+B) (k0:=λz_12 z_13 z_14 z_15 z_16 z_17 z_18 z_19=>(
     Hk n m z_12 z_13 z_14 z_15 z_16 (W (z_17+z_18)) z_19 k0)) n 0 0 w h1 h2 (by omega) (by omega) (by omega) (by rw [ZP,Bd,Int.pow_zero,Int.one_mul,Int.zero_add]) (by omega)
    have q6:Hj n n pre.length (N+1) (dg B) ((dg B).length:Int) ((q-1:Nat):Int) c 0 ((N+1:Nat):Int) 0 (pre++w++post) _=_:=q6;rw [q6]
    have hq1:((q-1:Nat):Int)*B=q*B-B:=by
     rw [show ((q-1:Nat):Int)=(q:Int)-1 by omega,Int.sub_mul,Int.one_mul]
    have hnew:vl w'+10000 ^ (N+1)*(c+c')=(R:Int)-((q-1:Nat):Int)*B:=by
     rw [Int.mul_add,hq1];exact Ax2 h4 q5
    rw [Ab (x:=c+c') (by omega) (by omega)]
    exact Ajz hB hbN hN hn m (q-1) (c+c') w' q1 q2 (by omega) hnew (by omega) (by omega) (by omega)
  . rw [QH hc]
    obtain rfl:c=0:=by omega
    rw [JX,Qas] at h4
    have e:R / B=q:=by
     refine Nat.le_antisymm h5 ?_;rw [Nat.le_div_iff_mul_le hB];have:((q*B:Nat):Int)=(q:Int)*B:=XW q B;omega
    refine ⟨w,h1,h2,?_,by rw [e]⟩
    have:((B*q:Nat):Int)=(q:Int)*B:=by rw [XW,Int.mul_comm]
    rw [e] at hdm;omega

theorem B67 {P lowR lowB high top t R B:Int} (hR:R=lowR+P*high) (hB:B=lowB+P*top) (h1:lowR<P) (h2:0<=lowB) (hP:0<P) (ht:0<=t) (hle:t*B<=R):t*top<=high:=by
 have h3:t*(P*top)<=t*B:=XD (by omega) ht
 have h4:P*(t*top)<P*(high+1):=by
  rw [Int.mul_add,Int.mul_one,show P*(t*top)=t*(P*top) by grind];omega
 have:=Int.lt_of_mul_lt_mul_left h4 (by omega)
 omega

theorem Awf {n M R B:Nat} {pre w post:List Int} (hbN:(dg B).length=M+2) (hN:pre.length+(M+2)+1+post.length<=1099511627776) (hn:M+10010<=n) (hw:Lm w) (hwl:w.length=M+3) (hv:vl w=(R:Int)) (hR:R<10000*B) :
  ∃ w',Lm w'/\w'.length=M+3/\vl w'=((R % B:Nat):Int)/\Aaq n (pre++w++post,pre.length,M+3) (dg B)=some (((R / B:Nat):Int),pre++w'++post):=by
 have hB:0<B:=by omega
 unfold Aaq;dsimp only;rw [hbN]
 rw [Ab (x:=((M+2:Nat):Int)-1) (by omega) (by omega),Ab (x:=((M+2:Nat):Int)-2) (by omega) (by omega),show ((M+2:Nat):Int)-1=((M+1:Nat):Int) by omega,show ((M+2:Nat):Int)-2=(M:Int) by omega]
 simp only [QQ];have hb:=D4 B;have g0:=hw.get (M+2);have g1:=hw.get (M+1);have g2:=hw.get M;have b1:=hb.get (M+1);have b2:=hb.get M
 have bt:(dg B).getD (M+1) 0 ≠ 0:=by
  have:=(H0 B).2 (XT.1 (by omega))
  rw [hbN] at this;exact this
 rw [A3 (by simp;try omega),A3 (by simp;try omega),A3 (by simp;try omega),A3 (by simp;try omega),A3 (by simp;try omega),A3 (by simp;try omega),A3 (by simp;try omega),A3 (by simp;try omega)]
 simp only [Pv (pre:=pre) (post:=post) (w:=w) (i:=M+2) (by omega),Pv (pre:=pre) (post:=post) (w:=w) (i:=M+1) (by omega),Pv (pre:=pre) (post:=post) (w:=w) (i:=M) (by omega)]
 simp only [Ab (x:=(dg B).getD (M+1) 0*10000) (by omega) (by omega),Ab (x:=(dg B).getD (M+1) 0*10000+(dg B).getD M 0) (by omega) (by omega),Ab (x:=w.getD (M+2) 0*10000) (by omega) (by omega),Ab (x:=w.getD (M+2) 0*10000+w.getD (M+1) 0) (by omega) (by omega),Ab (x:=(w.getD (M+2) 0*10000+w.getD (M+1) 0)*10000) (by omega) (by omega),Ab (x:=(w.getD (M+2) 0*10000+w.getD (M+1) 0)*10000+w.getD M 0) (by omega) (by omega)]
 rw [A3 (by simp only [QP];omega)]
 have vw:(R:Int)=vl (w.take M)+10000 ^ M*((w.getD (M+2) 0*10000+w.getD (M+1) 0)*10000+w.getD M 0):=by
  have t1:=Bj w (M+2);have t2:=Bj w (M+1);have t3:=Bj w M
  rw [Pp w (by omega),hv] at t1
  rw [t1,t2,t3,Bu,Bu];grind
 have vb:(B:Int)=vl ((dg B).take M)+10000 ^ M*((dg B).getD (M+1) 0*10000+(dg B).getD M 0):=by
  have t2:=Bj (dg B) (M+1);have t3:=Bj (dg B) M
  rw [Pp (dg B) (by omega),Bd] at t2
  rw [t2,t3,Bu];grind
 have lw:=Gs (hw.take M)
 rw [YX,JP (by omega)] at lw
 have lb:=Bh (hb.take M);generalize hhigh:(w.getD (M+2) 0*10000+w.getD (M+1) 0)*10000+w.getD M 0=high at *;generalize htop:(dg B).getD (M+1) 0*10000+(dg B).getD M 0=top at *
 have htop0:0<top:=by omega
 have hh0:0<=high/\high<1000000000000:=by omega
 rw [YJ (by omega)]
 have hd0:0<=high / top:=Int.ediv_nonneg (by omega) (by omega)
 have hd1:high / top<=high:=Int.ediv_le_self _ (by omega)
 rw [Ab (x:=high / top) (by omega) (by omega)]
 obtain ⟨q,hq⟩:∃ q:Nat,min (high / top) 9999=(q:Int):=⟨(min (high / top) 9999).toNat,by omega⟩
 have hql:q<10000:=by omega
 have hqr:R / B<=q:=by
  have h1:(((R / B:Nat):Int))*top<=high:=by
   refine B67 vw vb lw lb (Fk M) (Int.natCast_nonneg _) ?_;have:=Nat.div_mul_le_self R B;rw [<- XW];omega
  have h2:((R / B:Nat):Int)<=high / top:=by rw [Int.le_ediv_iff_mul_le htop0];exact h1
  have h3:R / B<10000:=by rw [KT hB];omega
  omega
 rw [hq]
 obtain ⟨w1, c1, r1, r2, r3, r4, r5⟩ := Anp (n := n) (N := M + 2) (b := dg B) (pre := pre) (post := post) hb hbN hN (q := (q : Int)) (by omega) (T := (R : Int) - q * B) (k0 := fun z_5 z_6 z_7 z_8 z_9 z_10 z_11 => (
                       Hk n n z_5 z_6 z_7 z_8 z_9 z_10 z_11
                        (λz_20 z_21=>(
                         some (z_20,z_21))))) n 0 0 w hw hwl (by omega) (by omega) (by omega) (by rw [ZP,Bd,hv,Int.pow_zero,Int.one_mul,Int.zero_sub,Int.sub_eq_add_neg]) (by omega)
 obtain ⟨w2,s1,s2,s3,s4⟩:=Ajz (n:=n) (N:=M+2) (R:=R) (B:=B) (pre:=pre) (post:=post) hB hbN hN (by omega) (k0:=λz_20 z_21=>(some (z_20,z_21))) n q c1 w1 r1 r2 r3 r4 hqr hql (by omega)
 refine ⟨w2,s1,s2,s3,?_⟩;rw [hbN] at r5 s4;have r5:Fm n n pre.length (M+3) (dg B) ((M+2:Nat):Int) (q:Int) 0 ((M+3:Nat):Int) 0 (pre++w++post) _=_:=r5;rw [r5];exact s4

theorem B5v (y b:Nat):Int.tdiv (y:Int) (b:Int)=((y / b:Nat):Int):=by
 rw [YJ (by omega),Int.natCast_ediv]

theorem B5u (y b:Nat):Int.tmod (y:Int) (b:Int)=((y % b:Nat):Int):=by
 rw [JJ (by omega),Int.natCast_emod]

theorem Aho {o:List Int} {k i:Nat} {x:Int} (h:∀ i,i<k+1->o.getD i 0=0) (hi:i<k):(o.set k x).getD i 0=0:=by
 rw [QJ,Qao (by omega),<- QJ]
 exact h i (by omega)

theorem Ab7 {Q B R x q r y:Nat} (hy:x+10000*R=y) (hqr:B*q+r=y) {V:Int} (hV:(Q:Int)*B+R=V):((10000*Q+q:Nat):Int)*B+r=x+10000*V:=by
 have:(B:Int)*q+r=x+10000*R:=by
  rw [<- Aak,hy,<- hqr,JD,XW]
 rw [A3f,<- hV];grind

theorem Aob {α:Type} {n A B:Nat} (hB:0<B) (hB1:B<10000) (hlA:(dg A).length<=1099511627000) {k0:Int->List Int->Option α} :
  ∀ (k Q R:Nat) (o:List Int),k<=(dg A).length->R<B->o.length=(dg A).length->Lm o->(∀ i,i<k->o.getD i 0=0)->vl o=10000 ^ k*(Q:Int)->(Q:Int)*B+R=vl ((dg A).drop k) ->
  ∃ o',Lm o'/\o'.length=(dg A).length/\vl o'=((A / B:Nat):Int)/\Jg n (dg A) k (dg A) [(B:Int)] (R:Int) o k0=k0 ((A % B:Nat):Int) o'
 | 0,Q,R,o,h2,h3,h4,h5,h6,h7,h8=>by
  rw [Arp];rw [ZP,Bd] at h8
  have h8:Q*B+R=A:=by
   have:((Q*B+R:Nat):Int)=A:=by rw [JD,XW];exact h8
   omega
  have h9:A / B=Q:=by rw [<- h8,Nat.add_comm,Qak _ _ hB,KZ h3,YK]
  have h10:A % B=R:=by rw [<- h8,JK,KL h3]
  exact ⟨o,h5,h4,by rw [h7,h9];simp,by rw [h10]⟩
 | k+1,Q,R,o,h2,h3,h4,h5,h6,h7,h8=>by
  rw [Arn];unfold A1e;dsimp only;have hg:=(D4 A).get k
  obtain ⟨x,hx⟩:∃ x:Nat,(dg A).getD k 0=(x:Int):=⟨((dg A).getD k 0).toNat,by omega⟩
  have hRx:vl ((dg A).drop k)=(x:Int)+10000*vl ((dg A).drop (k+1)):=by
   rw [M6 (by omega),hx]
  simp only [QQ]
  rw [A3 (by simp;try omega),A3 (by simp;omega),A3 (by simp;try omega),A3 (by simp;omega),A3 (by simp;try omega),A3 (by simp;try omega),A3 (by simp),hx]
  rw [Ab (x:=(R:Int)*10000) (by omega) (by omega),Ab (x:=(R:Int)*10000+(x:Int)) (by omega) (by omega),show (R:Int)*10000+(x:Int)=((x+10000*R:Nat):Int) by omega]
  have e0:([(B:Int)]).getD 0 0=(B:Int):=rfl;rw [e0,B5v,B5u]
  have hq:(x+10000*R) / B<10000:=by
   rw [KT hB];omega
  have hqr:=JU (x+10000*R) B;have hqm:=KJ (x+10000*R) hB;generalize (x+10000*R) / B=q at *;generalize (x+10000*R) % B=r at *
  rw [Ab (x:=(q:Int)) (by omega) (by omega)]
  refine Aob hB hB1 hlA k (10000*Q+q) r _ (by omega) hqm (by simpa using h4) (h5.set _ (by omega)) (λi hi=>Aho h6 hi) ?_ ?_
  . rw [K9 _ (by omega),h7,h6 k (by omega),Bu,A3f]
    generalize (10000:Int) ^ k=P;grind
  . rw [hRx,<- h8];exact Ab7 rfl hqr rfl

theorem Ai1 {α:Type} {n A B M:Nat} (hM:(dg B).length=M+2) (hla:(dg B).length<=(dg A).length) (hlA:(dg A).length<=1099511627000) (hn:(dg A).length+10040<=n) {k0:List Int->List Int->Option α} :
  ∀ (k m Q R:Nat) (o u:List Int),k<m->k<=(dg A).length-(M+1)->R<B->o.length=(dg A).length-(M+1)->Lm o->(∀ i,i<k->o.getD i 0=0)->vl o=10000 ^ k*(Q:Int) ->
  Lm u->u.length+k=(dg A).length+1->vl u=(R:Int)->(Q:Int)*B+R=vl ((dg A).drop k) ->
  ∃ o' u',Lm o'/\o'.length=(dg A).length-(M+1)/\vl o'=((A / B:Nat):Int)/\Lm u'/\u'.length=(dg A).length+1/\vl u'=((A % B:Nat):Int) /\
   Si n m ((dg B).length:Int) ((k:Int)-1) (dg B) o ((dg A).take k++u) k0=k0 o' u'
 | _,0,_,_,_,_,h1,_,_,_,_,_,_,_,_,_,_=>by omega
 | 0,m+1,Q,R,o,u,h1,h2,h3,h4,h5,h6,h7,u1,u2,u3,h8=>by
  rw [A4u];unfold Ox;dsimp only
  rw [QI,QH (by omega)]
  rw [ZP,Bd] at h8
  have h8:Q*B+R=A:=by
   have:((Q*B+R:Nat):Int)=A:=by rw [JD,XW];exact h8
   omega
  have hB:0<B:=by omega
  have h9:A / B=Q:=by rw [<- h8,Nat.add_comm,Qak _ _ hB,KZ h3,YK]
  have h10:A % B=R:=by rw [<- h8,JK,KL h3]
  exact ⟨o,u,h5,h4,by rw [h7,h9];simp,u1,by omega,by rw [u3,h10],by simp⟩
 | k+1,m+1,Q,R,o,u,h1,h2,h3,h4,h5,h6,h7,u1,u2,u3,h8=>by
  rw [A4u];unfold Ox;dsimp only
  have hB:0<B:=by omega
  rw [QI,QK (by omega)]
  rw [show (((k+1:Nat):Int)-1)=(k:Int) by omega]
  have hg:=(D4 A).get k
  obtain ⟨x,hx⟩:∃ x:Nat,(dg A).getD k 0=(x:Int):=⟨((dg A).getD k 0).toNat,by omega⟩
  have hRx:vl ((dg A).drop k)=(x:Int)+10000*vl ((dg A).drop (k+1)):=by
   rw [M6 (by omega),hx]
  have htk:(dg A).take (k+1)++u=(dg A).take k++((x:Int)::u):=by
   rw [JA (by omega),ZQ]
   congr 1
   rw [<- hx,QJ,QM (by omega)]
   rfl
  have hL:Lm ((x:Int)::u):=Lm.cons (by omega) u1
  have hv:vl ((x:Int)::u)=((x+10000*R:Nat):Int):=by rw [vl,u3,Aak]
  have hlt:x+10000*R<10000*B:=by omega
  obtain ⟨w,post,hwp,hw,hp,hwl⟩:∃ w post,(x:Int)::u=w++post/\Lm w/\Lm post/\w.length=M+3 :=
   ⟨((x:Int)::u).take (M+3),((x:Int)::u).drop (M+3),(KR _ _).symm,hL.take _,hL.drop _,by rw [YX,ZE];omega⟩
  have hlp:w.length+post.length=u.length+1:=by
   have:=ZN List.length hwp;simpa using this.symm
  have hvp:vl post=0:=by
   have e:=hv;rw [hwp,A33,hwl] at e
   have h10:B<10000 ^ (M+2):=Hg (by omega)
   have h11:((x+10000*R:Nat):Int)<10000 ^ (M+3):=by
    rw [Bu,<- pwc];omega
   have h12:=Bh hw;have h13:=Bh hp;rcases Int.lt_or_eq_of_le h13 with h | h
   . exfalso
     have h14:(10000:Int) ^ (M+3)*1<=10000 ^ (M+3)*vl post:=XD (by omega) (by have:=Fk (M+3);omega)
     generalize (10000:Int) ^ (M+3)*vl post=z at *;generalize (10000:Int) ^ (M+3)=P at *;omega
   . exact h.symm
  have hvw:vl w=((x+10000*R:Nat):Int):=by
   rw [<- hv,hwp,A33,hvp];simp
  rw [htk,hwp,<- ZQ]
  have hpl:((dg A).take k).length=k:=by rw [YX];omega
  obtain ⟨w',q1,q2,q3,q4⟩:=Awf (n:=n) (pre:=(dg A).take k) (post:=post) hM (by omega) (by omega) hw hwl hvw hlt
  rw [hpl] at q4
  rw [Ab (x:=(k:Int)+((dg B).length:Int)) (by omega) (by omega),Ab (x:=(k:Int)+((dg B).length:Int)+1) (by omega) (by omega)]
  rw [A3 (by simp only [QF,QP,YQ,hpl];omega)]
  rw [show ((k:Int)+((dg B).length:Int)+1).toNat-(k:Int).toNat=M+3 by omega]
  simp only [QQ];rw [q4,A1];dsimp only;have hqm:=KJ (x+10000*R) hB;have hqr:=JU (x+10000*R) B
  have hq:(x+10000*R) / B<10000:=by
   rw [KT hB];omega
  generalize (x+10000*R) / B=q at *;generalize (x+10000*R) % B=r at *
  rw [A3 (by simp [hwl,q2]),A3 (by simp;try omega),A3 (by simp;try omega),Ab (x:=(k:Int)-1) (by omega) (by omega),ZQ]
  refine Ai1 hM hla hlA hn k m (10000*Q+q) r _ _ (by omega) (by omega) hqm (by simpa using h4) (h5.set _ (by omega)) (λi hi=>Aho h6 hi) ?_ (q1.app hp) ?_ ?_ ?_
  . rw [K9 _ (by omega),h7,h6 k (by omega),Bu,A3f]
    generalize (10000:Int) ^ k=P;grind
  . rw [YQ];omega
  . rw [A33,hvp,q3];simp
  . rw [hRx,<- h8];exact Ab7 rfl hqr rfl

theorem Eb (n:Nat) {l:List Int} (h:l.length<=17592186044416):f145 n l=some l:=by
 unfold f145
 cases l with
 | nil=>rfl
 | cons x r =>
  unfold Ams
  rw [XH,QH (by simp),A3 (by rfl),A3 (by simp only [QP];simp only [ZE] at *;omega)]

theorem Aex (n:Nat) {l:List Int} (h:l.length<=17592186044416) (h0:l ≠ []):A52 n l=some l:=by
 unfold A52
 cases l with
 | nil=>exact absurd rfl h0
 | cons x r=>rw [A3 (by rfl),A3 (by simp only [QP];simp only [ZE] at *;omega)]

theorem Akt {n L A B:Nat} (hB:0<B) (hA:(dg A).length<=L) (hBl:(dg B).length<=L) (hL:L<=1099511627000) (hn:L+10040<=n):f184 n (dg A) (dg B)=some (dg (A / B),dg (A % B)):=by
 unfold f184
 rw [Aal (by omega),A1,QI]
 by_cases hlt:A<B
 . rw [QK (by rw [K6 (by omega)];omega),Eb n (by omega),A1,KZ hlt,KL hlt,Bw]
 . rw [QH (by
    rcases JY (Nat.le_of_not_lt hlt) with h | h
    . rw [K7 (by omega)];omega
    . rw [Ly (by omega)];omega)]
   have hmn:(dg B).length<=(dg A).length:=Bc (by omega)
   have hb0:0<(dg B).length:=by rw [Cx (by omega)];simp
   rw [XH];by_cases h1:(dg B).length=1
   . rw [QK (by simp [h1])]
     have hB1:B<10000:=by have:=Hg (n:=B) (k:=1) (by omega);simpa using this
     have hBd:dg B=[(B:Int)]:=by
      rw [Cx (by omega),KL hB1,KZ hB1,Bw]
     rw [A3 (by simp;try omega),show f201 n (dg A)=some (dg A) from rfl,A1,Aro,A3 (by simp;try omega),hBd]
     simp only [QQ]
     obtain ⟨o, q1, q2, q3, q4⟩ := Aob (n := n) (A := A) hB hB1 (by omega) (k0 := fun z_4 z_5 => (
           ob (f185 n z_5) λr_6 =>
           ob (f160 n z_4) λr_7 =>
           some (r_6,r_7))) (dg A).length 0 0 (List.replicate (dg A).length 0) (QZ _) hB (by simp) (Lm.rep _) (λi hi=>by simp [QJ,XO,hi]) (by rw [Uk];simp) (by simp [vl])
     have q4:Jg n (dg A) (dg A).length (dg A) [(B:Int)] 0 _ _=_:=q4;have hm:=KJ A hB
     rw [q4,Qb q1 (by omega) (by omega),A1,Qh (by omega) (by omega),A1,q3]
     rfl
   . rw [QH (by simp;omega)]
     obtain ⟨M,hM⟩:∃ M,(dg B).length=M+2:=⟨(dg B).length-2,by omega⟩
     rw [Aex n (by omega) (XT.1 (by omega)),A1,A3 (by simp;try omega)]
     rw [Ab (x:=((dg A).length:Int)-((dg B).length:Int)) (by omega) (by omega),Ab (x:=((dg A).length:Int)-((dg B).length:Int)+1) (by omega) (by omega),A3 (by simp;try omega)]
     rw [show (((dg A).length:Int)-((dg B).length:Int)+1).toNat=(dg A).length-(M+1) by omega]
     have hR0:=Bh ((D4 A).drop ((dg A).length-(M+1)));obtain ⟨R,hR⟩:∃ R:Nat,vl ((dg A).drop ((dg A).length-(M+1)))=(R:Int):=⟨_,(Int.toNat_of_nonneg hR0).symm⟩
     have hRB:R<B:=by
      have:=Gs ((D4 A).drop ((dg A).length-(M+1)))
      rw [List.length_drop,show (dg A).length-((dg A).length-(M+1))=M+1 by omega,hR] at this
      have h2:=(H0 B).ge (XT.1 (by omega))
      rw [hM,Bd] at h2;have h2:(10000:Int) ^ (M+1)<=B:=h2;generalize (10000:Int) ^ (M+1)=P at *;omega
     obtain ⟨o, u, q1, q2, q3, q4, q5, q6, q7⟩ := Ai1 (n := n) (A := A) (B := B) hM hmn (by omega) (by omega) (k0 := fun z_10 z_11 => (
             ob (f185 n z_10) λr_12 =>
             ob (f185 n z_11) λr_13 =>
             some (r_12,r_13))) ((dg A).length-(M+1)) n 0 R (List.replicate ((dg A).length-(M+1)) 0) ((dg A).drop ((dg A).length-(M+1))++[0]) (by omega) (QZ _) hRB (by simp) (Lm.rep _) (λi hi=>by simp [QJ,XO,hi]) (by rw [Uk];simp) (((D4 A).drop _).app (Lm.cons (by omega) Lm.nil)) (by simp;omega) (by rw [Xc,hR];simp) (by rw [hR];simp)
     rw [<- ZQ,KR] at q7
     rw [show ((dg A).length:Int)-((dg B).length:Int)=(((dg A).length-(M+1):Nat):Int)-1 by omega,q7,Qb q1 (by omega) (by omega),A1,Qb q4 (by omega) (by omega),A1,q3,q6]
     rfl

theorem B2v {α:Type} {n L:Nat} (hL:L<=1099511627000) (hn:L+10040<=n) {k0:List Int->Option α} :
  ∀ (j m a b:Nat),b<2 ^ j->2*j+1<=m->(dg a).length<=L->(dg b).length<=L->Ji n m (dg a) (dg b) k0=k0 (dg (Nat.gcd b a)):=by
 have stop:∀ (m a:Nat),0<m->Ji n m (dg a) (dg 0) k0=k0 (dg (Nat.gcd 0 a)):=λm a hm=>by
  obtain ⟨m,rfl⟩:∃ m',m=m'+1:=⟨m-1,by omega⟩
  rw [A99,Qai,Bw];rfl
 have step:∀ (m a b:Nat),0<b->(dg a).length<=L->(dg b).length<=L->Ji n (m+1) (dg a) (dg b) k0=Ji n m (dg b) (dg (a % b)) k0:=λm a b hb ha hbl=>by
  rw [A99];unfold A1h
  have:0<(dg b).length:=by rw [Cx (by omega)];simp
  rw [QI,QK (by omega),Akt hb ha hbl hL hn,A1]
 intro j
 induction j with
 | zero =>
  intro m a b h1 h2 h3 h4
  obtain rfl:b=0:=by simpa using h1
  exact stop m a (by omega)
 | succ j ih =>
  intro m a b h1 h2 h3 h4;rcases YR b with rfl | hb
  . exact stop m a (by omega)
  obtain ⟨m,rfl⟩:∃ m',m=m'+2:=⟨m-2,by omega⟩
  have h5:(dg (a % b)).length<=L:=ZF (Bc (Nat.le_of_lt (KJ a hb))) h4;rw [step _ _ _ hb h3 h4,Nat.gcd_rec b a];rcases YR (a % b) with hr | hr
  . rw [hr];exact stop _ _ (by omega)
  have h6:(dg (b % (a % b))).length<=L:=ZF (Bc (Nat.le_of_lt (KJ b hr))) h5;rw [step _ _ _ hr h4 h5,Nat.gcd_rec (a % b) b]
  exact ih m _ _ (Acd hb hr h1) (by omega) h5 h6

theorem Axt {n L a b:Nat} (hL:L<=1099511627000) (hn:28*L+10040<=n) (ha:(dg a).length<=L) (hb:(dg b).length<=L):f183 n (dg a) (dg b)=some (dg (Nat.gcd a b)):=by
 unfold f183
 rw [B2v hL (by omega) (14*L) n a b (Ahr (Hg hb)) (by omega) ha hb,Nat.gcd_comm]

abbrev Rt:=Bool × List Int × List Int

abbrev rt0:Rt:=(false,[],[])

def Sm (x:Rt):Prop:=x.2.1.length<=1048576/\x.2.2.length<=1048576

theorem Sm.get {l:List Rt} (h:∀ x ∈ l,Sm x) (i:Nat):Sm (l.getD i rt0):=by
 rw [QJ]
 cases e:l[i]? with
 | none=>exact ⟨by simp,by simp⟩
 | some x=>exact h x (ZH e)

def Mx (x:Int):Bool:=decide (0<=x/\x<=9999)

def Zd (l:List Int):Bool:=decide (l.length<=40)&&l.all Mx&&(l.isEmpty || decide (0<l.getD (l.length-1) 0))

theorem Aof {l:List Int} (h:Zd l=true):Cn l/\l.length<=40:=by
 unfold Zd at h;simp only [QF,QP,XA,QL,KG] at h;obtain ⟨⟨h1,h2⟩,h3⟩:=h;refine ⟨⟨λx hx=>?_,λhn=>?_⟩,h1⟩
 . have:=h2 x hx;unfold Mx at this;rw [QP] at this;omega
 . rcases h3 with h3 | h3
   . exact absurd h3 hn
   . omega

theorem Yr {α:Type} {l:List α} {p:α->Bool} {i:Nat} (h:i<l.length) (d:α):(l.drop i).all p=(p (l.getD i d)&&(l.drop (i+1)).all p):=by
 rw [XG h,YE,QJ,QM h];rfl

theorem Apv {n:Nat} {a lo hi:Int}:f65 n a lo hi=some (decide (lo<=a/\a<=hi)):=by
 unfold f65;by_cases h:lo<=a <;> simp [h]

theorem A45 {n:Nat} {a lo hi:Int}:f70 n a lo hi=some (decide (lo<=a/\a<=hi)):=by
 unfold f70;by_cases h:lo<=a <;> simp [h]

theorem U8 {n:Nat} {l:List Int} (hl:l.length<=1048576):∀ (m i:Nat),i<=l.length->l.length<i+m->∃ r,Gi n m l (l.length:Int) (i:Int) (λz=>some z) (λ(_:Unit)=>some (-1))=some r/\decide (r>=0) = !(l.drop i).all Mx
 | 0,i,hi,hm=>by omega
 | m+1,i,hi,hm=>by
  rw [Aa0];unfold Ni;dsimp only;rw [QI];by_cases h:i<l.length
  . rw [QK (by omega),A3 (by simp;try omega)]
    simp only [QQ]
    have e:f211 n (l.getD i 0)=some (!Mx (l.getD i 0)):=by
     unfold f211 Mx;rw [QI];generalize l.getD i 0=x;by_cases h1:x<0
     . rw [QK h1,QU (by omega)];rfl
     . rw [QH h1];by_cases h2:x<=9999
       . rw [QU (by omega),ZA (by omega)];rfl
       . rw [ZA (by omega),QU (by omega)];rfl
    rw [e,A1,Yr h 0]
    cases hp:Mx (l.getD i 0) with
    | true =>
     rw [Ab (x:=(i:Int)+1) (by omega) (by omega)]
     simp only [XM,QV,XK]
     exact U8 hl m (i+1) (by omega) (by omega)
    | false =>
     exact ⟨i,rfl,by simp⟩
  . rw [QH (by omega),QX (by omega)]
    exact ⟨-1,rfl,rfl⟩

theorem Zk {n:Nat} {l:List Int} (hl:l.length<=1048576) (hn:1048577<=n):Nk n l ()=some (!l.all Mx):=by
 unfold Nk A0j
 obtain ⟨r,h1,h2⟩:=U8 (n:=n) hl n 0 (by omega) (by omega)
 have h1:Gi n n l (l.length:Int) 0 _ _=_:=h1;rw [h1,A1,h2,ZP]

theorem Ajd {n:Nat} {l:List Int} (hn:1048577<=n):f197 n l=some (Zd l):=by
 unfold f197 Zd;rw [QI];by_cases h:l.length<=40
 . rw [QH (by omega),ZA h,XK,QI]
   cases l with
   | nil=>rw [QH (by simp),Zk (by omega) hn];rfl
   | cons x r =>
    rw [QK (by simp),Ab (x:=((x::r).length:Int)-1) (by omega) (by omega),A3 (by simp;omega),show (((x::r).length:Int)-1).toNat=(x::r).length-1 by omega]
    rw [Zk (by omega) hn,A1,Bool.not_not,XH]
    by_cases hz:(x::r).getD ((x::r).length-1) 0=0
    . rw [QK (by rw [hz];rfl),hz];simp
    . rw [QH (by rw [Qat];exact hz)]
      cases ha:(x::r).all Mx with
      | false=>rfl
      | true =>
       have:Mx ((x::r).getD ((x::r).length-1) 0)=true:=by
        rw [QL] at ha;apply ha
        rw [QJ,QM (by simp)]
        simp only [YG];exact KM _
       unfold Mx at this;rw [QP] at this
       rw [ZA (by omega)]
       simp
 . rw [QK (by omega),QU h];rfl

theorem Aur {α:Type} (l:List α):((l.length:Int)==0)=l.isEmpty:=by
 cases l with
 | nil=>rfl
 | cons x r=>rw [beq_eq_false_iff_ne.2 (by simp;omega)];rfl

def Og (x:Rt):Bool:=Zd x.2.1&&Zd x.2.2 && !x.2.2.isEmpty && !(x.2.1.isEmpty&&x.1)&&decide (Nat.gcd (vl x.2.1).toNat (vl x.2.2).toNat=1)

theorem Ii:dg 1=[1]:=by rw [Cx (by omega),show 1 / 10000=0 from rfl,Bw];rfl

theorem Ati {g:Nat}:(cm (g:Int) ((1:Nat):Int)==0)=decide (g=1):=by
 unfold cm;by_cases h:g=1
 . subst h;rfl
 . rw [QU h];by_cases h2:(g:Int)<(1:Nat)
   . rw [QK h2];rfl
   . rw [QH h2,QH (by omega)];rfl

theorem Az7 {a b:Nat} (ha:(dg a).length<=40) (hb:(dg b).length<=40):(dg (Nat.gcd a b)).length<=40:=by
 rcases YR a with rfl | h
 . rw [Qai];exact hb
 . exact ZF (Bc (Nat.gcd_le_left b h)) ha

theorem B1a {n:Nat} {x:Rt} (hn:1048577<=n):f163 n x=some (Og x):=by
 obtain ⟨s,a,b⟩:=x;unfold f163 Og;dsimp only;rw [Ajd hn,A1,Ajd hn,A1]
 cases ha:Zd a with
 | false=>rfl
 | true =>
  cases hb:Zd b with
  | false=>rfl
  | true =>
   obtain ⟨ca,la⟩:=Aof ha;obtain ⟨cb,lb⟩:=Aof hb;have ea:=A5c ca;have eb:=A5c cb
   have hg:f183 n a b=some (dg (Nat.gcd (vl a).toNat (vl b).toNat)):=by
    conv=>lhs;rw [<- ea,<- eb]
    exact Axt (L:=40) (by omega) (by omega) (by rw [ea];exact la) (by rw [eb];exact lb)
   have hgl:=Az7 (a:=(vl a).toNat) (b:=(vl b).toNat) (by rw [ea];exact la) (by rw [eb];exact lb)
   rw [hg,A1,show f161 n=some [1] from rfl,A1,<- Ii,Aal (by omega),A1,Ati,show f74 n (s,a,b)=some ((a.length:Int)==0) from rfl,A1,Aur,Aur]
   cases b <;> cases a <;> cases s <;> simp

theorem Ua {n:Nat} {l:List Rt} (hl:l.length<=1048576) (hn:1048577<=n):∀ (m i:Nat),i<=l.length->l.length<i+m->∃ r,Gk n m l (l.length:Int) (i:Int) (λz=>some z) (λ(_:Unit)=>some (-1))=some r/\decide (r>=0) = !(l.drop i).all Og
 | 0,i,hi,hm=>by omega
 | m+1,i,hi,hm=>by
  rw [Aa3];unfold Ns;dsimp only;rw [QI];by_cases h:i<l.length
  . rw [QK (by omega),A3 (by simp;try omega)]
    simp only [QQ]
    have e:f162 n (l.getD i rt0)=some (!Og (l.getD i rt0)):=by
     unfold f162;rw [B1a hn,A1]
    rw [e,A1,Yr h rt0]
    cases hp:Og (l.getD i rt0) with
    | true =>
     rw [Ab (x:=(i:Int)+1) (by omega) (by omega)]
     simp only [XM,QV,XK]
     exact Ua hl hn m (i+1) (by omega) (by omega)
    | false=>exact ⟨i,rfl,by simp⟩
  . rw [QH (by omega),QX (by omega)]
    exact ⟨-1,rfl,rfl⟩

theorem Ah6 {n:Nat} {l:List Rt} (hl:l.length<=1048576) (hn:1048577<=n):T6 n l ()=some (!l.all Og):=by
 unfold T6 A1o
 obtain ⟨r,h1,h2⟩:=Ua (n:=n) hl hn n 0 (by omega) (by omega)
 have h1:Gk n n l (l.length:Int) 0 _ _=_:=h1;rw [h1,A1,h2,ZP]

theorem A42 {n:Nat} {l:List Rt} (hl:l.length<=1048576) (hn:1048577<=n):f94 n l=some (if l.all Og=true then 0 else 1):=by
 unfold f94;rw [Ah6 hl hn,A1]
 cases l.all Og <;> rfl

def Ml (l:List Rt):Bool:=decide (1<=l.length/\l.length<=4)&&l.all Og

theorem A7c {n:Nat} {l:List Rt} (hn:1048577<=n):f109 n l=some (Ml l):=by
 unfold f109 Ml;rw [QI,QI];by_cases h:1<=l.length/\l.length<=4
 . rw [QK (by omega),QK (by omega),A42 (by omega) hn,ZA h,A1]
   cases l.all Og <;> rfl
 . rw [QU h];split
   . rw [QH (by omega)];rfl
   . rfl

theorem A9d {n:Nat} {l:List Int} (hl:l.length<=1048576):∀ (m i:Nat),i<=l.length->l.length<i+m->∃ c,Qd n m 4096 l (l.length:Int) (i:Int) (λz=>some z) (λ(_:Unit)=>some 0)=some c/\((c=0 /\ ∀ x ∈ l.drop i,x<=4096) \/ (c=2 /\ ∃ x ∈ l,4096<x))
 | 0,i,hi,hm=>by omega
 | m+1,i,hi,hm=>by
  rw [Asc];unfold A23;dsimp only;rw [QI];by_cases h:i<l.length
  . rw [QK (by omega),A3 (by simp;try omega)]
    simp only [QQ];rw [QI];by_cases hx:4096<l.getD i 0
    . rw [QK hx];refine ⟨2,rfl,.inr ⟨rfl,l.getD i 0,?_,hx⟩⟩;rw [QJ,QM h];exact KM h
    . rw [QH hx,Ab (x:=(i:Int)+1) (by omega) (by omega)]
      obtain ⟨c,h1,h2⟩:=A9d (n:=n) hl m (i+1) (by omega) (by omega)
      refine ⟨c,h1,h2.imp (λ⟨e,h3⟩=>⟨e,λx hx'=>?_⟩) (λh=>h)⟩;rw [XG h] at hx';rcases QT.1 hx' with rfl | hx'
      . rw [QJ,QM h] at hx;exact Int.not_lt.1 hx
      . exact h3 x hx'
  . rw [QH (by omega)]
    refine ⟨0,rfl,.inl ⟨rfl,λx hx=>?_⟩⟩
    rw [QX (by omega)] at hx
    cases hx

theorem Acl {α:Type} {n:Nat} {L:List (List Rt)} (hl:L.length<=1048576) {k0:List Int->Option α}:∀ (m i:Nat) (o:List Int),o.length<=i->i<=L.length->L.length<i+m->Vf n m L (L.length:Int) (i:Int) o k0=k0 (o++(L.drop i).map λv=>(v.length:Int))
 | 0,i,o,ho,hi,hm=>by omega
 | m+1,i,o,ho,hi,hm=>by
  rw [Avc];unfold A6e;dsimp only;rw [QI];by_cases h:i<L.length
  . rw [QK (by omega),A3 (by simp;try omega),A3 (by simp only [QP];omega)]
    simp only [QQ]
    rw [Ab (x:=(i:Int)+1) (by omega) (by omega),show (i:Int)+1=((i+1:Nat):Int) from rfl,Acl hl m (i+1) _ (by simp;omega) (by omega) (by omega),XG h,QJ,QM h,ZQ]
    rfl
  . rw [QH (by omega),QX (by omega)]
    simp

theorem Ape {n:Nat} {L:List (List Rt)} (hl:L.length<=1048576) (hn:1048577<=n):∃ c,f98 n L=some c/\((c=0 /\ ∀ v ∈ L,v.length<=4096) \/ (c=2 /\ ∃ v ∈ L,4096<v.length)):=by
 unfold f98
 have h1:=Acl (n:=n) (L:=L) hl (k0:=λz_1=>(
   ob (f167 n 4096 z_1) λr_2 =>
   some r_2)) n 0 [] (by simp) (by omega) (by omega)
 have h1:Vf n n L (L.length:Int) 0 [] _=_:=h1;rw [h1,ZP,JQ];unfold f167
 obtain ⟨c,h2,h3⟩:=A9d (n:=n) (l:=L.map λv=>(v.length:Int)) (by simpa using hl) n 0 (by omega) (by simp;omega)
 have h2:Qd n n 4096 _ _ 0 _ _=_:=h2
 refine ⟨c,by rw [h2,A1],h3.imp (λ⟨e,h⟩=>⟨e,λv hv=>by have:=h _ (by rw [ZP];exact ZL.2 ⟨v,hv,rfl⟩);omega⟩) λ⟨e,x,hx,hx'⟩=>⟨e,?_⟩⟩
 obtain ⟨v,hv,rfl⟩:=ZL.1 hx
 exact ⟨v,hv,by omega⟩

theorem A8i {α:Type} {n:Nat} {L:List (List Rt)} (hl:L.length<=1048576) (hn:1048577<=n) {k0:Int->Option α} {k1:List (List Rt)->Option α}:∀ (m i:Nat),i<=L.length->L.length<i+m->Vi n m L L (L.length:Int) (i:Int) k0 k1=if (L.drop i).all Ml=true then k1 L else k0 1
 | 0,i,hi,hm=>by omega
 | m+1,i,hi,hm=>by
  rw [Avf];unfold A6h;dsimp only;rw [QI];by_cases h:i<L.length
  . rw [QK (by omega),A3 (by simp;try omega)]
    simp only [QQ];rw [A7c hn,A1,Yr h []]
    cases hp:Ml (L.getD i []) with
    | true =>
     rw [Ab (x:=(i:Int)+1) (by omega) (by omega)]
     simp only [XM,QV,XK]
     exact A8i hl hn m (i+1) (by omega) (by omega)
    | false=>simp
  . rw [QH (by omega),QX (by omega)]
    rfl

theorem A43 {α:Type} {n:Nat} {L:List (List Rt)} (hl:L.length<=1048576) {k0:Int->Option α} {k1:Unit->Option α}:∀ (m i:Nat),i<=L.length->L.length<i+m->Ma n m L L (L.length:Int) (i:Int) k0 k1=if ((L.drop i).all λv=>v.length==(L.getD 0 []).length)=true then k1 () else k0 8
 | 0,i,hi,hm=>by omega
 | m+1,i,hi,hm=>by
  rw [Apj];unfold A08;dsimp only;rw [QI];by_cases h:i<L.length
  . rw [QK (by omega),A3 (by simp;try omega),A3 (by simp only [QP];omega)]
    simp only [QQ];rw [Yr h []];by_cases hp:(L.getD i []).length=(L.getD 0 []).length
    . rw [hp,Ab (x:=(i:Int)+1) (by omega) (by omega),KC,QV,BEq.rfl,XK]
      exact A43 hl m (i+1) (by omega) (by omega)
    . rw [show (((L.getD i []).length:Int) != ((L.getD 0 []).length:Int))=true by rw [bne_iff_ne];omega,show ((L.getD i []).length==(L.getD 0 []).length)=false by rw [beq_eq_false_iff_ne];exact hp]
      simp
  . rw [QH (by omega),QX (by omega)]
    rfl

theorem B34 {n:Nat} {L:List (List Rt)} (hl:L.length<=1048576) (hn:1048577<=n):∃ c,f93 n L=some c/\(c==0)=(L.all Ml&&L.all λv=>v.length==(L.getD 0 []).length):=by
 unfold f93;obtain ⟨c,h1,h2⟩:=Ape hl hn;rw [h1,A1];rcases h2 with ⟨rfl,_⟩ | ⟨rfl,v,hv,hlv⟩
 . rw [KC,QV]
   have h5:=A8i (n:=n) (L:=L) hl hn (k0:=λz_3=>some z_3) (k1:=λz_4=>(
     Ma n n z_4 z_4 (z_4.length:Int) 0
      (λz_5=>(
       some z_5))
      (λ(_:Unit)=>(
       some 0)))) n 0 (by omega) (by omega)
   have h5:Vi n n L L (L.length:Int) 0 _ _=_:=h5;rw [h5,ZP]
   cases L.all Ml with
   | false=>exact ⟨1,rfl,rfl⟩
   | true =>
    have h6:=A43 (n:=n) (L:=L) hl (k0:=λz_5=>some z_5) (k1:=λ(_:Unit)=>some 0) n 0 (by omega) (by omega)
    have h6:Ma n n L L (L.length:Int) 0 _ _=_:=h6;rw [QK rfl,h6,ZP]
    cases L.all λv=>v.length==(L.getD 0 []).length with
    | false=>exact ⟨8,rfl,rfl⟩
    | true=>exact ⟨0,rfl,rfl⟩
 . refine ⟨2,rfl,?_⟩
   have:L.all Ml=false:=by
    rw [List.all_eq_false];refine ⟨v,hv,?_⟩;unfold Ml
    rw [QU (by omega)]
    simp
   rw [this];rfl

abbrev Nod:=Int × Int × Int × Int

def Dg (op:Int):Int:=if op=3 \/ op=4 \/ op=5 \/ op=6 then 2 else if op=7 \/ op=8 then 1 else 0

theorem Y4 {n:Nat} {x:Nod}:f214 n x=some (Dg x.1):=by
 unfold f214 Dg;simp only [XH,Qat];grind

def Kx (x:Nod):Prop:=if x.1=1 then 0<=x.2.2.2/\x.2.2.2<=999999999 else if x.1=2 then 0<=x.2.2.2/\x.2.2.2<=3 else if x.1=8 then 0<=x.2.2.2/\x.2.2.2<=8 else x.2.2.2=0

instance (x:Nod):Decidable (Kx x):=by unfold Kx;infer_instance

theorem Azj {n:Nat} {x:Nod}:f231 n x=some (decide (Kx x)):=by
 unfold f231 Kx;simp only [XH,Qat,A45,A1];grind

theorem Azh {n:Nat} {h:Bool} {k i:Int} (hi:0<=i/\i<1152921504606846976):f232 n h k i=some (decide (if h=true then 0<=k/\k<=i-1 else k=0)):=by
 unfold f232
 simp only [A45,A1,Ab (x:=i-1) (by omega) (by omega),XH]
 cases h <;> grind

def Dd (x:Nod) (i:Int):Prop:=(1<=x.1/\x.1<=8)/\Kx x/\(if Dg x.1>0 then 0<=x.2.1/\x.2.1<=i-1 else x.2.1=0)/\(if Dg x.1>1 then 0<=x.2.2.1/\x.2.2.1<=i-1 else x.2.2.1=0)

instance (x:Nod) (i:Int):Decidable (Dd x i):=by unfold Dd;infer_instance

theorem Azs {n:Nat} {x:Nod} {i:Int} (hi:0<=i/\i<1152921504606846976):f225 n x i=some (decide (Dd x i)):=by
 unfold f225 Dd;simp only [A45,Azj,Y4,A1,Azh hi,XH,QP];grind

def Xg (x:Nod) (i:Int):Prop:=(1<=x.1/\x.1<=8)/\(if 3<=x.1/\x.1<=6 then (0<=x.2.1/\x.2.1<=i-1)/\(x.2.1+1<=x.2.2.1/\x.2.2.1<=i-1)/\x.2.2.2=0
 else if x.1=7 \/ x.1=8 then x.2.1=i-1/\0<i/\x.2.2.1=0/\0<=x.2.2.2/\x.2.2.2<=(if x.1=8 then 8 else 0)
 else if x.1=2 then x.2.1=0/\x.2.2.1=0/\0<=x.2.2.2/\x.2.2.2<=3 else x.2.1=0/\x.2.2.1=0/\0<=x.2.2.2/\x.2.2.2<=999999999)

instance (x:Nod) (i:Int):Decidable (Xg x i):=by unfold Xg;infer_instance

def okP (bs:List Int) (x:Nod) (i:Int):Prop:=Xg x i/\(3<=x.1/\x.1<=6->x.2.2.1=i-1/\bs.getD x.2.2.1.toNat 0=x.2.1+1)

instance (bs:List Int) (x:Nod) (i:Int):Decidable (okP bs x i):=by unfold okP;infer_instance

def nb (bs:List Int) (x:Nod) (i:Int):Int:=if 3<=x.1/\x.1<=8 then bs.getD x.2.1.toNat 0 else i

def nd (ds:List Int) (x:Nod):Int:=if 3<=x.1/\x.1<=6 then 1+max (ds.getD x.2.1.toNat 0) (ds.getD x.2.2.1.toNat 0) else if x.1=7 \/ x.1=8 then 1+ds.getD x.2.1.toNat 0 else 1

def Hu:List Int->List Int->List Nod->Option (List Int × List Int)
 | bs,ds,[]=>some (bs,ds)
 | bs,ds,x::r=>if okP bs x bs.length then Hu (bs++[nb bs x bs.length]) (ds++[nd ds x]) r else none

structure Tv (bs ds:List Int):Prop where
 len:ds.length=bs.length
 small:bs.length<=1048576
 b:∀ j,j<bs.length->0<=bs.getD j 0/\bs.getD j 0<=j
 d:∀ j,j<ds.length->1<=ds.getD j 0/\ds.getD j 0<=j+1

theorem Mo {a:Int} {k:Nat} (h0:0<=a) (h:a<=(k:Int)-1):a.toNat<k:=by omega

theorem Tv.step {bs ds:List Int} (h:Tv bs ds) {x:Nod} (hx:okP bs x bs.length) (hs:bs.length+1<=1048576):Tv (bs++[nb bs x bs.length]) (ds++[nd ds x]):=by
 obtain ⟨h1,h2,h3,h4⟩:=h;have hn:=hx.1;unfold Xg at hn
 refine ⟨by simp [h1],by simpa using hs,λj hj=>?_,λj hj=>?_⟩
 . simp only [YQ,ZE,XZ] at hj;rcases ZZ j bs.length with hlt | hge
   . rw [Cw hlt];exact h3 j hlt
   . obtain rfl:j=bs.length:=by omega
     rw [H4];unfold nb;split
     . have ha : 0 <= x.2.1 /\ x.2.1 <= (bs.length : Int) - 1 := by
        split at hn
        . omega
        . split at hn
          . omega
          . omega
       have:=h3 _ (Mo ha.1 ha.2);omega
     . omega
 . simp only [YQ,ZE,XZ] at hj;rcases ZZ j ds.length with hlt | hge
   . rw [Cw hlt];exact h4 j hlt
   . obtain rfl:j=ds.length:=by omega
     rw [H4];unfold nd;split
     . rename_i h2';rw [QK h2'] at hn
       have ha:=h4 _ (by rw [h1];exact Mo (k:=bs.length) (a:=x.2.1) (by omega) (by omega))
       have hb:=h4 _ (by rw [h1];exact Mo (k:=bs.length) (a:=x.2.2.1) (by omega) (by omega))
       omega
     . rename_i h2';rw [QH h2'] at hn;split
       . rename_i h3';rw [QK h3'] at hn
         have ha:=h4 _ (by rw [h1];exact Mo (k:=bs.length) (a:=x.2.1) (by omega) (by omega))
         omega
       . omega

theorem Aul {bs ds:List Int} (h:Tv bs ds) {x:Nod}:okP bs x bs.length ↔ Dd x bs.length/\(Dg x.1=1->x.2.1=(bs.length:Int)-1)/\(Dg x.1=2->x.2.2.1=(bs.length:Int)-1/\x.2.1=bs.getD x.2.2.1.toNat 0-1):=by
 obtain ⟨h1,h2,h3,h4⟩:=h;unfold okP Xg Dd Kx Dg;by_cases h2:3<=x.1/\x.1<=6
 . have e:x.1=3 \/ x.1=4 \/ x.1=5 \/ x.1=6:=by omega
   have e1:¬ x.1=1:=by omega
   have e2:¬ x.1=2:=by omega
   have e3:¬ x.1=8:=by omega
   simp only [QK e,QK h2,QH e1,QH e2,QH e3];constructor
   . rintro ⟨⟨ha,hb,hc,hd⟩,hf⟩
     obtain ⟨hf1,hf2⟩:=hf h2
     refine ⟨⟨ha,hd,by rw [QK (by decide)];omega,by rw [QK (by decide)];omega⟩,λh=>absurd h (by decide),λ_=>by omega⟩
   . rintro ⟨⟨ha,hb,hc,hd⟩,_,hf⟩
     obtain ⟨hf1,hf2⟩:=hf trivial
     rw [QK (by decide)] at hc hd
     have:=h3 _ (Mo hd.1 hd.2)
     refine ⟨⟨ha,hc,?_,hb⟩,λ_=>⟨hf1,by omega⟩⟩
     omega
 . have e:¬ (x.1=3 \/ x.1=4 \/ x.1=5 \/ x.1=6):=by omega
   simp only [QH e,QH h2];by_cases h5:x.1=7 \/ x.1=8
   . have e1:¬ x.1=1:=by omega
     have e2:¬ x.1=2:=by omega
     simp only [QK h5,QH e1,QH e2];constructor
     . rintro ⟨⟨ha,hb,hc,hd,hn⟩,_⟩
       refine ⟨⟨ha,?_,by rw [QK (by decide)];omega,by rw [QH (by decide)];exact hd⟩,λ_=>hb,λh=>absurd h (by decide)⟩
       split <;> (split at hn <;> omega)
     . rintro ⟨⟨ha,hb,hc,hd⟩,hf,_⟩
       rw [QK (by decide)] at hc
       rw [QH (by decide)] at hd
       have hf:=hf trivial
       refine ⟨⟨ha,hf,by omega,hd,?_⟩,λh=>absurd h h2⟩
       split at hb <;> split <;> omega
   . have e3:¬ x.1=8:=by omega
     simp only [QH h5,QH e3];constructor
     . rintro ⟨⟨ha,hb⟩,_⟩
       refine ⟨⟨ha,?_,?_,?_⟩,λh=>absurd h (by decide),λh=>absurd h (by decide)⟩
       . have hb1:x.1=1 \/ x.1=2:=by omega
         rcases hb1 with h1' | h1'
         . rw [QH (by omega)] at hb;rw [QK h1'];omega
         . rw [QK h1'] at hb;rw [QH (by omega),QK h1'];omega
       . rw [QH (by decide)];split at hb <;> omega
       . rw [QH (by decide)];split at hb <;> omega
     . rintro ⟨⟨ha,hb,hc,hd⟩,_,_⟩
       rw [QH (by decide)] at hc hd
       refine ⟨⟨ha,?_⟩,λh=>absurd h h2⟩
       have hb1:x.1=1 \/ x.1=2:=by omega
       rcases hb1 with h1' | h1'
       . rw [QK h1'] at hb;rw [QH (by omega)];omega
       . rw [QH (by omega),QK h1'] at hb;rw [QK h1'];omega

theorem Agd {α:Type} {n k:Nat} {e:List Nod} {bs ds:List Int} {f} {k0:Bool->Option α} {k1} (hi:Tv bs ds) (hk:bs.length=k) (hlt:k<e.length) (hN:e.length<=1048576) :
  Nj n e (e.length:Int) (k:Int) bs ds f k0 k1=if okP bs (e.getD k (0,0,0,0)) (bs.length:Nat) then f e (e.length:Int) ((k+1:Nat):Int) (bs++[nb bs (e.getD k (0,0,0,0)) (bs.length:Nat)]) (ds++[nd ds (e.getD k (0,0,0,0))]) else k0 false:=by
 have hp:=Aul hi (x:=e.getD k (0,0,0,0));obtain ⟨h1,h2,h3,h4⟩:=hi;subst hk;unfold Nj;generalize hx:e.getD bs.length (0,0,0,0)=x at hp ⊢
 rw [QI,QK (by omega),A3 (by simp;omega)]
 simp only [QQ,hx,Azs (x:=x) (i:=(bs.length:Int)) (by omega),Y4,A1,Ab (x:=(bs.length:Int)-1) (by omega) (by omega),Ab (x:=(bs.length:Int)+1) (by omega) (by omega)]
 by_cases hpl:Dd x bs.length
 . simp only [hpl,decide_true,XM,QV];have hpl':=hpl;unfold Dd at hpl';by_cases k1':Dg x.1=1
   . have hop:x.1=7 \/ x.1=8:=by unfold Dg at k1';grind
     simp only [k1',beq_self_eq_true,ZS]
     rw [QK (by rw [k1'];decide)] at hpl'
     by_cases ha:x.2.1=(bs.length:Int)-1
     . have hok:okP bs x bs.length:=hp.2 ⟨hpl,λ_=>ha,λh=>by omega⟩
       have hd:=h4 x.2.1.toNat (by omega)
       rw [QK hok]
       have e1:(x.2.1 != (bs.length:Int)-1)=false:=by simp [ha]
       rw [e1,QV,A3 (by simp;omega),A3 (by simp;omega),A3 (by simp;omega),A3 (by simp;omega),A3 (by simp;omega),A3 (by simp;omega),Ab (by omega) (by omega)]
       have e2:nb bs x bs.length=bs.getD x.2.1.toNat 0:=by unfold nb;rw [QK (by omega)]
       have e3:nd ds x=ds.getD x.2.1.toNat 0+1:=by unfold nd;rw [QH (by omega),QK hop];omega
       rw [e2,e3];rfl
     . have hok:¬ okP bs x bs.length:=λh=>ha ((hp.1 h).2.1 k1');rw [QH hok]
       have e1:(x.2.1 != (bs.length:Int)-1)=true:=by simp [ha]
       rw [e1,ZS]
   . have e0:(Dg x.1==1)=false:=by simp [k1']
     rw [e0,QV];by_cases k2':Dg x.1=2
     . have hop:3<=x.1/\x.1<=6:=by unfold Dg at k2';grind
       simp only [k2',beq_self_eq_true,ZS]
       rw [QK (by rw [k2'];decide),QK (by rw [k2'];decide)] at hpl'
       by_cases hb:x.2.2.1=(bs.length:Int)-1
       . have e1:(x.2.2.1 != (bs.length:Int)-1)=false:=by simp [hb]
         have hbb:=h3 x.2.2.1.toNat (by omega)
         rw [e1,QV,A3 (by simp;omega),A3 (by simp;omega),Ab (x:=bs.getD x.2.2.1.toNat 0-1) (by omega) (by omega)]
         by_cases ha:x.2.1=bs.getD x.2.2.1.toNat 0-1
         . have hok:okP bs x bs.length:=hp.2 ⟨hpl,λh=>by omega,λ_=>⟨hb,ha⟩⟩
           have hd:=h4 x.2.1.toNat (by omega)
           have hd':=h4 x.2.2.1.toNat (by omega)
           rw [QK hok]
           have e1:(x.2.1 != bs.getD x.2.2.1.toNat 0-1)=false:=by rw [<- ha];simp
           rw [e1,QV,A3 (by simp;omega),A3 (by simp;omega),A3 (by simp;omega),A3 (by simp;omega),A3 (by simp;omega),A3 (by simp;omega),A3 (by simp;omega),A3 (by simp;omega),Ab (by omega) (by omega)]
           have e2:nb bs x bs.length=bs.getD x.2.1.toNat 0:=by unfold nb;rw [QK (by omega)]
           have e3:nd ds x=max (ds.getD x.2.1.toNat 0) (ds.getD x.2.2.1.toNat 0)+1:=by unfold nd;rw [QK hop];omega
           rw [e2,e3];rfl
         . have hok:¬ okP bs x bs.length:=λh=>ha ((hp.1 h).2.2 k2').2;rw [QH hok]
           have e1:(x.2.1 != bs.getD x.2.2.1.toNat 0-1)=true:=by simp only [bne_iff_ne,ne_eq];exact ha
           rw [e1,ZS]
       . have hok:¬ okP bs x bs.length:=λh=>hb ((hp.1 h).2.2 k2').1;rw [QH hok]
         have e1:(x.2.2.1 != (bs.length:Int)-1)=true:=by simp [hb]
         rw [e1,ZS]
     . have e0:(Dg x.1==2)=false:=by simp [k2']
       rw [e0,QV];have hok:okP bs x bs.length:=hp.2 ⟨hpl,λh=>absurd h k1',λh=>absurd h k2'⟩
       have hop:x.1=1 \/ x.1=2:=by unfold Dg at k1' k2';grind
       rw [QK hok,A3 (by simp;omega),A3 (by simp;omega)]
       have e2:nb bs x bs.length=bs.length:=by unfold nb;rw [QH (by omega)]
       have e3:nd ds x=1:=by unfold nd;rw [QH (by omega),QH (by omega)]
       rw [e2,e3];rfl
 . have hok:¬ okP bs x bs.length:=λh=>hpl (hp.1 h).1;rw [QH hok];simp only [hpl,decide_false,ZV,ZS]

theorem Abe:∀ (r:List Nod) (bs ds bs' ds':List Int),Tv bs ds->bs.length+r.length<=1048576->Hu bs ds r=some (bs',ds')->Tv bs' ds'/\bs'.length=bs.length+r.length/\(∀ j,j<bs.length->bs'.getD j 0=bs.getD j 0)/\(∀ j,j<ds.length->ds'.getD j 0=ds.getD j 0)
 | [],bs,ds,bs',ds',hi,_,h=>by
  simp only [Hu,QC,QG] at h;obtain ⟨rfl,rfl⟩:=h
  exact ⟨hi,by simp,λ_ _=>rfl,λ_ _=>rfl⟩
 | x::r,bs,ds,bs',ds',hi,hl,h=>by
  simp only [Hu] at h;simp only [ZE] at hl;split at h
  . rename_i hok
    obtain ⟨h1,h2,h3,h4⟩:=Abe r _ _ bs' ds' (hi.step hok (by omega)) (by simp;omega) h
    refine ⟨h1,by rw [h2];simp;omega,λj hj=>?_,λj hj=>?_⟩
    . rw [h3 j (by simp;omega),Cw hj]
    . rw [h4 j (by simp;omega),Cw hj]
  . cases h

theorem A3a {α:Type} {n:Nat} {e:List Nod} (hN:e.length<=1048576) {k0:Bool->Option α} {k1:List Int->List Int->Option α}:∀ (r:List Nod) (m:Nat) (bs ds:List Int),Tv bs ds->e.drop bs.length=r->bs.length+r.length=e.length->r.length<m ->
  Y6 n m e (e.length:Int) (bs.length:Int) bs ds k0 k1=match Hu bs ds r with
   | some (bs',ds')=>k1 bs' ds'
   | none=>k0 false
 | [],m+1,bs,ds,hi,hd,hl,hm=>by
  rw [A8z];unfold Nj;simp only [XZ] at hl
  rw [QI,QH (by omega)]
  rfl
 | x::r,m+1,bs,ds,hi,hd,hl,hm=>by
  obtain ⟨hx,hlt,hd'⟩:=Py (d:=(0,0,0,0)) hd;rw [A8z,Agd hi rfl hlt hN,hx];simp only [Hu];by_cases hok:okP bs x bs.length
  . rw [QK hok,QK hok]
    have ih:=A3a hN r m (bs++[nb bs x bs.length]) (ds++[nd ds x]) (hi.step hok (by omega)) (by simpa using hd') (by simp;simp at hl;omega) (by simp at hm;omega) (n:=n) (k0:=k0) (k1:=k1)
    simp only [YQ,ZE,XZ,YK] at ih;exact ih
  . rw [QH hok,QH hok]

theorem B2s:Tv [] []:=⟨rfl,by simp,λj hj=>by simp at hj,λj hj=>by simp at hj⟩

theorem B0e {n:Nat} {e:List Nod} (hN:e.length<=1048576) (hn:1048577<=n):f212 n e=some (match Hu [] [] e with
  | some (bs,ds)=>(bs,ds,true)
  | none=>([],[],false)):=by
 unfold f212
 have:=A3a (n:=n) hN (k0:=λz=>some ([],[],z)) (k1:=λa b=>some (a,b,true)) e n [] [] B2s rfl (by simp) (by omega)
 simp only [XZ] at this;refine Eq.trans this ?_
 cases Hu [] [] e with
 | none=>rfl
 | some p=>rfl

theorem Aby {α:Type} {n:Nat} {l:List Int} (hN:l.length<=1048576) {k0:Int->Option α}:∀ (r:List Int) (m k:Nat) (a:Int),l.drop k=r->k+r.length=l.length->r.length<m->Y5 n m l a (k:Int) k0=k0 (r.foldl max a)
 | [],m+1,k,a,hd,hl,hm=>by
  rw [A8x];unfold S0;simp only [XZ] at hl
  rw [QI,QH (by omega)]
  rfl
 | x::r,m+1,k,a,hd,hl,hm=>by
  obtain ⟨hx,hlt,hd'⟩:=Py (d:=0) hd;rw [A8x];unfold S0
  rw [QI,QK (by omega),A3 (by simp;omega),Ab (by omega) (by omega)]
  simp only [QQ,hx];simp only [ZE] at hl hm
  exact Aby hN r m (k+1) (max a x) hd' (by omega) (by omega)

theorem B0c {n:Nat} {l:List Int} (hN:l.length<=1048576) (hn:1048577<=n) (h0:0<l.length):∃ r,f213 n l=some r/\(r<=12 ↔ ∀ x ∈ l,x<=12):=by
 cases l with
 | nil=>cases h0
 | cons x r =>
  refine ⟨r.foldl max x,?_,?_⟩
  . unfold f213
    rw [QI,QH (by simp only [ZE];omega),A3 (by simp)]
    have:=Aby (n:=n) (k0:=λz=>some z) hN r n 1 x rfl (by simp only [ZE];omega) (by simp at hN;omega)
    exact this
  . rw [Acf];simp

def Lv (e:List Nod):Prop:=(1<=e.length/\e.length<=60) /\ ∃ bs ds,Hu [] [] e=some (bs,ds)/\bs.getD (e.length-1) 0=0 /\ ∀ x ∈ ds,x<=12

open Classical in
theorem B0l {n:Nat} {e:List Nod} (hN:e.length<=1048576) (hn:1048577<=n):f198 n e=some (decide (Lv e)):=by
 unfold f198;rw [A45,A1];by_cases h1:(1:Int)<=(e.length:Int)/\(e.length:Int)<=60
 . simp only [h1,and_self,decide_true,XM,QV];rw [B0e hN hn,A1]
   cases hr:Hu [] [] e with
   | none =>
    have:¬ Lv e:=λ⟨_,_,_,h,_⟩=>by rw [hr] at h;cases h
    simp [this]
   | some p =>
    obtain ⟨bs,ds⟩:=p
    obtain ⟨hi,hl,_,_⟩:=Abe e [] [] bs ds B2s (by simpa using hN) hr
    simp only [XZ,YK] at hl;simp only [ZS]
    rw [Ab (x:=(e.length:Int)-1) (by omega) (by omega),A3 (by simp;omega)]
    have et:((e.length:Int)-1).toNat=e.length-1:=by omega
    rw [et];by_cases hb:bs.getD (e.length-1) 0=0
    . obtain ⟨r,hr1,hr2⟩:=B0c (n:=n) (l:=ds) (by rw [hi.len];omega) hn (by rw [hi.len];omega)
      rw [hr1,A1]
      have e1:(bs.getD (e.length-1) 0==0)=true:=by rw [hb];rfl
      rw [e1,ZS];congr 1;rw [decide_eq_decide,hr2];constructor
      . intro h;exact ⟨by omega,bs,ds,hr,hb,h⟩
      . rintro ⟨_,bs',ds',h,_,h'⟩
        rw [hr] at h;simp only [QC,QG] at h;obtain ⟨rfl,rfl⟩:=h;exact h'
    . have e1:(bs.getD (e.length-1) 0==0)=false:=by simp only [beq_eq_false_iff_ne,ne_eq];exact hb
      have:¬ Lv e:=λ⟨_,bs',ds',h,hb',_⟩=>by
       rw [hr] at h;simp only [QC,QG] at h;obtain ⟨rfl,rfl⟩:=h;exact hb hb'
      rw [e1,QV];simp [this]
 . have:¬ Lv e:=λ⟨h,_⟩=>h1 (by omega)
   simp only [h1,decide_false,ZV,ZS,this]

def Ran (e:List Nod) (bs:List Int):Prop:=∀ j,j<bs.length->okP (bs.take j) (e.getD j (0,0,0,0)) j/\bs.getD j 0=nb (bs.take j) (e.getD j (0,0,0,0)) j

theorem Ran.step {e:List Nod} {bs:List Int} (h:Ran e bs) {x:Nod} (hx:e.getD bs.length (0,0,0,0)=x) (hok:okP bs x bs.length):Ran e (bs++[nb bs x bs.length]):=by
 intro j hj;simp only [YQ,ZE,XZ] at hj;rcases ZZ j bs.length with hlt | hge
 . rw [Cw hlt,List.take_append_of_le_length (by omega)]
   exact h j hlt
 . obtain rfl:j=bs.length:=by omega
   rw [H4,List.take_left',hx]
   . exact ⟨hok,rfl⟩
   . rfl

theorem Af8 {m:Nat}:(((dg m).length:Int)==0)=decide (m=0):=by
 rw [Aur];by_cases h:m=0
 . subst h;rw [Bw];rfl
 . rw [QU h,Cx h];rfl

theorem Atd {m:Nat}:decide (((dg m).length:Int)>0)=decide (m ≠ 0):=by
 by_cases h:m=0
 . subst h;rw [Bw];rfl
 . rw [Cx h];simp [h]

def Jp (s:Int) (l:List Nod):Int:=l.foldl (λs x=>if x.1=2 then max s (W (x.2.2.2+1)) else s) s

abbrev nd0:Nod:=(0,0,0,0)

theorem Aww {l:List Nod} {i:Nat} (h:i<l.length) (s:Int):Jp s (l.drop i)=Jp (if (l.getD i nd0).1=2 then max s (W ((l.getD i nd0).2.2.2+1)) else s) (l.drop (i+1)):=by
 rw [XG h,QJ,QM h];rfl

theorem Wp {α:Type} {n:Nat} {l:List Nod} (hl:l.length<=1048576) {k0:Int->Option α}:∀ (m i:Nat) (s:Int),i<=l.length->l.length<i+m->Yh n m s l (l.length:Int) (i:Int) k0=k0 (Jp s (l.drop i))
 | 0,i,s,hi,hm=>by omega
 | m+1,i,s,hi,hm=>by
  rw [Ask];unfold A29;dsimp only;rw [QI];by_cases h:i<l.length
  . rw [QK (by omega),A3 (by simp;try omega),Aww h]
    simp only [QQ]
    rw [XH,Ab (x:=(i:Int)+1) (by omega) (by omega)]
    by_cases hv:(l.getD i nd0).1=2
    . rw [QK (by rw [Qat];exact hv),QK hv]
      exact Wp hl m (i+1) _ (by omega) (by omega)
    . rw [QH (by rw [Qat];exact hv),QH hv]
      exact Wp hl m (i+1) _ (by omega) (by omega)
  . rw [QH (by omega),QX (by omega)]
    rfl

theorem B17 {n:Nat} {l:List Nod} (hl:l.length<=1048576) (hn:1048577<=n):f165 n l=some (Jp 0 l):=by
 unfold f165
 have:=Wp (n:=n) hl (k0:=λz_2=>some z_2) n 0 0 (by omega) (by omega)
 simpa using this

theorem Au0 {α:Type} {n:Nat} {a b:List Int} (ha:Cn a) (hb:Cn b) (hN:a.length<=1099511627776) (hNb:b.length<=1099511627776) {k0:List Int->Option α}:∀ (m i:Nat) (c:Int) (o:List Int),o.length=i->Lm o->0<=c->c<=1 ->
  vl o+10000 ^ i*c=vl (a.take i)+vl (b.take i)->(i<=max a.length b.length \/ (i=max a.length b.length+1/\c=0/\o.getD (i-1) 0 ≠ 0))->max a.length b.length+2<=i+m ->
  Me n m a b c (i:Int) o k0=k0 (dg (vl a+vl b).toNat)
 | 0,i,c,o,ho,hlo,hc0,hc1,hv,hq,hm=>by omega
 | m+1,i,c,o,ho,hlo,hc0,hc1,hv,hq,hm=>by
  rw [As8];unfold A20;dsimp only
  have fin:a.length<=i->b.length<=i->c=0->o=dg (vl a+vl b).toNat:=λh1 h2 h3=>by
   rw [Pp a h1,Pp b h2,h3] at hv
   have hv':vl o=vl a+vl b:=by simpa using hv
   have:Cn o:=Cn.of_ge hlo λhn=>by
    have hl:0<o.length:=XT.2 hn;rcases hq with hq | ⟨hq1,_,hq3⟩
    . have hmx:i=max a.length b.length:=by omega
      rw [ho,hv'];rcases Nat.le_total a.length b.length with hab | hab
      . have h4:=hb.ge (XT.1 (by omega))
        have h5:=Bh ha.1
        rw [show i-1=b.length-1 by omega];omega
      . have h4:=ha.ge (XT.1 (by omega))
        have h5:=Bh hb.1
        rw [show i-1=a.length-1 by omega];omega
    . have h1:=Bj o (o.length-1)
      rw [show o.length-1+1=o.length by omega,YC] at h1
      have h2:=Bh (hlo.take (o.length-1));have h3:=hlo.get (o.length-1);rw [<- ho] at hq3;have h4:=Fk (o.length-1)
      have h5:(10000:Int) ^ (o.length-1)*1<=10000 ^ (o.length-1)*o.getD (o.length-1) 0:=XD (by omega) (by omega)
      omega
   rw [<- hv',A5c this]
  have go:∀ (y:Int),y=c+a.getD i 0+b.getD i 0->(i<max a.length b.length \/ (i=max a.length b.length/\0<c))->Me n m a b (W (Int.tdiv y 10000)) (W ((i:Int)+1)) (o++[Int.tmod y 10000]) k0=k0 (dg (vl a+vl b).toNat):=by
   intro y hy hi;have h1:=ha.1.get i;have h2:=hb.1.get i
   rw [tdv (by omega),tmd (by omega),Ab (by omega) (by omega),Ab (by omega) (by omega)]
   have ta:=Bj a i;have tb:=Bj b i
   have hyy:y=10000*(y / 10000)+y % 10000:=by omega
   refine Au0 (n:=n) ha hb hN hNb m (i+1) _ _ (by simp [ho]) (hlo.app (Lm.cons (by omega) Lm.nil)) (by omega) (by omega) ?_ ?_ (by omega)
   . rw [Xc,ho,ta,tb,Bu];generalize y / 10000=q at *;generalize y % 10000=r at *;generalize (10000:Int) ^ i=P at *;grind
   . rcases hi with hi | ⟨hi,hc⟩
     . exact .inl (by omega)
     . right
       have e1:a.getD i 0=0:=C4 (by omega)
       have e2:b.getD i 0=0:=C4 (by omega)
       have e3:y=1:=by omega
       subst e3
       refine ⟨by omega,by rfl,?_⟩
       rw [Nat.add_sub_cancel,<- ho,QJ];simp
  have hcases:(i<a.length \/ i<b.length \/ 0<c)->(i<max a.length b.length \/ (i=max a.length b.length/\0<c)):=λh=>by
   rcases h with h | h | h
   . exact .inl (by omega)
   . exact .inl (by omega)
   . rcases hq with hq | ⟨_,h0,_⟩
     . omega
     . omega
  have ho2:(decide ((o.length+1)*8<=140737488355328))=true:=by
   rw [QP];rcases hq with hq | ⟨hq,_⟩ <;> omega
  have h1:=ha.1.get i;have h2:=hb.1.get i;by_cases hA:i<a.length
  . have dA:decide ((i:Int)<(a.length:Int))=true:=by rw [QP];omega
    have dM:decide ((i:Int)<max (a.length:Int) (b.length:Int))=true:=by rw [QP];omega
    simp only [dM,dA,ZS,QQ]
    rw [A3 (by simp;try omega),Ab (x:=c+a.getD i 0) (by omega) (by omega)]
    by_cases hB:i<b.length
    . have dB:decide ((i:Int)<(b.length:Int))=true:=by rw [QP];omega
      simp only [dB,ZS]
      rw [A3 (by simp;try omega),A3 ho2,Ab (x:=c+a.getD i 0+b.getD i 0) (by omega) (by omega)]
      exact go _ rfl (hcases (.inl hA))
    . have dB:decide ((i:Int)<(b.length:Int))=false:=by rw [ZW];omega
      simp only [dB,QV];rw [A3 ho2]
      exact go _ (by rw [C4 (l:=b) (by omega)];omega) (hcases (.inl hA))
  . have dA:decide ((i:Int)<(a.length:Int))=false:=by rw [ZW];omega
    by_cases hB:i<b.length
    . have dB:decide ((i:Int)<(b.length:Int))=true:=by rw [QP];omega
      have dM:decide ((i:Int)<max (a.length:Int) (b.length:Int))=true:=by rw [QP];omega
      simp only [dM,dA,dB,ZS,QV,QQ]
      rw [A3 (by simp;try omega),A3 ho2,Ab (x:=c+b.getD i 0) (by omega) (by omega)]
      exact go _ (by rw [C4 (l:=a) (by omega)];omega) (hcases (.inr (.inl hB)))
    . have dB:decide ((i:Int)<(b.length:Int))=false:=by rw [ZW];omega
      have dM:decide ((i:Int)<max (a.length:Int) (b.length:Int))=false:=by rw [ZW];omega
      simp only [dM,dA,dB,QV];rw [QI];by_cases hc:0<c
      . rw [QK (by omega),A3 ho2]
        exact go _ (by rw [C4 (l:=a) (by omega),C4 (l:=b) (by omega)];omega) (hcases (.inr (.inr hc)))
      . rw [QH (by omega),fin (by omega) (by omega) (by omega)]

theorem B66 {n a b:Nat} (h:(dg a).length<=1099511627776) (h':(dg b).length<=1099511627776) (hn:max (dg a).length (dg b).length+2<=n):f169 n (dg a) (dg b)=some (dg (a+b)):=by
 unfold f169
 have:=Au0 (n:=n) (H0 a) (H0 b) h h' (k0:=λz_6=>some z_6) n 0 0 [] rfl Lm.nil (by omega) (by omega) (by simp [vl]) (.inl (by omega)) (by omega)
 have this:Me n n (dg a) (dg b) 0 0 [] _=_:=this;rw [this,Bd,Bd];congr 1

theorem Aor {o P c wi bi v' T y d r:Int} (h:o-P*(c+(bi+10000*v'))=T) (hy:y=wi-c-bi) (hd:y=r-10000*d):o+P*(r-wi)-10000*P*(d+v')=T:=by
 grind

theorem Anr {α:Type} {n:Nat} {b:List Int} (hb:Lm b) {N:Nat} (hN:N<=1099511627776) {T:Int} {k0:List Int->Option α}:∀ (m i:Nat) (c:Int) (o:List Int),o.length=N->Lm o->0<=c->c<=1->i<=N ->
  vl o-10000 ^ i*(c+vl (b.drop i))=T->N+1<=i+m ->
  ∃ o' c',Hl n m b c (N:Int) (i:Int) o k0=k0 o'/\o'.length=N/\Lm o'/\0<=c'/\c'<=1/\vl o'-10000 ^ N*(c'+vl (b.drop N))=T
 | 0,i,c,o,ho,hlo,hc0,hc1,hi,hv,hm=>by omega
 | m+1,i,c,o,ho,hlo,hc0,hc1,hi,hv,hm=>by
  rw [As1];unfold A1w;dsimp only;by_cases hA:i<N
  . rw [QI,QK (by omega),A3 (by simp;try omega),A3 (by simp;try omega)]
    have h1:=hlo.get i;have h2:=hb.get i;simp only [QQ]
    have go:∀ (d r:Int),d=(if o.getD i 0-c-b.getD i 0<0 then 1 else 0)->r=o.getD i 0-c-b.getD i 0+10000*d->∃ o' c',Hl n m b d (N:Int) (W ((i:Int)+1)) (o.set i r) k0=k0 o'/\o'.length=N/\Lm o'/\0<=c'/\c'<=1/\vl o'-10000 ^ N*(c'+vl (b.drop N))=T:=by
     intro d r hd hr
     have hd1:0<=d/\d<=1/\0<=r/\r<10000:=by
      rw [hr,hd];split <;> omega
     rw [Ab (x:=(i:Int)+1) (by omega) (by omega)]
     refine Anr (n:=n) hb hN m (i+1) d _ (by simpa using ho) (hlo.set _ (by omega)) (by omega) (by omega) (by omega) ?_ (by omega)
     rw [K9 _ (by omega),Bu]
     refine Aor (bi:=b.getD i 0) (y:=o.getD i 0-c-b.getD i 0) ?_ rfl (by omega)
     rw [<- Zv];exact hv
    have go2 : ∀ y : Int, y = o.getD i 0 - c - b.getD i 0 -> ∃ o' c', (bif (decide (y < 0)) then
          gd (decide (0<=(i:Int))&&decide ((i:Int)<(o.length:Int))) (
           gd (decide (i<o.length)) (
            Hl n m b 1 (N:Int) (W ((i:Int)+1)) (o.set i (W (y+10000))) k0))
      else
       gd (decide (0<=(i:Int))&&decide ((i:Int)<(o.length:Int))) (
        gd (decide (i<o.length)) (
         Hl n m b 0 (N:Int) (W ((i:Int)+1)) (o.set i y) k0)))=k0 o'/\o'.length=N/\Lm o'/\0<=c'/\c'<=1/\vl o'-10000 ^ N*(c'+vl (b.drop N))=T:=by
     intro y hy;rw [QI];by_cases hneg:y<0
     . rw [QK hneg,A3 (by simp;try omega),A3 (by simp;try omega),Ab (x:=y+10000) (by omega) (by omega)]
       exact go 1 _ (by rw [QK (by omega)]) (by omega)
     . rw [QH hneg,A3 (by simp;try omega),A3 (by simp;try omega)]
       exact go 0 _ (by rw [QH (by omega)]) (by omega)
    by_cases hB:i<b.length
    . have dB:decide ((i:Int)<(b.length:Int))=true:=by rw [QP];omega
      simp only [dB,ZS]
      rw [A3 (by simp;try omega)]
      simp only [Ab (x:=o.getD i 0-c) (by omega) (by omega),Ab (x:=o.getD i 0-c-b.getD i 0) (by omega) (by omega)]
      exact go2 _ rfl
    . have dB:decide ((i:Int)<(b.length:Int))=false:=by rw [ZW];omega
      simp only [dB,QV]
      simp only [Ab (x:=o.getD i 0-c) (by omega) (by omega)]
      exact go2 _ (by rw [C4 (l:=b) (by omega)];omega)
  . rw [QI,QH (by omega)]
    obtain rfl:i=N:=by omega
    exact ⟨o,c,rfl,ho,hlo,hc0,hc1,hv⟩

theorem Axs {n a b:Nat} (h:(dg a).length<=1099511627000) (hn:(dg a).length+1<=n) (hab:b<=a) (ha:0<a):f171 n (dg a) (dg b)=some (dg (a-b)):=by
 have hlab:=Bc hab;unfold f171
 rw [Aex n (by omega) (λe=>by have:=B5i.1 e;omega),A1]
 obtain ⟨o,c,h1,h2,h3,h4,h5,h6⟩:=Anr (n:=n) (D4 b) (N:=(dg a).length) (by omega) (T:=(a:Int)-b) (k0:=λz_4=>(
   ob (f185 n z_4) λr_5 =>
   some r_5)) n 0 0 (dg a) rfl (D4 a) (by omega) (by omega) (by omega) (by rw [ZP,Bd,Bd,Int.pow_zero,Int.one_mul,Int.zero_add]) (by omega)
 have h1:Hl n n (dg b) 0 ((dg a).length:Int) 0 (dg a) _=_:=h1
 rw [QX (by omega)] at h6
 have h7:=Gs h3;rw [h2] at h7;have h8:=Bh h3
 have:c=0:=by
  rcases Int.lt_or_eq_of_le h4 with h | h
  . have:c=1:=by omega
    rw [this] at h6;simp only [vl,Qas,Int.mul_one] at h6;generalize (10000:Int) ^ (dg a).length=P at *;omega
  . exact h.symm
 rw [this] at h6;simp only [vl,Qas,JX,Int.sub_zero] at h6
 rw [h1,Qb h3 (by omega) (by omega),A1,h6,show ((a:Int)-(b:Int)).toNat=a-b by omega]

def rq (x:Rat):Rt:=(decide (x.num<0),dg x.num.natAbs,dg x.den)

def mq (s:Bool) (a d:Nat):Rat:=mkRat (if s=true then -(a:Int) else a) d

def Sz (x:Rat) (L:Nat):Prop:=(dg x.num.natAbs).length<=L/\(dg x.den).length<=L

theorem V0 (s:Bool) (a:Nat):(if s=true then -(a:Int) else a).natAbs=a:=by cases s <;> simp

theorem Abu {s:Bool} {a d:Nat} (hd:0<d):(mq s a d).num=if s=true then -((a / Nat.gcd a d:Nat):Int) else ((a / Nat.gcd a d:Nat):Int):=by
 unfold mq
 rw [Rat.num_mkRat,QH (by omega),V0,Nat.gcd_comm d a]
 cases s with
 | false=>simp
 | true =>
  simp only [if_true]
  rw [Int.neg_ediv_of_dvd (by exact_mod_cast Nat.gcd_dvd_left a d)]
  simp

theorem Abv {s:Bool} {a d:Nat} (hd:0<d):(mq s a d).den=d / Nat.gcd a d:=by
 unfold mq
 rw [Rat.den_mkRat,QH (by omega),V0,Nat.gcd_comm d a]

theorem Axj {s:Bool} {a d:Nat} (hd:0<d):rq (mq s a d)=(s&&decide (a / Nat.gcd a d ≠ 0),dg (a / Nat.gcd a d),dg (d / Nat.gcd a d)):=by
 unfold rq;rw [Abu hd,Abv hd];generalize a / Nat.gcd a d=q
 cases s with
 | false=>simp
 | true =>
  simp only [if_true,XK,Int.natAbs_neg,XI];congr 1;apply decide_eq_decide.2;omega

theorem M4 {s:Bool} {a d L:Nat} (hd:0<d) (h1:(dg a).length<=L) (h2:(dg d).length<=L):Sz (mq s a d) L:=by
 unfold Sz;rw [Abu hd,Abv hd,V0];exact ⟨ZF (Bc (JE _ _)) h1,ZF (Bc (JE _ _)) h2⟩

theorem B2e {n L x d:Nat} {s:Bool} (hd:0<d) (hx:(dg x).length<=L) (hdl:(dg d).length<=L) (hL:L<=1099511627000) (hn:28*L+10040<=n):f177 n s (dg x) (dg d)=some (rq (mq s x d)):=by
 have hg:0<Nat.gcd x d:=Nat.gcd_pos_of_pos_right x hd;have hgl:(dg (Nat.gcd x d)).length<=L:=ZF (Bc (Nat.gcd_le_right x hd)) hdl;rw [Axj hd];unfold f177
 rw [B5z hL hn hx hdl,A1,Akd hg hx hgl hL (by omega),A1,Akd hg hdl hgl hL (by omega),A1]
 dsimp only;rw [Atd]
 cases s <;> rfl

theorem V9 {n L x d:Nat} {s:Bool} (hd:0<d) (hx:(dg x).length<=L) (hdl:(dg d).length<=L) (hL:L<=1099511627000) (hn:28*L+10040<=n):f142 n s (dg x) (dg d)=some (rq (mq s x d)):=by
 have hg:0<Nat.gcd x d:=Nat.gcd_pos_of_pos_right x hd;have hgl:(dg (Nat.gcd x d)).length<=L:=ZF (Bc (Nat.gcd_le_right x hd)) hdl;have hq1:(dg (x / Nat.gcd x d)).length<=L:=ZF (Bc (JE _ _)) hx;have hq2:(dg (d / Nat.gcd x d)).length<=L:=ZF (Bc (JE _ _)) hdl;rw [Axj hd];unfold f142;dsimp only
 rw [Axt hL hn hx hdl,A1,show f161 n=some [1] from rfl,A1,<- Ii,Aal (by omega),A1]
 have fin:∀ y z:List Int,y=dg (x / Nat.gcd x d)->z=dg (d / Nat.gcd x d)->(bif s then
   ob (f145 n y) λr_8 =>
   ob (f145 n z) λr_9 =>
   some ((decide ((y.length:Int)>0)),r_8,r_9)
  else
   ob (f145 n y) λr_10 =>
   ob (f145 n z) λr_11 =>
   some (false,r_10,r_11))=some (s&&decide (x / Nat.gcd x d ≠ 0),dg (x / Nat.gcd x d),dg (d / Nat.gcd x d)):=by
  rintro y z rfl rfl
  rw [Eb n (by omega),A1,Eb n (by omega),A1,Atd]
  cases s <;> rfl
 by_cases h1:Nat.gcd x d=1
 . have e:(cm ((Nat.gcd x d:Nat):Int) ((1:Nat):Int) != 0)=false:=by rw [h1,Ly rfl];rfl
   rw [e,QV]
   exact fin _ _ (by rw [h1,Nat.div_one]) (by rw [h1,Nat.div_one])
 . have e : (cm ((Nat.gcd x d : Nat) : Int) ((1 : Nat) : Int) != 0) = true := by
    rw [bne,Ati,QU h1];rfl
   rw [e,ZS,Akt hg hx hgl hL (by omega),A1,Akt hg hdl hgl hL (by omega),A1]
   exact fin _ _ rfl rfl

theorem Gc (x:Rat):x.num=if decide (x.num<0)=true then -(x.num.natAbs:Int) else x.num.natAbs:=by
 by_cases h:x.num<0
 . rw [ZA h,QK rfl];omega
 . rw [QU h,QH (by decide)];omega

theorem Tu {x y:Rat} (h:decide (x.num<0)=decide (y.num<0)):x+y=mq (decide (x.num<0)) (x.num.natAbs*y.den+y.num.natAbs*x.den) (x.den*y.den):=by
 rw [Rat.add_def'];unfold mq;congr 1;have hx:=Gc x;have hy:=Gc y;rw [<- h] at hy;generalize decide (x.num<0)=s at *;generalize x.num.natAbs=p at *;generalize y.num.natAbs=q at *;rw [hx,hy]
 cases s with
 | true=>simp only [if_true,JD,XW];grind
 | false=>simp

theorem Kq {x y:Rat} (h:decide (x.num<0) ≠ decide (y.num<0)) (hle:y.num.natAbs*x.den<=x.num.natAbs*y.den):x+y=mq (decide (x.num<0)) (x.num.natAbs*y.den-y.num.natAbs*x.den) (x.den*y.den):=by
 rw [Rat.add_def'];unfold mq;congr 1;have hx:=Gc x;have hy:=Gc y
 have h':decide (y.num<0) = !decide (x.num<0):=by
  generalize decide (x.num<0)=s at h;generalize decide (y.num<0)=t at h
  cases s <;> cases t <;> first | rfl | exact absurd rfl h
 rw [h'] at hy;generalize decide (x.num<0)=s at *;generalize x.num.natAbs=p at *;generalize y.num.natAbs=q at *;rw [hx,hy,Int.natCast_sub hle]
 cases s with
 | true=>simp only [if_true,XW,XM];simp;grind
 | false=>simp only [XW,ZV,if_true];simp;grind

theorem A3s {n L:Nat} {x y:Rat} (hx:Sz x L) (hy:Sz y L) (hL:2*L+1<=1099511627000) (hn:28*(2*L+1)+10040<=n):f104 n (rq x) (rq y)=some (rq (x+y)):=by
 obtain ⟨x1,x2⟩:=hx;obtain ⟨y1,y2⟩:=hy;have l1:=Bi x.num.natAbs y.den;have l2:=Bi y.num.natAbs x.den;have l3:=Bi x.den y.den;have l4:=A66 (x.num.natAbs*y.den) (y.num.natAbs*x.den);have hd:0<x.den*y.den:=YZ (ZT x.den_nz) (ZT y.den_nz);unfold f104 rq;dsimp only
 rw [Lp (by omega) (by omega),A1,Lp (by omega) (by omega),A1,Lp (by omega) (by omega),A1,XH]
 by_cases hs:decide (x.num<0)=decide (y.num<0)
 . rw [QK (by rw [hs];simp),B66 (by omega) (by omega) (by omega),A1,V9 hd (L:=2*L+1) (by omega) (by omega) hL hn,A1,Tu hs];rfl
 . rw [QH (by simpa using hs),Aal (by omega),A1,QI]
   by_cases hle:y.num.natAbs*x.den<=x.num.natAbs*y.den
   . have l5:=Bc (Qau (x.num.natAbs*y.den) (y.num.natAbs*x.den))
     have hp:0<x.num.natAbs*y.den:=by
      rcases YR (x.num.natAbs*y.den) with h | h
      . exfalso;have hyd:=y.den_nz;have hxd:=x.den_nz
        have h2:y.num.natAbs*x.den=0:=by omega
        have e1:x.num=0:=by rcases Qan.1 h with h | h <;> omega
        have e2:y.num=0:=by rcases Qan.1 h2 with h | h <;> omega
        exact hs (by rw [e1,e2])
      . exact h
     rw [QK (by
      rcases JY hle with h | h
      . rw [K7 (by omega)];omega
      . rw [Ly (by omega)];omega),Axs (by omega) (by omega) hle hp,A1,V9 hd (L:=2*L+1) (by omega) (by omega) hL hn,A1,Kq hs hle];rfl
   . have l5:=Bc (Qau (y.num.natAbs*x.den) (x.num.natAbs*y.den))
     rw [QH (by rw [K6 (by omega)];omega),Axs (by omega) (by omega) (by omega) (by omega),A1,V9 hd (L:=2*L+1) (by omega) (by omega) hL hn,A1,Rat.add_comm,Kq (λe=>hs e.symm) (by omega),YP y.den x.den];rfl

theorem A3g (x y:Rat):x*y=mq (!(decide (x.num<0)==decide (y.num<0))) (x.num.natAbs*y.num.natAbs) (x.den*y.den):=by
 rw [Rat.mul_def'];unfold mq;congr 1;have hx:=Gc x;have hy:=Gc y;generalize decide (x.num<0)=s at *;generalize decide (y.num<0)=t at *;generalize x.num.natAbs=p at *;generalize y.num.natAbs=q at *;rw [hx,hy]
 cases s <;> cases t <;> simp [Int.neg_mul,Int.mul_neg]

theorem Xo {n L:Nat} {x y:Rat} (hx:Sz x L) (hy:Sz y L) (hL:2*L+1<=1099511627000) (hn:28*(2*L+1)+10040<=n):f103 n (rq x) (rq y)=some (rq (x*y)):=by
 obtain ⟨x1,x2⟩:=hx;obtain ⟨y1,y2⟩:=hy;have l1:=Bi x.num.natAbs y.num.natAbs;have l3:=Bi x.den y.den;have hd:0<x.den*y.den:=YZ (ZT x.den_nz) (ZT y.den_nz);unfold f103 rq;dsimp only
 rw [Lp (by omega) (by omega),A1,Lp (by omega) (by omega),A1,V9 hd (L:=2*L+1) (by omega) (by omega) hL hn,A1,A3g];rfl

theorem Atc {x y:Rat} (hy:y ≠ 0):x / y=mq (!(decide (x.num<0)==decide (y.num<0))) (x.num.natAbs*y.den) (x.den*y.num.natAbs):=by
 have hyn:y.num ≠ 0:=λe=>hy (JV.1 e)
 have key:mq (!(decide (x.num<0)==decide (y.num<0))) (x.num.natAbs*y.den) (x.den*y.num.natAbs)*y=x:=by
  conv=>lhs;rhs;rw [<- Rat.mkRat_self y]
  conv=>rhs;rw [<- Rat.mkRat_self x]
  unfold mq
  rw [Rat.mkRat_mul_mkRat,Rat.mkRat_eq_iff (Nat.mul_ne_zero (Nat.mul_ne_zero x.den_nz (by omega)) y.den_nz) x.den_nz]
  have hx:=Gc x;have hy:=Gc y;generalize decide (x.num<0)=s at *;generalize decide (y.num<0)=t at *;generalize x.num.natAbs=p at *;generalize y.num.natAbs=q at *;rw [hx,hy];simp only [XW]
  cases s <;> cases t <;> simp <;> grind
 conv=>lhs;rw [<- key]
 exact Rat.mul_div_cancel hy

theorem Ac9 {n L:Nat} {x y:Rat} (hx:Sz x L) (hy:Sz y L) (hy0:y ≠ 0) (hL:2*L+1<=1099511627000) (hn:28*(2*L+1)+10040<=n):f75 n (rq x) (rq y)=some (rq (x / y)):=by
 obtain ⟨x1,x2⟩:=hx;obtain ⟨y1,y2⟩:=hy;have l1:=Bi x.num.natAbs y.den;have l3:=Bi x.den y.num.natAbs;have hyn:y.num ≠ 0:=λe=>hy0 (JV.1 e)
 have hd:0<x.den*y.num.natAbs:=YZ (ZT x.den_nz) (by omega)
 unfold f75 rq;dsimp only
 rw [Lp (by omega) (by omega),A1,Lp (by omega) (by omega),A1,V9 hd (L:=2*L+1) (by omega) (by omega) hL hn,A1,Atc hy0];rfl

theorem B64 {n L:Nat} {x:Rat} (hx:Sz x L) (hL:L<=1099511627000):f77 n (rq x)=some (rq (-x)):=by
 obtain ⟨x1,x2⟩:=hx;unfold f77 rq;dsimp only
 rw [Rat.neg_num,Rat.neg_den,Int.natAbs_neg,show f74 n (decide (x.num<0),dg x.num.natAbs,dg x.den)=some (((dg x.num.natAbs).length:Int)==0) from rfl,A1,Eb n (by omega),A1,Eb n (by omega),A1,Af8]
 by_cases h:x.num<0
 . rw [ZA h,QU (show ¬ -x.num<0 by omega)];rfl
 . rw [QU h]
   have:(!decide (x.num.natAbs=0))=decide (-x.num<0):=by
    by_cases h2:x.num.natAbs=0
    . rw [ZA h2,QU (by omega)];rfl
    . rw [QU h2,ZA (by omega)];rfl
   rw [this];rfl

theorem Eg {x:Rat} {L:Nat} (h:Sz x L):Sz (-x) L:=by
 unfold Sz at *;rw [Rat.neg_num,Rat.neg_den,Int.natAbs_neg];exact h

theorem Sz.mono {x:Rat} {L M:Nat} (h:Sz x L) (hLM:L<=M):Sz x M:=⟨ZF h.1 hLM,ZF h.2 hLM⟩

theorem Au3 {x y:Rat} {L:Nat} (hx:Sz x L) (hy:Sz y L):Sz (x+y) (2*L+1):=by
 obtain ⟨x1,x2⟩:=hx;obtain ⟨y1,y2⟩:=hy;have l1:=Bi x.num.natAbs y.den;have l2:=Bi y.num.natAbs x.den;have l3:=Bi x.den y.den;have l4:=A66 (x.num.natAbs*y.den) (y.num.natAbs*x.den);have hd:0<x.den*y.den:=YZ (ZT x.den_nz) (ZT y.den_nz);by_cases hs:decide (x.num<0)=decide (y.num<0)
 . rw [Tu hs];exact M4 hd (by omega) (by omega)
 . by_cases hle:y.num.natAbs*x.den<=x.num.natAbs*y.den
   . have l5:=Bc (Qau (x.num.natAbs*y.den) (y.num.natAbs*x.den))
     rw [Kq hs hle];exact M4 hd (by omega) (by omega)
   . have l5:=Bc (Qau (y.num.natAbs*x.den) (x.num.natAbs*y.den))
     rw [Rat.add_comm,Kq (λe=>hs e.symm) (by omega),YP y.den x.den];exact M4 hd (by omega) (by omega)

theorem Au2 {x y:Rat} {L:Nat} (hx:Sz x L) (hy:Sz y L):Sz (x*y) (2*L+1):=by
 obtain ⟨x1,x2⟩:=hx;obtain ⟨y1,y2⟩:=hy;have l1:=Bi x.num.natAbs y.num.natAbs;have l3:=Bi x.den y.den;rw [A3g]
 exact M4 (YZ (ZT x.den_nz) (ZT y.den_nz)) (by omega) (by omega)

theorem Ap6 {n:Nat} {x:Rat}:f74 n (rq x)=some (decide (x=0)):=by
 unfold f74 rq;dsimp only;rw [Af8];congr 1
 exact decide_eq_decide.2 ⟨λh=>JV.1 (by omega),λh=>by rw [h];rfl⟩

theorem B2g {x y:Rat} (h:rq x=rq y):x=y:=by
 unfold rq at h;simp only [QG] at h;obtain ⟨h1,h2,h3⟩:=h;have e2:=Ate h2;have e3:=Ate h3;refine Rat.ext ?_ e3;rw [Gc x,Gc y,h1,e2]

abbrev Pc:=List Int × Int × Int

def M5 (P:Int) (s:Pc):Prop:=(∀ x ∈ s.1,0<=x/\x<=255)/\s.1.length<=1048576/\(0<=s.2.1/\s.2.1<=P)/\0<=s.2.2/\s.2.2<2147483648

theorem Afi {l:List Int} (h:∀ x ∈ l,0<=x/\x<=255) (k:Nat):0<=l.getD k 0/\l.getD k 0<=255:=by
 rw [QJ]
 cases e:l[k]? with
 | none=>simp
 | some x=>exact h x (ZH e)

theorem Fa {x m:Int} (h:0<=x):Int.tmod x m=x % m:=JJ h

theorem A75 {n:Nat} {P:Int} {s:Pc} (h:M5 P s) (hP:P<=1099511627776):∃ b s',Lu n s=some (b,s')/\(0<=b/\b<=255)/\M5 (P+1) s':=by
 obtain ⟨l,p,d⟩:=s;obtain ⟨h1,h2,⟨h3,h4⟩,h5,h6⟩:=h;dsimp only at h1 h2 h3 h4 h5 h6;unfold Lu;dsimp only
 rw [Ab (x:=p+1) (by omega) (by omega),Ab (x:=p+1-1) (by omega) (by omega),QI]
 have hb:=Afi h1 (p+1-1).toNat;by_cases hc:p+1<=(l.length:Int)
 . rw [QK hc,A3 (by simp;omega),A3 (by simp;omega)]
   generalize l.getD (p+1-1).toNat 0=b at *
   rw [Ab (x:=b) (by omega) (by omega),Ab (x:=d*31) (by omega) (by omega),Ab (x:=d*31+b) (by omega) (by omega),Ab (x:=d*31+b+7) (by omega) (by omega),Fa (by omega)]
   exact ⟨_,_,rfl,by omega,h1,h2,by dsimp only;omega,by dsimp only;omega,by dsimp only;omega⟩
 . rw [QH hc,QI];by_cases hc2:p+1>3000
   . rw [QK hc2]
     exact ⟨_,_,rfl,by omega,h1,h2,by dsimp only;omega,h5,h6⟩
   . rw [QH hc2,Ab (x:=d*1103515245) (by omega) (by omega),Ab (x:=d*1103515245+12345) (by omega) (by omega),Fa (x:=d*1103515245+12345) (by omega)]
     generalize hz:(d*1103515245+12345) % 2147483648=z
     have hz2:0<=z/\z<2147483648:=by omega
     rw [YJ (a:=z) (by omega),Ab (x:=z / 65536) (by omega) (by omega),Fa (x:=z / 65536) (by omega)]
     exact ⟨_,_,rfl,by omega,h1,h2,by dsimp only;omega,by dsimp only;omega,by dsimp only;omega⟩

theorem Mh {n:Nat} {P k:Int} {s:Pc} (h:M5 P s) (hP:P<=1099511627000) (hk:1<k) (hk':k<=1048576):∃ v s',K3 n s k=some (v,s')/\(0<=v/\v<k)/\M5 (P+3) s':=by
 unfold K3
 rw [QI,QH (by omega),QI]
 obtain ⟨b1,s1,e1,r1,o1⟩:=A75 (n:=n) h (by omega)
 rw [e1];by_cases hc:k<=256
 . rw [QK hc,A1,A3 (by simp;omega),Fa r1.1]
   have:=Qav b1 (show k ≠ 0 by omega)
   have:=JZ b1 (show 0<k by omega)
   exact ⟨_,_,rfl,by omega,o1.1,o1.2.1,⟨o1.2.2.1.1,by have:=o1.2.2.1.2;show s1.2.1<=P+3;omega⟩,o1.2.2.2⟩
 . rw [QH hc,A1]
   obtain ⟨b2,s2,e2,r2,o2⟩:=A75 (n:=n) o1 (by omega)
   rw [e2,A1]
   obtain ⟨b3,s3,e3,r3,o3⟩:=A75 (n:=n) o2 (by omega)
   rw [e3,A1];dsimp only
   rw [A3 (by simp;omega),Ab (x:=b1*65536) (by omega) (by omega),Ab (x:=b2*256) (by omega) (by omega),Ab (x:=b1*65536+b2*256) (by omega) (by omega),Ab (x:=b1*65536+b2*256+b3) (by omega) (by omega),Fa (by omega)]
   have:=Qav (b1*65536+b2*256+b3) (show k ≠ 0 by omega)
   have:=JZ (b1*65536+b2*256+b3) (show 0<k by omega)
   exact ⟨_,_,rfl,by omega,o3.1,o3.2.1,⟨o3.2.2.1.1,by have:=o3.2.2.1.2;show s3.2.1<=P+3;omega⟩,o3.2.2.2⟩

theorem Ajo {n:Nat} {a:Int} (h:-1000000000<=a/\a<=1000000000) (hn:1048577<=n):f106 n a=some (decide (a<0),dg a.natAbs,dg 1):=by
 unfold f106;rw [QI,Ii];by_cases hc:a<0
 . rw [QK hc,Ab (x:=0-a) (by omega) (by omega),show 0-a=(a.natAbs:Int) by omega,Yd (by omega) (by omega),A1,ZA hc]
 . rw [QH hc]
   conv=>lhs;rw [show a=(a.natAbs:Int) by omega]
   rw [Yd (by omega) (by omega),A1,QU hc]

theorem Aoe {N:Nat} (h:(dg N).length<=40):Zd (dg N)=true:=by
 unfold Zd;have hc:=H0 N;rw [ZA h,XK,QF,QL];refine ⟨λx hx=>?_,?_⟩
 . have:=hc.1 x hx;unfold Mx;rw [QP];omega
 . by_cases hn:dg N=[]
   . rw [hn];rfl
   . have h1:=hc.2 hn;have h2:=hc.1.get ((dg N).length-1);rw [XA];right;rw [QP];omega

theorem Ps {x:Rat} (h:Sz x 40):Og (rq x)=true:=by
 obtain ⟨h1,h2⟩:=h;unfold Og rq;dsimp only
 have hd:(dg x.den).isEmpty=false:=by
  rw [Cx x.den_nz];rfl
 rw [Aoe h1,Aoe h2,hd,Bd,Bd]
 have hg:Nat.gcd (x.num.natAbs:Int).toNat (x.den:Int).toNat=1:=by
  rw [QQ,QQ];exact x.reduced
 rw [ZA hg];by_cases hz:x.num.natAbs=0
 . rw [hz,Bw,QU (by omega)];rfl
 . rw [Cx hz];rfl

theorem Apz {n:Nat} {x y:Rat} (hx:Sz x 40) (hy:Sz y 40) (hs:Sz (x+y) 40) (hn:1048577<=n):f44 n (rq x) (rq y)=some (rq (x+y),0):=by
 unfold f44 A2p
 rw [A42 (by simp) hn,A1]
 have e:[rq x,rq y].all Og=true:=by simp [Ps hx,Ps hy]
 rw [QK e,KC,QV,A3s hx hy (by omega) (by omega),A1]
 obtain ⟨s1,s2⟩:=hs;unfold f56 f113 rq;dsimp only
 rw [ZA (by omega),ZA (by omega)]
 rfl

theorem B3e {n:Nat} {x y:Rat} (hx:Sz x 40) (hy:Sz y 40) (hs:Sz (x*y) 40) (hn:1048577<=n):f43 n (rq x) (rq y)=some (rq (x*y),0):=by
 unfold f43 A2q
 rw [A42 (by simp) hn,A1]
 have e:[rq x,rq y].all Og=true:=by simp [Ps hx,Ps hy]
 rw [QK e,KC,QV,Xo hx hy (by omega) (by omega),A1]
 obtain ⟨s1,s2⟩:=hs;unfold f56 f113 rq;dsimp only
 rw [ZA (by omega),ZA (by omega)]
 rfl

theorem A9i {α:Type} {n:Nat} {a b:List Int} (hab:a.length=b.length) (hl:a.length<=1048576) {k0:Bool->Option α} {k1:Unit->Option α}:∀ (m i:Nat),i<=a.length->a.length<i+m->Ql n m a b (i:Int) k0 k1=if a.drop i=b.drop i then k1 () else k0 false
 | 0,i,hi,hm=>by omega
 | m+1,i,hi,hm=>by
  rw [Asz];unfold A2o;rw [QI];by_cases h:i<a.length
  . rw [QK (by omega),A3 (by simp;omega),A3 (by simp;omega)]
    simp only [QQ]
    have da:a.drop i=a.getD i 0::a.drop (i+1):=by
     rw [XG h,QJ,QM h];rfl
    have db:b.drop i=b.getD i 0::b.drop (i+1):=by
     rw [XG (by omega),QJ,QM (by omega)];rfl
    rw [da,db];by_cases hz:a.getD i 0=b.getD i 0
    . rw [hz,KC,QV,Ab (x:=(i:Int)+1) (by omega) (by omega),show (i:Int)+1=((i+1:Nat):Int) from rfl,A9i hab hl m (i+1) (by omega) (by omega)]
      simp
    . rw [show (a.getD i 0 != b.getD i 0)=true by rw [bne_iff_ne];exact hz,ZS,QH (λe=>hz (List.cons.inj e).1)]
  . rw [QH (by omega),QX (by omega),QX (by omega),QK rfl]

theorem Ajq {n:Nat} {a b:List Int} (hl:a.length<=1048576) (hn:1048577<=n):f105 n a b=some (decide (a=b)):=by
 unfold f105;rw [XH];by_cases h:a.length=b.length
 . rw [QH (by simp [h])]
   have h1:=A9i (n:=n) h hl (k0:=λz_1=>some z_1) (k1:=λ(_:Unit)=>some true) n 0 (by omega) (by omega)
   have h1:Ql n n a b 0 _ _=_:=h1;rw [h1,ZP,ZP];by_cases e:a=b
   . rw [QK e,ZA e]
   . rw [QH e,QU e]
 . rw [QK (by rw [bne_iff_ne];omega),QU (λe=>h (by rw [e]))]

theorem B3c {n:Nat} {x y:Rat} (hx:Sz x 1000) (hn:1048577<=n):f45 n (rq x) (rq y)=some (decide (x=y)):=by
 obtain ⟨h1,h2⟩:=hx;unfold f45
 have key:(rq x).1=(rq y).1->(rq x).2.1=(rq y).2.1->(rq x).2.2=(rq y).2.2->x=y:=λa b c=>B2g (by
  rw [show rq x=((rq x).1,(rq x).2.1,(rq x).2.2) from rfl,a,b,c])
 rw [XH];by_cases e1:(rq x).1=(rq y).1
 . rw [QK (by rw [e1];simp),Ajq (by show (dg x.num.natAbs).length<=_;omega) hn,A1,QI]
   by_cases e2:(rq x).2.1=(rq y).2.1
   . rw [QK e2,Ajq (by show (dg x.den).length<=_;omega) hn,A1]
     by_cases e3:(rq x).2.2=(rq y).2.2
     . rw [ZA e3,ZA (key e1 e2 e3)]
     . rw [QU e3,QU (λe=>e3 (by rw [e]))]
   . rw [QH e2,QU (λe=>e2 (by rw [e]))]
 . rw [QH (by simpa using e1),QU (λe=>e1 (by rw [e]))]

def vq (x:List Rat):List Rt:=x.map rq

def Sv (x:List Rat) (L:Nat):Prop:=∀ a ∈ x,Sz a L

def Lh (A:Rat) (x y:List Rat):List Rat:=List.zipWith (λa b=>A*a+b) x y

def Bg (acc:Rat):List Rat->List Rat->Rat
 | a::x,b::y=>Bg (acc+a*b) x y
 | _,_=>acc

def Bn (x:Rat):Bool:=decide ((dg x.num.natAbs).length<=40)&&decide ((dg x.den).length<=40)

theorem J8 {x:Rat}:Bn x=true ↔ Sz x 40:=by unfold Bn Sz;simp

@[simp] theorem Co (x:List Rat):(vq x).length=x.length:=by simp [vq]

theorem G9 {x:List Rat} {i:Nat} (h:i<x.length):(vq x).getD i (false,[],[])=rq (x.getD i 0):=by
 unfold vq;rw [QJ,QN,QJ,QM h];rfl

theorem A3c {x:List Rat} {i:Nat} (h:i<x.length):x.drop i=x.getD i 0::x.drop (i+1):=by
 rw [XG h,QJ,QM h];rfl

theorem Sv.get {x:List Rat} {L i:Nat} (hs:Sv x L) (h:i<x.length):Sz (x.getD i 0) L:=by
 refine hs _ ?_;rw [QJ,QM h];exact KM h

theorem Sv.mono {x:List Rat} {L M:Nat} (h:Sv x L) (hLM:L<=M):Sv x M:=λa ha=>(h a ha).mono hLM

theorem A32 {x:List Rat} (h:Sv x 40) (h1:1<=x.length) (h4:x.length<=4):Ml (vq x)=true:=by
 unfold Ml
 rw [ZA (by rw [Co];omega),XK,QL]
 intro r hr;obtain ⟨a,ha,rfl⟩:=ZL.1 hr;exact Ps (h a ha)

theorem B30 {n:Nat} {x:Rat} (h:Sz x 1000):f97 n (rq x)=some (rq x):=by
 obtain ⟨h1,h2⟩:=h;unfold f97 rq;dsimp only
 rw [Eb n (by omega),A1,Eb n (by omega),A1]

theorem Ug {α:Type} {n:Nat} {A:Rat} {x y:List Rat} (hA:Sz A 40) (hx:Sv x 40) (hy:Sv y 40) (hl:x.length=y.length) (h4:x.length<=4096) (hn:1048577<=n) {k0:List Rt->Option α}:∀ (m i:Nat) (o:List Rt),o.length<=i->i<=x.length->x.length<i+m ->
  Gp n m (rq A,vq x,vq y) (x.length:Int) (i:Int) o k0=k0 (o++vq (Lh A (x.drop i) (y.drop i)))
 | 0,i,o,ho,hi,hm=>by omega
 | m+1,i,o,ho,hi,hm=>by
  rw [Aab];unfold O5;dsimp only;rw [QI];by_cases h:i<x.length
  . rw [QK (by omega)]
    unfold f144
    rw [A3 (by simp;omega)]
    dsimp only;have h1:Sz (A*x.getD i 0) 81:=Au2 hA (hx.get h)
    have hy':=hy.get (i:=i) (by omega)
    have h2:Sz (A*x.getD i 0+y.getD i 0) 163:=Au3 h1 (hy'.mono (by omega))
    rw [QQ,G9 h,Xo hA (hx.get h) (by omega) (by omega),A1,A3 (by simp;omega)]
    rw [G9 (by omega),A3s h1 (hy'.mono (by omega)) (by omega) (by omega),A1,A1,B30 (h2.mono (by omega)),A1,A3 (by simp;omega),Ab (x:=(i:Int)+1) (by omega) (by omega)]
    have:=Ug hA hx hy hl h4 hn (k0:=k0) m (i+1) (o++[rq (A*x.getD i 0+y.getD i 0)]) (by simp;omega) (by omega) (by omega)
    rw [A3c h,A3c (x:=y) (by omega)]
    rw [show (i:Int)+1=((i+1:Nat):Int) from rfl,this,ZQ];rfl
  . rw [QH (by omega),QX (by omega),QX (by omega)]
    simp [Lh,vq]

theorem B2u {n:Nat} {A:Rat} {x y:List Rat} (hA:Sz A 40) (hx:Sv x 40) (hy:Sv y 40) (hl:x.length=y.length) (h4:x.length<=4096) (hn:1048577<=n):f76 n (rq A) (vq x) (vq y)=some (vq (Lh A x y)):=by
 unfold f76 A2k
 have h1:=Ug (n:=n) hA hx hy hl h4 hn (k0:=λz_3=>some z_3) n 0 [] (by simp) (by omega) (by omega)
 have h1:Gp n n (rq A,vq x,vq y) (x.length:Int) 0 [] _=_:=h1;rw [Co,h1,A1];simp

theorem Acr {α:Type} {n:Nat} {x y:List Rat} (hx:Sv x 40) (hy:Sv y 40) (hl:x.length=y.length) (h4:x.length<=4) (hn:1048577<=n) {f:Bool} {k0:Bool->Bool->List Int->List Int->Option α}:∀ (m i:Nat) (acc:Rat),Sz acc (82*2 ^ i-1)->i<=x.length->x.length<i+m ->
  Vl n m (vq y) (vq x) (x.length:Int) (i:Int) f (rq acc).1 (rq acc).2.1 (rq acc).2.2 k0=k0 f (rq (Bg acc (x.drop i) (y.drop i))).1 (rq (Bg acc (x.drop i) (y.drop i))).2.1 (rq (Bg acc (x.drop i) (y.drop i))).2.2
 | 0,i,acc,ho,hi,hm=>by omega
 | m+1,i,acc,ho,hi,hm=>by
  rw [Avj];unfold A6k;dsimp only;rw [QI];by_cases h:i<x.length
  . rw [QK (by omega),A3 (by simp;omega),A3 (by simp;omega)]
    have hp:2 ^ i<=2 ^ 3:=KA (by omega) (by omega)
    have hp1:1<=2 ^ i:=Nat.one_le_two_pow;rw [show (2:Nat) ^ 3=8 from rfl] at hp
    have h1:Sz (x.getD i 0*y.getD i 0) 81:=Au2 (hx.get h) (hy.get (by omega))
    have h2:Sz (acc+x.getD i 0*y.getD i 0) (82*2 ^ (i+1)-1):=(Au3 ho (h1.mono (by omega))).mono (by rw [YV];omega)
    have e2:=A3s (n:=n) ho (h1.mono (show 81<=82*2 ^ i-1 by omega)) (by omega) (by omega)
    have e2:f104 n ((rq acc).1,(rq acc).2.1,(rq acc).2.2) _=_:=e2
    rw [QQ,G9 h,G9 (by omega),Xo (hx.get h) (hy.get (by omega)) (by omega) (by omega),A1,e2,A1,Ab (x:=(i:Int)+1) (by omega) (by omega)]
    have:=Acr hx hy hl h4 hn (f:=f) (k0:=k0) m (i+1) _ h2 (by omega) (by omega)
    rw [A3c h,A3c (x:=y) (by omega)]
    rw [show (i:Int)+1=((i+1:Nat):Int) from rfl,this];rfl
  . rw [QH (by omega),QX (by omega),QX (by omega)]
    rfl

theorem Ayl:rq 0=(false,[],dg 1):=by
 unfold rq;rw [show (0:Rat).num=0 from rfl,show (0:Rat).den=1 from rfl,show (0:Int).natAbs=0 from rfl,Bw];rfl

theorem Bx:Sz 0 1:=by
 refine ⟨?_,?_⟩
 . rw [show (0:Rat).num=0 from rfl,show (0:Int).natAbs=0 from rfl,Bw];simp
 . rw [show (0:Rat).den=1 from rfl,Ii];simp

theorem B65 {n:Nat} {x y:List Rat} (hx:Sv x 40) (hy:Sv y 40) (hl:x.length=y.length) (h4:x.length<=4) (hn:1048577<=n):f73 n (vq x) (vq y)=some (rq (Bg 0 x y)):=by
 unfold f73
 have e0:f92 n 0=some (rq 0):=by
  unfold f92
  rw [QU (by omega),QV,show (0:Int)=((0:Nat):Int) from rfl,Qh (by omega) (by omega),A1,Ayl,Bw,Ii]
  rfl
 rw [e0,A1]
 have h1:=Acr (n:=n) hx hy hl h4 hn (f:=false) (k0:=λz_6 z_7 z_8 z_9=>some (z_7,z_8,z_9)) n 0 0 (Bx.mono (by simp)) (by omega) (by omega)
 have h1:Vl n n (vq y) (vq x) (x.length:Int) 0 _ _ _ _ _=_:=h1;rw [Co,h1,ZP,ZP]

theorem Uc {n:Nat} {x:List Rat} (hl:x.length<=1048576):∀ (m i:Nat),i<=x.length->x.length<i+m ->
  ∃ r,Gl n m (vq x) (x.length:Int) (i:Int) (λz_3=>some z_3) (λ(_:Unit)=>some (-1))=some r/\decide (r>=0) = !(x.drop i).all Bn
 | 0,i,hi,hm=>by omega
 | m+1,i,hi,hm=>by
  rw [Aa6];unfold Nv;dsimp only;rw [QI];by_cases h:i<x.length
  . rw [QK (by omega),A3 (by simp;omega),QQ,G9 h,A3c h,YE]
    have e:f112 n (rq (x.getD i 0))=some (!Bn (x.getD i 0)):=by
     unfold f112 f113 rq Bn;dsimp only;generalize (dg (x.getD i 0).num.natAbs).length=p;generalize (dg (x.getD i 0).den).length=q;rw [QI];by_cases c:p<=40
     . rw [QK (by omega),A1,ZA c,XK];congr 2;exact decide_eq_decide.2 (by omega)
     . rw [QH (by omega),A1,QU c,Bool.false_and]
    rw [e,A1]
    cases hf:Bn (x.getD i 0) with
    | false=>exact ⟨(i:Int),by simp,by simp⟩
    | true =>
     rw [XM,QV,Ab (x:=(i:Int)+1) (by omega) (by omega),XK]
     exact Uc hl m (i+1) (by omega) (by omega)
  . rw [QH (by omega),QX (by omega)]
    exact ⟨-1,rfl,rfl⟩

theorem Aca {n:Nat} {x:List Rat} (hl:x.length<=1048576) (hn:1048577<=n):f51 n (vq x)=some (if x.all Bn=true then (vq x,0) else ([],7)):=by
 unfold f51 A2l A1p
 obtain ⟨r,h1,h2⟩:=Uc (n:=n) hl n 0 (by omega) (by omega)
 have h1:Gl n n (vq x) (x.length:Int) 0 _ _=_:=h1;rw [Co,h1,A1,A1,h2,ZP]
 cases x.all Bn <;> rfl

theorem Axc {n:Nat} {x y:List Rat} (hx:Sv x 40) (hy:Sv y 40) (h1:1<=x.length) (h4:x.length<=4) (hl:x.length=y.length) (hn:1048577<=n):f93 n [vq x,vq y]=some 0:=by
 obtain ⟨c,e1,e2⟩:=B34 (n:=n) (L:=[vq x,vq y]) (by simp) hn
 rw [e1]
 have:(c==0)=true:=by
  rw [e2]
  simp [A32 hx h1 h4,A32 hy (by omega) (by omega),hl]
 rw [Qat] at this;rw [this]

theorem B60 {n:Nat} {A:Rat} (hA:Sz A 40) (hn:1048577<=n):f94 n [rq A]=some 0:=by
 rw [A42 (by simp) hn,QK (by simp [Ps hA])]

theorem Az9 {n:Nat} (hn:1048577<=n):f68 n [0,0]=some 0:=by
 unfold f68
 obtain ⟨k,rfl⟩:∃ k,n=k+3:=⟨n-3,by omega⟩
 simp only [Acz,Xy];simp;rfl

theorem B5n {x:List Rat} (h:Sv x 40):x.all Bn=true:=QL.2 λa ha=>J8.2 (h a ha)

theorem B3m {n:Nat} {A:Rat} {x y:List Rat} (hA:Sz A 40) (hx:Sv x 40) (hy:Sv y 40) (h1:1<=x.length) (h4:x.length<=4) (hl:x.length=y.length) (hz:Sv (Lh A x y) 40) (hn:1048577<=n):f38 n (rq A) (vq x) (vq y)=some (vq (Lh A x y),0):=by
 unfold f38
 rw [Axc hx hy h1 h4 hl hn,A1,B60 hA hn,A1,Az9 hn,A1,KC,QV,B2u hA hx hy hl (by omega) hn,A1,Aca (by simp [Lh];omega) hn,A1,QK (B5n hz)]

theorem B1q {n:Nat} {x y:List Rat} (hx:Sv x 40) (hy:Sv y 40) (h1:1<=x.length) (h4:x.length<=4) (hl:x.length=y.length) (hz:Sz (Bg 0 x y) 40) (hn:1048577<=n):f101 n (vq x) (vq y)=some (rq (Bg 0 x y),0):=by
 unfold f101;rw [Axc hx hy h1 h4 hl hn,A1,KC,QV,B65 hx hy hl h4 hn,A1];obtain ⟨s1,s2⟩:=hz;unfold f56 f113 rq;dsimp only
 rw [ZA (by omega),ZA (by omega)]
 rfl

def Bq (x:Rat) (N D:Nat):Prop:=x.num.natAbs<=N/\x.den<=D

def Bv (x:List Rat) (N D:Nat):Prop:=∀ a ∈ x,Bq a N D

theorem Bq.sz {x:Rat} {N D:Nat} (h:Bq x N D) {L:Nat} (h1:N<10000 ^ L) (h2:D<10000 ^ L):Sz x L:=⟨Df (by have:=h.1;omega),Df (by have:=h.2;omega)⟩

theorem Bv.sz {x:List Rat} {N D:Nat} (h:Bv x N D) {L:Nat} (h1:N<10000 ^ L) (h2:D<10000 ^ L):Sv x L:=λa ha=>(h a ha).sz h1 h2

theorem Bq.mono {x:Rat} {N D N' D':Nat} (h:Bq x N D) (h1:N<=N') (h2:D<=D'):Bq x N' D':=⟨ZF h.1 h1,ZF h.2 h2⟩

theorem A5r {s:Bool} {a d N D:Nat} (hd:0<d) (h1:a<=N) (h2:d<=D):Bq (mq s a d) N D:=by
 unfold Bq;rw [Abu hd,Abv hd];have e1:a / Nat.gcd a d<=a:=JE _ _;have e2:d / Nat.gcd a d<=d:=JE _ _;generalize a / Nat.gcd a d=q at *
 refine ⟨?_,by omega⟩
 cases s <;> simp <;> omega

theorem Xb {x y:Rat} {N D N' D':Nat} (hx:Bq x N D) (hy:Bq y N' D'):Bq (x*y) (N*N') (D*D'):=by
 rw [A3g];exact A5r (YZ (ZT x.den_nz) (ZT y.den_nz)) (ZK hx.1 hy.1) (ZK hx.2 hy.2)

theorem A5s {x y:Rat} {N D N' D':Nat} (hx:Bq x N D) (hy:Bq y N' D'):Bq (x+y) (N*D'+N'*D) (D*D'):=by
 have hd:0<x.den*y.den:=YZ (ZT x.den_nz) (ZT y.den_nz);have l1:=ZK hx.1 hy.2;have l2:=ZK hy.1 hx.2;have l3:=ZK hx.2 hy.2;by_cases hs:decide (x.num<0)=decide (y.num<0)
 . rw [Tu hs];exact A5r hd (by omega) l3
 . by_cases hle:y.num.natAbs*x.den<=x.num.natAbs*y.den
   . rw [Kq hs hle];exact A5r hd (by omega) l3
   . rw [Rat.add_comm,Kq (λe=>hs e.symm) (by omega)];exact A5r (by rw [YP];exact hd) (by omega) (by rw [YP];exact l3)

theorem Bv.get {x:List Rat} {N D i:Nat} (hs:Bv x N D) (h:i<x.length):Bq (x.getD i 0) N D:=by
 refine hs _ ?_;rw [QJ,QM h];exact KM h

theorem Au7 {A:Rat} {a b N D N' D':Nat} (hA:Bq A a b):∀ {x y:List Rat},Bv x N D->Bv y N' D'->Bv (Lh A x y) (a*N*D'+N'*(b*D)) (b*D*D')
 | [],_,_,_=>by intro z hz;simp [Lh] at hz
 | _::_,[],_,_=>by intro z hz;simp [Lh] at hz
 | p::x,q::y,hx,hy=>by
  intro z hz;rcases QT.1 (show z ∈ (A*p+q)::Lh A x y from hz) with rfl | hz
  . exact A5s (Xb hA (hx p (by simp))) (hy q (by simp))
  . exact Au7 hA (λc hc=>hx c (by simp [hc])) (λc hc=>hy c (by simp [hc])) z hz

theorem Au8 {N D N' D':Nat}:∀ {x y:List Rat} {acc:Rat} {c E:Nat},Bv x N D->Bv y N' D'->1<=D*D'->Bq acc (c*E) E->Bq (Bg acc x y) ((c+x.length*(N*N'))*(E*(D*D') ^ x.length)) (E*(D*D') ^ x.length)
 | [],_,acc,c,E,_,_,_,h=>by simpa [Bg] using h
 | p::x,[],acc,c,E,_,_,hD,h=>by
  refine h.mono ?_ ?_
  . refine ZK (by omega) ?_
    exact Qad E (JL hD)
  . exact Qad E (JL hD)
 | p::x,q::y,acc,c,E,hx,hy,hD,h=>by
  have h1:=Xb (hx p (by simp)) (hy q (by simp))
  have h2:=A5s h h1
  have h3:Bq (acc+p*q) ((c+N*N')*(E*(D*D'))) (E*(D*D')):=by
   refine h2.mono ?_ (QZ _);rw [YA];have e1:c*E*(D*D')=c*(E*(D*D')):=Qbc _ _ _;have e2:N*N'*E<=N*N'*(E*(D*D')):=XF _ (Qad E hD);omega
  have:=Au8 (x:=x) (y:=y) (acc:=acc+p*q) (λc hc=>hx c (by simp [hc])) (λc hc=>hy c (by simp [hc])) hD h3
  show Bq (Bg (acc+p*q) x y) _ _;rw [ZE]
  have ee:E*(D*D') ^ (x.length+1)=E*(D*D')*(D*D') ^ x.length:=by rw [YV,YP ((D*D') ^ x.length),<- Qbc E]
  refine this.mono ?_ ?_
  . rw [ee];refine XL _ ?_;rw [YA];omega
  . rw [ee];exact QZ _

theorem B28 {N D N' D':Nat} {x y:List Rat} (hx:Bv x N D) (hy:Bv y N' D') (hD:1<=D*D') (h4:x.length<=4):Bq (Bg 0 x y) (4*(N*N')*(D*D') ^ 4) ((D*D') ^ 4):=by
 have:=Au8 (acc:=0) (c:=0) (E:=1) hx hy hD ⟨by simp,by simp⟩
 have hp:(D*D') ^ x.length<=(D*D') ^ 4:=KA hD h4;rw [KW,YK] at this;exact this.mono (ZK (XL _ h4) hp) hp

theorem Aji {n:Nat} {a b:Int} (ha:-10<=a/\a<=10) (hb:1<=b/\b<=9) (hn:1048577<=n):∃ x:Rat,f174 n a b=some (rq x,0)/\Bq x 10 9:=by
 unfold f174
 have la:(dg a.natAbs).length<=4:=Df (by omega)
 have lb:(dg b.natAbs).length<=4:=Df (by omega)
 rw [Apv,A1,ZA (by omega),Apv,A1,ZA (by omega),show (b==0)=false by rw [beq_eq_false_iff_ne];omega,Ajo (by omega) hn,A1,Ajo (by omega) hn,A1]
 dsimp only
 rw [B2e (L:=4) (show 0<b.natAbs by omega) la lb (by omega) (by omega),A1]
 exact ⟨_,rfl,A5r (by omega) (by omega) (by omega)⟩

theorem B1m {n:Nat} {P:Int} {s:Pc} (h:M5 P s) (hP:P<=1099511620000) (hn:1048577<=n):∃ (x:Rat) (s':Pc),Oz n s=some (rq x,s')/\Bq x 10 9/\M5 (P+6) s':=by
 unfold Oz
 obtain ⟨a,s1,e1,r1,o1⟩:=Mh (n:=n) (k:=21) h (by omega) (by omega) (by omega)
 rw [e1,A1]
 obtain ⟨b,s2,e2,r2,o2⟩:=Mh (n:=n) (k:=6) o1 (by omega) (by omega) (by omega)
 rw [e2,A1];dsimp only
 rw [Ab (x:=a-10) (by omega) (by omega),Ab (x:=1+b) (by omega) (by omega)]
 obtain ⟨x,e3,z⟩:=Aji (n:=n) (a:=a-10) (b:=1+b) (by omega) (by omega) hn
 rw [e3,A1]
 exact ⟨x,s2,rfl,z,o2.1,o2.2.1,⟨o2.2.2.1.1,by have:=o2.2.2.1.2;show s2.2.1<=P+6;omega⟩,o2.2.2.2⟩

theorem B2c {l:List Int} (h:∀ x ∈ l,0<=x/\x<=255) (hl:l.length<=1048576):M5 0 (l,0,Int.tmod (l.length:Int) 1000) :=
 ⟨h,hl,⟨Int.le_refl _,Int.le_refl _⟩,by rw [Fa (by omega)];dsimp only;omega,by rw [Fa (by omega)];dsimp only;omega⟩

theorem Ad1 {α:Type} {n k:Nat} (hk:k<=1000) (hn:1048577<=n) {k0:List Rt->List Int->Int->Int->Option α}:∀ (m i:Nat) (P:Int) (o:List Rat) (s:Pc),M5 P s->P+6*(k-i:Nat)<=1099511620000->o.length=i->i<=k->k<i+m->Bv o 10 9 ->
  ∃ (x:List Rat) (s':Pc),x.length=k/\Bv x 10 9/\M5 (P+6*(k-i:Nat)) s'/\Ja n m (k:Int) (i:Int) (vq o) s.1 s.2.1 s.2.2 k0=k0 (vq x) s'.1 s'.2.1 s'.2.2
 | 0,i,P,o,s,h1,h2,h3,h4,h5,h6=>by omega
 | m+1,i,P,o,s,h1,h2,h3,h4,h5,h6=>by
  rw [A8n];unfold Rn;rw [QI];by_cases h:i<k
  . rw [QK (by omega)]
    obtain ⟨a,s1,e1,r1,o1⟩:=B1m (n:=n) h1 (by omega) hn
    have e1:Oz n (s.1,s.2.1,s.2.2)=_:=e1
    rw [e1,A1,A3 (by simp;omega),Ab (x:=(i:Int)+1) (by omega) (by omega)]
    dsimp only
    obtain ⟨x,s',q1,q2,q3,q4⟩:=Ad1 hk hn (k0:=k0) m (i+1) (P+6) (o++[a]) s1 o1 (by omega) (by simp;omega) (by omega) (by omega) (λc hc=>by
     rcases QD.1 hc with hc | hc
     . exact h6 c hc
     . rw [QO.1 hc];exact r1)
    refine ⟨x,s',q1,q2,?_,?_⟩
    . rw [show P+6*((k-i:Nat):Int)=P+6+6*((k-(i+1):Nat):Int) by omega];exact q3
    . rw [<- q4];simp [vq]
  . rw [QH (by omega)]
    exact ⟨o,s,by omega,h6,by rw [show ((k-i:Nat):Int)=0 by omega];simpa using h1,rfl⟩

theorem B58 {n k:Nat} {l:List Int} (h:∀ x ∈ l,0<=x/\x<=255) (hl:l.length<=1048576) (hk:k<=1000) (hn:1048577<=n):∃ x:List Rat,f12 n l (k:Int)=some (vq x)/\x.length=k/\Bv x 10 9:=by
 unfold f12 A6r;rw [A1];unfold Al7
 obtain ⟨x,s',q1,q2,_,q4⟩:=Ad1 (k:=k) hk hn (k0:=λz_2 z_3 z_4 z_5=>some (z_2,(z_3,z_4,z_5))) n 0 0 [] _ (B2c h hl) (by omega) rfl (by omega) (by omega) (λc hc=>by simp at hc)
 have q4:Ja n n (k:Int) 0 [] _ _ _ _=_:=q4;rw [q4,A1];exact ⟨x,rfl,q1,q2⟩

theorem B20 {A:Rat} {x y:List Rat} (h:x.length=y.length):(Lh A x y).length=x.length:=by simp [Lh];omega

theorem Any (c:Nat):rq (c:Rat)=(false,dg c,dg 1):=by
 unfold rq
 rw [Rat.num_natCast,Rat.den_natCast,XI,QU (by omega)]

theorem Vj {n c:Nat} (hc:c<=100) (hn:1048577<=n):f92 n (c:Int)=some (rq (c:Rat)):=by
 unfold f92
 rw [QU (by omega),QV,Qh (by omega) (by omega),A1,Any,Ii]
 rfl

theorem Ir {c:Nat} (hc:c<=100):Sz (c:Rat) 1:=by
 unfold Sz;rw [Rat.num_natCast,Rat.den_natCast,XI]
 exact ⟨Df (by omega),Df (by omega)⟩

theorem B3o {n c:Nat} (hc:c<=100) (hn:1048577<=n):f37 n (c:Int) 1=some (rq (c:Rat),0):=by
 unfold f37
 rw [QU (by omega),QU (by omega),QU (by omega),QU (by omega),QV,QV,QV,QV,show ((1:Int)==0)=false from rfl,QV,Vj hc hn,A1]
 have e1:=Vj (n:=n) (c:=1) (by omega) hn
 have e1:f92 n 1=some (rq ((1:Nat):Rat)):=e1
 rw [e1,A1,Ac9 (L:=1) (Ir hc) (Ir (by omega)) (by decide) (by omega) (by omega),A1]
 have:(c:Rat) / ((1:Nat):Rat)=c:=by
  have h1:((1:Nat):Rat)=1:=rfl;rw [h1];grind
 rw [this]

def L6:List Int->Int
 | []=>0
 | c::r=>if c=0 then L6 r else c

theorem Acx {n:Nat} {l:List Int} (hl:l.length<=1048576):∀ (m i:Nat),i<=l.length->l.length<i+m->A46 n m l (l.length:Int) (i:Int) (λz=>some z) (λ(_:Unit)=>some 0)=some (L6 (l.drop i))
 | 0,i,hi,hm=>by omega
 | m+1,i,hi,hm=>by
  rw [Acz];unfold Xy;rw [QI];by_cases h:i<l.length
  . have hx : l.drop i = l.getD i 0 :: l.drop (i + 1) := by
     rw [XG h];simp [QJ,h]
    rw [QK (by omega),A3 (by simp;try omega),QQ,hx]
    unfold L6;by_cases c:l.getD i 0=0
    . rw [c,KC,QV,QK rfl,Ab (x:=(i:Int)+1) (by omega) (by omega)]
      exact Acx hl m (i+1) (by omega) (by omega)
    . rw [QH c,show (l.getD i 0 != 0)=true by rw [bne_iff_ne];exact c,ZS]
  . rw [QH (by omega),QX (by omega)];rfl

theorem N3 {n:Nat} {l:List Int} (hl:l.length<=1048576) (hn:1048577<=n):f68 n l=some (L6 l):=by
 unfold f68
 have:=Acx (n:=n) hl n 0 (by omega) (by omega)
 simpa using this

def Ac3 (L:List (List Rt)):Bool:=L.any λv=>decide (4096<v.length)

theorem Aia {n:Nat} {L:List (List Rt)} (hl:L.length<=1048576) (hn:1048577<=n):f98 n L=some (if Ac3 L=true then 2 else 0):=by
 obtain ⟨c,h1,h2⟩:=Ape (n:=n) hl hn;rw [h1];rcases h2 with ⟨rfl,h⟩ | ⟨rfl,v,hv,h⟩
 . rw [QH];intro c;obtain ⟨v,hv,h3⟩:=ZY.1 c;have:=h v hv;have:=Qaf h3;omega
 . rw [QK];exact ZY.2 ⟨v,hv,ZA h⟩

theorem Azd {n:Nat} {x:Rat} (h:Sz x 1000000):f97 n (rq x)=some (rq x):=by
 obtain ⟨h1,h2⟩:=h;unfold f97 rq;dsimp only
 rw [Eb n (by omega),A1,Eb n (by omega),A1]

theorem Hh {n:Nat} {b:Bool} {c:Int}:f69 n b c=some (if b=true then 0 else c):=by
 unfold f69;cases b <;> rfl

theorem W1 {a:Nat} (h:a<=1000000):W ((a:Int)+1)=((a+1:Nat):Int):=Ab (by omega) (by omega)

def B7j (X:List Rat) (k i:Nat):List Rat:=(X.drop (i*k)).take k

def mvR (A X:List Rat):List Rat:=(List.range X.length).map λi=>Bg 0 (B7j A X.length i) X

def Aaw (w:Nat) (row:List Rt) (v:Nat->Rat):Prop:=row.length=w /\ ∀ c,c<w->row.getD c rt0=rq (v c)

def Ag2 (m w:Nat) (R:List (List Rt)) (M:Nat->Nat->Rat):Prop:=R.length=m /\ ∀ r,r<m->Aaw w (R.getD r []) (M r)

def SzM (M:Nat->Nat->Rat) (L:Nat):Prop:=∀ r c,Sz (M r c) L

theorem A69 {n L:Nat} {x:Rat} (hx:Sz x L) (hL:L<=1099511627000):f97 n (rq x)=some (rq x):=by
 obtain ⟨x1,x2⟩:=hx;unfold f97 rq;dsimp only
 rw [Eb n (by omega),A1,Eb n (by omega),A1]

theorem SzM.mono {M:Nat->Nat->Rat} {L L':Nat} (h:SzM M L) (hL:L<=L'):SzM M L':=λr c=>(h r c).mono hL

theorem Aaw.congr {w:Nat} {row:List Rt} {u v:Nat->Rat} (h:Aaw w row u) (e:∀ c,c<w->u c=v c):Aaw w row v:=⟨h.1,λc hc=>by rw [h.2 c hc,e c hc]⟩

theorem Ag2.congr {m w:Nat} {R:List (List Rt)} {M M':Nat->Nat->Rat} (h:Ag2 m w R M) (e:∀ r c,r<m->c<w->M r c=M' r c):Ag2 m w R M':=⟨h.1,λr hr=>(h.2 r hr).congr λc hc=>e r c hr hc⟩

structure A7r (m:Nat) (a b:List Rt) (M:Nat->Nat->Rat):Prop where
 la:a.length=m*m
 lb:b.length=m
 at_:∀ r c,r<m->c<m->a.getD (r*m+c) rt0=rq (M r c)
 bt:∀ r,r<m->b.getD r rt0=rq (M r m)

theorem A7r.congr {m:Nat} {a b:List Rt} {M M':Nat->Nat->Rat} (h:A7r m a b M) (e:∀ r c,r<m->c<=m->M r c=M' r c):A7r m a b M' :=
 ⟨h.la,h.lb,λr c hr hc=>by rw [h.at_ r c hr hc,e r c hr (by omega)],λr hr=>by rw [h.bt r hr,e r m hr (QZ _)]⟩

theorem Qw {L:Nat} (h:1<=L):Sz (1:Rat) L:=(Ir (c:=1) (by omega)).mono h

theorem B2f (a:Int):rq (a:Rat)=(decide (a<0),dg a.natAbs,dg 1):=by
 unfold rq;rw [Rat.num_intCast,Rat.den_intCast]

theorem B5t {a:Int} {N:Nat} (h:a.natAbs<=N):Bq (a:Rat) N 1:=by
 unfold Bq;rw [Rat.num_intCast,Rat.den_intCast];exact ⟨h,QZ _⟩

theorem Xp {n:Nat} {x:Rat}:f113 n (rq x)=some (Bn x):=by
 unfold f113 Bn rq;dsimp only;rw [QI];by_cases h:(dg x.num.natAbs).length<=40
 . rw [QK (by omega),ZA h,XK]
   by_cases c:(dg x.den).length<=40
   . rw [ZA c,ZA (by omega)]
   . rw [QU c,QU (by omega)]
 . rw [QH (by omega),QU h];rfl

theorem Jt {x y:Rat} {L K:Nat} (hx:Sz x L) (hy:Sz y K):Sz (x+y) (L+K+1):=by
 obtain ⟨x1,x2⟩:=hx;obtain ⟨y1,y2⟩:=hy;have l1:=Bi x.num.natAbs y.den;have l2:=Bi y.num.natAbs x.den;have l3:=Bi x.den y.den;have l4:=A66 (x.num.natAbs*y.den) (y.num.natAbs*x.den);have hd:0<x.den*y.den:=YZ (ZT x.den_nz) (ZT y.den_nz);by_cases hs:decide (x.num<0)=decide (y.num<0)
 . rw [Tu hs];exact M4 hd (by omega) (by omega)
 . by_cases hle:y.num.natAbs*x.den<=x.num.natAbs*y.den
   . have l5:=Bc (Qau (x.num.natAbs*y.den) (y.num.natAbs*x.den))
     rw [Kq hs hle];exact M4 hd (by omega) (by omega)
   . have l5:=Bc (Qau (y.num.natAbs*x.den) (x.num.natAbs*y.den))
     rw [Rat.add_comm,Kq (λe=>hs e.symm) (by omega),YP y.den x.den];exact M4 hd (by omega) (by omega)

theorem Aj {x y:Rat} {L K:Nat} (hx:Sz x L) (hy:Sz y K):Sz (x*y) (L+K+1):=by
 obtain ⟨x1,x2⟩:=hx;obtain ⟨y1,y2⟩:=hy;have l1:=Bi x.num.natAbs y.num.natAbs;have l3:=Bi x.den y.den;rw [A3g]
 exact M4 (YZ (ZT x.den_nz) (ZT y.den_nz)) (by omega) (by omega)

theorem B24 {x y:Rat} {L K:Nat} (hx:Sz x L) (hy:Sz y K) (hy0:y ≠ 0):Sz (x / y) (L+K+1):=by
 obtain ⟨x1,x2⟩:=hx;obtain ⟨y1,y2⟩:=hy;have l1:=Bi x.num.natAbs y.den;have l3:=Bi x.den y.num.natAbs;have hyn:y.num ≠ 0:=λe=>hy0 (JV.1 e);rw [Atc hy0]
 exact M4 (YZ (ZT x.den_nz) (by omega)) (by omega) (by omega)

theorem Az5 {n:Nat} (hn:1048577<=n):f92 n 0=some (rq 0):=Vj (c:=0) (by omega) hn

def B7k (M:Nat->Nat->Rat) (m i:Nat):List Rat:=(List.range m).map (M i)

def bsV (M:Nat->Nat->Rat) (m i:Nat) (X:List Rat):Rat:=(M i m-Bg 0 (B7k M m i) X) / M i i

def bs (M:Nat->Nat->Rat) (m:Nat):Nat->List Rat->List Rat
 | 0,X=>X
 | i+1,X=>bs M m i (X.set i (bsV M m i X))

theorem Ayi {i:Nat}:vq (List.replicate i 0)++[rq 0]=vq (List.replicate (i+1) 0):=by
 rw [List.replicate_succ'];simp [vq]

theorem U3 {α:Type} {n m:Nat} (hm:m<=1000) (hn:1048577<=n) {k0:List Rt->Option α}:∀ (fu i:Nat),i<=m->m<i+fu->Xw n fu (m:Int) (i:Int) (vq (List.replicate i 0)) k0=k0 (vq (List.replicate m 0))
 | 0,i,h1,h2=>by omega
 | fu+1,i,h1,h2=>by
  rw [Apr];unfold A0d;rw [QI];by_cases h:i<m
  . rw [QK (by omega),Az5 hn,A1,A3 (by simp;omega),W1 (by omega),Ayi]
    exact U3 hm hn fu (i+1) (by omega) (by omega)
  . obtain rfl:i=m:=by omega
    rw [QH (by omega)]

theorem Av4 {n m:Nat} (hm:m<=1000) (hn:1048577<=n):A0e n (m:Int)=some (vq (List.replicate m 0)):=by
 unfold A0e
 exact U3 (n:=n) (k0:=λz=>some z) hm hn n 0 (by omega) (by omega)

theorem Hc:∀ (x y:List Rat) (a:Rat),Bg a x y=a+Bg 0 x y
 | [],_,a=>by simp [Bg,Rat.add_zero]
 | p::x,[],a=>by simp [Bg,Rat.add_zero]
 | p::x,q::y,a=>by
  simp only [Bg];rw [Hc x y (a+p*q),Hc x y (0+p*q)];grind

theorem A9n:∀ (x y:List Rat),Bg 0 x y=Bg 0 y x
 | [],[]=>rfl
 | [],_::_=>rfl
 | _::_,[]=>rfl
 | p::x,q::y=>by
  simp only [Bg];rw [Hc,Hc y,A9n x y];grind

theorem Tb:∀ (x:List Rat),0<=Bg 0 x x
 | []=>by simp only [Bg];exact Rat.le_refl
 | p::x=>by
  have:=Tb x
  have h2:(0:Rat)<=p*p:=by
   rcases Rat.le_total (a:=0) (b:=p) with h | h
   . exact Qba h h
   . have:=Qba (a:=-p) (b:=-p) (by grind) (by grind)
     grind
  simp only [Bg];rw [Hc];grind

theorem Akc (p:Rat):0<=p*p:=by
 rcases Rat.le_total (a:=0) (b:=p) with h | h
 . exact Qba h h
 . have:=Qba (a:=-p) (b:=-p) (by grind) (by grind)
   grind

theorem Af6:∀ {x:List Rat},Bg 0 x x=0->∀ i,x.getD i 0=0
 | [],_,i=>by simp
 | p::x,h,i=>by
  simp only [Bg] at h;rw [Hc] at h;have h1:=Tb x;have h2:=Akc p
  have h3:Bg 0 x x=0:=by grind
  have h4:p*p=0:=by grind
  have h5:p=0:=by rcases Rat.mul_eq_zero.1 h4 with h | h <;> exact h
  cases i with
  | zero=>simpa using h5
  | succ i=>simpa using Af6 h3 i

theorem A9m:∀ {x:List Rat} (z:List Rat),(∀ i,x.getD i 0=0)->Bg 0 x z=0
 | [],_,_=>rfl
 | p::x,[],_=>rfl
 | p::x,c::z,h=>by
  have h0:p=0:=by simpa using h 0
  have h1:=A9m (x:=x) z λi=>by simpa using h (i+1)
  simp only [Bg];rw [Hc,h1,h0];grind

structure Pd (A:List Rat) (k:Nat):Prop where
 sa:∀ X Y,X.length=k->Y.length=k->Bg 0 (mvR A X) Y=Bg 0 X (mvR A Y)
 pd:∀ X,X.length=k->Bg 0 X X<=Bg 0 X (mvR A X)

structure CgI (A R D:List Rat) (k:Nat):Prop where
 lR:R.length=k
 lD:D.length=k
 i1:Bg 0 R D=Bg 0 R R
 i2:Bg 0 R (mvR A D)=Bg 0 D (mvR A D)

theorem CgI.p {A R D:List Rat} {k:Nat} (h:CgI A R D k) (hA:Pd A k) (hr:Bg 0 R R ≠ 0):Bg 0 D (mvR A D) ≠ 0:=by
 intro e;have h1:=hA.pd D h.lD;have h2:=Tb D
 have h3:Bg 0 D D=0:=by grind
 have h4:=A9m R (Af6 h3);rw [A9n,h.i1] at h4;exact hr h4

structure Q4 where
 f:Rat
 a:Rat
 v:Rat
 c:Rat

theorem Q4.ext' {p q:Q4} (h1:p.f=q.f) (h2:p.a=q.a) (h3:p.v=q.v) (h4:p.c=q.c):p=q:=by
 cases p;cases q;simp only at h1 h2 h3 h4;rw [h1,h2,h3,h4]

def Q4.cst (k:Rat):Q4:=⟨k,0,0,0⟩

def Q4.add (p q:Q4):Q4:=⟨p.f+q.f,p.a+q.a,p.v+q.v,p.c+q.c⟩

def Q4.neg (p:Q4):Q4:=⟨-p.f,-p.a,-p.v,-p.c⟩

def Q4.mul (p q:Q4):Q4:=⟨p.f*q.f,p.a*q.f+p.f*q.a,p.v*q.f+p.f*q.v,p.c*q.f+p.f*q.c+(p.a*q.v+p.v*q.a)⟩

def Q4.inv (p:Q4):Q4:=⟨1 / p.f,-(p.a*(1 / p.f*(1 / p.f))),-(p.v*(1 / p.f*(1 / p.f))),2*(1 / p.f*(1 / p.f)*(1 / p.f))*(p.a*p.v)-p.c*(1 / p.f*(1 / p.f))⟩

def Q4.pow (p:Q4):Nat->Q4
 | 0=>cst 1
 | n+1=>mul (pow p n) p

def Q4.d1 (f:Rat):Nat->Rat
 | 0=>0
 | n+1=>f ^ n*((n+1:Nat):Rat)

def Q4.d2 (f:Rat):Nat->Rat
 | 0=>0
 | 1=>0
 | n+2=>f ^ n*(((n+2)*(n+1):Nat):Rat)

theorem Q4.d1_suc (f:Rat) (n:Nat):d1 f (n+1)=d1 f n*f+f ^ n:=by
 cases n with
 | zero=>simp [d1];grind
 | succ n=>simp only [d1,Rat.pow_succ];push_cast;grind

theorem Q4.d2_suc (f:Rat) (n:Nat):d2 f (n+1)=d2 f n*f+2*d1 f n:=by
 match n with
 | 0=>simp [d2,d1];grind
 | 1=>simp [d2,d1];grind
 | n+2=>simp only [d2,d1,Rat.pow_succ];push_cast;grind

theorem Q4.pow_eq (p:Q4):∀ n,pow p n=⟨p.f ^ n,d1 p.f n*p.a,d1 p.f n*p.v,d2 p.f n*p.a*p.v+d1 p.f n*p.c⟩
 | 0=>by simp [pow,cst,d1,d2];grind
 | n+1=>by
  rw [pow,pow_eq p n];simp only [mul];refine ext' ?_ ?_ ?_ ?_
  . simp only [Rat.pow_succ]
  . simp only [d1_suc];grind
  . simp only [d1_suc];grind
  . simp only [d1_suc,d2_suc];grind

structure Z4 where
 f:Int
 a:Int
 v:Int
 c:Int

def Z4.q (p:Z4):Q4:=⟨(p.f:Rat),(p.a:Rat),(p.v:Rat),(p.c:Rat)⟩

def Z4.n (p:Z4):Nat:=p.f.natAbs+p.a.natAbs+p.v.natAbs+p.c.natAbs

def Z4.add (p q:Z4):Z4:=⟨p.f+q.f,p.a+q.a,p.v+q.v,p.c+q.c⟩

def Z4.mul (p q:Z4):Z4:=⟨p.f*q.f,p.a*q.f+p.f*q.a,p.v*q.f+p.f*q.v,p.c*q.f+p.f*q.c+(p.a*q.v+p.v*q.a)⟩

theorem Z4.q_mul (p q:Z4):(mul p q).q=Q4.mul p.q q.q:=by
 refine Q4.ext' ?_ ?_ ?_ ?_ <;> simp only [Z4.q,mul,Q4.mul] <;> push_cast <;> rfl

theorem Z4.q_add (p q:Z4):(add p q).q=Q4.add p.q q.q:=by
 refine Q4.ext' ?_ ?_ ?_ ?_ <;> simp only [Z4.q,add,Q4.add] <;> push_cast <;> rfl

theorem Z4.n_add (p q:Z4):(add p q).n<=p.n+q.n:=by
 have h1:=YD p.f q.f;have h2:=YD p.a q.a;have h3:=YD p.v q.v;have h4:=YD p.c q.c;simp only [n,add];omega

theorem Z4.n_mul (p q:Z4):(mul p q).n<=p.n*q.n:=by
 have h2:=YD (p.a*q.f) (p.f*q.a);have h3:=YD (p.v*q.f) (p.f*q.v);have h4:=YD (p.c*q.f+p.f*q.c) (p.a*q.v+p.v*q.a);have h5:=YD (p.c*q.f) (p.f*q.c);have h6:=YD (p.a*q.v) (p.v*q.a);simp only [n,mul,YA,Nat.mul_add,XR] at *;generalize p.f.natAbs*q.f.natAbs=x1 at *;generalize p.a.natAbs*q.f.natAbs=x2 at *;generalize p.f.natAbs*q.a.natAbs=x3 at *;generalize p.v.natAbs*q.f.natAbs=x4 at *;generalize p.f.natAbs*q.v.natAbs=x5 at *;generalize p.c.natAbs*q.f.natAbs=x6 at *;generalize p.f.natAbs*q.c.natAbs=x7 at *;generalize p.a.natAbs*q.v.natAbs=x8 at *;generalize p.v.natAbs*q.a.natAbs=x9 at *;omega

def Bt (q:Q4) (M:Nat):Prop:=∃ P Q:Z4,Q.f ≠ 0/\Q4.mul q Q.q=P.q/\P.n<=M/\Q.n<=M

theorem Bt.mono {q:Q4} {M N:Nat} (h:Bt q M) (hN:M<=N):Bt q N:=by
 obtain ⟨P,Q,h1,h2,h3,h4⟩:=h;exact ⟨P,Q,h1,h2,ZF h3 hN,ZF h4 hN⟩

theorem Q4.mul_comm (p q:Q4):mul p q=mul q p:=by
 refine ext' ?_ ?_ ?_ ?_ <;> simp only [mul] <;> grind

theorem Q4.mul_assoc (p q r:Q4):mul (mul p q) r=mul p (mul q r):=by
 refine ext' ?_ ?_ ?_ ?_ <;> simp only [mul] <;> grind

theorem Q4.add_mul (p q r:Q4):mul (add p q) r=add (mul p r) (mul q r):=by
 refine ext' ?_ ?_ ?_ ?_ <;> simp only [mul,add] <;> grind

theorem Q4.neg_mul (p r:Q4):mul (neg p) r=neg (mul p r):=by
 refine ext' ?_ ?_ ?_ ?_ <;> simp only [mul,neg] <;> grind

theorem Q4.inv_mul (p:Q4) (h:p.f ≠ 0):mul (inv p) p=cst 1:=by
 have h1:1 / p.f*p.f=1:=by grind
 generalize hr:1 / p.f=r at h1;refine ext' ?_ ?_ ?_ ?_ <;> simp only [mul,inv,cst,hr] <;> grind

theorem Q4.one_mul (p:Q4):mul (cst 1) p=p:=by
 refine ext' ?_ ?_ ?_ ?_ <;> simp only [mul,cst] <;> grind

theorem Q4.mul4 (p q r s:Q4):mul (mul p q) (mul r s)=mul (mul p r) (mul q s):=by
 rw [mul_assoc,<- mul_assoc q,mul_comm q r,mul_assoc r,<- mul_assoc]

theorem Mu {a b:Int} (ha:a ≠ 0) (hb:b ≠ 0):a*b ≠ 0:=by
 intro h;rcases Int.mul_eq_zero.1 h with h | h
 . exact ha h
 . exact hb h

theorem Bt.mul {p q:Q4} {M N:Nat} (hp:Bt p M) (hq:Bt q N):Bt (Q4.mul p q) (M*N):=by
 obtain ⟨P,Q,h1,h2,h3,h4⟩:=hp;obtain ⟨R,S,g1,g2,g3,g4⟩:=hq;refine ⟨Z4.mul P R,Z4.mul Q S,Mu h1 g1,?_,ZF (Z4.n_mul _ _) (ZK h3 g3),ZF (Z4.n_mul _ _) (ZK h4 g4)⟩;rw [Z4.q_mul,Z4.q_mul,Q4.mul4,h2,g2]

theorem Bt.add {p q:Q4} {M N:Nat} (hp:Bt p M) (hq:Bt q N):Bt (Q4.add p q) (2*(M*N)):=by
 obtain ⟨P,Q,h1,h2,h3,h4⟩:=hp;obtain ⟨R,S,g1,g2,g3,g4⟩:=hq;have e1:=ZK h3 g4;have e2:=ZK h4 g3;have e3:=ZK h4 g4;have n1:=Z4.n_mul P S;have n2:=Z4.n_mul R Q;have n3:=Z4.n_mul Q S;have n4:=Z4.n_add (Z4.mul P S) (Z4.mul R Q);rw [YP R.n] at n2
 refine ⟨Z4.add (Z4.mul P S) (Z4.mul R Q),Z4.mul Q S,Mu h1 g1,?_,by omega,by omega⟩
 rw [Z4.q_add,Z4.q_mul,Z4.q_mul,Z4.q_mul,Q4.add_mul,<- h2,<- g2,Q4.mul_assoc,Q4.mul_assoc,Q4.mul_comm Q.q S.q]

theorem Bt.neg {p:Q4} {M:Nat} (hp:Bt p M):Bt (Q4.neg p) M:=by
 obtain ⟨P,Q,h1,h2,h3,h4⟩:=hp
 refine ⟨⟨-P.f,-P.a,-P.v,-P.c⟩,Q,h1,?_,by simpa [Z4.n] using h3,h4⟩
 rw [Q4.neg_mul,h2];refine Q4.ext' ?_ ?_ ?_ ?_ <;> simp only [Q4.neg,Z4.q] <;> push_cast <;> rfl

theorem Bt.inv {p:Q4} {M:Nat} (hp:Bt p M) (h0:p.f ≠ 0):Bt (Q4.inv p) M:=by
 obtain ⟨P,Q,h1,h2,h3,h4⟩:=hp;refine ⟨Q,P,?_,?_,h4,h3⟩
 . have:p.f*(Q.f:Rat)=(P.f:Rat):=ZN Q4.f h2;intro h;rw [h] at this
   have hq:(Q.f:Rat) ≠ 0:=by simpa using h1
   grind
 . rw [<- h2,<- Q4.mul_assoc,Q4.inv_mul p h0,Q4.one_mul]

theorem Bt.one:Bt (Q4.cst 1) 1:=⟨⟨1,0,0,0⟩,⟨1,0,0,0⟩,by decide,by
 refine Q4.ext' ?_ ?_ ?_ ?_ <;> simp only [Q4.mul,Q4.cst,Z4.q] <;> simp [Rat.add_zero],by decide,by decide⟩

theorem Bt.cst (k:Int):Bt (Q4.cst (k:Rat)) (max k.natAbs 1):=⟨⟨k,0,0,0⟩,⟨1,0,0,0⟩,by simp,by
 refine Q4.ext' ?_ ?_ ?_ ?_ <;> simp only [Q4.mul,Q4.cst,Z4.q] <;> simp [Rat.add_zero],by simp [Z4.n];omega,by simp [Z4.n];omega⟩

theorem Bt.pow {p:Q4} {M:Nat} (hp:Bt p M):∀ n,Bt (Q4.pow p n) (M ^ n)
 | 0=>by simpa [Q4.pow] using Bt.one
 | n+1=>by simpa only [Q4.pow,YV] using (Bt.pow hp n).mul hp

def Hb (x:Rat) (B:Nat):Prop:=x.num.natAbs<=B/\x.den<=B

theorem Hb.mono {x:Rat} {B C:Nat} (h:Hb x B) (hC:B<=C):Hb x C:=⟨ZF h.1 hC,ZF h.2 hC⟩

theorem R4 (x:Rat):x*((x.den:Int):Rat)=(x.num:Rat):=by
 have h1:mkRat x.num x.den=x:=Rat.mkRat_self x;rw [Rat.mkRat_eq_div] at h1
 have h2:((x.den:Int):Rat) ≠ 0:=by have:=x.den_nz;simpa using this
 rw [KE] at h2 ⊢;generalize (x.den:Rat)=d at *;grind

theorem Bt.var {x w:Rat} {δ:Int} {A B C D:Nat} (hx:x.num.natAbs<=A) (hxd:x.den<=B) (hw:w.num.natAbs<=C) (hwd:w.den<=D) (hδ:δ.natAbs<=1):Bt ⟨x,(δ:Rat),w,0⟩ (A*D+B*D+C*B):=by
 have h1:=R4 x;have h2:=R4 w;have e1:=ZK hx hwd;have e2:=ZK hxd hwd;have e3:=ZK hw hxd;have e4:δ.natAbs*(x.den*w.den)<=1*(x.den*w.den):=XL _ hδ
 refine ⟨⟨x.num*w.den,δ*(x.den*w.den),w.num*x.den,0⟩,⟨(x.den:Int)*w.den,0,0,0⟩,Mu (by have:=x.den_nz;omega) (by have:=w.den_nz;omega),?_,?_,?_⟩
 . refine Q4.ext' ?_ ?_ ?_ ?_ <;> simp only [Q4.mul,Z4.q] <;> simp only [JW,<- h1,<- h2] <;> grind
 . simp only [Z4.n,XR,XI];have:((0:Int).natAbs)=0:=rfl;omega
 . simp only [Z4.n,XR,XI];have:((0:Int).natAbs)=0:=rfl;omega

theorem Qx {x:Rat} {z d:Int} {B:Nat} (h:x*(d:Rat)=(z:Rat)) (hd:d ≠ 0) (h1:z.natAbs<=B) (h2:d.natAbs<=B):Hb x B:=by
 have hx:x.num*d=z*x.den:=by
  have:=R4 x
  have h3:(x.num:Rat)*(d:Rat)=(z:Rat)*((x.den:Int):Rat):=by grind
  exact_mod_cast h3
 have hc:=x.reduced
 have e1:x.num.natAbs*d.natAbs=z.natAbs*x.den:=by
  have:=ZN Int.natAbs hx;simpa only [XR,XI] using this
 have d1:x.den ∣ d.natAbs:=hc.symm.dvd_of_dvd_mul_left (by rw [e1];exact Nat.dvd_mul_left _ _)
 have d2:x.num.natAbs ∣ z.natAbs:=hc.dvd_of_dvd_mul_right (by rw [<- e1];exact Nat.dvd_mul_right _ _)
 have p1:0<d.natAbs:=by omega
 refine ⟨?_,ZF (Nat.le_of_dvd p1 d1) h2⟩;rcases YR z.natAbs with h0 | h0
 . rw [h0] at d2
   have:x.num.natAbs=0:=by
    rw [h0,KY] at e1;rcases Qan.1 e1 with h | h
    . exact h
    . omega
   omega
 . exact ZF (Nat.le_of_dvd h0 d2) h1

theorem Bt.sizes {q:Q4} {M:Nat} (h:Bt q M):Hb q.f (6*(M*M*M))/\Hb q.a (6*(M*M*M))/\Hb q.v (6*(M*M*M))/\Hb q.c (6*(M*M*M)):=by
 obtain ⟨P,Q,h1,h2,h3,h4⟩:=h
 have q0:(Q.f:Rat) ≠ 0:=by simpa using h1
 have e1:q.f*(Q.f:Rat)=(P.f:Rat):=ZN Q4.f h2;have e2:q.a*(Q.f:Rat)+q.f*(Q.a:Rat)=(P.a:Rat):=ZN Q4.a h2;have e3:q.v*(Q.f:Rat)+q.f*(Q.v:Rat)=(P.v:Rat):=ZN Q4.v h2;have e4:q.c*(Q.f:Rat)+q.f*(Q.c:Rat)+(q.a*(Q.v:Rat)+q.v*(Q.a:Rat))=(P.c:Rat):=ZN Q4.c h2
 have m1:1<=Q.f.natAbs:=by omega
 simp only [Z4.n] at h3 h4
 have M1:1<=M:=by omega
 have pf:P.f.natAbs<=M:=by omega
 have pa:P.a.natAbs<=M:=by omega
 have pv:P.v.natAbs<=M:=by omega
 have pc:P.c.natAbs<=M:=by omega
 have qf:Q.f.natAbs<=M:=by omega
 have qa:Q.a.natAbs<=M:=by omega
 have qv:Q.v.natAbs<=M:=by omega
 have qc:Q.c.natAbs<=M:=by omega
 clear h3 h4;have MM:M*1<=M*M:=XF _ M1;have MMM:M*M*1<=M*M*M:=XF _ M1;have b:∀ {x y:Nat},x<=M->y<=M->x*y<=M*M:=λhx hy=>ZK hx hy;have b3:∀ {x y z:Nat},x<=M->y<=M->z<=M->x*y*z<=M*M*M:=λhx hy hz=>ZK (ZK hx hy) hz;have qq:Q.f.natAbs*Q.f.natAbs<=M*M:=b qf qf;have qqq:Q.f.natAbs*Q.f.natAbs*Q.f.natAbs<=M*M*M:=b3 qf qf qf
 refine ⟨Qx e1 h1 (by omega) (by omega),?_,?_,?_⟩
 . refine Qx (z:=P.a*Q.f-P.f*Q.a) (d:=Q.f*Q.f) ?_ (Mu h1 h1) ?_ (by rw [XR];omega)
   . push_cast;rw [<- e1,<- e2];grind
   . have:=JG (P.a*Q.f) (P.f*Q.a);have c1:=b pa qf;have c2:=b pf qa;rw [XR,XR] at this;omega
 . refine Qx (z:=P.v*Q.f-P.f*Q.v) (d:=Q.f*Q.f) ?_ (Mu h1 h1) ?_ (by rw [XR];omega)
   . push_cast;rw [<- e1,<- e3];grind
   . have:=JG (P.v*Q.f) (P.f*Q.v);have c1:=b pv qf;have c2:=b pf qv;rw [XR,XR] at this;omega
 . refine Qx (z:=P.c*Q.f*Q.f-P.a*Q.v*Q.f-P.v*Q.a*Q.f-P.f*Q.c*Q.f+(P.f*Q.a*Q.v+P.f*Q.a*Q.v)) (d:=Q.f*Q.f*Q.f) ?_ (Mu (Mu h1 h1) h1) ?_ (by rw [XR,XR];omega)
   . push_cast;rw [<- e1,<- e2,<- e3,<- e4];generalize (Q.f:Rat)=X1,(Q.a:Rat)=X2,(Q.v:Rat)=X3,(Q.c:Rat)=X4;grind
   . have s1:=JG (P.c*Q.f*Q.f) (P.a*Q.v*Q.f);have s2:=JG (P.c*Q.f*Q.f-P.a*Q.v*Q.f) (P.v*Q.a*Q.f);have s3:=JG (P.c*Q.f*Q.f-P.a*Q.v*Q.f-P.v*Q.a*Q.f) (P.f*Q.c*Q.f);have s4:=YD (P.c*Q.f*Q.f-P.a*Q.v*Q.f-P.v*Q.a*Q.f-P.f*Q.c*Q.f) (P.f*Q.a*Q.v+P.f*Q.a*Q.v);have s5:=YD (P.f*Q.a*Q.v) (P.f*Q.a*Q.v)
     have k:P.c.natAbs*Q.f.natAbs*Q.f.natAbs+P.a.natAbs*Q.v.natAbs*Q.f.natAbs+P.v.natAbs*Q.a.natAbs*Q.f.natAbs+P.f.natAbs*Q.c.natAbs*Q.f.natAbs+(P.f.natAbs*Q.a.natAbs*Q.v.natAbs+P.f.natAbs*Q.a.natAbs*Q.v.natAbs)<=6*(M*M*M):=by
      have c1:=b3 pc qf qf;have c2:=b3 pa qv qf;have c3:=b3 pv qa qf;have c4:=b3 pf qc qf;have c5:=b3 pf qa qv;omega
     simp only [XR] at s1 s2 s3 s4 s5;refine ZF (ZF s4 ?_) k;clear b b3 e1 e2 e3 e4 h2;omega

abbrev Nd:=Int × Int × Int × Int

def Av (x u w:Nat->Rat) (l:List Q4) (n:Nd):Q4 :=
 if n.1=1 then Q4.cst (n.2.2.2:Rat)
 else if n.1=2 then ⟨x n.2.2.2.toNat,u n.2.2.2.toNat,w n.2.2.2.toNat,0⟩
 else if n.1=3 then Q4.add (l.getD n.2.1.toNat (Q4.cst 0)) (l.getD n.2.2.1.toNat (Q4.cst 0))
 else if n.1=4 then Q4.add (l.getD n.2.1.toNat (Q4.cst 0)) (Q4.neg (l.getD n.2.2.1.toNat (Q4.cst 0)))
 else if n.1=5 then Q4.mul (l.getD n.2.1.toNat (Q4.cst 0)) (l.getD n.2.2.1.toNat (Q4.cst 0))
 else if n.1=6 then Q4.mul (l.getD n.2.1.toNat (Q4.cst 0)) (Q4.inv (l.getD n.2.2.1.toNat (Q4.cst 0)))
 else if n.1=7 then Q4.neg (l.getD n.2.1.toNat (Q4.cst 0))
 else Q4.pow (l.getD n.2.1.toNat (Q4.cst 0)) n.2.2.2.toNat

def evs (x u w:Nat->Rat):List Nd->List Q4->List Q4
 | [],l=>l
 | n::r,l=>evs x u w r (l++[Av x u w l n])

theorem A7e (x u w:Nat->Rat):∀ (ns:List Nd) (l:List Q4),(evs x u w ns l).length=l.length+ns.length
 | [],l=>by simp [evs]
 | n::r,l=>by rw [evs,A7e x u w r];simp;omega

theorem A7f (x u w:Nat->Rat):∀ (ns ms:List Nd) (l:List Q4),evs x u w (ns++ms) l=evs x u w ms (evs x u w ns l)
 | [],ms,l=>rfl
 | n::r,ms,l=>by rw [YB,evs,A7f x u w r,evs]

theorem Yk (x u w:Nat->Rat):∀ (ns:List Nd) (l:List Q4) (k:Nat),k<l.length->(evs x u w ns l).getD k (Q4.cst 0)=l.getD k (Q4.cst 0)
 | [],l,k,h=>rfl
 | n::r,l,k,h=>by
  rw [evs,Yk x u w r _ k (by simp;omega)]
  simp only [QJ,ZC h]

structure F1 {ι:Type} (x:Nat->Rat) (u w:ι->Nat->Rat) (R:(ι->Q4)->Prop):Prop where
 cst:∀ k:Rat,R λ_=>Q4.cst k
 var:∀ n,R λi=>⟨x n,u i n,w i n,0⟩
 add:∀ {p q:ι->Q4},R p->R q->R λi=>Q4.add (p i) (q i)
 neg:∀ {p:ι->Q4},R p->R λi=>Q4.neg (p i)
 mul:∀ {p q:ι->Q4},R p->R q->R λi=>Q4.mul (p i) (q i)
 inv:∀ {p:ι->Q4},R p->R λi=>Q4.inv (p i)

theorem F1.pow {ι:Type} {x:Nat->Rat} {u w:ι->Nat->Rat} {R:(ι->Q4)->Prop} (h:F1 x u w R) {p:ι->Q4} (hp:R p):∀ n,R λi=>Q4.pow (p i) n
 | 0=>h.cst 1
 | n+1=>h.mul (h.pow hp n) hp

theorem F1.of {ι:Type} {x:Nat->Rat} {u w:ι->Nat->Rat} {R:(ι->Q4)->Prop} (h:F1 x u w R) {l:ι->List Q4} (hl:∀ k,R λi=>(l i).getD k (Q4.cst 0)) (n:Nd):R λi=>Av x (u i) (w i) (l i) n:=by
 unfold Av;by_cases h1:n.1=1
 . simp only [QK h1];exact h.cst _
 by_cases h2:n.1=2
 . simp only [QH h1,QK h2];exact h.var _
 by_cases h3:n.1=3
 . simp only [QH h1,QH h2,QK h3];exact h.add (hl _) (hl _)
 by_cases h4:n.1=4
 . simp only [QH h1,QH h2,QH h3,QK h4];exact h.add (hl _) (h.neg (hl _))
 by_cases h5:n.1=5
 . simp only [QH h1,QH h2,QH h3,QH h4,QK h5];exact h.mul (hl _) (hl _)
 by_cases h6:n.1=6
 . simp only [QH h1,QH h2,QH h3,QH h4,QH h5,QK h6];exact h.mul (hl _) (h.inv (hl _))
 by_cases h7:n.1=7
 . simp only [QH h1,QH h2,QH h3,QH h4,QH h5,QH h6,QK h7];exact h.neg (hl _)
 . simp only [QH h1,QH h2,QH h3,QH h4,QH h5,QH h6,QH h7];exact h.pow (hl _) _

theorem F1.evs {ι:Type} {x:Nat->Rat} {u w:ι->Nat->Rat} {R:(ι->Q4)->Prop} (h:F1 x u w R):∀ (ns:List Nd) {l:ι->List Q4} {N:Nat},(∀ i,(l i).length=N)->(∀ k,R λi=>(l i).getD k (Q4.cst 0))->∀ k,R λi=>(evs x (u i) (w i) ns (l i)).getD k (Q4.cst 0)
 | [],l,N,_,hl,k=>hl k
 | n::r,l,N,hN,hl,k=>by
  simp only [Go.Ev.evs]
  refine h.evs r (N:=N+1) (λi=>by simp [hN i]) (λk=>?_) k
  rcases Qae k N with hk | hk | hk
  . have e : (fun i => (l i ++ [Av x (u i) (w i) (l i) n]).getD k (Q4.cst 0)) = fun i => (l i).getD k (Q4.cst 0) := by
     funext i
     simp only [QJ,ZC (show k<(l i).length by rw [hN i];exact hk)]
    rw [e];exact hl k
  . have e : (fun i => (l i ++ [Av x (u i) (w i) (l i) n]).getD k (Q4.cst 0)) = fun i => Av x (u i) (w i) (l i) n := by
     funext i
     rw [QJ,ZD (by rw [hN i];omega),hN i,hk];simp
    rw [e];exact h.of hl n
  . have e : (fun i => (l i ++ [Av x (u i) (w i) (l i) n]).getD k (Q4.cst 0)) = fun _ => Q4.cst 0 := by
     funext i
     rw [QJ,KH (by simp [hN i];omega)];rfl
    rw [e];exact h.cst 0

theorem F1.run {ι:Type} {x:Nat->Rat} {u w:ι->Nat->Rat} {R:(ι->Q4)->Prop} (h:F1 x u w R) (ns:List Nd) (k:Nat):R λi=>(Go.Ev.evs x (u i) (w i) ns []).getD k (Q4.cst 0) :=
 h.evs ns (N:=0) (λ_=>rfl) (λk=>by simpa using h.cst 0) k

theorem Axi (x:Nat->Rat) (u w u' w':Nat->Rat) (ns:List Nd) (k:Nat):((evs x u w ns []).getD k (Q4.cst 0)).f=((evs x u' w' ns []).getD k (Q4.cst 0)).f:=by
 have h:F1 x (λb:Bool=>bif b then u else u') (λb:Bool=>bif b then w else w') (λp=>(p true).f=(p false).f):=by
  refine ⟨λ_=>rfl,λ_=>rfl,λh1 h2=>?_,λh1=>?_,λh1 h2=>?_,λh1=>?_⟩ <;> simp only [Q4.add,Q4.neg,Q4.mul,Q4.inv,h1] <;> (try simp only [h2])
 exact h.run ns k

def Oa (l:List Q4) (n:Nd):Prop:=n.1=6/\(l.getD n.2.2.1.toNat (Q4.cst 0)).f=0

instance (l:List Q4) (n:Nd):Decidable (Oa l n):=by unfold Oa;infer_instance

def evC (fit:Q4->Bool) (x u w:Nat->Rat):List Nd->List Q4->List Q4 ⊕ Int
 | [],l=>.inl l
 | n::r,l=>if Oa l n then .inr 10 else if fit (Av x u w l n)=true then evC fit x u w r (l++[Av x u w l n]) else .inr 7

theorem Aju {fit:Q4->Bool} {x u w:Nat->Rat}:∀ (ns:List Nd) (l l':List Q4),(∀ k,k<l.length->fit (l.getD k (Q4.cst 0))=true)->evC fit x u w ns l = .inl l'->(∀ k,k<l'.length->fit (l'.getD k (Q4.cst 0))=true)/\l'=evs x u w ns l
 | [],l,l',h,e=>by obtain rfl:=Sum.inl.inj e;exact ⟨h,rfl⟩
 | n::r,l,l',h,e=>by
  simp only [evC] at e;by_cases hb:Oa l n
  . rw [QK hb] at e;cases e
  . rw [QH hb] at e;by_cases hf:fit (Av x u w l n)=true
    . rw [QK hf] at e;refine Aju r _ l' (λk hk=>?_) e;simp only [YQ,ZE,XZ] at hk;rcases ZZ k l.length with h1 | h1
      . rw [QJ,ZC h1,<- QJ];exact h k h1
      . obtain rfl:k=l.length:=by omega
        rw [QJ,ZD (QZ _)];simpa using hf
    . rw [QH hf] at e;cases e

structure Pt where
 a:Rat
 b:Rat
 da:Rat
 db:Rat

def Kw (f d:Nat->Rat) (n:Nd):Pt :=
 let A:=n.2.1.toNat;let B:=n.2.2.1.toNat
 if n.1=3 then ⟨1,1,0,0⟩
 else if n.1=4 then ⟨1,-1,0,0⟩
 else if n.1=5 then ⟨f B,f A,d B,d A⟩
 else if n.1=6 then ⟨1 / f B,-(f A*(1 / f B*(1 / f B))),-(d B*(1 / f B*(1 / f B))),-(d A*(1 / f B*(1 / f B)))+2*(f A*d B*(1 / f B*(1 / f B)*(1 / f B)))⟩
 else if n.1=7 then ⟨-1,0,0,0⟩
 else if n.1=8 then ⟨Q4.d1 (f A) n.2.2.2.toNat,0,Q4.d2 (f A) n.2.2.2.toNat*d A,0⟩
 else ⟨0,0,0,0⟩

def B2a (n:Nd):Bool:=decide (n.1=3) || decide (n.1=4) || decide (n.1=5) || decide (n.1=6)

def B7l (n:Nd):Bool:=decide (n.1=7) || decide (n.1=8)

def B7y (n:Nd) (k:Nat):Prop:=(1<=n.1/\n.1<=8)/\(B2a n=true \/ B7l n=true->n.2.1.toNat<k)/\(B2a n=true->n.2.2.1.toNat<k)

def Abn (x u w:Nat->Rat) (Q:Nat->Q4) (n:Nd):Q4 :=
 if n.1=1 then Q4.cst (n.2.2.2:Rat)
 else if n.1=2 then ⟨x n.2.2.2.toNat,u n.2.2.2.toNat,w n.2.2.2.toNat,0⟩
 else if n.1=3 then Q4.add (Q n.2.1.toNat) (Q n.2.2.1.toNat)
 else if n.1=4 then Q4.add (Q n.2.1.toNat) (Q4.neg (Q n.2.2.1.toNat))
 else if n.1=5 then Q4.mul (Q n.2.1.toNat) (Q n.2.2.1.toNat)
 else if n.1=6 then Q4.mul (Q n.2.1.toNat) (Q4.inv (Q n.2.2.1.toNat))
 else if n.1=7 then Q4.neg (Q n.2.1.toNat)
 else Q4.pow (Q n.2.1.toNat) n.2.2.2.toNat

end Go.Ev
